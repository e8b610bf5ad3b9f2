/- Contracts of package paraxial,and a verified evaluator. Part 22 of 28. No condition beside the row. -/
import Derived.Test.YtfgmlkjibdegfaaGreatDoorA09
import Derived.Test.YtfgmlkjibdegfaaGreatDoorA10
import Derived.Test.YtfgmlkjibdegfaaGreatDoorA11
import Derived.Test.YtfgmlkjibdegfaaGreatDoorA13
import Derived.Test.YtfgmlkjibdegfaaGreatDoorA21
set_option linter.unusedVariables false
set_option linter.unusedSimpArgs false
set_option maxRecDepth 100000
set_option maxHeartbeats 4000000
namespace Go.Proofs.W
open Go.RowKit Go.Mono
section
open Go.Ex
def LongOk (s:Bool) (n:Nat) (f:Nat->Int):Prop:=Digs f n∧(s=true->0<n)
def BadQ (w:World) (cs:List Value):Prop:=
 ∃(s t:Bool) (p q:Option Addr) (n m c e:Nat) (f g:Nat->Int),cs=[.bool s,.slice p n c,.bool t,.slice q m e]∧SlF w (.slice p n c) n f∧SlF w (.slice q m e) m g∧n<=600∧m<=600∧
   ¬(LongOk s n f∧LongOk t m g∧t=false∧0<m∧gcdZ (vf f n) (vf g m)=1)
def qDen (K:Nat->Value) (hK:∀i,(K i).oneCell'=true):Den where
 K:=K
 kone:=hK
 R:=λw q cs=>QV w (.agg cs.toArray) q
 ext:=λh hx=>h.ext hx
 len:=λh=>by
  obtain⟨p,k,c,p',k',c',e,_⟩:=h;have:=congrArg Value.cells e;simp only[Value.cells]at this;have:=congrArg Array.size this;simpa using this
 one:=λh=>by
  obtain⟨p,k,c,p',k',c',e,_⟩:=h;have:=congrArg Value.cells e;simp only[Value.cells]at this;have:=congrArg Array.toList this;simp only[Yex]at this;rw[this];simp[Value.oneCell']
 S:=λw n v=>(∃p k c,v=.slice p k c)∧Sz 600 w v (n:Int)
 sext:=λh hx=>⟨h.1,h.2.ext hx⟩
 sone:=λh=>by
  obtain⟨⟨p,k,c,rfl⟩,_⟩:=h;simp[Value.oneCell']
 env:=λi=>match K (1000+2*i),K (1001+2*i) with
  | .int _ n,.int _ d=>mkRat n d.toNat
  | _,_=>0
 B:=BadQ
 bext:=λ⟨s,t,p,q,n,m,c,e,f,g,h1,h2,h3,h4⟩ hx=>⟨s,t,p,q,n,m,c,e,f,g,h1,h2.ext hx,h3.ext hx,h4⟩
 blen:=λ⟨s,t,p,q,n,m,c,e,f,g,h1,h2⟩=>by rw[h1];rfl
 bone:=λ⟨s,t,p,q,n,m,c,e,f,g,h1,h2⟩=>by rw[h1];simp[Value.oneCell']
 split:=λh=>by
  obtain⟨p,k,c,p',k',c',e,h2,h3⟩:=h;have:=congrArg Value.cells e;simp only[Value.cells]at this;have:=congrArg Array.toList this;simp only[Yex]at this;exact⟨_,_,this,⟨⟨_,_,_,rfl⟩,h2⟩,⟨_,_,_,rfl⟩,h3⟩
variable {K:Nat->Value} {hK:∀i,(K i).oneCell'=true}
theorem den_quo {ρ:Nm} {w:World} {q:Rat} {v:Value}:denA (qDen K hK) ρ w (.agg [.quo q]) v↔QV w v q:=by
 constructor
 ·rintro⟨cs,e,c,d,e2,hc,hd⟩
  obtain rfl:d=[]:=hd;rw[Ydg]at e2;subst e2;rw[e];exact hc
 ·intro h
  obtain⟨p,k,c,p',k',c',e,h2⟩:=h;refine⟨[.bool (decide (q.num<0)),.slice p k c,.bool false,.slice p' k' c'],e,_,[],(Ydg _).symm,?_,rfl⟩;exact⟨p,k,c,p',k',c',rfl,h2⟩
theorem QV.agg {w:World} {v:Value} {q:Rat} (h:QV w v q):∃C:Array Value,v=.agg C:=by
 obtain⟨p,k,c,p',k',c',e,h2⟩:=h;exact⟨_,e⟩
def asQ (l:List U):Option Rat:=
 match l with
 | [.quo q]=>some q
 | [.val (.bool s), .dig n, .val (.bool false), .dig d] =>
   if hd:d≠0 then if hg:Nat.Coprime n d then bif s&&Nat.beq n 0 then none else some ⟨bif s then -(n:Int) else n,d,hd,by cases s<;>simpa using hg⟩ else none else none
 | _=>none
theorem Zet {ρ:Nm} {w:World} {l:List U} {q:Rat} (h:asQ l=some q) {v:Value} (hv:denA (qDen K hK) ρ w (.agg l) v):QV w v q:=by
 unfold asQ at h;split at h
 ·cases h
  exact den_quo.1 hv
 ·rename_i s n d
  split at h
  ·rename_i hd
   split at h
   ·rename_i hg
    cases hsn:(s&&Nat.beq n 0) with
    | true=>rw[hsn]at h;cases h
    | false =>
      rw[hsn]at h;cases h;obtain⟨cs,rfl,c1,d1,rfl,⟨rfl,_⟩,c2,d2,rfl,⟨v2,⟨⟨p,k,c,rfl⟩,hs2⟩,rfl⟩,c3,d3,rfl,⟨rfl,_⟩,c4,d4,rfl,⟨v4,⟨⟨p',k',c',rfl⟩,hs4⟩,rfl⟩,hd4⟩:=hv;obtain rfl:d4=[]:=hd4;have hnum:decide ((bif s then -(n:Int) else(n:Int))<0)=s:=by
       cases s with
       | false=>simp
       | true =>
         have:n≠0:=λe=>by subst e;simp at hsn
         simp;omega
      have habs:(bif s then -(n:Int) else(n:Int)).natAbs=n:=by cases s<;>simp
      refine⟨p,k,c,p',k',c',?_,?_,hs4⟩
      ·show Value.agg _=_
       dsimp only;rw[hnum];rfl
      ·dsimp only
       rw[habs];exact hs2
   ·cases h
  ·cases h
 ·cases h
def okV:SA:=.one (.val (.int .i64 0))
def binRun (cl:Bool) (op:Rat->Rat->Rat) (side:Rat->Rat->Option (List Prop)) (args:List SA) (bk:List (Nat×Blk)) (orc:List (Option Bool)):Option (SV×List Prop×List (Option Bool)):=
 match args with
 | [.agg x, .agg y] => match asQ x, asQ y with
   | some a,some b=>(side a b).bind λL=>bif cl then qcase (op a b) λq=>some (.tup [.agg [.quo q],okV],L,orc) else some (.tup [.agg [.quo (op a b)],okV],L,orc)
   | _,_=>none
 | _=>none
def binSpec (cl:Bool) (w0:World) (X:Nat->Prop) (f:FuncId) (op:Rat->Rat->Rat) (side:Rat->Rat->Option (List Prop))
    (h:∀(a b:Rat) (u v:Value) (L:List Prop) (w:World),side a b=some L->(∀p∈L,p)->QV w u a->QV w v b->
     Calls Tryz.prog f #[u,v] w λe w'=>∃r,e=.returned (.tuple #[r,.int .i64 0])∧QV w' r (op a b)∧Below w.heap.size w w'):Ctr (qDen K hK) Tryz.prog w0 X:=.plain f (binRun cl op side)<|by
    intro args bk orc v obl orc' hr hobl ρ w vals hfr hb hargs;unfold binRun at hr;split at hr
    ·rename_i x y
     split at hr
     ·rename_i a b ha hb'
      obtain⟨L,hL,e⟩:=Ybg.1 hr;have e:some (SV.tup [SA.agg [U.quo (op a b)],okV],L,orc)=some (v,obl,orc'):=by
       cases cl with
       | false=>exact e
       | true=>exact(Zik (op a b) (λq=>some (SV.tup [SA.agg [U.quo q],okV],L,orc))).symm.trans e
      cases e;obtain⟨v1,r1,rfl,h1,v2,r2,rfl,h2,h3⟩:=hargs;obtain rfl:r2=[]:=h3;refine(h a b v1 v2 _ w hL hobl (Zet ha h1) (Zet hb' h2)).mono ?_;rintro e w' ⟨r,rfl,hr,hbl⟩;exact⟨_,rfl,⟨[r,.int .i64 0],rfl,_,_,rfl,den_quo.2 hr,_,_,rfl,⟨rfl,rfl⟩,rfl⟩,hbl⟩
     ·cases hr
    ·cases hr
structure Side where
 cl:Bool
 fit:Rat->Option (List Prop)
 nz:Rat->Option (List Prop)
 hfit:∀q L,fit q=some L->(∀p∈L,p)->Fits q
 hnz:∀q L,nz q=some L->(∀p∈L,p)->q.num≠0
 pos:Rat->Option (List Prop)
 hpos:∀q L,pos q=some L->(∀p∈L,p)->0<q
def Side.two (S:Side) (a b:Rat):Option (List Prop):=
 match S.nz b,S.fit (a/b) with
 | some L,some M=>some (L++M)
 | _,_=>none
def cAdd (S:Side) (w0:World) (X:Nat->Prop):Ctr (qDen K hK) Tryz.prog w0 X:=binSpec S.cl w0 X 30 (λa b=>a+b) (λa b=>S.fit (a+b)) λa b u v L w hs hL h1 h2=>Zjo a b u v w w (Ext.refl _) h1 h2 (S.hfit _ _ hs hL)
def cSub (S:Side) (w0:World) (X:Nat->Prop):Ctr (qDen K hK) Tryz.prog w0 X:=binSpec S.cl w0 X 67 (λa b=>a-b) (λa b=>S.fit (a-b)) λa b u v L w hs hL h1 h2=>Zel a b u v w w (Ext.refl _) h1 h2 (S.hfit _ _ hs hL)
def cMul (S:Side) (w0:World) (X:Nat->Prop):Ctr (qDen K hK) Tryz.prog w0 X:=binSpec S.cl w0 X 29 (λa b=>a*b) (λa b=>S.fit (a*b)) λa b u v L w hs hL h1 h2=>Zdp a b u v w w (Ext.refl _) h1 h2 (S.hfit _ _ hs hL)
def cDiv (S:Side) (w0:World) (X:Nat->Prop):Ctr (qDen K hK) Tryz.prog w0 X:=binSpec S.cl w0 X 65 (λa b=>a/b) S.two λa b u v L w hs hL h1 h2=>by
 unfold Side.two at hs;split at hs
 ·rename_i L1 L2 e1 e2
  cases hs;exact Zmo a b u v w w (Ext.refl _) h1 h2 (S.hnz _ _ e1 λp hp=>hL p (Ycy _ hp)) (S.hfit _ _ e2 λp hp=>hL p (Ydv _ hp))
 ·cases hs
def ofRun (args:List SA) (bk:List (Nat×Blk)) (orc:List (Option Bool)):Option (SV×List Prop×List (Option Bool)):=
 match args with
 | [.one (.val (.int .i64 n)),.one (.val (.int .i64 d))]=>if -9223372036854775808<=n∧n<=9223372036854775807∧-9223372036854775808<=d∧d<=9223372036854775807∧d≠0 then qcase (Rat.divInt n d) λq=>some (.tup [.agg [.quo q],okV],[],orc) else none
 | _=>none
def cOf (w0:World) (X:Nat->Prop):Ctr (qDen K hK) Tryz.prog w0 X:=.plain 77 ofRun<|by
    intro args bk orc v obl orc' hr hobl ρ w vals hfr hb hargs;unfold ofRun at hr;split at hr
    ·rename_i n d
     split at hr
     ·rename_i hc
      rw[Zik]at hr;cases hr;obtain⟨v1,r1,rfl,h1,v2,r2,rfl,h2,h3⟩:=hargs;obtain rfl:r2=[]:=h3;obtain rfl:v1=.int .i64 n:=by simpa using h1.1
      obtain rfl:v2=.int .i64 d:=by simpa using h2.1
      refine(Zup n d hc.2.2.2.2 w hc.1 hc.2.1 hc.2.2.1 hc.2.2.2.1).mono ?_;rintro e w' ⟨r,rfl,hr,hbl⟩;exact⟨_,rfl,⟨[r,.int .i64 0],rfl,_,_,rfl,den_quo.2 hr,_,_,rfl,⟨rfl,rfl⟩,rfl⟩,hbl⟩
     ·cases hr
    ·cases hr
def sameRun (args:List SA) (bk:List (Nat×Blk)) (orc:List (Option Bool)):Option (SV×List Prop×List (Option Bool)):=
 match args with
 | [.agg x, .agg y] => match asQ x, asQ y with
   | some a,some b=>some (.a (.one (.tst (decide (a=b)))),[],orc)
   | _,_=>none
 | _=>none
def cSame (w0:World) (X:Nat->Prop):Ctr (qDen K hK) Tryz.prog w0 X:=.plain 27 sameRun<|by
    intro args bk orc v obl orc' hr hobl ρ w vals hfr hb hargs;unfold sameRun at hr;split at hr
    ·rename_i x y
     split at hr
     ·rename_i a b ha hb'
      cases hr;obtain⟨v1,r1,rfl,h1,v2,r2,rfl,h2,h3⟩:=hargs;obtain rfl:r2=[]:=h3;refine(Zs5 v1 v2 a b w w (Ext.refl _) (Zet ha h1) (Zet hb' h2)).mono ?_;rintro e w' ⟨rfl,hbl⟩;exact⟨_,rfl,rfl,hbl⟩
     ·cases hr
    ·cases hr
def isZ (l:List U):Bool:=
 match l with
 | [.val (.bool false),.val (.slice none 0 0),.val (.bool false),.val (.slice none 0 0)]=>true
 | _=>false
def checkRun (args:List SA) (bk:List (Nat×Blk)) (orc:List (Option Bool)):Option (SV×List Prop×List (Option Bool)):=
 match args with
 | [.agg x] => match asQ x with
   | some a=>some (.a okV,[],orc)
   | none=>if isZ x then some (.a (.one (.val (.int .i64 40))),[],orc) else none
 | _=>none
def cCheck (w0:World) (X:Nat->Prop):Ctr (qDen K hK) Tryz.prog w0 X:=.plain 92 checkRun<|by
    intro args bk orc v obl orc' hr hobl ρ w vals hfr hb hargs;unfold checkRun at hr;split at hr
    ·rename_i x
     obtain⟨v1,r1,rfl,h1,h3⟩:=hargs;obtain rfl:r1=[]:=h3;split at hr
     ·rename_i a ha
      cases hr;refine(Zek v1 a w w (Ext.refl _) (Zet ha h1)).mono ?_;rintro e w' ⟨rfl,hbl⟩;exact⟨_,rfl,⟨rfl,rfl⟩,hbl⟩
     ·split at hr
      ·rename_i hz
       cases hr;unfold isZ at hz;split at hz
       ·obtain⟨cs,rfl,c1,d1,rfl,⟨rfl,_⟩,c2,d2,rfl,⟨rfl,_⟩,c3,d3,rfl,⟨rfl,_⟩,c4,d4,rfl,⟨rfl,_⟩,hd4⟩:=h1
        obtain rfl:d4=[]:=hd4;refine(Zqk w).mono ?_;rintro e w' ⟨rfl,hbl⟩;exact⟨_,rfl,⟨rfl,rfl⟩,hbl⟩
       ·cases hz
      ·cases hr
    ·cases hr
def asR (l:List U):Option Rat:=
 match l with
 | [.val (.bool s), .dig n, .dig d] =>
   if hd:d≠0 then if hg:Nat.Coprime n d then some ⟨bif s then -(n:Int) else n,d,hd,by cases s<;>simpa using hg⟩ else none else none
 | _=>none
def toldRun (args:List SA) (bk:List (Nat×Blk)) (orc:List (Option Bool)):Option (SV×List Prop×List (Option Bool)):=
 match args with
 | [.agg x]=>(asR x).bind λq=>qcase q λq=>some (.tup [.agg [.quo q],okV],[],orc)
 | _=>none
def cTold (w0:World) (X:Nat->Prop):Ctr (qDen K hK) Tryz.prog w0 X:=.plain 114 toldRun<|by
    intro args bk orc v obl orc' hr hobl ρ w vals hfr hb hargs;unfold toldRun at hr;split at hr
    ·rename_i x
     obtain⟨q,hq,e⟩:=Ybg.1 hr;rw[Zik]at e;cases e;obtain⟨v1,r1,rfl,h1,h3⟩:=hargs;obtain rfl:r1=[]:=h3;unfold asR at hq;split at hq
     ·rename_i s n d
      split at hq
      ·rename_i hd
       split at hq
       ·rename_i hg
        cases hq;obtain⟨cs,rfl,c1,d1,rfl,⟨rfl,_⟩,c2,d2,rfl,⟨v2,⟨⟨p,k,c,rfl⟩,hs2⟩,rfl⟩,c4,d4,rfl,⟨v4,⟨⟨p',k',c',rfl⟩,hs4⟩,rfl⟩,hd4⟩:=h1;obtain rfl:d4=[]:=hd4;have habs:(bif s then -(n:Int) else(n:Int)).natAbs=n:=by cases s<;>simp
        refine(Zfb 600 s p p' k c k' c' ⟨bif s then -(n:Int) else n,d,hd,by cases s<;>simpa using hg⟩ w w (Ext.refl _) (by cases s<;>constructor<;>intro h<;>first|(cases h;done)|(show -(n:Int)<=0;omega)|(show(0:Int)<=n;omega)) (by dsimp only;rw[habs];exact hs2) hs4 Zd).mono ?_;rintro e w' ⟨p,n',c,q,l,d',rfl,z1,z2,hbl⟩;exact⟨_,rfl,⟨[_,.int .i64 0],rfl,_,_,rfl,den_quo.2 ⟨_,_,_,_,_,_,rfl,z1,z2⟩,_,_,rfl,⟨rfl,rfl⟩,rfl⟩,hbl⟩
       ·cases hq
      ·cases hq
     ·cases hq
    ·cases hr
def fitC (q:Rat):Option (List Prop):=if Nat.blt q.num.natAbs (Nat.pow 10 90)&&Nat.blt q.den (Nat.pow 10 90) then some [] else none
def sideC:Side where
 cl:=true
 fit:=fitC
 nz:=λq=>match q.num with
  | .ofNat 0=>none
  | _=>some []
 hfit:=λq L h _=>by
  unfold fitC at h;split at h
  ·rename_i hc
   rw[Yam,Nat.blt_eq,Nat.blt_eq]at hc;have:pw 10=((Nat.pow 10 90:Nat):Int):=by decide +kernel
   exact Fits.of 10 Zd (by rw[this];exact Int.ofNat_lt.2 hc.1) (by rw[this];exact Int.ofNat_lt.2 hc.2)
  ·cases h
 hnz:=λq L h _=>by
  intro hz;rw[hz]at h;cases h
 pos:=λq=>match q.num with
  | .ofNat (_+1)=>some []
  | _=>none
 hpos:=λq L h _=>by
  split at h
  ·rename_i n e
   rw[Rat.lt_iff,e];simp
  ·cases h
def sideS:Side where
 cl:=false
 fit:=λq=>some [Fits q]
 nz:=λq=>some [q.num≠0]
 hfit:=λq L h hL=>by cases h;exact hL _ Zs
 hnz:=λq L h hL=>by cases h;exact hL _ Zs
 pos:=λq=>some [0<q]
 hpos:=λq L h hL=>by cases h;exact hL _ Zs
def spS (w0:World) (X:Nat->Prop):List (Ctr (qDen K hK) Tryz.prog w0 X):=[cAdd sideS w0 X,cSub sideS w0 X,cMul sideS w0 X,cDiv sideS w0 X,cOf w0 X,cSame w0 X,cCheck w0 X,cTold w0 X]
def spC (w0:World) (X:Nat->Prop):List (Ctr (qDen K hK) Tryz.prog w0 X):=[cAdd sideC w0 X,cSub sideC w0 X,cMul sideC w0 X,cDiv sideC w0 X,cOf w0 X,cSame w0 X,cCheck w0 X,cTold w0 X]
theorem Ziu:Tryz.prog.follows .mixedOrders=true:=Zk
end
end Go.Proofs.W
namespace Go.Ex
open Go.RowKit Go.Mono
def litL (K:Nat->Value):List U->Option (List Value)
 | []=>some []
 | .val v::l=>if v.oneCell' then(litL K l).map (v::·) else none
 | .sym z::l=>(litL K l).map (.int .i64 z::·)
 | .tok i::l=>(litL K l).map (K i::·)
 | _=>none
theorem Zew {D:Den} {ρ:Nm} {w:World}:∀{l:List U} {cs:List Value},litL D.K l=some cs->denL D ρ w l cs∧∀ds,denL D ρ w l ds->ds=cs
 | [],_,h=>by cases h;exact⟨rfl,λ_ h=>h⟩
 | u :: l, cs, h => by
   unfold litL at h;split at h
   ·rename_i e;cases e
   ·rename_i v l' e
    cases e;split at h
    ·rename_i hv
     obtain⟨c,hc,rfl⟩:=Yad.1 h;obtain⟨h1,h2⟩:=Zew (ρ:=ρ) (w:=w) hc;exact⟨⟨[v],c,rfl,⟨rfl,hv⟩,h1⟩,λds ⟨a,b,e,⟨h3,_⟩,h4⟩=>by rw[e,h3,h2 b h4];rfl⟩
    ·cases h
   ·rename_i z l' e
    cases e;obtain⟨c,hc,rfl⟩:=Yad.1 h;obtain⟨h1,h2⟩:=Zew (ρ:=ρ) (w:=w) hc;exact⟨⟨[.int .i64 z],c,rfl,rfl,h1⟩,λds ⟨a,b,e,h3,h4⟩=>by rw[e,show a=[.int .i64 z] from h3,h2 b h4];rfl⟩
   ·rename_i i l' e
    cases e;obtain⟨c,hc,rfl⟩:=Yad.1 h;obtain⟨h1,h2⟩:=Zew (ρ:=ρ) (w:=w) hc;exact⟨⟨[D.K i],c,rfl,rfl,h1⟩,λds ⟨a,b,e,h3,h4⟩=>by rw[e,show a=[D.K i] from h3,h2 b h4];rfl⟩
   ·cases h
theorem Zf8 {D:Den} {P:Program} (hm:P.follows .mixedOrders=true) {f:FuncId} {d:Nat} (ins outs:List U) (A B:Array Value)
  (hev:∀w:World,(evF P (w0:=w) (X:=λ_=>False) (D:=D) [] [] d [] f [.agg ins] [] 0 0 []).map (λr=>(r.v,r.obl,r.pan))=some (.a (.agg outs),[],none)) (hi:litL D.K ins=some A.toList) (ho:litL D.K outs=some B.toList) (w:World) :
  Calls P f #[.agg A] w λe w'=>e=.returned (.agg B)∧Below w.heap.size w w':=by
 refine(Zqi (D:=D) (d:=d) (orc:=[]) (args:=[.agg ins]) hm [] [] (.a (.agg outs)) [] (hev w) trivial (vals:=[.agg A]) ⟨_,_,rfl,⟨A.toList,Zs,(Zew hi).1⟩,rfl⟩).mono ?_;rintro e w' ⟨v,ρ',rfl,⟨cs,rfl,hv⟩,hb⟩;refine⟨?_,hb⟩;rw[(Zew ho).2 _ hv]
theorem Zw7 {D:Den} {P:Program} (hm:P.follows .mixedOrders=true) {w:World} (sp:List (Ctr D P w (λ_=>False))) (fx:List (Fct D P w (λ_=>False))) {d n t nk:Nat} {code:Code} {tm:List (Nat×SV)} {orc:List (Option Bool)} {vs:List Vw} (bk:List (Nat×Blk)) (hbk:bk=bkV 0 vs) (hn:nk=vs.length) (V:SV) (L:List Prop)
  (hev:(evC P ⟨evF P sp fx d,fctRun fx⟩ [] n FU false code ⟨tm,bk,nk,nk,orc,[]⟩).map (λr=>(r.1,r.2.1.df,r.2.1.tm.look t,r.2.2))=some (.ret,[],some V,L)) (hL:AllP L) (hv:∀v∈vs,VwOk D w vs v) {a:Act} (hT:TSat D (nmV vs) w n tm a) (hd:a.defers=[]) {Q:Exit->Act->World->Prop}
  (hQ:∀(a':Act) (w':World) (ρ':Nm) (v:Value),a'.defers=[]->a'.tmps[t]? = some v->denV D ρ' w' V v->Below w.heap.size w w'->Q .ret a' w'):code.wp P Q a w:=by
 obtain⟨⟨o,s',q⟩,hr,he⟩:=Yad.1 hev;simp only[Yco]at he;obtain⟨rfl,hdf,hlook,rfl⟩:=he;subst hbk;subst hn;refine(wpIn_wide (n:=0)).1 ?_;have ih:CallOk D P w (λ_=>False) ⟨evF P sp fx d,fctRun fx⟩:=⟨Zm6 hm sp fx d,λo get x h=>Zgu h⟩
 refine Zm4 ih (Zqh sp fx d) hm FU false code _ s' .ret q 0 w.heap.size (nmV vs) w w a _ none (Yab _) (λ_=>rfl) hr hL.all (Zj9 hv) trivial hT hd (λk h1 _=>by simp[nmV];exact h1) ?_;intro ρ' wc' w' a' k1 k2 k3 k4;obtain⟨v,hv1,hv2⟩:=k2.at_ t V hlook;rw[hdf]at k3;refine hQ a' w' ρ' v k3 hv1 (hv2.mono (Nm.le.refl _) k1.ext) ⟨k4.os,k4.tape,k4.output,k4.size,λi hi=>k4.loc i hi λk b B hk hB hro=>?_⟩;obtain⟨v,_,h2,rfl⟩:=Zev hk.1;obtain⟨v',_,rfl⟩:=Yad.1 hB;cases hro
def slotsOk (D:Den) (ρ:Nm) (w:World) (a:Act):List (Nat×SV)->Prop
 | []=>True
 | p::r=>(∃v,a.tmps[p.1]? = some v∧denV D ρ w p.2 v)∧slotsOk D ρ w a r
theorem Zq6 {D:Den} {ρ:Nm} {w:World} {n:Nat} {a:Act} (hs:a.tmps.size=n):∀{tm:List (Nat×SV)},slotsOk D ρ w a tm->TSat D ρ w n tm a:=by
 intro tm h;refine⟨hs,?_⟩;induction tm with
 | nil=>intro t x hx;simp at hx
 | cons p r ih =>
   intro t x hx;rw[Zaz]at hx;split at hx
   ·rename_i e
    subst e;cases hx;exact h.1
   ·exact ih h.2 t x hx
def codeR:Code->Code
 | .seq _ y=>y
 | c=>c
end Go.Ex
