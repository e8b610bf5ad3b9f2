/- Contracts of package paraxial,and a verified evaluator. Part 21 of 28. No condition beside the row. -/
import Derived.Outline
import Derived.Test.YtfgmlkjibdegfaaGreatDoorA05
import Derived.Test.YtfgmlkjibdegfaaGreatDoorA09
import Derived.Test.YtfgmlkjibdegfaaGreatDoorA10
import Derived.Test.YtfgmlkjibdegfaaGreatDoorA11
import Derived.Test.YtfgmlkjibdegfaaGreatDoorA13
import Derived.Test.YtfgmlkjibdegfaaGreatDoorA16
import Derived.Test.YtfgmlkjibdegfaaGreatDoorA19
import Derived.Test.YtfgmlkjibdegfaaGreatDoorA20
set_option linter.unusedVariables false
set_option linter.unusedSimpArgs false
set_option maxRecDepth 100000
set_option maxHeartbeats 4000000
namespace Go.Proofs.W
open Go.RowKit Go.Mono
section
open Go.Ex
def LongOk (s:Bool) (n:Nat) (f:Nat->Int):Prop:=Digs f n∧(s=true->0<n)
def BadQ (w:World) (cs:List Value):Prop:=
 ∃(s t:Bool) (p q:Option Addr) (n m c e:Nat) (f g:Nat->Int),cs=[.bool s,.slice p n c,.bool t,.slice q m e]∧SlF w (.slice p n c) n f∧SlF w (.slice q m e) m g∧n<=600∧m<=600∧
   ¬(LongOk s n f∧LongOk t m g∧t=false∧0<m∧gcdZ (vf f n) (vf g m)=1)
def qDen (K:Nat->Value) (hK:∀i,(K i).oneCell'=true):Den where
 K:=K
 kone:=hK
 R:=λw q cs=>QV w (.agg cs.toArray) q
 ext:=λh hx=>h.ext hx
 len:=λh=>by
  obtain⟨p,k,c,p',k',c',e,_⟩:=h;have:=congrArg Value.cells e;simp only[Value.cells]at this;have:=congrArg Array.size this;simpa using this
 one:=λh=>by
  obtain⟨p,k,c,p',k',c',e,_⟩:=h;have:=congrArg Value.cells e;simp only[Value.cells]at this;have:=congrArg Array.toList this;simp only[Yex]at this;rw[this];simp[Value.oneCell']
 S:=λw n v=>(∃p k c,v=.slice p k c)∧Sz 600 w v (n:Int)
 sext:=λh hx=>⟨h.1,h.2.ext hx⟩
 sone:=λh=>by
  obtain⟨⟨p,k,c,rfl⟩,_⟩:=h;simp[Value.oneCell']
 env:=λi=>match K (1000+2*i),K (1001+2*i) with
  | .int _ n,.int _ d=>mkRat n d.toNat
  | _,_=>0
 B:=BadQ
 bext:=λ⟨s,t,p,q,n,m,c,e,f,g,h1,h2,h3,h4⟩ hx=>⟨s,t,p,q,n,m,c,e,f,g,h1,h2.ext hx,h3.ext hx,h4⟩
 blen:=λ⟨s,t,p,q,n,m,c,e,f,g,h1,h2⟩=>by rw[h1];rfl
 bone:=λ⟨s,t,p,q,n,m,c,e,f,g,h1,h2⟩=>by rw[h1];simp[Value.oneCell']
 split:=λh=>by
  obtain⟨p,k,c,p',k',c',e,h2,h3⟩:=h;have:=congrArg Value.cells e;simp only[Value.cells]at this;have:=congrArg Array.toList this;simp only[Yex]at this;exact⟨_,_,this,⟨⟨_,_,_,rfl⟩,h2⟩,⟨_,_,_,rfl⟩,h3⟩
variable {K:Nat->Value} {hK:∀i,(K i).oneCell'=true}
theorem den_quo {ρ:Nm} {w:World} {q:Rat} {v:Value}:denA (qDen K hK) ρ w (.agg [.quo q]) v↔QV w v q:=by
 constructor
 ·rintro⟨cs,e,c,d,e2,hc,hd⟩
  obtain rfl:d=[]:=hd;rw[Ydg]at e2;subst e2;rw[e];exact hc
 ·intro h
  obtain⟨p,k,c,p',k',c',e,h2⟩:=h;refine⟨[.bool (decide (q.num<0)),.slice p k c,.bool false,.slice p' k' c'],e,_,[],(Ydg _).symm,?_,rfl⟩;exact⟨p,k,c,p',k',c',rfl,h2⟩
theorem QV.agg {w:World} {v:Value} {q:Rat} (h:QV w v q):∃C:Array Value,v=.agg C:=by
 obtain⟨p,k,c,p',k',c',e,h2⟩:=h;exact⟨_,e⟩
def asQ (l:List U):Option Rat:=
 match l with
 | [.quo q]=>some q
 | [.val (.bool s), .dig n, .val (.bool false), .dig d] =>
   if hd:d≠0 then if hg:Nat.Coprime n d then bif s&&Nat.beq n 0 then none else some ⟨bif s then -(n:Int) else n,d,hd,by cases s<;>simpa using hg⟩ else none else none
 | _=>none
theorem Zet {ρ:Nm} {w:World} {l:List U} {q:Rat} (h:asQ l=some q) {v:Value} (hv:denA (qDen K hK) ρ w (.agg l) v):QV w v q:=by
 unfold asQ at h;split at h
 ·cases h
  exact den_quo.1 hv
 ·rename_i s n d
  split at h
  ·rename_i hd
   split at h
   ·rename_i hg
    cases hsn:(s&&Nat.beq n 0) with
    | true=>rw[hsn]at h;cases h
    | false =>
      rw[hsn]at h;cases h;obtain⟨cs,rfl,c1,d1,rfl,⟨rfl,_⟩,c2,d2,rfl,⟨v2,⟨⟨p,k,c,rfl⟩,hs2⟩,rfl⟩,c3,d3,rfl,⟨rfl,_⟩,c4,d4,rfl,⟨v4,⟨⟨p',k',c',rfl⟩,hs4⟩,rfl⟩,hd4⟩:=hv;obtain rfl:d4=[]:=hd4;have hnum:decide ((bif s then -(n:Int) else(n:Int))<0)=s:=by
       cases s with
       | false=>simp
       | true =>
         have:n≠0:=λe=>by subst e;simp at hsn
         simp;omega
      have habs:(bif s then -(n:Int) else(n:Int)).natAbs=n:=by cases s<;>simp
      refine⟨p,k,c,p',k',c',?_,?_,hs4⟩
      ·show Value.agg _=_
       dsimp only;rw[hnum];rfl
      ·dsimp only
       rw[habs];exact hs2
   ·cases h
  ·cases h
 ·cases h
def okV:SA:=.one (.val (.int .i64 0))
def binRun (cl:Bool) (op:Rat->Rat->Rat) (side:Rat->Rat->Option (List Prop)) (args:List SA) (bk:List (Nat×Blk)) (orc:List (Option Bool)):Option (SV×List Prop×List (Option Bool)):=
 match args with
 | [.agg x, .agg y] => match asQ x, asQ y with
   | some a,some b=>(side a b).bind λL=>bif cl then qcase (op a b) λq=>some (.tup [.agg [.quo q],okV],L,orc) else some (.tup [.agg [.quo (op a b)],okV],L,orc)
   | _,_=>none
 | _=>none
def binSpec (cl:Bool) (w0:World) (X:Nat->Prop) (f:FuncId) (op:Rat->Rat->Rat) (side:Rat->Rat->Option (List Prop))
    (h:∀(a b:Rat) (u v:Value) (L:List Prop) (w:World),side a b=some L->(∀p∈L,p)->QV w u a->QV w v b->
     Calls Tryz.prog f #[u,v] w λe w'=>∃r,e=.returned (.tuple #[r,.int .i64 0])∧QV w' r (op a b)∧Below w.heap.size w w'):Ctr (qDen K hK) Tryz.prog w0 X:=.plain f (binRun cl op side)<|by
    intro args bk orc v obl orc' hr hobl ρ w vals hfr hb hargs;unfold binRun at hr;split at hr
    ·rename_i x y
     split at hr
     ·rename_i a b ha hb'
      obtain⟨L,hL,e⟩:=Ybg.1 hr;have e:some (SV.tup [SA.agg [U.quo (op a b)],okV],L,orc)=some (v,obl,orc'):=by
       cases cl with
       | false=>exact e
       | true=>exact(Zik (op a b) (λq=>some (SV.tup [SA.agg [U.quo q],okV],L,orc))).symm.trans e
      cases e;obtain⟨v1,r1,rfl,h1,v2,r2,rfl,h2,h3⟩:=hargs;obtain rfl:r2=[]:=h3;refine(h a b v1 v2 _ w hL hobl (Zet ha h1) (Zet hb' h2)).mono ?_;rintro e w' ⟨r,rfl,hr,hbl⟩;exact⟨_,rfl,⟨[r,.int .i64 0],rfl,_,_,rfl,den_quo.2 hr,_,_,rfl,⟨rfl,rfl⟩,rfl⟩,hbl⟩
     ·cases hr
    ·cases hr
structure Side where
 cl:Bool
 fit:Rat->Option (List Prop)
 nz:Rat->Option (List Prop)
 hfit:∀q L,fit q=some L->(∀p∈L,p)->Fits q
 hnz:∀q L,nz q=some L->(∀p∈L,p)->q.num≠0
 pos:Rat->Option (List Prop)
 hpos:∀q L,pos q=some L->(∀p∈L,p)->0<q
def Side.two (S:Side) (a b:Rat):Option (List Prop):=
 match S.nz b,S.fit (a/b) with
 | some L,some M=>some (L++M)
 | _,_=>none
def cAdd (S:Side) (w0:World) (X:Nat->Prop):Ctr (qDen K hK) Tryz.prog w0 X:=binSpec S.cl w0 X 30 (λa b=>a+b) (λa b=>S.fit (a+b)) λa b u v L w hs hL h1 h2=>Zjo a b u v w w (Ext.refl _) h1 h2 (S.hfit _ _ hs hL)
def cSub (S:Side) (w0:World) (X:Nat->Prop):Ctr (qDen K hK) Tryz.prog w0 X:=binSpec S.cl w0 X 67 (λa b=>a-b) (λa b=>S.fit (a-b)) λa b u v L w hs hL h1 h2=>Zel a b u v w w (Ext.refl _) h1 h2 (S.hfit _ _ hs hL)
def cMul (S:Side) (w0:World) (X:Nat->Prop):Ctr (qDen K hK) Tryz.prog w0 X:=binSpec S.cl w0 X 29 (λa b=>a*b) (λa b=>S.fit (a*b)) λa b u v L w hs hL h1 h2=>Zdp a b u v w w (Ext.refl _) h1 h2 (S.hfit _ _ hs hL)
def cDiv (S:Side) (w0:World) (X:Nat->Prop):Ctr (qDen K hK) Tryz.prog w0 X:=binSpec S.cl w0 X 65 (λa b=>a/b) S.two λa b u v L w hs hL h1 h2=>by
 unfold Side.two at hs;split at hs
 ·rename_i L1 L2 e1 e2
  cases hs;exact Zmo a b u v w w (Ext.refl _) h1 h2 (S.hnz _ _ e1 λp hp=>hL p (Ycy _ hp)) (S.hfit _ _ e2 λp hp=>hL p (Ydv _ hp))
 ·cases hs
def ofRun (args:List SA) (bk:List (Nat×Blk)) (orc:List (Option Bool)):Option (SV×List Prop×List (Option Bool)):=
 match args with
 | [.one (.val (.int .i64 n)),.one (.val (.int .i64 d))]=>if -9223372036854775808<=n∧n<=9223372036854775807∧-9223372036854775808<=d∧d<=9223372036854775807∧d≠0 then qcase (Rat.divInt n d) λq=>some (.tup [.agg [.quo q],okV],[],orc) else none
 | _=>none
def cOf (w0:World) (X:Nat->Prop):Ctr (qDen K hK) Tryz.prog w0 X:=.plain 77 ofRun<|by
    intro args bk orc v obl orc' hr hobl ρ w vals hfr hb hargs;unfold ofRun at hr;split at hr
    ·rename_i n d
     split at hr
     ·rename_i hc
      rw[Zik]at hr;cases hr;obtain⟨v1,r1,rfl,h1,v2,r2,rfl,h2,h3⟩:=hargs;obtain rfl:r2=[]:=h3;obtain rfl:v1=.int .i64 n:=by simpa using h1.1
      obtain rfl:v2=.int .i64 d:=by simpa using h2.1
      refine(Zup n d hc.2.2.2.2 w hc.1 hc.2.1 hc.2.2.1 hc.2.2.2.1).mono ?_;rintro e w' ⟨r,rfl,hr,hbl⟩;exact⟨_,rfl,⟨[r,.int .i64 0],rfl,_,_,rfl,den_quo.2 hr,_,_,rfl,⟨rfl,rfl⟩,rfl⟩,hbl⟩
     ·cases hr
    ·cases hr
def sameRun (args:List SA) (bk:List (Nat×Blk)) (orc:List (Option Bool)):Option (SV×List Prop×List (Option Bool)):=
 match args with
 | [.agg x, .agg y] => match asQ x, asQ y with
   | some a,some b=>some (.a (.one (.tst (decide (a=b)))),[],orc)
   | _,_=>none
 | _=>none
def cSame (w0:World) (X:Nat->Prop):Ctr (qDen K hK) Tryz.prog w0 X:=.plain 27 sameRun<|by
    intro args bk orc v obl orc' hr hobl ρ w vals hfr hb hargs;unfold sameRun at hr;split at hr
    ·rename_i x y
     split at hr
     ·rename_i a b ha hb'
      cases hr;obtain⟨v1,r1,rfl,h1,v2,r2,rfl,h2,h3⟩:=hargs;obtain rfl:r2=[]:=h3;refine(Zs5 v1 v2 a b w w (Ext.refl _) (Zet ha h1) (Zet hb' h2)).mono ?_;rintro e w' ⟨rfl,hbl⟩;exact⟨_,rfl,rfl,hbl⟩
     ·cases hr
    ·cases hr
def isZ (l:List U):Bool:=
 match l with
 | [.val (.bool false),.val (.slice none 0 0),.val (.bool false),.val (.slice none 0 0)]=>true
 | _=>false
def checkRun (args:List SA) (bk:List (Nat×Blk)) (orc:List (Option Bool)):Option (SV×List Prop×List (Option Bool)):=
 match args with
 | [.agg x] => match asQ x with
   | some a=>some (.a okV,[],orc)
   | none=>if isZ x then some (.a (.one (.val (.int .i64 40))),[],orc) else none
 | _=>none
def cCheck (w0:World) (X:Nat->Prop):Ctr (qDen K hK) Tryz.prog w0 X:=.plain 92 checkRun<|by
    intro args bk orc v obl orc' hr hobl ρ w vals hfr hb hargs;unfold checkRun at hr;split at hr
    ·rename_i x
     obtain⟨v1,r1,rfl,h1,h3⟩:=hargs;obtain rfl:r1=[]:=h3;split at hr
     ·rename_i a ha
      cases hr;refine(Zek v1 a w w (Ext.refl _) (Zet ha h1)).mono ?_;rintro e w' ⟨rfl,hbl⟩;exact⟨_,rfl,⟨rfl,rfl⟩,hbl⟩
     ·split at hr
      ·rename_i hz
       cases hr;unfold isZ at hz;split at hz
       ·obtain⟨cs,rfl,c1,d1,rfl,⟨rfl,_⟩,c2,d2,rfl,⟨rfl,_⟩,c3,d3,rfl,⟨rfl,_⟩,c4,d4,rfl,⟨rfl,_⟩,hd4⟩:=h1
        obtain rfl:d4=[]:=hd4;refine(Zqk w).mono ?_;rintro e w' ⟨rfl,hbl⟩;exact⟨_,rfl,⟨rfl,rfl⟩,hbl⟩
       ·cases hz
      ·cases hr
    ·cases hr
def asR (l:List U):Option Rat:=
 match l with
 | [.val (.bool s), .dig n, .dig d] =>
   if hd:d≠0 then if hg:Nat.Coprime n d then some ⟨bif s then -(n:Int) else n,d,hd,by cases s<;>simpa using hg⟩ else none else none
 | _=>none
def toldRun (args:List SA) (bk:List (Nat×Blk)) (orc:List (Option Bool)):Option (SV×List Prop×List (Option Bool)):=
 match args with
 | [.agg x]=>(asR x).bind λq=>qcase q λq=>some (.tup [.agg [.quo q],okV],[],orc)
 | _=>none
def cTold (w0:World) (X:Nat->Prop):Ctr (qDen K hK) Tryz.prog w0 X:=.plain 114 toldRun<|by
    intro args bk orc v obl orc' hr hobl ρ w vals hfr hb hargs;unfold toldRun at hr;split at hr
    ·rename_i x
     obtain⟨q,hq,e⟩:=Ybg.1 hr;rw[Zik]at e;cases e;obtain⟨v1,r1,rfl,h1,h3⟩:=hargs;obtain rfl:r1=[]:=h3;unfold asR at hq;split at hq
     ·rename_i s n d
      split at hq
      ·rename_i hd
       split at hq
       ·rename_i hg
        cases hq;obtain⟨cs,rfl,c1,d1,rfl,⟨rfl,_⟩,c2,d2,rfl,⟨v2,⟨⟨p,k,c,rfl⟩,hs2⟩,rfl⟩,c4,d4,rfl,⟨v4,⟨⟨p',k',c',rfl⟩,hs4⟩,rfl⟩,hd4⟩:=h1;obtain rfl:d4=[]:=hd4;have habs:(bif s then -(n:Int) else(n:Int)).natAbs=n:=by cases s<;>simp
        refine(Zfb 600 s p p' k c k' c' ⟨bif s then -(n:Int) else n,d,hd,by cases s<;>simpa using hg⟩ w w (Ext.refl _) (by cases s<;>constructor<;>intro h<;>first|(cases h;done)|(show -(n:Int)<=0;omega)|(show(0:Int)<=n;omega)) (by dsimp only;rw[habs];exact hs2) hs4 Zd).mono ?_;rintro e w' ⟨p,n',c,q,l,d',rfl,z1,z2,hbl⟩;exact⟨_,rfl,⟨[_,.int .i64 0],rfl,_,_,rfl,den_quo.2 ⟨_,_,_,_,_,_,rfl,z1,z2⟩,_,_,rfl,⟨rfl,rfl⟩,rfl⟩,hbl⟩
       ·cases hq
      ·cases hq
     ·cases hq
    ·cases hr
def fitC (q:Rat):Option (List Prop):=if Nat.blt q.num.natAbs (Nat.pow 10 90)&&Nat.blt q.den (Nat.pow 10 90) then some [] else none
def sideC:Side where
 cl:=true
 fit:=fitC
 nz:=λq=>match q.num with
  | .ofNat 0=>none
  | _=>some []
 hfit:=λq L h _=>by
  unfold fitC at h;split at h
  ·rename_i hc
   rw[Yam,Nat.blt_eq,Nat.blt_eq]at hc;have:pw 10=((Nat.pow 10 90:Nat):Int):=by decide +kernel
   exact Fits.of 10 Zd (by rw[this];exact Int.ofNat_lt.2 hc.1) (by rw[this];exact Int.ofNat_lt.2 hc.2)
  ·cases h
 hnz:=λq L h _=>by
  intro hz;rw[hz]at h;cases h
 pos:=λq=>match q.num with
  | .ofNat (_+1)=>some []
  | _=>none
 hpos:=λq L h _=>by
  split at h
  ·rename_i n e
   rw[Rat.lt_iff,e];simp
  ·cases h
def sideS:Side where
 cl:=false
 fit:=λq=>some [Fits q]
 nz:=λq=>some [q.num≠0]
 hfit:=λq L h hL=>by cases h;exact hL _ Zs
 hnz:=λq L h hL=>by cases h;exact hL _ Zs
 pos:=λq=>some [0<q]
 hpos:=λq L h hL=>by cases h;exact hL _ Zs
def spS (w0:World) (X:Nat->Prop):List (Ctr (qDen K hK) Tryz.prog w0 X):=[cAdd sideS w0 X,cSub sideS w0 X,cMul sideS w0 X,cDiv sideS w0 X,cOf w0 X,cSame w0 X,cCheck w0 X,cTold w0 X]
def spC (w0:World) (X:Nat->Prop):List (Ctr (qDen K hK) Tryz.prog w0 X):=[cAdd sideC w0 X,cSub sideC w0 X,cMul sideC w0 X,cDiv sideC w0 X,cOf w0 X,cSame w0 X,cCheck w0 X,cTold w0 X]
theorem Ziu:Tryz.prog.follows .mixedOrders=true:=Zk
end
end Go.Proofs.W
namespace Go.Ex
open Go.RowKit Go.Mono
structure Vw where
 T:TypeId
 l:List U
 blk:Nat
 off:Nat
 cs:List Value
def nmV (vs:List Vw):Nm:=λk=>(vs[k]?).map λv=>⟨v.blk,v.off,true,0,0⟩
def bkV:Nat->List Vw->List (Nat×Blk)
 | _,[]=>[]
 | k,v::r=>(k,⟨v.T,v.l,true,false,false⟩)::bkV (k+1) r
theorem Zev:∀{vs:List Vw} {i k:Nat} {b:Blk},(bkV i vs).look k=some b->∃v,i<=k∧vs[k-i]? = some v∧b=⟨v.T,v.l,true,false,false⟩
 | [],i,k,b,h=>by simp[bkV]at h
 | v :: r, i, k, b, h => by
   unfold bkV at h;rw[Zaz]at h;split at h
   ·rename_i e
    subst e;cases h;exact⟨v,Yab _,Zs,rfl⟩
   ·rename_i e
    obtain⟨u,h1,h2,h3⟩:=Zev h;refine⟨u,Zo,?_,h3⟩;rw[show k-i=(k-(i+1))+1 by omega,List.getElem?_cons_succ];exact h2
structure VwOk (D:Den) (w:World) (vs:List Vw) (v:Vw):Prop where
 lt:v.blk<w.heap.size
 rng:w.rangeAt v.blk v.off v.cs
 den:denL D (nmV vs) w v.l v.cs
theorem Zj9 {D:Den} {w:World} {vs:List Vw} (hv:∀v∈vs,VwOk D w vs v):Sat D w (λ_=>False) vs.length (nmV vs) w w (bkV 0 vs):=by
 have ro:∀{k:Nat} {B:Pl},nmV vs k=some B->∃v,vs[k]? = some v∧B=⟨v.blk,v.off,true,0,0⟩:=by
  intro k B h;obtain⟨v,h1,h2⟩:=Yad.1 h;exact⟨v,h1,h2.symm⟩
 refine⟨Frm.refl _ _,Ext.refl _,?_,?_,?_⟩
 ·intro k k' b b' B B' _ _ h1 h2 _
  obtain⟨v,_,rfl⟩:=ro h1;obtain⟨v',_,rfl⟩:=ro h2;exact .inr ⟨rfl,rfl⟩
 ·intro k B h1
  obtain⟨v,h,rfl⟩:=ro h1;exact(hv v (Ych h)).lt
 ·intro k b hk
  obtain⟨v,_,h2,rfl⟩:=Zev hk.1;rw[Nat.sub_zero]at h2;have:=hv v (Ych h2);refine⟨⟨v.blk,v.off,true,0,0⟩,v.cs,by simp[nmV,h2],.inl ⟨rfl,this.rng⟩,this.den,(λh=>by cases h),λ_ h=>?_,rfl⟩;have:=(Yan.1 h2).1;omega
theorem Zuq {D:Den} {P:Program} (hm:P.follows .mixedOrders=true) {w:World} (sp:List (Ctr D P w (λ_=>False))) (fx:List (Fct D P w (λ_=>False))) {f:FuncId} {d n:Nat} {args:List SA} {orc:List (Option Bool)} {vs:List Vw} (bk:List (Nat×Blk)) (hbk:bk=bkV 0 vs) (hn:n=vs.length) (V:SV) (L:List Prop) (W:List (Nat×Blk))
  (hev:(evF P sp fx d [] f args bk n n orc).map (λr=>(r.v,r.obl,r.wr,r.pan))=some (V,L,W,none)) (hL:AllP L) {vals:List Value} (hv:∀v∈vs,VwOk D w vs v) (hargs:denAs D (nmV vs) w args vals) :
  Calls P f vals.toArray w λe w'=>∃v ρ',e=.returned v∧denV D ρ' w' V v∧Below w.heap.size w w'∧(nmV vs).le ρ'∧BkOk D ρ' w' w' (W++bk)∧∀k b B,Liv (W++bk) k b->ρ' k=some B->(b.ro=false->w.heap.size<=B.blk)∧B.blk<w'.heap.size:=by
 obtain⟨r,hr,he⟩:=Yad.1 hev;simp only[Yco]at he;obtain⟨rfl,rfl,rfl,hpan⟩:=he;subst hbk;subst hn;have hlt:∀k b,(bkV 0 vs).look k=some b->k<vs.length:=λk b hk=>by
  obtain⟨v,_,h2,_⟩:=Zev hk;have:=(Yan.1 h2).1;omega
 refine(Zm6 hm sp fx d [] f args _ _ _ orc _ hr hL.all 0 (nmV vs) w w vals (Zj9 hv) trivial hlt (Yab _) (λk h1 _=>by simp[nmV];omega) hargs).mono ?_;rintro e w' ⟨u,ρ',wc',hend,hu,k1,k2⟩;unfold OpR.ends at hend;rw[hpan]at hend;have ef:r.fin (bkV 0 vs)=r.wr++bkV 0 vs:=by unfold OpR.fin;rw[hpan]
 rw[ef]at k1 k2;refine⟨u,ρ',hend,hu.mono (Nm.le.refl _) k1.ext,⟨k2.os,k2.tape,k2.output,k2.size,λi hi=>k2.loc i hi λk b B hk hB hro=>?_⟩,k2.rho,?_,?_⟩
 ·obtain⟨v,_,h2,rfl⟩:=Zev hk.1
  obtain⟨v',_,rfl⟩:=Yad.1 hB;cases hro
 ·intro k b hk hd
  obtain⟨B,cs,h1,h2,h3,h4⟩:=k1.bkOk k b hk hd;exact⟨B,cs,h1,h2,h3.mono (Nm.le.refl _) k1.ext,h4⟩
 ·intro k b B hk hB
  obtain⟨B',cs,h1,h2,h3,h4,_,h6⟩:=k1.box k b hk;cases h1.symm.trans hB;exact⟨λhro=>(h4 hro).elim id False.elim,k1.lt k B hB⟩
def litL (K:Nat->Value):List U->Option (List Value)
 | []=>some []
 | .val v::l=>if v.oneCell' then(litL K l).map (v::·) else none
 | .sym z::l=>(litL K l).map (.int .i64 z::·)
 | .tok i::l=>(litL K l).map (K i::·)
 | _=>none
theorem Zew {D:Den} {ρ:Nm} {w:World}:∀{l:List U} {cs:List Value},litL D.K l=some cs->denL D ρ w l cs∧∀ds,denL D ρ w l ds->ds=cs
 | [],_,h=>by cases h;exact⟨rfl,λ_ h=>h⟩
 | u :: l, cs, h => by
   unfold litL at h;split at h
   ·rename_i e;cases e
   ·rename_i v l' e
    cases e;split at h
    ·rename_i hv
     obtain⟨c,hc,rfl⟩:=Yad.1 h;obtain⟨h1,h2⟩:=Zew (ρ:=ρ) (w:=w) hc;exact⟨⟨[v],c,rfl,⟨rfl,hv⟩,h1⟩,λds ⟨a,b,e,⟨h3,_⟩,h4⟩=>by rw[e,h3,h2 b h4];rfl⟩
    ·cases h
   ·rename_i z l' e
    cases e;obtain⟨c,hc,rfl⟩:=Yad.1 h;obtain⟨h1,h2⟩:=Zew (ρ:=ρ) (w:=w) hc;exact⟨⟨[.int .i64 z],c,rfl,rfl,h1⟩,λds ⟨a,b,e,h3,h4⟩=>by rw[e,show a=[.int .i64 z] from h3,h2 b h4];rfl⟩
   ·rename_i i l' e
    cases e;obtain⟨c,hc,rfl⟩:=Yad.1 h;obtain⟨h1,h2⟩:=Zew (ρ:=ρ) (w:=w) hc;exact⟨⟨[D.K i],c,rfl,rfl,h1⟩,λds ⟨a,b,e,h3,h4⟩=>by rw[e,show a=[D.K i] from h3,h2 b h4];rfl⟩
   ·cases h
theorem Zf8 {D:Den} {P:Program} (hm:P.follows .mixedOrders=true) {f:FuncId} {d:Nat} (ins outs:List U) (A B:Array Value)
  (hev:∀w:World,(evF P (w0:=w) (X:=λ_=>False) (D:=D) [] [] d [] f [.agg ins] [] 0 0 []).map (λr=>(r.v,r.obl,r.pan))=some (.a (.agg outs),[],none)) (hi:litL D.K ins=some A.toList) (ho:litL D.K outs=some B.toList) (w:World) :
  Calls P f #[.agg A] w λe w'=>e=.returned (.agg B)∧Below w.heap.size w w':=by
 refine(Zqi (D:=D) (d:=d) (orc:=[]) (args:=[.agg ins]) hm [] [] (.a (.agg outs)) [] (hev w) trivial (vals:=[.agg A]) ⟨_,_,rfl,⟨A.toList,Zs,(Zew hi).1⟩,rfl⟩).mono ?_;rintro e w' ⟨v,ρ',rfl,⟨cs,rfl,hv⟩,hb⟩;refine⟨?_,hb⟩;rw[(Zew ho).2 _ hv]
theorem Zw7 {D:Den} {P:Program} (hm:P.follows .mixedOrders=true) {w:World} (sp:List (Ctr D P w (λ_=>False))) (fx:List (Fct D P w (λ_=>False))) {d n t nk:Nat} {code:Code} {tm:List (Nat×SV)} {orc:List (Option Bool)} {vs:List Vw} (bk:List (Nat×Blk)) (hbk:bk=bkV 0 vs) (hn:nk=vs.length) (V:SV) (L:List Prop)
  (hev:(evC P ⟨evF P sp fx d,fctRun fx⟩ [] n FU false code ⟨tm,bk,nk,nk,orc,[]⟩).map (λr=>(r.1,r.2.1.df,r.2.1.tm.look t,r.2.2))=some (.ret,[],some V,L)) (hL:AllP L) (hv:∀v∈vs,VwOk D w vs v) {a:Act} (hT:TSat D (nmV vs) w n tm a) (hd:a.defers=[]) {Q:Exit->Act->World->Prop}
  (hQ:∀(a':Act) (w':World) (ρ':Nm) (v:Value),a'.defers=[]->a'.tmps[t]? = some v->denV D ρ' w' V v->Below w.heap.size w w'->Q .ret a' w'):code.wp P Q a w:=by
 obtain⟨⟨o,s',q⟩,hr,he⟩:=Yad.1 hev;simp only[Yco]at he;obtain⟨rfl,hdf,hlook,rfl⟩:=he;subst hbk;subst hn;refine(wpIn_wide (n:=0)).1 ?_;have ih:CallOk D P w (λ_=>False) ⟨evF P sp fx d,fctRun fx⟩:=⟨Zm6 hm sp fx d,λo get x h=>Zgu h⟩
 refine Zm4 ih (Zqh sp fx d) hm FU false code _ s' .ret q 0 w.heap.size (nmV vs) w w a _ none (Yab _) (λ_=>rfl) hr hL.all (Zj9 hv) trivial hT hd (λk h1 _=>by simp[nmV];exact h1) ?_;intro ρ' wc' w' a' k1 k2 k3 k4;obtain⟨v,hv1,hv2⟩:=k2.at_ t V hlook;rw[hdf]at k3;refine hQ a' w' ρ' v k3 hv1 (hv2.mono (Nm.le.refl _) k1.ext) ⟨k4.os,k4.tape,k4.output,k4.size,λi hi=>k4.loc i hi λk b B hk hB hro=>?_⟩;obtain⟨v,_,h2,rfl⟩:=Zev hk.1;obtain⟨v',_,rfl⟩:=Yad.1 hB;cases hro
def slotsOk (D:Den) (ρ:Nm) (w:World) (a:Act):List (Nat×SV)->Prop
 | []=>True
 | p::r=>(∃v,a.tmps[p.1]? = some v∧denV D ρ w p.2 v)∧slotsOk D ρ w a r
theorem Zq6 {D:Den} {ρ:Nm} {w:World} {n:Nat} {a:Act} (hs:a.tmps.size=n):∀{tm:List (Nat×SV)},slotsOk D ρ w a tm->TSat D ρ w n tm a:=by
 intro tm h;refine⟨hs,?_⟩;induction tm with
 | nil=>intro t x hx;simp at hx
 | cons p r ih =>
   intro t x hx;rw[Zaz]at hx;split at hx
   ·rename_i e
    subst e;cases hx;exact h.1
   ·exact ih h.2 t x hx
def codeR:Code->Code
 | .seq _ y=>y
 | c=>c
end Go.Ex
namespace Go.Proofs.W
open Go.RowKit Go.Mono
section
open Go.Ex
def kK (g:ByteArray) (p:Option Addr) (n c:Nat):Nat->Value
 | 0=>.string g
 | _=>.slice p n c
theorem kK1 (g:ByteArray) (p:Option Addr) (n c i:Nat):(kK g p n c i).oneCell'=true:=by
 cases i<;>rfl
theorem Zix {g:ByteArray} (h:g≠mirror):(g.toList==[77,73,82,82,79,82])=false:=by
 rw[beq_eq_false_iff_ne];intro e;apply h;have:g.data.toList=[77,73,82,82,79,82]:=by rw[<-e];simp[Ycs]
 cases g with
 | mk d =>
   simp only[mirror,Ydw];apply Yfo;simpa using this
theorem Zvn (s:Srf) (hs:s.ok) (p:Option Addr) (c:Nat) (w:World) :
  Calls Tryz.prog 232 #[.agg (s.cs p c)] w λe w'=>(∃p' c',e=.returned (.agg (s.cs p' c'))∧(s.co=[]∨p'=p∧c'=c))∧Below w.heap.size w w':=by
 have hk:=hs.kept;have k1:=hs.k1;have k2:=hs.k2;clear hs;obtain⟨kind,curv,conic,curvx,conicx,a0,a1,a2,a3,p0,p1,order,thick,glass,semi,hole,dx,dy,ax,ay,az,co⟩:=s;rcases(by simp only at k1 k2;omega:kind=1∨kind=2∨kind=3∨kind=4) with rfl|rfl|rfl|rfl
 ·by_cases h0 : order = 0
  ·subst h0
   simp[Srf.kept]at hk;obtain⟨rfl,rfl,rfl,rfl,rfl,rfl,rfl,rfl,rfl⟩:=hk;refine(Zf8 (D:=qDen (kK glass p co.length c) (kK1 _ _ _ _)) (d:=9) Ziu [.val (.int .i64 1),.sym curv,.sym conic,.val (.int .i64 0),.val (.int .i64 0),.sym a0,.sym a1,.sym a2,.sym a3,.val (.int .i64 0),.val (.int .i64 0),.val (.int .i64 0),.sym thick,.tok 0,.sym semi,.sym hole,.val (.int .i64 0),.val (.int .i64 0),.val (.int .i64 0),.val (.int .i64 0),.val (.int .i64 0),.tok 1] [.val (.int .i64 1),.sym curv,.sym conic,.val (.int .i64 0),.val (.int .i64 0),.sym a0,.sym a1,.sym a2,.sym a3,.val (.int .i64 0),.val (.int .i64 0),.val (.int .i64 0),.sym thick,.tok 0,.sym semi,.sym hole,.val (.int .i64 0),.val (.int .i64 0),.val (.int .i64 0),.val (.int .i64 0),.val (.int .i64 0),.tok 1] _ _ (λw=>Zk) rfl rfl w).mono ?_;rintro e w' ⟨rfl,hb⟩;exact⟨⟨p,c,rfl,.inr ⟨rfl,rfl⟩⟩,hb⟩
  ·by_cases hg:glass=mirror
   ·subst hg
    simp[Srf.kept,h0]at hk;exact absurd hk.2.2.2.2.1.symm h0
   ·simp[Srf.kept,h0,hg]at hk
    obtain⟨rfl,rfl,rfl,rfl,rfl,rfl,rfl⟩:=hk;refine(Zw6 _ _ 0 0 _ _ _ _ _ _ _ _ _ _ 0 0 0 0 0 _ p _ c _ h0 (Zix hg) rfl rfl rfl rfl rfl rfl rfl rfl rfl rfl rfl rfl rfl rfl rfl rfl rfl rfl rfl rfl rfl rfl w).mono ?_;rintro e w' ⟨rfl,hb⟩;exact⟨⟨_,_,rfl,.inr ⟨rfl,rfl⟩⟩,hb⟩
 ·simp[Srf.kept]at hk
  obtain⟨rfl,rfl,rfl,rfl,rfl,rfl,rfl,rfl,rfl,rfl,rfl,rfl⟩:=hk;refine(Zf8 (D:=qDen (kK glass p co.length c) (kK1 _ _ _ _)) (d:=9) Ziu [.val (.int .i64 2),.sym curv,.sym conic,.sym curvx,.sym conicx,.val (.int .i64 0),.val (.int .i64 0),.val (.int .i64 0),.val (.int .i64 0),.val (.int .i64 0),.val (.int .i64 0),.val (.int .i64 0),.sym thick,.tok 0,.sym semi,.sym hole,.val (.int .i64 0),.val (.int .i64 0),.val (.int .i64 0),.val (.int .i64 0),.val (.int .i64 0),.tok 1] [.val (.int .i64 2),.sym curv,.sym conic,.sym curvx,.sym conicx,.val (.int .i64 0),.val (.int .i64 0),.val (.int .i64 0),.val (.int .i64 0),.val (.int .i64 0),.val (.int .i64 0),.val (.int .i64 0),.sym thick,.tok 0,.sym semi,.sym hole,.val (.int .i64 0),.val (.int .i64 0),.val (.int .i64 0),.val (.int .i64 0),.val (.int .i64 0),.tok 1] _ _ (λw=>Zk) rfl rfl w).mono ?_;rintro e w' ⟨rfl,hb⟩;exact⟨⟨_,_,rfl,.inr ⟨rfl,rfl⟩⟩,hb⟩
 ·simp[Srf.kept]at hk
  obtain⟨rfl,rfl,rfl,rfl,rfl,rfl,rfl,rfl,rfl,rfl,rfl,rfl,rfl,rfl,rfl⟩:=hk;refine(Zf8 (D:=qDen (kK {data:=#[]} p 0 c) (kK1 _ _ _ _)) (d:=9) Ziu [.val (.int .i64 3),.val (.int .i64 0),.val (.int .i64 0),.val (.int .i64 0),.val (.int .i64 0),.val (.int .i64 0),.val (.int .i64 0),.val (.int .i64 0),.val (.int .i64 0),.val (.int .i64 0),.val (.int .i64 0),.val (.int .i64 0),.sym thick,.val (.string {data:=#[]}),.val (.int .i64 0),.val (.int .i64 0),.sym dx,.sym dy,.sym ax,.sym ay,.sym az,.tok 1] [.val (.int .i64 3),.val (.int .i64 0),.val (.int .i64 0),.val (.int .i64 0),.val (.int .i64 0),.val (.int .i64 0),.val (.int .i64 0),.val (.int .i64 0),.val (.int .i64 0),.val (.int .i64 0),.val (.int .i64 0),.val (.int .i64 0),.sym thick,.val (.string {data:=#[]}),.val (.int .i64 0),.val (.int .i64 0),.sym dx,.sym dy,.sym ax,.sym ay,.sym az,.val (.slice none 0 0)] _ _ (λw=>Zk) rfl rfl w).mono ?_;rintro e w' ⟨rfl,hb⟩;exact⟨⟨_,_,rfl,.inl rfl⟩,hb⟩
 ·simp[Srf.kept]at hk
  obtain⟨rfl,rfl,rfl,rfl,rfl,rfl,rfl,rfl,rfl,rfl,rfl,rfl,rfl,rfl,rfl,rfl,rfl⟩:=hk;refine(Zf8 (D:=qDen (kK {data:=#[]} p 0 c) (kK1 _ _ _ _)) (d:=9) Ziu [.val (.int .i64 4),.sym curv,.val (.int .i64 0),.val (.int .i64 0),.val (.int .i64 0),.val (.int .i64 0),.val (.int .i64 0),.val (.int .i64 0),.val (.int .i64 0),.val (.int .i64 0),.val (.int .i64 0),.val (.int .i64 0),.sym thick,.val (.string {data:=#[]}),.sym semi,.sym hole,.val (.int .i64 0),.val (.int .i64 0),.val (.int .i64 0),.val (.int .i64 0),.val (.int .i64 0),.tok 1] [.val (.int .i64 4),.sym curv,.val (.int .i64 0),.val (.int .i64 0),.val (.int .i64 0),.val (.int .i64 0),.val (.int .i64 0),.val (.int .i64 0),.val (.int .i64 0),.val (.int .i64 0),.val (.int .i64 0),.val (.int .i64 0),.sym thick,.val (.string {data:=#[]}),.sym semi,.sym hole,.val (.int .i64 0),.val (.int .i64 0),.val (.int .i64 0),.val (.int .i64 0),.val (.int .i64 0),.val (.slice none 0 0)] _ _ (λw=>Zk) rfl rfl w).mono ?_;rintro e w' ⟨rfl,hb⟩;exact⟨⟨_,_,rfl,.inl rfl⟩,hb⟩
theorem Zm7 (s:Srf) (p:Option Addr) (c:Nat) (w:World):Calls Tryz.prog 249 #[.agg (s.cs p c)] w λe w'=>e=.returned (.agg s.flds)∧Below w.heap.size w w':=
 Zod s.kind s.curv s.conic s.curvx s.conicx s.a0 s.a1 s.a2 s.a3 s.p0 s.p1 s.order s.thick s.semi s.hole s.dx s.dy s.ax s.ay s.az s.glass (s.cs p c) rfl rfl rfl rfl rfl rfl rfl rfl rfl rfl rfl rfl rfl rfl rfl rfl rfl rfl rfl rfl rfl w
end
section
attribute [local go_sem] Oper.semAt_some
def spaceKind (a:Lns) (i:Nat):Int:=if(a.S i).glass=mirror∨(a.S i).kind=3∨(a.S i).kind=4∨i+1=a.ns then 2 else if(a.S i).glass = {data:=#[]} then 0 else 1
theorem Zgw (a:Lns) (k:Nat):((a.S k).glass = {data:=#[77,73,82,82,79,82]}∧spaceKind a k=2)∨(((a.S k).glass.toList==[77,73,82,82,79,82])=false∧(a.S k).kind=3∧spaceKind a k=2)∨
  (((a.S k).glass.toList==[77,73,82,82,79,82])=false∧((a.S k).kind==3)=false∧(a.S k).kind=4∧spaceKind a k=2)∨(((a.S k).glass.toList==[77,73,82,82,79,82])=false∧((a.S k).kind==3)=false∧((a.S k).kind==4)=false∧((k:Int)==(a.ns:Int)-1)=true∧spaceKind a k=2)∨
  (((a.S k).glass.toList==[77,73,82,82,79,82])=false∧((a.S k).kind==3)=false∧((a.S k).kind==4)=false∧((k:Int)==(a.ns:Int)-1)=false∧(a.S k).glass.toList.isEmpty=true∧spaceKind a k=0)∨
  (((a.S k).glass.toList==[77,73,82,82,79,82])=false∧((a.S k).kind==3)=false∧((a.S k).kind==4)=false∧((k:Int)==(a.ns:Int)-1)=false∧(a.S k).glass.toList.isEmpty=false∧spaceKind a k=1):=by
 by_cases h1:(a.S k).glass=mirror
 ·exact .inl ⟨h1,by simp[spaceKind,h1]⟩
 ·have b1:=Zix h1
  by_cases h2:(a.S k).kind=3
  ·exact .inr (.inl ⟨b1,h2,by simp[spaceKind,h2]⟩)
  ·have b2:((a.S k).kind==3)=false:=by simpa using h2
   by_cases h3:(a.S k).kind=4
   ·exact .inr (.inr (.inl ⟨b1,b2,h3,by simp[spaceKind,h3]⟩))
   ·have b3:((a.S k).kind==4)=false:=by simpa using h3
    by_cases h4:k+1=a.ns
    ·exact .inr (.inr (.inr (.inl ⟨b1,b2,b3,by simp;omega,by simp[spaceKind,h4]⟩)))
    ·have b4:((k:Int)==(a.ns:Int)-1)=false:=by rw[beq_eq_false_iff_ne];omega
     by_cases h5:(a.S k).glass = {data:=#[]}
     ·exact .inr (.inr (.inr (.inr (.inl ⟨b1,b2,b3,b4,by rw[h5];simp[Ycs],by
       have:¬({data:=#[]}:ByteArray)=mirror:=by rw[<-h5];exact h1
       simp[spaceKind,h2,h3,h4,h5,this]⟩))))
     ·refine .inr (.inr (.inr (.inr (.inr ⟨b1,b2,b3,b4,?_,by simp[spaceKind,h1,h2,h3,h4,h5]⟩))))
      rw[Bool.eq_false_iff];intro e;apply h5;have e':(a.S k).glass.toList=[]:=by simpa using e
      have hd:(a.S k).glass.data.toList=[]:=by rw[<-e'];simp[Ycs]
      cases hg:(a.S k).glass with
      | mk d =>
        rw[hg]at hd;simp only[Ydw];exact Yfo (by simpa using hd)
theorem Zoe (F:Fence) (n:Nat) (hF:F.fn 142) (hro:F.round=none) (hn:2<=n) (a:Lns) (ha:1<=a.ns∧a.ns<=16) (q:Plc) (M:Nat) :
  IterAll F n Tryz.prog 142 #[.pointer (some ⟨M,0,none⟩)] #[] a.ns (λi=>#[.agg #[.int .i64 (i:Int),.int .i64 (spaceKind a i)]])
   (λV=>V.cell? ⟨M,7,none⟩=some (.slice q.ps a.ns q.cs)∧RdC V q.ps a.ns q.cs 22 (λi j=>((a.S i).cs (q.cp i) (q.cl i)).getD j undef)):=by
 intro l J W hK hJ hY h0;refine callsIn_of_wp Tryz.func142 rfl hF ?_ hro;simp only[Tryz.ntmps142,Yfl,Ybm,Ydf,Nat.reduceAdd,Nat.reduceSub,Yes,Yer,Yfm,Yey,Ydp,Ydi];obtain⟨hm,hr⟩:=hK _ _ h0;have hlt:M<W.heap.size:=block_lt_of_cell hm;obtain⟨b,off,hps,_⟩:=hr.2.2 Zo;rw[hps]at hm;gi_wp2
 gi_loopw [13] (λx wr=>∃k:Nat,k<=a.ns∧x=.int .i64 (k:Int)∧J k wr) (λx _=>(a.ns-intOf x).toNat)
 case atStart=>exact⟨0,Yat _,rfl,h0⟩
 case round=>
  obtain⟨k,hk,rfl,hj⟩:=hrel;obtain⟨hm,hr⟩:=hK _ _ hj;rw[hps]at hm;have hlt:M<wr.heap.size:=block_lt_of_cell hm;by_cases hkn:k<a.ns
  ·rw[hps]at hr
   obtain⟨b',off',hps',hbl,hcell⟩:=hr.2.2 Zo;obtain⟨rfl,rfl⟩:b=b'∧off=off':=by simpa using hps'
   clear hps';dsimp only at hcell;have hsz:(Tryz.prog.info? 117).map (·.size)=some ((a.S k).cs (q.cp k) (q.cl k)).size:=Zk;have hsl:(Tryz.prog.info? 117).map (·.size)=some ((a.S k).cs (q.cp k) (q.cl k)).toList.length:=Zk;have g0:((a.S k).cs (q.cp k) (q.cl k))[0]? = some (.int .i64 (a.S k).kind):=rfl;have g13:((a.S k).cs (q.cp k) (q.cl k))[13]? = some (.string (a.S k).glass):=rfl;have g1:((a.S k).cs (q.cp k) (q.cl k)).all (·.oneCell')=true:=by simp[Srf.cs,Value.oneCell']
   have gz:((a.S k).cs (q.cp k) (q.cl k)).size=22:=rfl;have hrange:wr.rangeAt b (off+k*22) ((a.S k).cs (q.cp k) (q.cl k)).toList:=λj v hv=>by
    have hj:j<22:=by
     have:=(Yan.1 hv).1;simpa[gz]using this
    refine(hcell k j hkn hj).trans ?_;rw[Yaq]at hv;rw[Yax,hv];rfl
   generalize (a.S k).cs (q.cp k) (q.cl k)=A at *;have hkn':(k:Int)<a.ns:=Zo;clear hcell hr;have hYk:=hY k;rcases Zgw a k with ⟨c1,c5⟩|⟨c1,c2,c5⟩|⟨c1,c2,c3,c5⟩|⟨c1,c2,c3,c4,c5⟩|⟨c1,c2,c3,c4,c6,c5⟩|⟨c1,c2,c3,c4,c6,c5⟩
   all_goals
    rw[c5]at hYk;clear c5 hY;generalize (a.S k).glass=G at *;generalize (a.S k).kind=kd at *
   all_goals try subst c1
   all_goals try subst c2
   all_goals try subst c3
   all_goals try subst c6
   all_goals
    gi_wp2_with first|(refine Zfj rfl 117 _ rfl b (off+k*22) rfl A.toList _ hrange Tryz.underlying117 rfl hsl ?_)|(refine Zka rfl 117 rfl _ Za0 ?_;intro W1 B1 hle hB1 b1)|(refine Zex rfl 117 (.tmp 5) (.tmp 17) rfl B1 0 117 _ A A rfl rfl b1 hsz (Ybl (by rw[gz];rfl)) g1 (Zah (by rw[gz];rfl)) ?_;intro W2 hk2 _ b2;have hBW2:Below wr.heap.size wr W2:=hk2.below hB1 hle hB1.size;have f0:=(b2.cell 0).trans g0;have f13:=(b2.cell 13).trans g13;have lb2:=b2.lt;have fm:=(hBW2.cell (p:=⟨M,7,none⟩) hlt).trans hm;have ltM:=Yaf hlt hBW2.size;obtain⟨fn,tmps,assign,body,hy,hR⟩:=hYk W2 (hJ k wr W2 hj hBW2) hkn)
    refine⟨λ_=>Zo,hR.mono ?_⟩;rintro e W3 ⟨rfl,hJ3⟩;gi_wp2
    go_roundw
    case rel=>exact⟨k+1,Zo,Zs,hJ3⟩
    case measure=>simp[intOf];omega
  ·obtain rfl:k=a.ns:=by omega
   gi_wp2
   go_end0
   exact⟨⟨_,rfl⟩,hj⟩
end
end Go.Proofs.W
