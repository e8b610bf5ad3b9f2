/- Contracts of package matrix,and a verified evaluator. Part 17 of 28. No condition beside the row. -/
import Derived.Test.YtdocaccajammkaaGreatDoorA12
import Derived.Test.YtdocaccajammkaaGreatDoorA13
import Derived.Test.YtdocaccajammkaaGreatDoorA14
import Derived.Test.YtdocaccajammkaaGreatDoorA15
import Derived.Test.YtdocaccajammkaaGreatDoorA16
set_option linter.unusedVariables false
set_option linter.unusedSimpArgs false
set_option maxRecDepth 100000
set_option maxHeartbeats 4000000
namespace Go.Proofs.W
open Go.RowKit Go.Mono
section
open Go.Ex
variable {K:Nat->Value} {hK:∀i,(K i).oneCell'=true}
def digI (s:Bool) (n:Nat):Int:=bif s then -(n:Int) else n
def digR (s:Bool) (n d:Nat):Rat:=Rat.divInt (digI s n) d
def DigQ (s:Bool) (n d:Nat):Prop:=(d≠0∧Nat.Coprime n d)∧(s=true->n≠0)
theorem Zgl (s:Bool) (n:Nat):(digI s n).natAbs=n:=by cases s<;>simp[digI]
theorem Zsd {s:Bool} {n d:Nat} (h:d≠0∧Nat.Coprime n d):digR s n d=⟨digI s n,d,h.1,by rw[Zgl];exact h.2⟩:=Rat.mk_eq_divInt.symm
theorem Zwz {ρ:Nm} {w:World} {s:Bool} {n d:Nat} (h:DigQ s n d) {v:Value} (hv:denA (qDen K hK) ρ w (.agg [.val (.bool s),.dig n,.val (.bool false),.dig d]) v):QV w v (digR s n d):=by
 rw[Zsd h.1];obtain⟨cs,rfl,c1,d1,rfl,⟨rfl,_⟩,c2,d2,rfl,⟨v2,⟨⟨p,k,c,rfl⟩,hs2⟩,rfl⟩,c3,d3,rfl,⟨rfl,_⟩,c4,d4,rfl,⟨v4,⟨⟨p',k',c',rfl⟩,hs4⟩,rfl⟩,hd4⟩:=hv;obtain rfl:d4=[]:=hd4;have hnum:decide (digI s n<0)=s:=by
  cases s with
  | false=>exact decide_eq_false (by unfold digI;dsimp only[cond_false];omega)
  | true =>
    have:=h.2 rfl;simp[digI];omega
 refine⟨p,k,c,p',k',c',?_,?_,hs4⟩
 ·show Value.agg _=_
  dsimp only;rw[hnum];rfl
 ·dsimp only
  rw[Zgl];exact hs2
def checkRunD (args:List SA) (bk:List (Nat×Blk)) (orc:List (Option Bool)):Option (SV×List Prop×List (Option Bool)):=
 match args with
 | [.agg [.val (.bool s),.dig n,.val (.bool false),.dig d]]=>some (.a okV,[DigQ s n d],orc)
 | _=>none
def cCheckD (w0:World) (X:Nat->Prop):Ctr (qDen K hK) Tryz.prog w0 X:=.plain 70 checkRunD<|by
 intro args bk orc v obl orc' hr hobl ρ w vals hfr hb hargs;unfold checkRunD at hr;split at hr
 ·cases hr
  obtain⟨v1,r1,rfl,h1,h3⟩:=hargs;obtain rfl:r1=[]:=h3;refine(Zep v1 _ w w (Ext.refl _) (Zwz (hobl _ (Ycl ..)) h1)).mono ?_;rintro e w' ⟨rfl,hbl⟩;exact⟨_,rfl,⟨rfl,rfl⟩,hbl⟩
 ·cases hr
def toldRunD (args:List SA) (bk:List (Nat×Blk)) (orc:List (Option Bool)):Option (SV×List Prop×List (Option Bool)):=
 match args with
 | [.agg [.val (.bool s),.dig n,.dig d]]=>some (.tup [.agg [.quo (digR s n d)],okV],[d≠0∧Nat.Coprime n d],orc)
 | _=>none
def cToldD (w0:World) (X:Nat->Prop):Ctr (qDen K hK) Tryz.prog w0 X:=.plain 146 toldRunD<|by
 intro args bk orc v obl orc' hr hobl ρ w vals hfr hb hargs;unfold toldRunD at hr;split at hr
 ·rename_i s n d
  cases hr;obtain⟨v1,r1,rfl,h1,h3⟩:=hargs;obtain rfl:r1=[]:=h3;have hd:=hobl (d≠0∧Nat.Coprime n d) Zs;obtain⟨cs,rfl,c1,d1,rfl,⟨rfl,_⟩,c2,d2,rfl,⟨v2,⟨⟨p,k,c,rfl⟩,hs2⟩,rfl⟩,c4,d4,rfl,⟨v4,⟨⟨p',k',c',rfl⟩,hs4⟩,rfl⟩,hd4⟩:=h1;obtain rfl:d4=[]:=hd4;refine(Zeb 600 s p p' k c k' c' ⟨digI s n,d,hd.1,by rw[Zgl];exact hd.2⟩ w w (Ext.refl _) (by cases s<;>constructor<;>intro h<;>first|(cases h;done)|(show -(n:Int)<=0;omega)|(show(0:Int)<=n;omega)) (by dsimp only;rw[Zgl];exact hs2) hs4 Zd).mono ?_;rintro e w' ⟨p,n',c,q,l,d',rfl,z1,z2,hbl⟩;rw[Zsd hd];exact⟨_,rfl,⟨[_,.int .i64 0],rfl,_,_,rfl,den_quo.2 ⟨_,_,_,_,_,_,rfl,z1,z2⟩,_,_,rfl,⟨rfl,rfl⟩,rfl⟩,hbl⟩
 ·cases hr
noncomputable def spD (w0:World):List (Ctr (qDen K hK) Tryz.prog w0 (λ_=>False)):=[cCheckD w0 _,cToldD w0 _]
section
variable (w0:World) (n d:Nat)
theorem Zyv:(evF Tryz.prog (spD (K:=K) (hK:=hK) w0) [] 10 [] 18 [.agg [.val (.bool true),.dig n,.val (.bool false),.dig d]] [] 0 0 []).map (λr=>(r.v,r.obl,r.pan))=some (.tup [.agg [.quo (digR false n d)],okV],[DigQ true n d,DigQ true n d,d≠0∧Nat.Coprime n d],none):=Zk
theorem Zyw:(evF Tryz.prog (spD (K:=K) (hK:=hK) w0) [] 10 [] 18 [.agg [.val (.bool false),.dig n,.val (.bool false),.dig d]] [] 0 0 []).map (λr=>(r.v,r.obl,r.pan))=some (.tup [.agg [.quo (digR true n d)],okV],[DigQ false n d,DigQ false n d,d≠0∧Nat.Coprime n d],none):=Zk
end
theorem Zw0 {w:World} {v:Value} {q:Rat} (h:QV w v q):∃s,s=decide (q.num<0)∧DigQ s q.num.natAbs q.den∧∀ρ,denA (qDen K hK) ρ w (.agg [.val (.bool s),.dig q.num.natAbs,.val (.bool false),.dig q.den]) v:=by
 refine⟨_,rfl,⟨⟨q.den_nz,q.reduced⟩,λh=>?_⟩,λρ=>?_⟩
 ·have:=of_decide_eq_true h
  omega
 ·obtain⟨p,k,c,p',k',c',e,h1,h2⟩:=h
  subst e;exact⟨[.bool (decide (q.num<0)),.slice p k c,.bool false,.slice p' k' c'],rfl,[_],_,rfl,⟨rfl,rfl⟩,[_],_,rfl,⟨_,⟨⟨_,_,_,rfl⟩,h1⟩,rfl⟩,[_],_,rfl,⟨rfl,rfl⟩,[_],[],rfl,⟨_,⟨⟨_,_,_,rfl⟩,h2⟩,rfl⟩,rfl⟩
theorem Zux {q:Rat} {s:Bool} (h:s=decide (q.num<0)):digR (!s) q.num.natAbs q.den = -q:=by
 have e:digI (!s) q.num.natAbs = -q.num:=by
  cases s with
  | false=>have:=of_decide_eq_false h.symm;simp[digI];omega
  | true=>have:=of_decide_eq_true h.symm;simp[digI];omega
 unfold digR;rw[e,<-Rat.neg_divInt,Yds]
theorem Zw1 {w:World} {v:Value} {q:Rat} (h:QV w v q):Calls Tryz.prog 18 #[v] w λe w'=>∃r,e=.returned (.tuple #[r,.int .i64 0])∧QV w' r (-q)∧Below w.heap.size w w':=by
 obtain⟨s,hs,hd,hv⟩:=Zw0 (K:=λ_=>.bool false) (hK:=λ_=>rfl) h;have e:=Zux hs;have fin:∀{en:Ending} {w':World} {s':Bool},(∃v ρ',en=.returned v∧denV (qDen (λ_=>.bool false) (λ_=>rfl)) ρ' w' (.tup [.agg [.quo (digR s' q.num.natAbs q.den)],okV]) v∧Below w.heap.size w w')->digR s' q.num.natAbs q.den = -q->∃r,en=.returned (.tuple #[r,.int .i64 0])∧QV w' r (-q)∧Below w.heap.size w w':=by
  rintro en w' s' ⟨v,ρ',rfl,⟨vs,rfl,v1,r1,rfl,h1,v2,r2,rfl,⟨h2,_⟩,h3⟩,hb⟩ e;obtain rfl:r2=[]:=h3;cases h2;rw[e]at h1;exact⟨v1,rfl,den_quo.1 h1,hb⟩
 cases s with
 | true=>exact(Zim (D:=qDen (λ_=>.bool false) (λ_=>rfl)) (d:=10) (orc:=[]) Zdt (spD w) [] _ _ (Zyv w _ _) ⟨hd,hd,hd.1,trivial⟩ (vals:=[v]) ⟨v,[],rfl,hv _,rfl⟩).mono λen w' h=>fin h e
 | false=>exact(Zim (D:=qDen (λ_=>.bool false) (λ_=>rfl)) (d:=10) (orc:=[]) Zdt (spD w) [] _ _ (Zyw w _ _) ⟨hd,hd,hd.1,trivial⟩ (vals:=[v]) ⟨v,[],rfl,hv _,rfl⟩).mono λen w' h=>fin h e
def cNegN (w0:World) (X:Nat->Prop):Ctr (qDen K hK) Tryz.prog w0 X:=.plain 18 (λargs _ orc=>match args with
    | [.agg x]=>(asQ x).map λq=>(.tup [.agg [.quo (-q)],okV],[],orc)
    | _=>none)<|by
 intro args bk orc v obl orc' hr hobl ρ w vals hfr hb hargs;split at hr
 ·rename_i x
  obtain⟨q,hq,e⟩:=Yad.1 hr;cases e;obtain⟨v1,r1,rfl,h1,h3⟩:=hargs;obtain rfl:r1=[]:=h3;refine(Zw1 (Zea hq h1)).mono ?_;rintro e w' ⟨r,rfl,hr,hbl⟩;exact⟨_,rfl,⟨[r,.int .i64 0],rfl,_,_,rfl,den_quo.2 hr,_,_,rfl,⟨rfl,rfl⟩,rfl⟩,hbl⟩
 ·cases hr
end
section
open Go.Ex
variable {K:Nat->Value} {hK:∀i,(K i).oneCell'=true}
def PFits (a b c d e f g h:Rat):Prop:=
 Fits (a*e)∧Fits (b*g)∧Fits (a*e+b*g)∧Fits (a*f)∧Fits (b*h)∧Fits (a*f+b*h)∧Fits (c*e)∧Fits (d*g)∧Fits (c*e+d*g)∧Fits (c*f)∧Fits (d*h)∧Fits (c*f+d*h)
theorem z0_:mkRat (Int.ofNat 0) (0+1)=0:=rfl
theorem Zdm {ρ ρ':Nm} {w:World}:∀{l:List Rat} {cs:List Value},denL (qDen K hK) ρ w (l.map .quo) cs->denL (qDen K hK) ρ' w (l.map .quo) cs
 | [],_,h=>h
 | q::l,_,⟨c,d,e,hc,hd⟩=>⟨c,d,e,hc,Zdm hd⟩
theorem Zip (a b c d e f g h:Rat) (H:PFits a b c d e f g h) (w:World) {u v:Value} (hu:denA (qDen K hK) (λ_=>none) w (.agg [.quo a,.quo b,.quo c,.quo d]) u) (hv:denA (qDen K hK) (λ_=>none) w (.agg [.quo e,.quo f,.quo g,.quo h]) v) :
  Calls Tryz.prog 86 #[u,v] w λe' w'=>∃x ρ',e'=.returned x∧denV (qDen K hK) ρ' w' (.a (.agg [.quo (mkRat (Int.ofNat 0) (0+1)+a*e+b*g),.quo (mkRat (Int.ofNat 0) (0+1)+a*f+b*h),.quo (mkRat (Int.ofNat 0) (0+1)+c*e+d*g),.quo (mkRat (Int.ofNat 0) (0+1)+c*f+d*h)])) x∧Below w.heap.size w w':=by
 obtain⟨h1,h2,h3,h4,h5,h6,h7,h8,h9,h10,h11,h12⟩:=H;refine Zim (D:=qDen K hK) (d:=12) (orc:=[]) (args:=[.agg [.quo a,.quo b,.quo c,.quo d],.agg [.quo e,.quo f,.quo g,.quo h]]) Zdt (spS w (λ_=>False)) [] _
  [Fits (a*e),Fits (mkRat (Int.ofNat 0) (0+1)+a*e),Fits (b*g),Fits (mkRat (Int.ofNat 0) (0+1)+a*e+b*g),
   Fits (a*f),Fits (mkRat (Int.ofNat 0) (0+1)+a*f),Fits (b*h),Fits (mkRat (Int.ofNat 0) (0+1)+a*f+b*h),
   Fits (c*e),Fits (mkRat (Int.ofNat 0) (0+1)+c*e),Fits (d*g),Fits (mkRat (Int.ofNat 0) (0+1)+c*e+d*g),
   Fits (c*f),Fits (mkRat (Int.ofNat 0) (0+1)+c*f),Fits (d*h),Fits (mkRat (Int.ofNat 0) (0+1)+c*f+d*h)]
  Zk ?_ (vals:=[u,v]) ⟨u,_,rfl,hu,v,_,rfl,hv,rfl⟩
 rw[z0_];simp only[Rat.zero_add];exact⟨h1,h1,h2,h3,h4,h4,h5,h6,h7,h7,h8,h9,h10,h10,h11,h12,trivial⟩
def fitsC:List Rat->Bool
 | []=>true
 | q :: r => match fitC q with
   | some _=>fitsC r
   | none=>false
theorem Zuy {q:Rat} {L:List Prop} (h:fitC q=some L):Fits q:=by
 have hL:L=[]:=by
  unfold fitC at h;split at h
  ·cases h;rfl
  ·cases h
 subst hL;exact sideC.hfit q [] h Zs
theorem Zoe:∀{l:List Rat},fitsC l=true->∀q∈l,Fits q
 | [],_,q,hq=>by cases hq
 | x :: r, h, q, hq => by
   unfold fitsC at h;split at h
   ·rename_i L hL
    rcases Ycp.1 hq with rfl|hq
    ·exact Zuy hL
    ·exact Zoe h q hq
   ·cases h
def prodRun (args:List SA) (bk:List (Nat×Blk)) (orc:List (Option Bool)):Option (SV×List Prop×List (Option Bool)):=
 match args with
 | [.agg [.quo a, .quo b, .quo c, .quo d], .agg [.quo e, .quo f, .quo g, .quo h]] =>
   if fitsC [a*e,b*g,a*e+b*g,a*f,b*h,a*f+b*h,c*e,d*g,c*e+d*g,c*f,d*h,c*f+d*h] then
    qcase (a*e+b*g) λx=>qcase (a*f+b*h) λy=>qcase (c*e+d*g) λz=>qcase (c*f+d*h) λt=>some (.a (.agg [.quo x,.quo y,.quo z,.quo t]),[],orc)
   else none
 | _=>none
def cProduct (w0:World) (X:Nat->Prop):Ctr (qDen K hK) Tryz.prog w0 X:=.plain 86 prodRun<|by
    intro args bk orc v obl orc' hr hobl ρ w vals hfr hb hargs;unfold prodRun at hr;split at hr
    ·rename_i a b c d e f g h
     split at hr
     ·rename_i hok
      rw[Zc3,Zc3,Zc3,Zc3]at hr;cases hr;obtain⟨v1,r1,rfl,⟨cs1,rfl,h1⟩,v2,r2,rfl,⟨cs2,rfl,h2⟩,h3⟩:=hargs;obtain rfl:r2=[]:=h3;have F:=Zoe hok;refine(Zip a b c d e f g h ⟨F _ Zs,F _ Zs,F _ Zs,F _ Zs,F _ Zs,F _ Zs,F _ Zs,F _ Zs,F _ Zs,F _ Zs,F _ Zs,F _ Zs⟩ w
       ⟨cs1,rfl,Zdm (l:=[a,b,c,d]) h1⟩ ⟨cs2,rfl,Zdm (l:=[e,f,g,h]) h2⟩).mono ?_
      rintro e' w' ⟨x,ρ',rfl,⟨cs,rfl,hx⟩,hbl⟩;rw[z0_]at hx;simp only[Rat.zero_add]at hx;exact⟨_,rfl,⟨cs,rfl,Zdm (l:=[a*e+b*g,a*f+b*h,c*e+d*g,c*f+d*h]) hx⟩,hbl⟩
     ·cases hr
    ·cases hr
end
section
open Go.Ex
def kK (g:ByteArray) (p:Option Addr) (n c:Nat):Nat->Value
 | 0=>.string g
 | _=>.slice p n c
theorem kK1 (g:ByteArray) (p:Option Addr) (n c i:Nat):(kK g p n c i).oneCell'=true:=by
 cases i<;>rfl
theorem Zjg {g:ByteArray} (h:g≠mirror):(g.toList==[77,73,82,82,79,82])=false:=by
 rw[beq_eq_false_iff_ne];intro e;apply h;have:g.data.toList=[77,73,82,82,79,82]:=by rw[<-e];simp[Ycs]
 cases g with
 | mk d =>
   simp only[mirror,Ydw];apply Yfo;simpa using this
theorem Zwk (s:Srf) (hs:s.ok) (p:Option Addr) (c:Nat) (w:World) :
  Calls Tryz.prog 295 #[.agg (s.cs p c)] w λe w'=>(∃p' c',e=.returned (.agg (s.cs p' c'))∧(s.co=[]∨p'=p∧c'=c))∧Below w.heap.size w w':=by
 have hk:=hs.kept;have k1:=hs.k1;have k2:=hs.k2;clear hs;obtain⟨kind,curv,conic,curvx,conicx,a0,a1,a2,a3,p0,p1,order,thick,glass,semi,hole,dx,dy,ax,ay,az,co⟩:=s;rcases(by simp only at k1 k2;omega:kind=1∨kind=2∨kind=3∨kind=4) with rfl|rfl|rfl|rfl
 ·by_cases h0 : order = 0
  ·subst h0
   simp[Srf.kept]at hk;obtain⟨rfl,rfl,rfl,rfl,rfl,rfl,rfl,rfl,rfl⟩:=hk;refine(Zgf (D:=qDen (kK glass p co.length c) (kK1 _ _ _ _)) (d:=9) Zdt [.val (.int .i64 1),.sym curv,.sym conic,.val (.int .i64 0),.val (.int .i64 0),.sym a0,.sym a1,.sym a2,.sym a3,.val (.int .i64 0),.val (.int .i64 0),.val (.int .i64 0),.sym thick,.tok 0,.sym semi,.sym hole,.val (.int .i64 0),.val (.int .i64 0),.val (.int .i64 0),.val (.int .i64 0),.val (.int .i64 0),.tok 1] [.val (.int .i64 1),.sym curv,.sym conic,.val (.int .i64 0),.val (.int .i64 0),.sym a0,.sym a1,.sym a2,.sym a3,.val (.int .i64 0),.val (.int .i64 0),.val (.int .i64 0),.sym thick,.tok 0,.sym semi,.sym hole,.val (.int .i64 0),.val (.int .i64 0),.val (.int .i64 0),.val (.int .i64 0),.val (.int .i64 0),.tok 1] _ _ (λw=>Zk) rfl rfl w).mono ?_;rintro e w' ⟨rfl,hb⟩;exact⟨⟨p,c,rfl,.inr ⟨rfl,rfl⟩⟩,hb⟩
  ·by_cases hg:glass=mirror
   ·subst hg
    simp[Srf.kept,h0]at hk;exact absurd hk.2.2.2.2.1.symm h0
   ·simp[Srf.kept,h0,hg]at hk
    obtain⟨rfl,rfl,rfl,rfl,rfl,rfl,rfl⟩:=hk;refine(Zx3 _ _ 0 0 _ _ _ _ _ _ _ _ _ _ 0 0 0 0 0 _ p _ c _ h0 (Zjg hg) rfl rfl rfl rfl rfl rfl rfl rfl rfl rfl rfl rfl rfl rfl rfl rfl rfl rfl rfl rfl rfl rfl w).mono ?_;rintro e w' ⟨rfl,hb⟩;exact⟨⟨_,_,rfl,.inr ⟨rfl,rfl⟩⟩,hb⟩
 ·simp[Srf.kept]at hk
  obtain⟨rfl,rfl,rfl,rfl,rfl,rfl,rfl,rfl,rfl,rfl,rfl,rfl⟩:=hk;refine(Zgf (D:=qDen (kK glass p co.length c) (kK1 _ _ _ _)) (d:=9) Zdt [.val (.int .i64 2),.sym curv,.sym conic,.sym curvx,.sym conicx,.val (.int .i64 0),.val (.int .i64 0),.val (.int .i64 0),.val (.int .i64 0),.val (.int .i64 0),.val (.int .i64 0),.val (.int .i64 0),.sym thick,.tok 0,.sym semi,.sym hole,.val (.int .i64 0),.val (.int .i64 0),.val (.int .i64 0),.val (.int .i64 0),.val (.int .i64 0),.tok 1] [.val (.int .i64 2),.sym curv,.sym conic,.sym curvx,.sym conicx,.val (.int .i64 0),.val (.int .i64 0),.val (.int .i64 0),.val (.int .i64 0),.val (.int .i64 0),.val (.int .i64 0),.val (.int .i64 0),.sym thick,.tok 0,.sym semi,.sym hole,.val (.int .i64 0),.val (.int .i64 0),.val (.int .i64 0),.val (.int .i64 0),.val (.int .i64 0),.tok 1] _ _ (λw=>Zk) rfl rfl w).mono ?_;rintro e w' ⟨rfl,hb⟩;exact⟨⟨_,_,rfl,.inr ⟨rfl,rfl⟩⟩,hb⟩
 ·simp[Srf.kept]at hk
  obtain⟨rfl,rfl,rfl,rfl,rfl,rfl,rfl,rfl,rfl,rfl,rfl,rfl,rfl,rfl,rfl⟩:=hk;refine(Zgf (D:=qDen (kK {data:=#[]} p 0 c) (kK1 _ _ _ _)) (d:=9) Zdt [.val (.int .i64 3),.val (.int .i64 0),.val (.int .i64 0),.val (.int .i64 0),.val (.int .i64 0),.val (.int .i64 0),.val (.int .i64 0),.val (.int .i64 0),.val (.int .i64 0),.val (.int .i64 0),.val (.int .i64 0),.val (.int .i64 0),.sym thick,.val (.string {data:=#[]}),.val (.int .i64 0),.val (.int .i64 0),.sym dx,.sym dy,.sym ax,.sym ay,.sym az,.tok 1] [.val (.int .i64 3),.val (.int .i64 0),.val (.int .i64 0),.val (.int .i64 0),.val (.int .i64 0),.val (.int .i64 0),.val (.int .i64 0),.val (.int .i64 0),.val (.int .i64 0),.val (.int .i64 0),.val (.int .i64 0),.val (.int .i64 0),.sym thick,.val (.string {data:=#[]}),.val (.int .i64 0),.val (.int .i64 0),.sym dx,.sym dy,.sym ax,.sym ay,.sym az,.val (.slice none 0 0)] _ _ (λw=>Zk) rfl rfl w).mono ?_;rintro e w' ⟨rfl,hb⟩;exact⟨⟨_,_,rfl,.inl rfl⟩,hb⟩
 ·simp[Srf.kept]at hk
  obtain⟨rfl,rfl,rfl,rfl,rfl,rfl,rfl,rfl,rfl,rfl,rfl,rfl,rfl,rfl,rfl,rfl,rfl⟩:=hk;refine(Zgf (D:=qDen (kK {data:=#[]} p 0 c) (kK1 _ _ _ _)) (d:=9) Zdt [.val (.int .i64 4),.sym curv,.val (.int .i64 0),.val (.int .i64 0),.val (.int .i64 0),.val (.int .i64 0),.val (.int .i64 0),.val (.int .i64 0),.val (.int .i64 0),.val (.int .i64 0),.val (.int .i64 0),.val (.int .i64 0),.sym thick,.val (.string {data:=#[]}),.sym semi,.sym hole,.val (.int .i64 0),.val (.int .i64 0),.val (.int .i64 0),.val (.int .i64 0),.val (.int .i64 0),.tok 1] [.val (.int .i64 4),.sym curv,.val (.int .i64 0),.val (.int .i64 0),.val (.int .i64 0),.val (.int .i64 0),.val (.int .i64 0),.val (.int .i64 0),.val (.int .i64 0),.val (.int .i64 0),.val (.int .i64 0),.val (.int .i64 0),.sym thick,.val (.string {data:=#[]}),.sym semi,.sym hole,.val (.int .i64 0),.val (.int .i64 0),.val (.int .i64 0),.val (.int .i64 0),.val (.int .i64 0),.val (.slice none 0 0)] _ _ (λw=>Zk) rfl rfl w).mono ?_;rintro e w' ⟨rfl,hb⟩;exact⟨⟨_,_,rfl,.inl rfl⟩,hb⟩
theorem Zn5 (s:Srf) (p:Option Addr) (c:Nat) (w:World):Calls Tryz.prog 312 #[.agg (s.cs p c)] w λe w'=>e=.returned (.agg s.flds)∧Below w.heap.size w w':=
 Zpd s.kind s.curv s.conic s.curvx s.conicx s.a0 s.a1 s.a2 s.a3 s.p0 s.p1 s.order s.thick s.semi s.hole s.dx s.dy s.ax s.ay s.az s.glass (s.cs p c) rfl rfl rfl rfl rfl rfl rfl rfl rfl rfl rfl rfl rfl rfl rfl rfl rfl rfl rfl rfl rfl w
end
theorem Zmi (z:Int) (h1:10000000<=z) (h2:z<=40000000) (w:World) :
  Calls Tryz.prog 202 #[.int .i64 z] w λe w'=>e=.returned (.bool true)∧w'=w:=by
 go_enter Tryz.func202,Tryz.ntmps202
 go_wp2
 go_ret
 exact⟨rfl,rfl⟩
theorem Zui (n:Nat) (p:Option Addr) (c:Nat) (f:Nat->Int) (w:World) (h:RdF w p n c f) (hf:∀i,i<n->10000000<=f i∧f i<=40000000) :
  Calls Tryz.prog 204 #[.slice p n c,.func (.func 202) #[] #[]] w λe w'=>e=.returned (.bool true)∧w'=w:=by
 obtain⟨hc1,hn1,hx1⟩:=h;go_enter Tryz.func204,Tryz.ntmps204
 go_wp2
 go_loopw [9] (λa wr=>∃k:Nat,k<=n∧a=.int .i64 (k:Int)∧wr=w) (λa _=>(n-intOf a).toNat)
 case atStart=>exact⟨0,Yat _,rfl,rfl⟩
 case round=>
  obtain⟨k,hk,rfl,rfl⟩:=hrel;by_cases h0:k<n
  ·obtain⟨b,off,rfl,hb,hcell⟩:=hx1 Zo
   have a1:=hcell k Zo;obtain⟨f1,f2⟩:=hf k h0;clear hcell hx1 hf;have h0':(k:Int)<n:=Zo;go_wp2_with (go_at_call 202;refine(Zmi _ f1 f2 _).mono ?_;rintro e w' ⟨rfl,rfl⟩)
   go_roundw
   case rel=>refine⟨k+1,Zo,?_⟩;simp
   case measure=>simp[intOf];omega
  ·obtain rfl:k=n:=by omega
   go_wp2
   go_ret
   exact⟨rfl,rfl⟩
theorem Zmj (p q:Option Addr) (n c1 c2:Nat) (F G:Nat->Flm) (w:World) (h1:FilmsAt w p n c1 F) (h2:FilmsAt w q n c2 G) (he:∀i,i<n->F i=G i) :
  Calls Tryz.prog 313 #[.slice p n c1,.slice q n c2] w λe w'=>e=.returned (.bool true)∧∃k,w'=w.drewN k:=by
 have hnn:=h1.2.1;replace he:=Yah he;go_enter Tryz.func313,Tryz.ntmps313
 go_wp2
 go_loopw [13] (λa wr=>∃j:Nat,j<=n∧a=.int .i64 (j:Int)∧∃k,wr=w.drewN k) (λa _=>(n-intOf a).toNat)
 case atStart=>exact⟨0,Yat _,rfl,0,rfl⟩
 case round=>
  obtain⟨j,hj,rfl,k,rfl⟩:=hrel;have hB:Below w.heap.size w (w.drewN k):=below_drewN (Yae _ _) k;by_cases hjn:j<n
  ·obtain⟨b,off,rfl,hb,g1⟩:=h1.2.2 Zo
   obtain⟨b',off',rfl,hb',g2⟩:=h2.2.2 Zo;have a0:=g1 j 0 hjn Zd;have a1:=g1 j 1 hjn Zd;have a2:=g1 j 2 hjn Zd;have b0:=g2 j 0 hjn Zd;have b1:=g2 j 1 hjn Zd;have b2:=g2 j 2 hjn Zd;dsimp only at a0 a1 a2 b0 b1 b2;rw[<-he.out j hjn]at b0 b1 b2;simp only[show ∀f:Flm,f.vals = #[.int .i64 f.ix,.int .i64 f.p,.int .i64 f.q] from λ_=>rfl,Yce]at a0 a1 a2 b0 b1 b2;have hj':(j:Int)<n:=Zo;generalize (F j).ix=v0 at *;generalize (F j).p=v1 at *;generalize (F j).q=v2 at *;clear g1 g2 hB h1 h2;go_wp2
   go_quiet (fail)
   go_wp2
   go_roundw
   case rel=>exact⟨j+1,Zo,Zs,_,rfl⟩
   case measure=>simp[intOf];omega
  ·obtain rfl:j=n:=by omega
   clear h1 h2;go_wp2
   go_ret
   exact⟨rfl,k,rfl⟩
theorem Zk5:∀args w,(callFunc 312 args).run Tryz.prog w=.ok (.enter 312 args) w:=Go.Proofs.enters_of Tryz.func312 Zk rfl
theorem Zpf (A C FL:Array Value) (hA:A.size=22) (hC:C.size=22) (p p':Option Addr) (nf c c':Nat) (a21:A[21]? = some (.slice p nf c)) (c21:C[21]? = some (.slice p' nf c'))
  (hca:∀W,Calls Tryz.prog 312 #[.agg A] W λe w'=>e=.returned (.agg FL)∧Below W.heap.size W w') (hcc:∀W,Calls Tryz.prog 312 #[.agg C] W λe w'=>e=.returned (.agg FL)∧Below W.heap.size W w')
  (heq:∀w,(binOp .eql 340 (.agg FL) (.agg FL)).run Tryz.prog w=.ok (.bool true) w) (w:World)
  (heqf:∀W,Below w.heap.size w W->Calls Tryz.prog 313 #[.slice p nf c,.slice p' nf c'] W λe w'=>e=.returned (.bool true)∧Below W.heap.size W w') :
  Calls Tryz.prog 294 #[.agg A,.agg C] w λe w'=>e=.returned (.bool true)∧Below w.heap.size w w':=by
 have hsz:(Tryz.prog.info? 160).map (·.size)=some 22:=Zk;have eg:=Zk5;go_enter Tryz.func294,Tryz.ntmps294
 go_wp2_with fail
 refine Zem λW hB hs b0 b1=>?_;have f0:W.cell? ⟨w.heap.size,21,none⟩=some (.slice p nf c):=(b0.cell 21).trans a21;have f1:W.cell? ⟨w.heap.size+1,21,none⟩=some (.slice p' nf c'):=(b1.cell 21).trans c21;have lb0:=b0.lt;have lb1:=b1.lt;have sA:(Tryz.prog.info? 160).map (·.size)=some A.size:=by rw[hsz,hA]
 have sC:(Tryz.prog.info? 160).map (·.size)=some C.size:=by rw[hsz,hC]
 clear hA hC hsz a21 c21;refine wp_region_held_drew (S:=λw'=>(∀b o,b<W.heap.size->w'.cell? ⟨b,o,none⟩=W.cell? ⟨b,o,none⟩)∧Below W.heap.size W w') Zk (Za2 (Yae _ _).drew) (λhHeld=>?_);refine tk 0 (some 6) ?_;refine tk 3 (some 9) ?_;refine tl 1 (some 7) rfl (.agg A) (Zaj 160 _ rfl w.heap.size 0 rfl A (λw h=>(b0.below h.2).range) _ Tryz.underlying160 rfl sA) ?_;refine tl 4 (some 10) rfl (.agg C) (Zaj 160 _ rfl (w.heap.size+1) 0 rfl C (λw h=>(b1.below h.2).range) _ Tryz.underlying160 rfl sC) ?_;refine Mono.st 2 ?_;intro K hK;go_simp
 (refine(hca _).mono ?_;rintro e W1 ⟨rfl,hb⟩)
 refine kp hK (Za2 (Zaa hHeld.2 hb)) (λhHeld=>?_);clear hK K;clear hb;refine Mono.st 5 ?_;intro K hK;go_simp
 (refine(hcc _).mono ?_;rintro e W2 ⟨rfl,hb⟩)
 refine kp hK (Za2 (Zaa hHeld.2 hb)) (λhHeld=>?_);clear hK K;clear hb;refine tk 6 (some 12) ?_;refine tk 7 (some 13) ?_;refine tk 8 (some 14) ?_;refine tk 9 (some 15) ?_;refine tk 10 (some 16) ?_;refine tk 11 (some 17) ?_;refine Mono.st 12 ?_;intro K hK;go_simp
 (refine(heqf _ (Zaa hB hHeld.2)).mono ?_;rintro e W3 ⟨rfl,hb⟩)
 refine kp hK (Za2 (Zaa hHeld.2 hb)) (λhHeld=>?_);clear hK K;refine tk 13 (some 19) ?_;refine tk 14 (some 4) ?_;refine wpAnyH_done Zk ?_ _;go_wp2
 go_ret
 exact⟨rfl,Zaa hB hHeld.2⟩
theorem Zwl (s:Srf) (hs:s.ok) (p p':Option Addr) (c c':Nat) (w:World) (h1:CoatAt w p c s.co) (h2:CoatAt w p' c' s.co) :
  Calls Tryz.prog 294 #[.agg (s.cs p c),.agg (s.cs p' c')] w λe w'=>e=.returned (.bool true)∧Below w.heap.size w w':=
 Zpf (s.cs p c) (s.cs p' c') s.flds rfl rfl p p' s.co.length c c' rfl rfl (λW=>Zn5 s p c W) (λW=>Zn5 s p' c' W) (Zuk s hs) w λW hW=>by
  refine(Zmj p p' s.co.length c c' _ _ W (h1.below hW) (h2.below hW) λ_ _=>rfl).mono ?_;rintro e w' ⟨rfl,k,rfl⟩;exact⟨rfl,below_drewN (Yae _ _) k⟩
end Go.Proofs.W
namespace Go.Mono
open Go.RowKit
instance (m z:Int):Decidable (In m z):=inferInstanceAs (Decidable (_∧_))
instance (z:Int):Decidable (isLetter z):=inferInstanceAs (Decidable (_∨_))
instance (s:ByteArray):Decidable (NameOk s):=inferInstanceAs (Decidable (_∧_∧_))
structure Lns where
 nm:ByteArray
 di:Int
 pu:Int
 st:Int
 pr:Int
 nf:Nat
 X:Nat->Int
 Y:Nat->Int
 nw:Nat
 L:Nat->Int
 W:Nat->Int
 ns:Nat
 S:Nat->Srf
 ix:Nat->Nat->Int
structure Plc where
 pf:Option Addr
 cf:Nat
 pw:Option Addr
 cw:Nat
 ps:Option Addr
 cs:Nat
 pc:Option Addr
 cc:Nat
 cp:Nat->Option Addr
 cl:Nat->Nat
 pi:Option Addr
 ci:Nat
 pI:Nat->Option Addr
 cI:Nat->Nat
def Lns.lvals (a:Lns) (q:Plc):Array Value:=
 #[.string a.nm,.int .i64 a.di,.int .i64 a.pu,.int .i64 a.st,.int .i64 a.pr,.slice q.pf a.nf q.cf,.slice q.pw a.nw q.cw,.slice q.ps a.ns q.cs,.slice q.pc 0 q.cc]
def Lns.ovals (a:Lns) (q:Plc):Array Value:=
 #[.string a.nm,.int .i64 a.di,.int .i64 a.pu,.int .i64 a.st,.int .i64 a.pr,.slice q.pf a.nf q.cf,.slice q.pw a.nw q.cw,.slice q.ps a.ns q.cs,.slice q.pc 0 q.cc,.slice q.pi a.ns q.ci]
structure LnsAt (w:World) (a:Lns) (q:Plc):Prop where
 fields:RdC w q.pf a.nf q.cf 2 (λi j=>if j=0 then .int .i64 (a.X i) else .int .i64 (a.Y i))
 waves:RdC w q.pw a.nw q.cw 2 (λi j=>if j=0 then .int .i64 (a.L i) else .int .i64 (a.W i))
 surfs:RdC w q.ps a.ns q.cs 22 (λi j=>((a.S i).cs (q.cp i) (q.cl i)).getD j undef)
 coat:∀i,i<a.ns->CoatAt w (q.cp i) (q.cl i) (a.S i).co
theorem LnsAt.below {w w':World} {a:Lns} {q:Plc} (h:LnsAt w a q) (hB:Below w.heap.size w w'):LnsAt w' a q:=⟨h.fields.below hB,h.waves.below hB,h.surfs.below hB,λi hi=>(h.coat i hi).below hB⟩
structure OptAt (w:World) (a:Lns) (q:Plc):Prop extends LnsAt w a q where
 index:RdC w q.pi a.ns q.ci 1 (λi _=>.slice (q.pI i) a.nw (q.cI i))
 row:∀i,i<a.ns->RdF w (q.pI i) a.nw (q.cI i) (a.ix i)
theorem OptAt.below {w w':World} {a:Lns} {q:Plc} (h:OptAt w a q) (hB:Below w.heap.size w w'):OptAt w' a q:=⟨h.toLnsAt.below hB,h.index.below hB,λi hi=>(h.row i hi).below hB⟩
structure Lns.ok (a:Lns):Prop where
 name:NameOk a.nm
 di:0<=a.di∧a.di<=1000000000
 pu:1<=a.pu∧a.pu<=1000000000
 nf:1<=a.nf∧a.nf<=5
 fr:∀i,i<a.nf->In (if a.di=0 then 1000000 else 1000000000) (a.X i)∧In (if a.di=0 then 1000000 else 1000000000) (a.Y i)
 fd:∀i k,k<i->i<a.nf->¬(a.X i=a.X k∧a.Y i=a.Y k)
 nw:1<=a.nw∧a.nw<=5
 pr:0<=a.pr∧a.pr<=a.nw-1
 wl:∀i,i<a.nw->300000<=a.L i∧a.L i<=2500000
 wm:∀i,i+1<a.nw->a.L i<a.L (i+1)
 ww:∀i,i<a.nw->1<=a.W i∧a.W i<=100
 ns:2<=a.ns∧a.ns<=16
 st:0<=a.st∧a.st<=a.ns-2
 sok:∀i,i<a.ns->(a.S i).ok
 image:(a.S (a.ns-1)).kind=1∧(a.S (a.ns-1)).glass = {data:=#[]}∧(a.S (a.ns-1)).thick=0∧(a.S (a.ns-1)).order=0∧(a.S (a.ns-1)).co=[]
 stop:(a.S a.st.toNat).kind≠3
def Lns.through (a:Lns) (i:Nat):Prop:=(a.S i).glass=mirror∨(a.S i).kind=3∨(a.S i).kind=4∨i+1=a.ns
def Lns.ahead (a:Lns) (i j:Nat):Int:=if i=0 then 10000000 else a.ix (i-1) j
structure Lns.opt (a:Lns):Prop where
 base:Lns.ok a
 ir:∀i j,i<a.ns->j<a.nw->10000000<=a.ix i j∧a.ix i j<=40000000
 it:∀i j,i<a.ns->a.through i->j<a.nw->a.ix i j=a.ahead i j
 ia:∀i j,i<a.ns->¬a.through i->(a.S i).glass = {data:=#[]}->j<a.nw->a.ix i j=10000000
section
section
variable {P:Program} {ops:Array Oper} {rest:List Oper} {o:Oper} {a:Act} {Q:Exit->Act->World->Prop}
end
end
end Go.Mono
namespace Go.Proofs.W
open Go.RowKit Go.Mono

end Go.Proofs.W
