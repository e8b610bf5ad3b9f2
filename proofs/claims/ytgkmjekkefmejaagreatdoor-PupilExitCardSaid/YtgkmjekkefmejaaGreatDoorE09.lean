/- The law PupilExit: the chief ray meets the center of the exit pupil,the marginal ray its edge;its contracts,its walk and its card. Part 9 of 11. No condition beside the row. -/
import Derived.Test.YtgkmjekkefmejaaGreatDoorE02
import Derived.Test.YtgkmjekkefmejaaGreatDoorE08
set_option linter.unusedVariables false
set_option linter.unusedSimpArgs false
set_option maxRecDepth 100000
set_option maxHeartbeats 4000000
namespace Go.Proofs.W
open Go.RowKit Go.Mono
section
open Go.Ex
set_option maxRecDepth 100000
def bkPst (a:Lns) (q:Plc) (ns:Nat):List (Nat×Blk):=[(0,optBN a q ns 1),(1,srfB a q ns)]
section
variable {a:Lns} (ha:a.opt) {ns m:Nat} (hns:a.ns=ns) (h6:2<=ns∧ns<=6) {w0:World} (q:Plc) (ho:OptAt w0 a q) (hp:PowsAt w0 m) (f:Int)
end
section
variable {a:Lns} (ha:a.opt) {m:Nat} {w0:World} (q:Plc) (ho:OptAt w0 a q) (hp:PowsAt w0 m) (f:Int)
end
end
end Go.Proofs.W
namespace Go.Mono
def Lns.preR (a:Lns) (k:Nat) (r:Rat×Rat):Nat->Rat×Rat
 | 0=>r
 | s+1=>(a.gapM k s).app (a.tr k r.1 r.2 (s+1))
theorem Lns.pre_fst (a:Lns) (k:Nat) (r:Rat×Rat):∀s,(a.preR k r s).1=(a.ahM k s).a*r.1+(a.ahM k s).b*r.2
 | 0 => by
   unfold preR ahM M22.one;rw[Zsv,Zit];grind
 | s + 1 => by
   show((a.gapM k s).app (a.tr k r.1 r.2 (s+1))).1=((a.gapM k s).mul (a.sysM k 0 s)).a*r.1+((a.gapM k s).mul (a.sysM k 0 s)).b*r.2;rw[<-a.sysM_tr k r.1 r.2 s,<-M22.app_mul];rfl
theorem Lns.sysM_pre (a:Lns) (k:Nat) (r:Rat×Rat) (s:Nat):∀L,(a.sysM k s L).app (a.preR k r s)=a.tr k r.1 r.2 (s+L+1)
 | 0 => by
   rw[a.sysM_0,Yce,a.tr_stp k r.1 r.2 s];cases s with
   | zero =>
     unfold surM M22.app Lns.stp preR Lns.tr;rw[Zsv,Zit];dsimp only;rw[if_pos rfl];congr 1<;>grind
   | succ s =>
     show(a.surM k (s+1)).app ((a.gapM k s).app (a.tr k r.1 r.2 (s+1)))=a.stp k (s+1) (a.tr k r.1 r.2 (s+1));generalize a.tr k r.1 r.2 (s+1)=t;unfold surM gapM M22.app Lns.stp;rw[Zsv,Zit,if_neg (Nat.succ_ne_zero s),Ybf,Yga];simp only[Yew];generalize a.pow k (s+1)=p;generalize (a.nI k s)⁻¹=n;generalize Rat.divInt (a.S s).thick 1000000=g;congr 1<;>grind
 | L + 1 => by
   rw[a.sysM_s,M22.app_mul,M22.app_mul,a.sysM_pre k r s L,show s+(L+1)+1=(s+L+1)+1 by omega,a.tr_stp k r.1 r.2 (s+L+1)];generalize a.tr k r.1 r.2 (s+L+1)=t;unfold surM gapM M22.app Lns.stp;rw[Zsv,Zit,if_neg (Nat.succ_ne_zero _),Ybf,Yga];simp only[Yew];generalize a.pow k (s+L+1)=p;generalize (a.nI k (s+L))⁻¹=n;generalize Rat.divInt (a.S (s+L)).thick 1000000=g;congr 1<;>grind
def Lns.stM (a:Lns):M22:=a.sysM a.pr.toNat a.st.toNat (a.ns-2-a.st.toNat)
def Lns.lastN (a:Lns):Rat:=a.nI a.pr.toNat (a.ns-2)
def Lns.lastT (a:Lns):Rat:=Rat.divInt (a.S (a.ns-2)).thick 1000000
def Lns.exZ (a:Lns):Rat:=-(a.lastN*a.stM.b/a.stM.d)-a.lastT
def Lns.meet (a:Lns) (r:Rat×Rat):Rat:=(a.tr a.pr.toNat r.1 r.2 a.ns).1+(a.tr a.pr.toNat r.1 r.2 (a.ns-1)).2/a.lastN*a.exZ
theorem Lns.opt.meet_eq {a:Lns} (ha:a.opt) (hd:a.stM.d≠0) (r:Rat×Rat):a.meet r=(a.preR a.pr.toNat r a.st.toNat).1/a.stM.d:=by
 have hst:=ha.st_lt;have hns:=ha.base.ns.1;have e1:=a.sysM_pre a.pr.toNat r a.st.toNat (a.ns-2-a.st.toNat);rw[show a.st.toNat+(a.ns-2-a.st.toNat)+1=a.ns-1 by omega]at e1;have hn:a.lastN≠0:=λh=>ha.nI_num (k:=a.pr.toNat) (s:=a.ns-2) Zo ha.pr_lt (Rat.num_eq_zero.2 h);have hdet:a.stM.det=1:=a.sysM_det _ _ _;have e2:(a.tr a.pr.toNat r.1 r.2 a.ns).1=(a.tr a.pr.toNat r.1 r.2 (a.ns-1)).1+(a.lastT*(a.tr a.pr.toNat r.1 r.2 (a.ns-1)).2)/a.lastN:=by
  obtain⟨n,hn'⟩:∃n,a.ns=n+2:=⟨a.ns-2,Zo⟩
  have e:=a.tr_stp a.pr.toNat r.1 r.2 (n+1);rw[hn',e];unfold Lns.stp Lns.lastT Lns.lastN;rw[hn',if_neg (Nat.succ_ne_zero n),Yga];rfl
 unfold Lns.meet Lns.exZ;rw[e2,<-e1];show((a.stM).app _).1+_+_=_;change _+(a.lastT*((a.stM).app _).2)/_+((a.stM).app _).2/_*_=_;unfold M22.det at hdet;unfold M22.app;generalize a.preR a.pr.toNat r a.st.toNat=t;generalize a.stM=M at *;generalize a.lastT=g;generalize a.lastN=n at *;simp only[Yew];have h1:=Rat.mul_inv_cancel _ hd;have h2:=Rat.mul_inv_cancel _ hn;generalize M.d⁻¹=i at *;generalize n⁻¹=j at *;grind
end Go.Mono
namespace Go.Proofs.W
open Go.RowKit Go.Mono
section
open Go.Ex
section
variable (a:Lns) (q:Plc) (ns kb:Nat) (f:Int) (near:Bool)
def exN:Rat:=a.nI a.pr.toNat (ns-2)
def exM:M22:=a.sysM a.pr.toNat a.st.toNat (((ns-2:Nat):Int)-a.st).toNat
def exT:Rat:=Rat.divInt (a.S (ns-2)).thick 1000000
def exP:Rat:=-(exN a ns*(exM a ns).b/(exM a ns).d)-exT a ns
def obExH (e1:Bool) (L:List Prop):List Prop:=obS0 a q ns kb (obWv a a.pr (obDi a near (obEz a q ns kb e1 L)))
def obExM (L:List Prop):List Prop:=obExH a q ns kb near false (obZ a (obS0 a q ns kb (obWv a a.pr ((decide (0<=a.st)=true)::(decide (a.st<=((ns-2:Nat):Int))=true)::obSm a q ns kb a.pr a.st ((ns-2:Nat):Int) (obIx a q ns kb a.pr (ns-2) (Fits (exN a ns*(exM a ns).b)::L))))))
def obExD (b:Bool) (L:List Prop):List Prop:=obOf 0 1 ((decide ((exM a ns).d=Rat.divInt 0 1)=b)::L)
def obExF (L:List Prop):List Prop:=obExM a q ns kb near (obExD a ns false (((exM a ns).d.num≠0)::Fits (exN a ns*(exM a ns).b/(exM a ns).d)::obS0 a q ns kb (obOf a.pu 2000000 (Fits (a.ahA*a.enR)::obExD a ns false (((exM a ns).d.num≠0)::Fits (a.ahA*a.enR/(exM a ns).d)::obOf (a.S (ns-2)).thick 1000000 (Fits (exP a ns)::L))))))
def exW (x:Rat×Rat):Rat:=(a.tr a.pr.toNat x.1 x.2 (ns-1)).2/exN a ns
def exA (x:Rat×Rat):Rat:=(a.tr a.pr.toNat x.1 x.2 ns).1+exW a ns x*exP a ns
def obMt (x:Rat×Rat) (L:List Prop):List Prop:=((exN a ns).num≠0)::Fits (exW a ns x)::Fits (exW a ns x*exP a ns)::Fits (exA a ns x)::L
def obPexA:List Prop:=obExH a q ns kb near true (obRays a q ns kb f near true false [])
def obPexB (e2:Bool):List Prop:=obExM a q ns kb near (obExD a ns true (obRays a q ns kb f near false e2 []))
def obPexC:List Prop:=obExF a q ns kb near (obRays a q ns kb f near false true [])
def obPexD:List Prop:=obExF a q ns kb near (obRays a q ns kb f near false false (obIx a q ns kb a.pr (ns-2) (obMt a ns (Lns.mar a near) (obMt a ns (Lns.chf a f.toNat near) (obOf 0 1 ((decide (exA a ns (Lns.chf a f.toNat near)=Rat.divInt 0 1)=true)::(decide (qabs (exA a ns (Lns.mar a near))=qabs (a.ahA*a.enR/(exM a ns).d))=true)::[]))))))
end
section
variable {a:Lns} (ha:a.opt) {ns:Nat} (hns:a.ns=ns) (h6:2<=ns∧ns<=6) {q:Plc} {kb:Nat} {f:Int} (hf:0<=f∧f<a.nf) {near:Bool}
include ha in
theorem Z1f:0<=a.pr∧a.pr<a.nw:=by have:=ha.base.pr;omega
include ha hns h6
theorem Z1o:exM a ns=a.stM:=by
 have:=ha.base.st;subst hns;unfold exM Lns.stM;rw[show(((a.ns-2:Nat):Int)-a.st).toNat=a.ns-2-a.st.toNat by omega]
theorem Z1a:Hs 400 (exM a ns).a∧Hs 400 (exM a ns).b∧Hs 400 (exM a ns).c∧Hs 400 (exM a ns).d:=by
 have:=ha.base.st;obtain⟨D,h1,h2⟩:=ha.sysM_ov ha.pr_lt (i:=a.st.toNat) (((ns-2:Nat):Int)-a.st).toNat Zo;have e1:=Zbs (show 20+37*(((ns-2:Nat):Int)-a.st).toNat<=400 by omega);have e2:=Yak h1 (Zbs (show 16+30*(((ns-2:Nat):Int)-a.st).toNat<=400 by omega));exact⟨Hs.of_ov h2.a e1 e2,Hs.of_ov h2.b e1 e2,Hs.of_ov h2.c e1 e2,Hs.of_ov h2.d e1 e2⟩
theorem Z1g:Hs 8 (exN a ns):=Hs.of_ov (ha.nI_ov Zo ha.pr_lt) Zd Zd
theorem Z1p:Hs 10 (exT a ns):=Hs.divInt _ _ Zd (by have:=(ha.base.sok (ns-2) Zo).thick;exact Zkj this.1 this.2) Zd
theorem Z1k:Hs 808 (exN a ns*(exM a ns).b/(exM a ns).d):=Hs.mono (((Z1g ha hns h6).mul (Z1a ha hns h6).2.1).div (Z1a ha hns h6).2.2.2) Zd
theorem Z1l:Hs 819 (exP a ns):=Hs.mono ((Z1k ha hns h6).neg.sub (Z1p ha hns h6)) Zd
theorem Z1q:Hs 610 (a.ahA*a.enR/(exM a ns).d):=(((ha.ah_hs Zo).1.mul ha.enR_hs).div (Z1a ha hns h6).2.2.2).mono Zd
omit hns h6 in
theorem Z1b {e1:Bool} (g0:decide (a.di>0)=near) (g1:decide (a.ahA=Rat.divInt 0 1)=e1) {L:List Prop} (hL:AllP L):AllP (obExH a q ns kb near e1 L):=Zcv (Zkk (Z1f ha) ⟨g0,Zh3 g1 hL⟩)
theorem Z1c (g0:decide (a.di>0)=near) (g1:decide (a.ahA=Rat.divInt 0 1)=false) {L:List Prop} (hL:AllP L):AllP (obExM a q ns kb near L):=by
 have hst:=ha.base.st;exact Z1b ha g0 g1 (Zua ha Zo g1 (Zcv (Zkk (Z1f ha) ⟨decide_eq_true Zo,decide_eq_true Zo,Zx3 (Z1f ha) ⟨Zo,Zo,Zo⟩ (Zm9 (Z1f ha) Zo ⟨((Z1g ha hns h6).mul (Z1a ha hns h6).2.1).fits Zd,hL⟩)⟩)))
theorem Z1d (g0:decide (a.di>0)=near) (g1:decide (a.ahA=Rat.divInt 0 1)=false) (g3:decide ((exM a ns).d=Rat.divInt 0 1)=false) {L:List Prop} (hL:AllP L):AllP (obExF a q ns kb near L):=by
 have ht:=Ze4 ha (s:=ns-2) Zo 1 (.inl rfl);rw[Yga]at ht;exact Z1c ha hns h6 g0 g1 (Zau okN ⟨g3,Zoy g3,(Z1k ha hns h6).fits Zd,Zcv (Zau (Zwh ha) ⟨((ha.ah_hs Zo).1.mul ha.enR_hs).fits Zd,Zau okN ⟨g3,Zoy g3,(Z1q ha hns h6).fits Zd,Zau ht ⟨(Z1l ha hns h6).fits Zd,hL⟩⟩⟩)⟩)
theorem Z1h {x:Rat×Rat} (hx:Hs 900 x.1∧Hs 900 x.2) {L:List Prop} (hL:AllP L):AllP (obMt a ns x L):=by
 obtain⟨D,hD,d1,d2⟩:=Hs.two hx.1 hx.2;have tr:∀s,s<=ns->Hs 2022 (a.tr a.pr.toNat x.1 x.2 s).1∧Hs 2022 (a.tr a.pr.toNat x.1 x.2 s).2:=λs hs=>by
  obtain⟨D',hD',t1,t2⟩:=ha.tr_ov ha.pr_lt hD d1 d2 s Zo;have e1:=Zbs (show 900+900+37*s<=2022 by omega);have e2:=Yak hD' (Zbs (show 900+900+30*s<=2022 by omega));exact⟨Hs.of_ov t1 e1 e2,Hs.of_ov t2 e1 e2⟩
 have hw:Hs 2030 (exW a ns x):=Hs.mono ((tr (ns-1) Zo).2.div (Z1g ha hns h6)) Zd;have hz:=hw.mul (Z1l ha hns h6);exact⟨ha.nI_num Zo ha.pr_lt,hw.fits Zd,hz.fits Zd,((tr ns (Yab _)).1.add hz).fits Zd,hL⟩
theorem Z1e (g3:decide ((exM a ns).d=Rat.divInt 0 1)=false) (x:Rat×Rat):exA a ns x=(a.ahA*x.1+a.ahB*x.2)/(exM a ns).d:=by
 have e:=Z1o ha hns h6;have hd:=Z0h g3;rw[e]at hd ⊢;have h:=ha.meet_eq hd x;rw[a.pre_fst]at h;refine Eq.trans ?_ h;subst hns;unfold exA exW exP exN exT Lns.meet Lns.exZ Lns.lastN Lns.lastT;rw[e]
include hf
omit hns h6 in
theorem Z08 (g0:decide (a.di>0)=near) (g1:decide (a.ahA=Rat.divInt 0 1)=true):AllP (obPexA a q ns kb f near):=Z1b ha g0 g1 (Z0c ha hf g0 g1 (λ_ h=>by cases h) trivial)
theorem Z07 {e2:Bool} (g0:decide (a.di>0)=near) (g1:decide (a.ahA=Rat.divInt 0 1)=false) (g2:near=true->false=false->decide (a.far+a.enZ=Rat.divInt 0 1)=e2) (g3:decide ((exM a ns).d=Rat.divInt 0 1)=true):AllP (obPexB a q ns kb f near e2):=Z1c ha hns h6 g0 g1 (Zau okN ⟨g3,Z0c ha hf g0 g1 g2 trivial⟩)
theorem Z1i (g0:decide (a.di>0)=near) (g1:decide (a.ahA=Rat.divInt 0 1)=false) (g2:near=true->false=false->decide (a.far+a.enZ=Rat.divInt 0 1)=true) (g3:decide ((exM a ns).d=Rat.divInt 0 1)=false):AllP (obPexC a q ns kb f near):=Z1d ha hns h6 g0 g1 g3 (Z0c ha hf g0 g1 g2 trivial)
theorem Z09 (g0:decide (a.di>0)=near) (g1:decide (a.ahA=Rat.divInt 0 1)=false) (g2:near=true->false=false->decide (a.far+a.enZ=Rat.divInt 0 1)=false) (g3:decide ((exM a ns).d=Rat.divInt 0 1)=false):AllP (obPexD a q ns kb f near):=by
 have h7:a.ns<=6:=Zo;have hA:=Z0h g1;have hI:=Rat.mul_inv_cancel _ hA;have hB:a.ahB=a.ahA*a.enZ:=by
  unfold Lns.enZ;rw[Yew];generalize a.ahA⁻¹=i at *;grind
 refine Z1d ha hns h6 g0 g1 g3 (Z0c ha hf g0 g1 g2 (Zm9 (Z1f ha) Zo (Z1h ha hns h6 (Zzt ha h7 near) (Z1h ha hns h6 (Zzu ha h7 near Zo) (Zau okN ⟨decide_eq_true ?_,decide_eq_true ?_,trivial⟩)))))
 ·have e:=Z0r (a:=a) (near:=near) f.toNat
  rw[Z1e ha hns h6 g3,hB,show a.ahA*(Lns.chf a f.toNat near).1+a.ahA*a.enZ*(Lns.chf a f.toNat near).2=a.ahA*((Lns.chf a f.toNat near).1+a.enZ*(Lns.chf a f.toNat near).2) by grind,e,Zit,Rat.mul_zero,Yew,Rat.zero_mul]
 ·have e:=Z0q (a:=a) (near:=near) g2
  rw[Z1e ha hns h6 g3,hB,show a.ahA*(Lns.mar a near).1+a.ahA*a.enZ*(Lns.mar a near).2=a.ahA*((Lns.mar a near).1+a.enZ*(Lns.mar a near).2) by grind,e]
end
end
end Go.Proofs.W
