/- The law MatrixTraces: its walk and its card. Part 2 of 4. No condition beside the row. -/
import Derived.Test.YtdocaccajammkaaGreatDoorA28
set_option linter.unusedVariables false
set_option linter.unusedSimpArgs false
set_option maxRecDepth 100000
set_option maxHeartbeats 4000000
namespace Go.Proofs.W
open Go.RowKit Go.Mono
section
open Go.Ex
def rayM (y u:Rat):M22:=⟨y,Rat.divInt 0 1,u,Rat.divInt 0 1⟩
section
variable (a:Lns) (q:Plc) (ns kb:Nat) (k:Int) (y u:Rat)
def obMtrL:Nat->Nat->List Prop
 | _,0=>[]
 | s,n+1=>obLk a q ns kb k (obSm a q ns kb k 0 (s:Int) (MFits (a.sysM k.toNat 0 s) (rayM y u)::(decide ((a.sysM k.toNat 0 s).a*y+(a.sysM k.toNat 0 s).b*u=(a.tr k.toNat y u (s+1)).1)=true)::(decide ((a.sysM k.toNat 0 s).c*y+(a.sysM k.toNat 0 s).d*u=(a.tr k.toNat y u (s+1)).2)=true)::obMtrL (s+1) n))
end
def obMtr (a:Lns) (q:Plc) (ns kb:Nat) (k n1 d1 n2 d2:Int):List Prop:=
 obNum n1 d1 (obNum n2 d2 (obS a q ns kb k (TrFits a k.toNat (nq n1 d1) (nq n2 d2)::obNum n1 d1 (obOf 0 1 (obNum n2 d2 (obOf 0 1 (obMtrL a q ns kb k (nq n1 d1) (nq n2 d2) 0 ns)))))))
def orcMtr:Nat->List (Option Bool)
 | 0=>[]
 | n+1=>some false::some false::some true::some true::orcMtr n
theorem Zyn {K:Nat} {y u:Rat} (hy:Hs K y) (hu:Hs K u):∃D,D<=10 ^ (K+K)∧(rayM y u).Ov (10 ^ (K+K)) D:=by
 obtain⟨D,h1,h2,h3⟩:=Hs.two hy hu;exact⟨D,h1,h2,Zfr _ _ h2.1,h3,Zfr _ _ h2.1⟩
section
variable {a:Lns} (ha:a.opt) {ns:Nat} (hns:a.ns=ns) (h6:ns<=6) {q:Plc} {kb:Nat} {k:Int} (hk:0<=k∧k<a.nw)
include ha hns h6 hk
theorem Zl4 {y u:Rat} (hy:Hs 5 y) (hu:Hs 5 u):∀n s,s+n=ns->AllP (obMtrL a q ns kb k y u s n)
 | 0,_,_=>by unfold obMtrL;trivial
 | n + 1, s, h => by
   obtain⟨D,h1,h2⟩:=ha.sysM_ov (k:=k.toNat) Zo (i:=0) s Zo;obtain⟨E,h3,h4⟩:=Zyn hy hu;have e:=a.sysM_tr k.toNat y u s;exact Zhj hk (Zmy hk ⟨Zo,Zo,Zo⟩ ⟨Zd6 1000 h2 h1 h4 h3 Zo Zo Zd,decide_eq_true (congrArg Prod.fst e),decide_eq_true (congrArg Prod.snd e),Zl4 hy hu n (s+1) Zo⟩)
theorem Zvl {n1 d1 n2 d2:Int} (h1:NumD n1 d1) (h2:NumD n2 d2):AllP (obMtr a q ns kb k n1 d1 n2 d2):=by
 have q1:=Zye h1.1 h1.2;have q2:=Zye h2.1 h2.2;exact Zgm h1 (Zgm h2 (Zdf hk ⟨Zsg ha Zo (K:=5) Zd q1 q2,Zgm h1 (Zbd okN (Zgm h2 (Zbd okN (Zl4 ha hns h6 hk q1 q2 ns 0 Zo))))⟩))
end
end
end Go.Proofs.W
