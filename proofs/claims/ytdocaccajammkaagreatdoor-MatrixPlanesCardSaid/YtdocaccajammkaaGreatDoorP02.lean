/- The law MatrixPlanes: its walk and its card. Part 2 of 4. No condition beside the row. -/
import Derived.Test.YtdocaccajammkaaGreatDoorA28
set_option linter.unusedVariables false
set_option linter.unusedSimpArgs false
set_option maxRecDepth 100000
set_option maxHeartbeats 4000000
namespace Go.Proofs.W
open Go.RowKit Go.Mono
section
open Go.Ex
set_option maxRecDepth 100000
def bkMpl (a:Lns) (q:Plc) (ns:Nat):List (Nat×Blk):=[(0,optBN a q ns 1),(1,srfB a q ns)]
def tmMpl (k:Int):List (Nat×SV):=[(5,.a (.one (.ptr 0 0))),(6,.a (.one (.sym k)))]
noncomputable def cdMpl:Code:=codeR (codeR (codeR (codeR (Tryz.f3.body.getD .skip))))
section
variable {a:Lns} (ha:a.opt) {ns m:Nat} (hns:a.ns=ns) (h6:2<=ns∧ns<=6) {w0:World} (q:Plc) (ho:OptAt w0 a q) (hp:PowsAt w0 m) (k:Int)
noncomputable def runMpl (orc:List (Option Bool)):Option (Ot×List DF×Option SV×List Prop):=
 (evC Tryz.prog ⟨evF Tryz.prog (spMx ha hns h6 ho hp) [] 24,fctRun ([]:List (Fct DO Tryz.prog w0 (λ_=>False)))⟩ [] 179 FU false cdMpl ⟨tmMpl k,bkMpl a q ns,2,2,orc,[]⟩).map (λr=>(r.1,r.2.1.df,r.2.1.tm.look 4,r.2.2))
def yes (L:List Prop):Option (Ot×List DF×Option SV×List Prop):=some (.ret,[],some (.a (.one (.val (.bool true)))),L)
def oF:Option Bool:=some false
def oT:Option Bool:=some true
def orcMplA:List (Option Bool):=[oF,oF,oT,oF,oF,oT]
def orcMplB:List (Option Bool):=[oF,oF,oF,oT,oT,oF,oF,oF,oF,oF,oT,oT,oT]
noncomputable def mplA:Prop:=runMpl ha hns h6 q ho hp k orcMplA=yes (obMplA a q ns 1 k (ns-2) (a.sysM k.toNat 0 (ns-2)))
noncomputable def mplB:Prop:=runMpl ha hns h6 q ho hp k orcMplB=yes (obMplB a q ns 1 k (ns-2) (a.sysM k.toNat 0 (ns-2)) (a.nI k.toNat (ns-2)))
end
section
variable {a:Lns} (ha:a.opt) {m:Nat} {w0:World} (q:Plc) (ho:OptAt w0 a q) (hp:PowsAt w0 m) (k:Int)
theorem Zyr:∀{ns:Nat} (hns:a.ns=ns) (h6:2<=ns∧ns<=6),mplA ha hns h6 q ho hp k
 | 0,_,h=>absurd h.1 Zd
 | 1,_,h=>absurd h.1 Zd
 | 2,hns,h6=>by unfold mplA;kernel_rfl
 | 3,hns,h6=>by unfold mplA;kernel_rfl
 | 4,hns,h6=>by unfold mplA;kernel_rfl
 | 5,hns,h6=>by unfold mplA;kernel_rfl
 | 6,hns,h6=>by unfold mplA;kernel_rfl
 | n+7,_,h=>absurd h.2 Zo
theorem Zys:∀{ns:Nat} (hns:a.ns=ns) (h6:2<=ns∧ns<=6),mplB ha hns h6 q ho hp k
 | 0,_,h=>absurd h.1 Zd
 | 1,_,h=>absurd h.1 Zd
 | 2,hns,h6=>by unfold mplB;kernel_rfl
 | 3,hns,h6=>by unfold mplB;kernel_rfl
 | 4,hns,h6=>by unfold mplB;kernel_rfl
 | 5,hns,h6=>by unfold mplB;kernel_rfl
 | 6,hns,h6=>by unfold mplB;kernel_rfl
 | n+7,_,h=>absurd h.2 Zo
end
theorem Zym {M:M22} {b c D k:Nat} (h:M.Ov (10 ^ b) D) (hD:D<=10 ^ c) (h1:b<=k) (h2:c<=k):Hs k M.a∧Hs k M.b∧Hs k M.c∧Hs k M.d:=
 have e1:=Zcn h1;have e2:=Yak hD (Zcn h2)
 ⟨Hs.of_ov h.a e1 e2,Hs.of_ov h.b e1 e2,Hs.of_ov h.c e1 e2,Hs.of_ov h.d e1 e2⟩
theorem Zxm {a:Lns} (ha:a.opt) {ns m:Nat} (hns:a.ns=ns) (h6:2<=ns∧ns<=6) {w0:World} (q:Plc) (ho:OptAt w0 a q) (hp:PowsAt w0 m) (k:Int) (hk:0<=k∧k<a.nw) :
  ∃orc V L,runMpl ha hns h6 q ho hp k orc=some (.ret,[],some V,L)∧AllP L∧V=.a (.one (.val (.bool true))):=by
 obtain⟨D,h1,h2⟩:=ha.sysM_ov (k:=k.toNat) Zo (i:=0) (ns-2) Zo;obtain⟨g1,g2,g3,g4⟩:=Zym (k:=400) h2 h1 Zo Zo;by_cases hc:(a.sysM k.toNat 0 (ns-2)).c=0
 ·exact⟨_,_,_,Zyr ha q ho hp k hns h6,Zsh hk Zo hc,rfl⟩
 ·exact⟨_,_,_,Zys ha q ho hp k hns h6,Zsj hk Zo hc (a.sysM_det _ _ _) (Yab _) g1 g2 g3 g4 (Hs.of_ov (ha.nI_ov Zo Zo) Zd Zd),rfl⟩
end
end Go.Proofs.W
