/- The law MatrixTraces: its walk and its card. Part 3 of 4. No condition beside the row. -/
import Derived.Test.YtdocaccajammkaaGreatDoorT02
set_option linter.unusedVariables false
set_option linter.unusedSimpArgs false
set_option maxRecDepth 100000
set_option maxHeartbeats 4000000
namespace Go.Proofs.W
open Go.RowKit Go.Mono
section
open Go.Ex
set_option maxRecDepth 100000
def bkMtr (a:Lns) (q:Plc) (ns:Nat) (n1 d1 n2 d2:Int):List (Nat×Blk):=[(0,numB n1 d1),(1,numB n2 d2),(2,optBN a q ns 3),(3,srfB a q ns)]
def tmMtr (k:Int):List (Nat×SV):=[(6,.a (.one (.ptr 0 0))),(7,.a (.one (.ptr 1 0))),(9,.a (.one (.ptr 2 0))),(10,.a (.one (.sym k)))]
noncomputable def cdMtr:Code:=codeR (codeR (codeR (codeR (Tryz.f5.body.getD .skip))))
section
variable {a:Lns} (ha:a.opt) {ns m:Nat} (hns:a.ns=ns) (h6:2<=ns∧ns<=6) {w0:World} (q:Plc) (ho:OptAt w0 a q) (hp:PowsAt w0 m) (k n1 d1 n2 d2:Int)
noncomputable def runMtr (orc:List (Option Bool)):Option (Ot×List DF×Option SV×List Prop):=
 (evC Tryz.prog ⟨evF Tryz.prog (spMx ha hns h6 ho hp) [] 24,fctRun ([]:List (Fct DO Tryz.prog w0 (λ_=>False)))⟩ [] 107 FU false cdMtr ⟨tmMtr k,bkMtr a q ns n1 d1 n2 d2,4,4,orc,[]⟩).map (λr=>(r.1,r.2.1.df,r.2.1.tm.look 8,r.2.2))
noncomputable def mtrP:Prop:=runMtr ha hns h6 q ho hp k n1 d1 n2 d2 (orcMtr ns)=some (.ret,[],some (.a (.one (.val (.bool true)))),obMtr a q ns 3 k n1 d1 n2 d2)
end
section
variable {a:Lns} (ha:a.opt) {m:Nat} {w0:World} (q:Plc) (ho:OptAt w0 a q) (hp:PowsAt w0 m) (k n1 d1 n2 d2:Int)
theorem Zyt:∀{ns:Nat} (hns:a.ns=ns) (h6:2<=ns∧ns<=6),mtrP ha hns h6 q ho hp k n1 d1 n2 d2
 | 0,_,h=>absurd h.1 Zd
 | 1,_,h=>absurd h.1 Zd
 | 2,hns,h6=>by unfold mtrP;kernel_rfl
 | 3,hns,h6=>by unfold mtrP;kernel_rfl
 | 4,hns,h6=>by unfold mtrP;kernel_rfl
 | 5,hns,h6=>by unfold mtrP;kernel_rfl
 | 6,hns,h6=>by unfold mtrP;kernel_rfl
 | n+7,_,h=>absurd h.2 Zo
end
theorem Zxn {a:Lns} (ha:a.opt) {ns m:Nat} (hns:a.ns=ns) (h6:2<=ns∧ns<=6) {w0:World} (q:Plc) (ho:OptAt w0 a q) (hp:PowsAt w0 m) (k:Int) (hk:0<=k∧k<a.nw) (n1 d1 n2 d2:Int) (h1:NumD n1 d1) (h2:NumD n2 d2) :
  ∃orc V L,runMtr ha hns h6 q ho hp k n1 d1 n2 d2 orc=some (.ret,[],some V,L)∧AllP L∧V=.a (.one (.val (.bool true))):=
 ⟨_,_,_,Zyt ha q ho hp k n1 d1 n2 d2 hns h6,Zvl ha hns h6.2 hk h1 h2,rfl⟩
end
end Go.Proofs.W
