/- The law PupilInvariant: the marginal and the chief ray have the Lagrange invariant at every surface;its contracts,its walk and its card. Part 9 of 11. No condition beside the row. -/
import Derived.Test.YtgkmjekkefmejaaGreatDoorI08
set_option linter.unusedVariables false
set_option linter.unusedSimpArgs false
set_option maxRecDepth 100000
set_option maxHeartbeats 4000000
namespace Go.Proofs.W
open Go.RowKit Go.Mono
section
open Go.Ex
set_option maxRecDepth 100000
noncomputable def spPu {a:Lns} (ha:a.opt) {ns m:Nat} (hns:a.ns=ns) (h6:2<=ns∧ns<=6) {w0:World} {q:Plc} (ho:OptAt w0 a q) (hp:PowsAt w0 m):List (Ctr DO Tryz.prog w0 (λ_=>False)):=cAhead hp (seesS ha q hns ho) h6 ha hns::cSla ha hns h6 hp (seesS ha q hns ho)::cOut ha hns h6 hp (seesS ha q hns ho)::spMx ha hns h6 ho hp
def bkPin (a:Lns) (q:Plc) (ns:Nat):List (Nat×Blk):=[(0,optBN a q ns 1),(1,srfB a q ns)]
def tmPin (k f:Int):List (Nat×SV):=[(11,.a (.one (.ptr 0 0))),(12,.a (.one (.sym k))),(13,.a (.one (.sym f)))]
noncomputable def cdPin:Code:=codeR (codeR (codeR (codeR (Tryz.f3.body.getD .skip))))
def wayP:Bool->Bool->Bool->List (Option Bool)->List (Option Bool)
 | false,e1,_,r=>some e1::r
 | true,true,_,r=>some true::r
 | true,false,e2,r=>some false::some e2::r
def trues:Nat->List (Option Bool)
 | 0=>[]
 | n+1=>some true::trues n
def pF:Option Bool:=some false
def orcPinO (near:Bool) (ns:Nat):List (Option Bool):=pF::pF::some near::wayP near false false (wayP near false false (pF::pF::some near::wayP near false false (pF::pF::pF::pF::some near::wayP near false false (trues ns))))
def orcPinE (near e1 e2:Bool):List (Option Bool):=pF::pF::some near::wayP near e1 e2 (pF::pF::some near::wayP near e1 e2 (pF::pF::pF::pF::some near::wayP near e1 e2 []))
section
variable {a:Lns} (ha:a.opt) {ns m:Nat} (hns:a.ns=ns) (h6:2<=ns∧ns<=6) {w0:World} (q:Plc) (ho:OptAt w0 a q) (hp:PowsAt w0 m) (k f:Int)
noncomputable def runPin (orc:List (Option Bool)):Option (Ot×List DF×Option SV×List Prop):=
 (evC Tryz.prog ⟨evF Tryz.prog (spPu ha hns h6 ho hp) [] 24,fctRun ([]:List (Fct DO Tryz.prog w0 (λ_=>False)))⟩ [] 101 FU false cdPin ⟨tmPin k f,bkPin a q ns,2,2,orc,[]⟩).map (λr=>(r.1,r.2.1.df,r.2.1.tm.look 10,r.2.2))
def yesP (L:List Prop):Option (Ot×List DF×Option SV×List Prop):=some (.ret,[],some (.a (.one (.val (.bool true)))),L)
noncomputable def pinO (near:Bool):Prop:=runPin ha hns h6 q ho hp k f (orcPinO near ns)=yesP (obPinO a q ns 1 k f near)
noncomputable def pinE (near e1 e2:Bool):Prop:=runPin ha hns h6 q ho hp k f (orcPinE near e1 e2)=yesP (obPinE a q ns 1 k f near e1 e2)
end
section
variable {a:Lns} (ha:a.opt) {m:Nat} {w0:World} (q:Plc) (ho:OptAt w0 a q) (hp:PowsAt w0 m) (k f:Int)
theorem Zz0:∀{ns:Nat} (hns:a.ns=ns) (h6:2<=ns∧ns<=6) (near:Bool),pinO ha hns h6 q ho hp k f near
 | 0,_,h,_=>absurd h.1 Zd
 | 1,_,h,_=>absurd h.1 Zd
 | 2,hns,h6,false=>by unfold pinO;kernel_rfl
 | 2,hns,h6,true=>by unfold pinO;kernel_rfl
 | 3,hns,h6,false=>by unfold pinO;kernel_rfl
 | 3,hns,h6,true=>by unfold pinO;kernel_rfl
 | 4,hns,h6,false=>by unfold pinO;kernel_rfl
 | 4,hns,h6,true=>by unfold pinO;kernel_rfl
 | 5,hns,h6,false=>by unfold pinO;kernel_rfl
 | 5,hns,h6,true=>by unfold pinO;kernel_rfl
 | 6,hns,h6,false=>by unfold pinO;kernel_rfl
 | 6,hns,h6,true=>by unfold pinO;kernel_rfl
 | n+7,_,h,_=>absurd h.2 Zo
theorem Zz1:∀{ns:Nat} (hns:a.ns=ns) (h6:2<=ns∧ns<=6),pinE ha hns h6 q ho hp k f false true false∧pinE ha hns h6 q ho hp k f true true false∧pinE ha hns h6 q ho hp k f true false true
 | 0,_,h=>absurd h.1 Zd
 | 1,_,h=>absurd h.1 Zd
 | 2,hns,h6=>⟨by unfold pinE;kernel_rfl,by unfold pinE;kernel_rfl,by unfold pinE;kernel_rfl⟩
 | 3,hns,h6=>⟨by unfold pinE;kernel_rfl,by unfold pinE;kernel_rfl,by unfold pinE;kernel_rfl⟩
 | 4,hns,h6=>⟨by unfold pinE;kernel_rfl,by unfold pinE;kernel_rfl,by unfold pinE;kernel_rfl⟩
 | 5,hns,h6=>⟨by unfold pinE;kernel_rfl,by unfold pinE;kernel_rfl,by unfold pinE;kernel_rfl⟩
 | 6,hns,h6=>⟨by unfold pinE;kernel_rfl,by unfold pinE;kernel_rfl,by unfold pinE;kernel_rfl⟩
 | n+7,_,h=>absurd h.2 Zo
end
theorem Zyo {a:Lns} (ha:a.opt) {ns m:Nat} (hns:a.ns=ns) (h6:2<=ns∧ns<=6) {w0:World} (q:Plc) (ho:OptAt w0 a q) (hp:PowsAt w0 m) (k f:Int) (hk:0<=k∧k<a.nw) (hf:0<=f∧f<a.nf) :
  ∃orc V L,runPin ha hns h6 q ho hp k f orc=some (.ret,[],some V,L)∧AllP L∧V=.a (.one (.val (.bool true))):=by
 obtain⟨p1,p2,p3⟩:=Zz1 ha q ho hp k f hns h6;have p0:=Zz0 ha q ho hp k f hns h6;cases g0:decide (a.di>0) with
 | false =>
   cases g1:decide (a.ahA=Rat.divInt 0 1) with
   | false=>exact⟨_,_,_,p0 false,Zmh ha hns h6 hk hf g0 g1 (λh=>by cases h),rfl⟩
   | true=>exact⟨_,_,_,p1,Zh4 ha hns h6 hk hf g0 g1 (λh=>by cases h),rfl⟩
 | true =>
   cases g1:decide (a.ahA=Rat.divInt 0 1) with
   | true=>exact⟨_,_,_,p2,Zh4 ha hns h6 hk hf g0 g1 (λ_ h=>by cases h),rfl⟩
   | false =>
     cases g2:decide (a.far+a.enZ=Rat.divInt 0 1) with
     | false=>exact⟨_,_,_,p0 true,Zmh ha hns h6 hk hf g0 g1 (λ_ _=>g2),rfl⟩
     | true=>exact⟨_,_,_,p3,Zh4 ha hns h6 hk hf g0 g1 (λ_ _=>g2),rfl⟩
end
end Go.Proofs.W
