/- The law PupilExit: the chief ray meets the center of the exit pupil,the marginal ray its edge;its contracts,its walk and its card. Part 10 of 11. No condition beside the row. -/
import Derived.Test.YtgkmjekkefmejaaGreatDoorA26
import Derived.Test.YtgkmjekkefmejaaGreatDoorE03
import Derived.Test.YtgkmjekkefmejaaGreatDoorE06
import Derived.Test.YtgkmjekkefmejaaGreatDoorE07
import Derived.Test.YtgkmjekkefmejaaGreatDoorE09
set_option linter.unusedVariables false
set_option linter.unusedSimpArgs false
set_option maxRecDepth 100000
set_option maxHeartbeats 4000000
namespace Go.Proofs.W
open Go.RowKit Go.Mono
section
open Go.Ex
set_option maxRecDepth 100000
def tmPex (a:Lns) (f:Int):List (Nat×SV):=[(9,.a (.one (.ptr 0 0))),(10,.a (.one (.sym a.pr))),(11,.a (.one (.sym f)))]
noncomputable def cdPex:Code:=codeR (codeR (codeR (codeR (Tryz.f4.body.getD .skip))))
def oT2:Option Bool:=some true
def orcEx (near e1:Bool) (r:List (Option Bool)):List (Option Bool):=pF::pF::some near::some e1::r
def orcSy (r:List (Option Bool)):List (Option Bool):=pF::pF::oT2::oT2::r
def orcRy (near e1 e2:Bool) (r:List (Option Bool)):List (Option Bool):=some near::wayP near e1 e2 (some near::wayP near e1 e2 r)
section
variable {a:Lns} (ha:a.opt) {ns m:Nat} (hns:a.ns=ns) (h6:2<=ns∧ns<=6) {w0:World} (q:Plc) (ho:OptAt w0 a q) (hp:PowsAt w0 m) (f:Int)
noncomputable def spPw:List (Ctr DO Tryz.prog w0 (λ_=>False)):=cAbsN w0 _::spPv ha hns h6 ho hp
noncomputable def runPex (orc:List (Option Bool)):Option (Ot×List DF×Option SV×List Prop):=
 (evC Tryz.prog ⟨evF Tryz.prog (spPw ha hns h6 q ho hp) [] 24,fctRun ([]:List (Fct DO Tryz.prog w0 (λ_=>False)))⟩ [] 123 FU false cdPex ⟨tmPex a f,bkPst a q ns,2,2,orc,[]⟩).map (λr=>(r.1,r.2.1.df,r.2.1.tm.look 8,r.2.2))
noncomputable def pexA (near:Bool):Prop:=runPex ha hns h6 q ho hp f (orcEx near true (orcRy near true false []))=yesP (obPexA a q ns 1 f near)
noncomputable def pexB (near e2:Bool):Prop:=runPex ha hns h6 q ho hp f (orcEx near false (orcSy (oT2::orcRy near false e2 [])))=yesP (obPexB a q ns 1 f near e2)
noncomputable def pexC:Prop:=runPex ha hns h6 q ho hp f (orcEx true false (orcSy (pF::pF::orcRy true false true [])))=yesP (obPexC a q ns 1 f true)
noncomputable def pexD (near:Bool):Prop:=runPex ha hns h6 q ho hp f (orcEx near false (orcSy (pF::pF::orcRy near false false [oT2,oT2])))=yesP (obPexD a q ns 1 f near)
end
section
variable {a:Lns} (ha:a.opt) {m:Nat} {w0:World} (q:Plc) (ho:OptAt w0 a q) (hp:PowsAt w0 m) (f:Int)
theorem Z1r {ns:Nat} (hns:a.ns=ns) (h6:2<=ns∧ns<=6):pexA ha hns h6 q ho hp f false∧pexA ha hns h6 q ho hp f true∧pexC ha hns h6 q ho hp f:=by
 rcases Z2j h6 with rfl|rfl|rfl|rfl|rfl<;>exact⟨by unfold pexA;kernel_rfl,by unfold pexA;kernel_rfl,by unfold pexC;kernel_rfl⟩
theorem Z1s {ns:Nat} (hns:a.ns=ns) (h6:2<=ns∧ns<=6):pexB ha hns h6 q ho hp f false false∧pexB ha hns h6 q ho hp f true false∧pexB ha hns h6 q ho hp f true true:=by
 rcases Z2j h6 with rfl|rfl|rfl|rfl|rfl<;>exact⟨by unfold pexB;kernel_rfl,by unfold pexB;kernel_rfl,by unfold pexB;kernel_rfl⟩
theorem Z1t {ns:Nat} (hns:a.ns=ns) (h6:2<=ns∧ns<=6):pexD ha hns h6 q ho hp f false∧pexD ha hns h6 q ho hp f true:=by
 rcases Z2j h6 with rfl|rfl|rfl|rfl|rfl<;>exact⟨by unfold pexD;kernel_rfl,by unfold pexD;kernel_rfl⟩
end
theorem Z1n {a:Lns} (ha:a.opt) {ns m:Nat} (hns:a.ns=ns) (h6:2<=ns∧ns<=6) {w0:World} (q:Plc) (ho:OptAt w0 a q) (hp:PowsAt w0 m) (f:Int) (hf:0<=f∧f<a.nf) :
  ∃orc V L,runPex ha hns h6 q ho hp f orc=some (.ret,[],some V,L)∧AllP L∧V=.a (.one (.val (.bool true))):=by
 obtain⟨a1,a2,c1⟩:=Z1r ha q ho hp f hns h6;obtain⟨b1,b2,b3⟩:=Z1s ha q ho hp f hns h6;obtain⟨d1,d2⟩:=Z1t ha q ho hp f hns h6;cases g0:decide (a.di>0) with
 | false =>
   cases g1:decide (a.ahA=Rat.divInt 0 1) with
   | true=>exact⟨_,_,_,a1,Z08 ha hf g0 g1,rfl⟩
   | false =>
     cases g3:decide ((exM a ns).d=Rat.divInt 0 1) with
     | true=>exact⟨_,_,_,b1,Z07 ha hns h6 hf g0 g1 (λh=>by cases h) g3,rfl⟩
     | false=>exact⟨_,_,_,d1,Z09 ha hns h6 hf g0 g1 (λh=>by cases h) g3,rfl⟩
 | true =>
   cases g1:decide (a.ahA=Rat.divInt 0 1) with
   | true=>exact⟨_,_,_,a2,Z08 ha hf g0 g1,rfl⟩
   | false =>
     cases g2:decide (a.far+a.enZ=Rat.divInt 0 1) with
     | true =>
       cases g3:decide ((exM a ns).d=Rat.divInt 0 1) with
       | true=>exact⟨_,_,_,b3,Z07 ha hns h6 hf g0 g1 (λ_ _=>g2) g3,rfl⟩
       | false=>exact⟨_,_,_,c1,Z1i ha hns h6 hf g0 g1 (λ_ _=>g2) g3,rfl⟩
     | false =>
       cases g3:decide ((exM a ns).d=Rat.divInt 0 1) with
       | true=>exact⟨_,_,_,b2,Z07 ha hns h6 hf g0 g1 (λ_ _=>g2) g3,rfl⟩
       | false=>exact⟨_,_,_,d2,Z09 ha hns h6 hf g0 g1 (λ_ _=>g2) g3,rfl⟩
end
end Go.Proofs.W
namespace Go.Mono
open Go.RowKit
section
section
variable {P:Program} {f:FuncId} {args:Array Value} {R:Ending->World->Prop} {w:World} {T0:TypeId} {c0:Array Value}
theorem Zyq (h:∀W,Below w.heap.size w W->w.heap.size+1<=W.heap.size->Box W (w.heap.size) T0 c0->Calls P f args W R) :
  Calls P f args (w.alloc (.cells c0 T0)) R:=by
 exact h _ ((Yae _ _).alloc (Yab _) _) Zs (Box.new _ _ _)
end
end
end Go.Mono
namespace Go.Proofs.W
open Go.RowKit Go.Mono
section
open Go.Ex

end
end Go.Proofs.W
