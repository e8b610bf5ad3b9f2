/- Contracts of package matrix,and a verified evaluator. Part 26 of 28. No condition beside the row. -/
import Derived.Test.YtdocaccajammkaaGreatDoorA17
import Derived.Test.YtdocaccajammkaaGreatDoorA25
set_option linter.unusedVariables false
set_option linter.unusedSimpArgs false
set_option maxRecDepth 100000
set_option maxHeartbeats 4000000
namespace Go.Proofs.W
open Go.RowKit Go.Mono
section
open Go.Ex
theorem Zhk (w:World) (m:Nat) (h:PowsAt w m):Calls Tryz.prog 10 #[] w λe w'=>e=.returned (.bool true)∧Below w.heap.size w w':=by
 refine(Zim (D:=qDen (pK m) (pK1 m)) (d:=30) (orc:=[]) (args:=[]) Zdt (spM h) [powF h] (.a (.one (.val (.bool true)))) [] Zk trivial (vals:=[]) rfl).mono ?_;rintro e w' ⟨v,ρ',rfl,hv,hb⟩;obtain rfl:v=.bool true:=by simpa using hv.1
 exact⟨rfl,hb⟩
end
end Go.Proofs.W
