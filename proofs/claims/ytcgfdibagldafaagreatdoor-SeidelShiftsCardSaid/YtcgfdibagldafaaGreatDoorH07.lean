/- The law SeidelShifts: Shift equals the reference: its walk by a verified evaluator, and its card. Part 7 of 11. No condition beside the row. -/
import Derived.Test.YtcgfdibagldafaaGreatDoorH05
set_option linter.unusedVariables false
set_option linter.unusedSimpArgs false
set_option maxRecDepth 100000
set_option maxHeartbeats 4000000
namespace Go.Proofs.YtcgfdibagldafaaGreatDoor
open Go.RowKit Go.Mono Go.Ex
section
section
variable {m : Nat} {l : List Rat} {ns ds : Nat → Int} {x y z : Value}
theorem sh4b {w0 : World} (hp : PowsAt w0 m) (hks : LetS (qDen (lK m l) (lK1 m l)).env kS) (h0 : NQ m l w0 ns ds) (h1 : OQ m l w0 x y z (.bad)) (hw : SW m) (k : Int) :
  (evF Tryz.prog (spH hp hks h0 h1 hw) [] 30 [] 7 (shA ns ds x y z k) [] 0 0 [some true, some false, some true, some false, some false, some true, some false, some false, some false, some true, some false, some false, some false, some false, some true, some false, some false, some false, some false, some false, some true, some true, some false, some false, some false, some false, some true, some false, some false, some false, some false, some false, some true, some false, some false, some false, some false, some false, some true]).map (fun r => (r.v, r.obl, r.pan)) = some (.a (.one (.val (.bool true))), shN ns ds [(6 : Int) ≠ 0, decide (k.tmod 6 < 5) = true, (6 : Int) ≠ 0, x = x, y = y, z = z, k.tmod 6 = ((4 : Nat) : Int), numC ns ds 5 = numC ns ds 5, numC ns ds 5 = numC ns ds 5], none) := by kernel_rfl
theorem sh4q {w0 : World} (hp : PowsAt w0 m) (hks : LetS (qDen (lK m l) (lK1 m l)).env kS) (h0 : NQ m l w0 ns ds) (h1 : OQ m l w0 x y z (.qe (polVar 6))) (hw : SW m) (k : Int) :
  (evF Tryz.prog (spH hp hks h0 h1 hw) [] 30 [] 7 (shA ns ds x y z k) [] 0 0 [some true, some false, some true, some false, some false, some true, some false, some false, some false, some true, some false, some false, some false, some false, some true, some false, some false, some false, some false, some false, some true, some true, some false, some false, some false, some false, some true, some false, some false, some false, some false, some false, some true, some false, some false, some false, some false, some false, some true]).map (fun r => (r.v, r.obl, r.pan)) = some (.a (.one (.val (.bool true))), shN ns ds [(6 : Int) ≠ 0, decide (k.tmod 6 < 5) = true, (6 : Int) ≠ 0, x = x, y = y, z = z, k.tmod 6 = ((4 : Nat) : Int), numC ns ds 5 = numC ns ds 5, numC ns ds 5 = numC ns ds 5], none) := by kernel_rfl
theorem sh5b {w0 : World} (hp : PowsAt w0 m) (hks : LetS (qDen (lK m l) (lK1 m l)).env kS) (h0 : NQ m l w0 ns ds) (h1 : OQ m l w0 x y z (.bad)) (hw : SW m) (k : Int) :
  (evF Tryz.prog (spH hp hks h0 h1 hw) [] 30 [] 7 (shA ns ds x y z k) [] 0 0 [some true, some false, some true, some false, some false, some true, some false, some false, some false, some true, some false, some false, some false, some false, some true, some false, some false, some false, some false, some false, some true, some false, some false, some false, some false, some false, some false, some true, some false, some false, some false, some false, some false, some true]).map (fun r => (r.v, r.obl, r.pan)) = some (.a (.one (.val (.bool true))), shN ns ds [(6 : Int) ≠ 0, decide (k.tmod 6 < 5) = false, x = x, y = y, z = z, numC ns ds 5 = numC ns ds 5, numC ns ds 5 = numC ns ds 5], none) := by kernel_rfl
theorem sh5q {w0 : World} (hp : PowsAt w0 m) (hks : LetS (qDen (lK m l) (lK1 m l)).env kS) (h0 : NQ m l w0 ns ds) (h1 : OQ m l w0 x y z (.qe (polVar 6))) (hw : SW m) (k : Int) :
  (evF Tryz.prog (spH hp hks h0 h1 hw) [] 30 [] 7 (shA ns ds x y z k) [] 0 0 [some true, some false, some true, some false, some false, some true, some false, some false, some false, some true, some false, some false, some false, some false, some true, some false, some false, some false, some false, some false, some true, some false, some false, some false, some false, some false, some false, some true, some false, some false, some false, some false, some false, some true]).map (fun r => (r.v, r.obl, r.pan)) = some (.a (.one (.val (.bool true))), shN ns ds [(6 : Int) ≠ 0, decide (k.tmod 6 < 5) = false, x = x, y = y, z = z, numC ns ds 5 = numC ns ds 5, numC ns ds 5 = numC ns ds 5], none) := by kernel_rfl
end
end
end Go.Proofs.YtcgfdibagldafaaGreatDoor
