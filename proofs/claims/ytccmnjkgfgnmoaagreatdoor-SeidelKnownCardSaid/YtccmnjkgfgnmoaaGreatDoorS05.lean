/- The law SeidelKnown: examples, an aspheric term, colours and the order of errors of package seidel, its walk and its card. Part 5 of 6. No condition beside the row. -/
import Derived.Test.YtccmnjkgfgnmoaaGreatDoorS03
import Derived.Test.YtccmnjkgfgnmoaaGreatDoorS04
set_option linter.unusedVariables false
set_option linter.unusedSimpArgs false
set_option maxRecDepth 100000
set_option maxHeartbeats 4000000
namespace Go.Proofs.YtccmnjkgfgnmoaaGreatDoor
open Go.RowKit Go.Mono Go.Ex
theorem sworks_ok (w : World) (m : Nat) (h : PowsAt w m) : Calls Tryz.prog 29 #[] w fun e w' => e = .returned (.bool true) ∧ Below w.heap.size w w' := true_of (d := 50) (Ctr.or (cMemoL h (so1 m)) (cMemoL h (so3 m)) rfl :: cMemo h (so2 m) :: spM h) [powF h] (by kernel_rfl)
theorem sknown_ok (w : World) (m : Nat) (h : PowsAt w m) : Calls Tryz.prog 7 #[] w fun e w' => e = .returned (.bool true) ∧ Below w.heap.size w w' := true_of (d := 50) (cMemoL h (so5 m) :: cMemo h (so6 m) :: Ctr.or (cMemoL h (so4 m)) (cMemoL h (so7 m)) rfl :: cTrue h 29 (fun w h => sworks_ok w m h) :: spM h) [powF h] (by kernel_rfl)
end Go.Proofs.YtccmnjkgfgnmoaaGreatDoor
