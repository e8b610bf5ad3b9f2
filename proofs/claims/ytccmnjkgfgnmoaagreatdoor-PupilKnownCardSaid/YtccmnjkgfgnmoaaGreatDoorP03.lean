/- The law PupilKnown: examples, finite objects, telecentric lenses and the order of errors of package pupil, its walk and its card. Part 3 of 4. No condition beside the row. -/
import Derived.Test.YtccmnjkgfgnmoaaGreatDoorP01
import Derived.Test.YtccmnjkgfgnmoaaGreatDoorP02
set_option linter.unusedVariables false
set_option linter.unusedSimpArgs false
set_option maxRecDepth 100000
set_option maxHeartbeats 4000000
namespace Go.Proofs.YtccmnjkgfgnmoaaGreatDoor
open Go.RowKit Go.Mono Go.Ex
theorem pworks_ok (w : World) (m : Nat) (h : PowsAt w m) : Calls Tryz.prog 16 #[] w fun e w' => e = .returned (.bool true) ∧ Below w.heap.size w w' := true_of (d := 40) (cMemo h (pm1 m) :: cMemo h (pm2 m) :: Ctr.or (cMemo h (pm3 m)) (cMemo h (pm4 m)) rfl :: cMemo h (pm5 m) :: cMemo h (pm6 m) :: spM h) [powF h] (by kernel_rfl)
theorem pknown_ok (w : World) (m : Nat) (h : PowsAt w m) : Calls Tryz.prog 4 #[] w fun e w' => e = .returned (.bool true) ∧ Below w.heap.size w w' := true_of (d := 40) (Ctr.or (cMemo h (pm7 m)) (cMemo h (pm11 m)) rfl :: cMemo h (pm8 m) :: Ctr.or (cMemo h (pm9 m)) (cMemo h (pm10 m)) rfl :: cMemo h (pm12 m) :: cMemo h (pm13 m) :: cMemo h (pm14 m) :: cTrue h 16 (fun w h => pworks_ok w m h) :: spM h) [powF h] (by kernel_rfl)
end Go.Proofs.YtccmnjkgfgnmoaaGreatDoor
