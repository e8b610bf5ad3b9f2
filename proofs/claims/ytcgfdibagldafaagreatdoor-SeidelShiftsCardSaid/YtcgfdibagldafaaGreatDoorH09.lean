/- The law SeidelShifts: Shift equals the reference: its walk by a verified evaluator, and its card. Part 9 of 11. No condition beside the row. -/
import Derived.Test.YtcgfdibagldafaaGreatDoorH02
import Derived.Test.YtcgfdibagldafaaGreatDoorH03
set_option linter.unusedVariables false
set_option linter.unusedSimpArgs false
set_option maxRecDepth 100000
set_option maxHeartbeats 4000000
namespace Go.Proofs.YtcgfdibagldafaaGreatDoor
open Go.RowKit Go.Mono Go.Ex
theorem so3 (m : Nat) : MemoL m 29 (seL (-1000000) 0) [0, 0] 2 [.quo (mkRat (0) 1), .quo (mkRat (-1) 500), .quo (mkRat (1) 5000), .quo (mkRat (-1) 5000), .quo (mkRat (0) 1), .quo (mkRat (0) 1), .quo (mkRat (0) 1), .quo (mkRat (0) 1), .quo (mkRat (0) 1), .quo (mkRat (0) 1)] [.agg [.quo (mkRat (0) 1), .quo (mkRat (-1) 500), .quo (mkRat (1) 5000), .quo (mkRat (-1) 5000), .quo (mkRat (0) 1)], .one (.val (.int .i64 0))] := memoL_of (k := 891) (s := 20) rfl rfl rfl (d := 50) (fun w h => cMemoL h (sbkM m) :: cMemoL h (sbkC m) :: cMemo h (sbkL m) :: spM h) fun w h q => by kernel_rfl
end Go.Proofs.YtcgfdibagldafaaGreatDoor
