/- The law SeidelShifts: Shift equals the reference: its walk by a verified evaluator, and its card. Part 8 of 11. No condition beside the row. -/
import Derived.Test.YtcgfdibagldafaaGreatDoorH02
set_option linter.unusedVariables false
set_option linter.unusedSimpArgs false
set_option maxRecDepth 100000
set_option maxHeartbeats 4000000
namespace Go.Proofs.YtcgfdibagldafaaGreatDoor
open Go.RowKit Go.Mono Go.Ex
theorem so1 (m : Nat) : MemoL m 29 (seL 0 0) [0, 0] 2 [.quo (mkRat (1) 50), .quo (mkRat (-1) 500), .quo (mkRat (1) 5000), .quo (mkRat (-1) 5000), .quo (mkRat (0) 1), .quo (mkRat (0) 1), .quo (mkRat (0) 1), .quo (mkRat (0) 1), .quo (mkRat (0) 1), .quo (mkRat (0) 1)] [.agg [.quo (mkRat (1) 50), .quo (mkRat (-1) 500), .quo (mkRat (1) 5000), .quo (mkRat (-1) 5000), .quo (mkRat (0) 1)], .one (.val (.int .i64 0))] := memoL_of (k := 891) (s := 20) rfl rfl rfl (d := 50) (fun w h => cMemoL h (sboM m) :: cMemoL h (sboC m) :: cMemo h (sboL m) :: spM h) fun w h q => by kernel_rfl
theorem so2 (m : Nat) : Memo m 63 (seL 0 0) [0, 0] (.tup [.agg [.quo (mkRat (-1) 20), .quo (mkRat (3) 200), .quo (mkRat (-1) 1000), .quo (mkRat (0) 1)], .one (.val (.int .i64 0))]) := memo_of rfl rfl (d := 50) (fun w h => cMemoL h (sboM m) :: cMemoL h (sboC m) :: cMemo h (sboL m) :: spM h) fun w h q => by kernel_rfl
end Go.Proofs.YtcgfdibagldafaaGreatDoor
