/- The law SeidelShifts: Shift equals the reference: its walk by a verified evaluator, and its card. Part 2 of 11. No condition beside the row. -/
import Derived.Test.YtcgfdibagldafaaGreatDoorA30
set_option linter.unusedVariables false
set_option linter.unusedSimpArgs false
set_option maxRecDepth 100000
set_option maxHeartbeats 4000000
namespace Go.Proofs.YtcgfdibagldafaaGreatDoor
open Go.RowKit Go.Mono Go.Ex
theorem sboM (m : Nat) : MemoL m 119 (seL 0 0) [0] 2 [.quo (mkRat (10) 1), .quo (mkRat (-1) 5), .quo (mkRat (0) 1), .quo (mkRat (-1) 5)] [.one (.val (.int .i64 0))] := memoL_of (k := 103) (s := 8) rfl rfl rfl (d := 50) (fun w h => spM h) fun w h q => by kernel_rfl
theorem sboC (m : Nat) : MemoL m 179 (seL 0 0) [0, 0] 2 [.quo (mkRat (0) 1), .quo (mkRat (1) 100), .quo (mkRat (1) 2), .quo (mkRat (1) 100)] [.one (.val (.int .i64 0))] := memoL_of (k := 128) (s := 8) rfl rfl rfl (d := 50) (fun w h => spM h) fun w h q => by kernel_rfl
theorem sboL (m : Nat) : Memo m 180 (seL 0 0) [0] (.tup [.agg [.quo (mkRat (1) 10)], .one (.val (.int .i64 0))]) := memo_of rfl rfl (d := 50) (fun w h => spM h) fun w h q => by kernel_rfl
theorem sbkM (m : Nat) : MemoL m 119 (seL (-1000000) 0) [0] 2 [.quo (mkRat (10) 1), .quo (mkRat (-1) 5), .quo (mkRat (0) 1), .quo (mkRat (-1) 5)] [.one (.val (.int .i64 0))] := memoL_of (k := 103) (s := 8) rfl rfl rfl (d := 50) (fun w h => spM h) fun w h q => by kernel_rfl
theorem sbkC (m : Nat) : MemoL m 179 (seL (-1000000) 0) [0, 0] 2 [.quo (mkRat (0) 1), .quo (mkRat (1) 100), .quo (mkRat (1) 2), .quo (mkRat (1) 100)] [.one (.val (.int .i64 0))] := memoL_of (k := 128) (s := 8) rfl rfl rfl (d := 50) (fun w h => spM h) fun w h q => by kernel_rfl
theorem sbkL (m : Nat) : Memo m 180 (seL (-1000000) 0) [0] (.tup [.agg [.quo (mkRat (1) 10)], .one (.val (.int .i64 0))]) := memo_of rfl rfl (d := 50) (fun w h => spM h) fun w h q => by kernel_rfl
end Go.Proofs.YtcgfdibagldafaaGreatDoor
