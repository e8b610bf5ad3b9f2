/- The law SeidelKnown: examples, an aspheric term, colours and the order of errors of package seidel, its walk and its card. Part 3 of 6. No condition beside the row. -/
import Derived.Test.YtccmnjkgfgnmoaaGreatDoorS02
set_option linter.unusedVariables false
set_option linter.unusedSimpArgs false
set_option maxRecDepth 100000
set_option maxHeartbeats 4000000
namespace Go.Proofs.YtccmnjkgfgnmoaaGreatDoor
open Go.RowKit Go.Mono Go.Ex
theorem so5 (m : Nat) : MemoL m 36 sePlate [0, 0] 2 [.quo (mkRat (1) 250000), .quo (mkRat (0) 1), .quo (mkRat (0) 1), .quo (mkRat (0) 1), .quo (mkRat (1) 180000), .quo (mkRat (0) 1), .quo (mkRat (0) 1), .quo (mkRat (0) 1), .quo (mkRat (0) 1), .quo (mkRat (0) 1)] [.agg [.quo (mkRat (1) 250000), .quo (mkRat (0) 1), .quo (mkRat (0) 1), .quo (mkRat (0) 1), .quo (mkRat (1) 180000)], .one (.val (.int .i64 0))] := memoL_of (k := 891) (s := 20) rfl rfl rfl (d := 50) (fun w h => cMemoL h (sbpM m) :: cMemoL h (sbpC m) :: cMemo h (sbpL m) :: spM h) fun w h q => by kernel_rfl
theorem so6 (m : Nat) : Memo m 39 sePlate [0, 0] (.tup [.agg [.val (.bool false), .val (.slice none 0 0), .val (.bool false), .val (.slice none 0 0), .val (.bool false), .val (.slice none 0 0), .val (.bool false), .val (.slice none 0 0), .val (.bool false), .val (.slice none 0 0), .val (.bool false), .val (.slice none 0 0), .val (.bool false), .val (.slice none 0 0), .val (.bool false), .val (.slice none 0 0)], .one (.val (.int .i64 4))]) := memo_of rfl rfl (d := 50) (fun w h => cMemoL h (sbpM m) :: cMemoL h (sbpC m) :: cMemo h (sbpL m) :: spM h) fun w h q => by kernel_rfl
theorem so7 (m : Nat) : MemoL m 40 sePlate [0, 1, 0] 2 [.quo (mkRat (0) 1), .quo (mkRat (1) 1500), .quo (mkRat (0) 1), .quo (mkRat (0) 1)] [.agg [.quo (mkRat (0) 1), .quo (mkRat (1) 1500)], .one (.val (.int .i64 0))] := memoL_of (k := 372) (s := 8) rfl rfl rfl (d := 50) (fun w h => cMemoL h (sbpM m) :: cMemoL h (sbpC m) :: cMemo h (sbpL m) :: spM h) fun w h q => by kernel_rfl
end Go.Proofs.YtccmnjkgfgnmoaaGreatDoor
