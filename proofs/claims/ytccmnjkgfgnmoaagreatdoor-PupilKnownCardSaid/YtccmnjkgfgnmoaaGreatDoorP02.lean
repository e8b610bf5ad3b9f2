/- The law PupilKnown: examples, finite objects, telecentric lenses and the order of errors of package pupil, its walk and its card. Part 2 of 4. No condition beside the row. -/
import Derived.Test.YtccmnjkgfgnmoaaGreatDoorA30
set_option linter.unusedVariables false
set_option linter.unusedSimpArgs false
set_option maxRecDepth 100000
set_option maxHeartbeats 4000000
namespace Go.Proofs.YtccmnjkgfgnmoaaGreatDoor
open Go.RowKit Go.Mono Go.Ex
theorem pm7 (m : Nat) : Memo m 19 puFront [] (.tup [.agg [.val (.bool false), .val (.slice none 0 0), .val (.bool false), .val (.slice none 0 0)], .agg [.val (.bool false), .val (.slice none 0 0), .val (.bool false), .val (.slice none 0 0)], .one (.val (.int .i64 4))]) := memo_of rfl rfl (d := 40) (fun w h => spM h) fun w h q => by kernel_rfl
theorem pm8 (m : Nat) : Memo m 23 puFront [0] (.tup [.one (.val (.slice none 0 0)), .one (.val (.int .i64 4))]) := memo_of rfl rfl (d := 40) (fun w h => spM h) fun w h q => by kernel_rfl
theorem pm9 (m : Nat) : Memo m 20 puFront [0] (.tup [.agg [.val (.bool false), .val (.slice none 0 0), .val (.bool false), .val (.slice none 0 0)], .agg [.val (.bool false), .val (.slice none 0 0), .val (.bool false), .val (.slice none 0 0)], .one (.val (.int .i64 4))]) := memo_of rfl rfl (d := 40) (fun w h => spM h) fun w h q => by kernel_rfl
theorem pm10 (m : Nat) : Memo m 20 puBack [0] (.tup [.agg [.val (.bool false), .val (.slice none 0 0), .val (.bool false), .val (.slice none 0 0)], .agg [.val (.bool false), .val (.slice none 0 0), .val (.bool false), .val (.slice none 0 0)], .one (.val (.int .i64 4))]) := memo_of rfl rfl (d := 40) (fun w h => spM h) fun w h q => by kernel_rfl
theorem pm11 (m : Nat) : Memo m 19 puBack [] (.tup [.agg [.quo (mkRat (0) 1)], .agg [.quo (mkRat (2) 1)], .one (.val (.int .i64 0))]) := memo_of rfl rfl (d := 40) (fun w h => spM h) fun w h q => by kernel_rfl
theorem pm12 (m : Nat) : Memo m 28 puBack [0] (.tup [.agg [.quo (mkRat (25) 2)], .one (.val (.int .i64 0))]) := memo_of rfl rfl (d := 40) (fun w h => spM h) fun w h q => by kernel_rfl
theorem pm13 (m : Nat) : Memo m 21 puBack [0, 0] (.tup [.agg [.quo (mkRat (5) 1)], .one (.val (.int .i64 0))]) := memo_of rfl rfl (d := 40) (fun w h => spM h) fun w h q => by kernel_rfl
theorem pm14 (m : Nat) : Memo m 22 puNear [0] (.tup [.agg [.quo (mkRat (-1) 7)], .one (.val (.int .i64 0))]) := memo_of rfl rfl (d := 40) (fun w h => spM h) fun w h q => by kernel_rfl
end Go.Proofs.YtccmnjkgfgnmoaaGreatDoor
