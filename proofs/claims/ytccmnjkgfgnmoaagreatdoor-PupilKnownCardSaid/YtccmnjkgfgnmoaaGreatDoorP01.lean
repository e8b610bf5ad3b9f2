/- The law PupilKnown: examples, finite objects, telecentric lenses and the order of errors of package pupil, its walk and its card. Part 1 of 4. No condition beside the row. -/
import Derived.Test.YtccmnjkgfgnmoaaGreatDoorA30
set_option linter.unusedVariables false
set_option linter.unusedSimpArgs false
set_option maxRecDepth 100000
set_option maxHeartbeats 4000000
namespace Go.Proofs.YtccmnjkgfgnmoaaGreatDoor
open Go.RowKit Go.Mono Go.Ex
theorem pm1 (m : Nat) : Memo m 19 (puL 1) [] (.tup [.agg [.quo (mkRat (100) 49)], .agg [.quo (mkRat (2) 1)], .one (.val (.int .i64 0))]) := memo_of rfl rfl (d := 40) (fun w h => spM h) fun w h q => by kernel_rfl
theorem pm2 (m : Nat) : Memo m 20 (puL 1) [0] (.tup [.agg [.quo (mkRat (-10) 1)], .agg [.quo (mkRat (49) 25)], .one (.val (.int .i64 0))]) := memo_of rfl rfl (d := 40) (fun w h => spM h) fun w h q => by kernel_rfl
theorem pm3 (m : Nat) : Memo m 28 puFlat [0] (.tup [.agg [.val (.bool false), .val (.slice none 0 0), .val (.bool false), .val (.slice none 0 0)], .one (.val (.int .i64 4))]) := memo_of rfl rfl (d := 40) (fun w h => spM h) fun w h q => by kernel_rfl
theorem pm4 (m : Nat) : Memo m 28 (puL 0) [0] (.tup [.agg [.quo (mkRat (1250) 99)], .one (.val (.int .i64 0))]) := memo_of rfl rfl (d := 40) (fun w h => spM h) fun w h q => by kernel_rfl
theorem pm5 (m : Nat) : Memo m 21 (puL 0) [0, 0] (.tup [.agg [.quo (mkRat (500) 99)], .one (.val (.int .i64 0))]) := memo_of rfl rfl (d := 40) (fun w h => spM h) fun w h q => by kernel_rfl
theorem pm6 (m : Nat) : Memo m 22 (puL 0) [0] (.tup [.agg [.quo (mkRat (1) 5)], .one (.val (.int .i64 0))]) := memo_of rfl rfl (d := 40) (fun w h => spM h) fun w h q => by kernel_rfl
end Go.Proofs.YtccmnjkgfgnmoaaGreatDoor
