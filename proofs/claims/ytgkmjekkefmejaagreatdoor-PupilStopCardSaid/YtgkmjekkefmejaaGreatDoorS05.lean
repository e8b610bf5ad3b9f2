/- The law PupilStop: the chief ray meets the center of the stop,and at the entrance pupil its center,the marginal ray its edge;its contracts,its walk and its card. Part 5 of 11. No condition beside the row. -/
import Derived.Test.YtgkmjekkefmejaaGreatDoorS04
set_option linter.unusedVariables false
set_option linter.unusedSimpArgs false
set_option maxRecDepth 100000
set_option maxHeartbeats 4000000
namespace Go.Proofs.W
open Go.RowKit Go.Mono
section
open Go.Ex
theorem pm1 (m:Nat):Memo m 23 (puL 1) [] (.tup [.agg [.quo (mkRat (100) 49)],.agg [.quo (mkRat (2) 1)],.one (.val (.int .i64 0))]):=Zfu rfl rfl (d:=40) (λw h=>spM h) λw h q=>Zk
theorem pm2 (m:Nat):Memo m 13 (puL 1) [0] (.tup [.agg [.quo (mkRat (-10) 1)],.agg [.quo (mkRat (49) 25)],.one (.val (.int .i64 0))]):=Zfu rfl rfl (d:=40) (λw h=>spM h) λw h q=>Zk
theorem pm3 (m:Nat):Memo m 30 puFlat [0] (.tup [.agg [.val (.bool false),.val (.slice none 0 0),.val (.bool false),.val (.slice none 0 0)],.one (.val (.int .i64 4))]):=Zfu rfl rfl (d:=40) (λw h=>spM h) λw h q=>Zk
theorem pm4 (m:Nat):Memo m 30 (puL 0) [0] (.tup [.agg [.quo (mkRat (1250) 99)],.one (.val (.int .i64 0))]):=Zfu rfl rfl (d:=40) (λw h=>spM h) λw h q=>Zk
theorem pm5 (m:Nat):Memo m 21 (puL 0) [0,0] (.tup [.agg [.quo (mkRat (500) 99)],.one (.val (.int .i64 0))]):=Zfu rfl rfl (d:=40) (λw h=>spM h) λw h q=>Zk
theorem pm6 (m:Nat):Memo m 9 (puL 0) [0] (.tup [.agg [.quo (mkRat (1) 5)],.one (.val (.int .i64 0))]):=Zfu rfl rfl (d:=40) (λw h=>spM h) λw h q=>Zk
end
end Go.Proofs.W
