/- The law PupilExit: the chief ray meets the center of the exit pupil,the marginal ray its edge;its contracts,its walk and its card. Part 7 of 11. No condition beside the row. -/
import Derived.Test.YtgkmjekkefmejaaGreatDoorE04
set_option linter.unusedVariables false
set_option linter.unusedSimpArgs false
set_option maxRecDepth 100000
set_option maxHeartbeats 4000000
namespace Go.Proofs.W
open Go.RowKit Go.Mono
section
open Go.Ex
theorem Zue (w:World) (m:Nat) (h:PowsAt w m):Calls Tryz.prog 7 #[] w λe w'=>e=.returned (.bool true)∧Below w.heap.size w w':=Zyp (d:=40) (cMemo h (pm1 m)::cMemo h (pm2 m)::Ctr.or (cMemo h (pm3 m)) (cMemo h (pm4 m)) rfl::cMemo h (pm5 m)::cMemo h (pm6 m)::spM h) [powF h] Zk
end
end Go.Proofs.W
