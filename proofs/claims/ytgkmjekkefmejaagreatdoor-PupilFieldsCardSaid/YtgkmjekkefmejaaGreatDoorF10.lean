/- The law PupilFields: image heights and invariants are proportional to the heights of the fields;its contracts,its walk and its card. Part 10 of 11. No condition beside the row. -/
import Derived.Test.YtgkmjekkefmejaaGreatDoorF09
set_option linter.unusedVariables false
set_option linter.unusedSimpArgs false
set_option maxRecDepth 100000
set_option maxHeartbeats 4000000
namespace Go.Proofs.W
open Go.RowKit Go.Mono
section
open Go.Ex
set_option maxRecDepth 100000
section
variable {a:Lns} (ha:a.opt) {ns m:Nat} (hns:a.ns=ns) (h6:2<=ns∧ns<=6) {w0:World} (q:Plc) (ho:OptAt w0 a q) (hp:PowsAt w0 m) (f:Int)
end
section
variable {a:Lns} (ha:a.opt) {m:Nat} {w0:World} (q:Plc) (ho:OptAt w0 a q) (hp:PowsAt w0 m) (f:Int)
end
end
end Go.Proofs.W
