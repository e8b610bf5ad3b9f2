/- The law PupilExit: the chief ray meets the center of the exit pupil,the marginal ray its edge;its contracts,its walk and its card. Part 6 of 11. No condition beside the row. -/
import Derived.Test.YtgkmjekkefmejaaGreatDoorE05
set_option linter.unusedVariables false
set_option linter.unusedSimpArgs false
set_option maxRecDepth 100000
set_option maxHeartbeats 4000000
namespace Go.Proofs.W
open Go.RowKit Go.Mono
section
open Go.Ex
set_option maxRecDepth 100000
noncomputable def spPu {a:Lns} (ha:a.opt) {ns m:Nat} (hns:a.ns=ns) (h6:2<=ns∧ns<=6) {w0:World} {q:Plc} (ho:OptAt w0 a q) (hp:PowsAt w0 m):List (Ctr DO Tryz.prog w0 (λ_=>False)):=cAhead hp (seesS ha q hns ho) h6 ha hns::cSla ha hns h6 hp (seesS ha q hns ho)::cOut ha hns h6 hp (seesS ha q hns ho)::spMx ha hns h6 ho hp
def wayP:Bool->Bool->Bool->List (Option Bool)->List (Option Bool)
 | false,e1,_,r=>some e1::r
 | true,true,_,r=>some true::r
 | true,false,e2,r=>some false::some e2::r
def pF:Option Bool:=some false
section
variable {a:Lns} (ha:a.opt) {ns m:Nat} (hns:a.ns=ns) (h6:2<=ns∧ns<=6) {w0:World} (q:Plc) (ho:OptAt w0 a q) (hp:PowsAt w0 m) (k f:Int)
def yesP (L:List Prop):Option (Ot×List DF×Option SV×List Prop):=some (.ret,[],some (.a (.one (.val (.bool true)))),L)
end
section
variable {a:Lns} (ha:a.opt) {m:Nat} {w0:World} (q:Plc) (ho:OptAt w0 a q) (hp:PowsAt w0 m) (k f:Int)
end
end
end Go.Proofs.W
