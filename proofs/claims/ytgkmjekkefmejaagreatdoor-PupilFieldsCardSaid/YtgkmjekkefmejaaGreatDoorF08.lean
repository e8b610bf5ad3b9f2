/- The law PupilFields: image heights and invariants are proportional to the heights of the fields;its contracts,its walk and its card. Part 8 of 11. No condition beside the row. -/
import Derived.Test.YtgkmjekkefmejaaGreatDoorF06
set_option linter.unusedVariables false
set_option linter.unusedSimpArgs false
set_option maxRecDepth 100000
set_option maxHeartbeats 4000000
namespace Go.Ex
open Go.RowKit Go.Mono

end Go.Ex
namespace Go.Proofs.W
open Go.RowKit Go.Mono
section
open Go.Ex
section
variable {a:Lns} (ha:a.opt) {ns m:Nat} (hns:a.ns=ns) (h6:2<=ns∧ns<=6) {w:World} {q:Plc} (ho:OptAt w a q) (hp:PowsAt w m) (k f:Int)
noncomputable def runU (g:FuncId) (args:List SA) (orc:List (Option Bool)):Option (SV×List Prop×List (Nat×Blk)×Option Value):=
 (evF Tryz.prog (spPu ha hns h6 ho hp) [] 24 [] g (.agg (optU a q ns 0)::args) [(0,srfB a q ns)] 1 1 orc).map λr=>(r.v,r.obl,r.wr,r.pan)
def okE (r:SV×List Prop×List (Nat×Blk)×Option Value):=(r.1,r.2.1,r.2.2.2)
noncomputable def bkOk (y u:Rat):Prop:=(evF Tryz.prog (spN ha hns ho hp) [] 24 [] 25 [.agg (optU a q ns 0),.one (.sym k),.agg [.quo y,.quo u]] [(0,srfB a q ns)] 1 1 []).map (λr=>(r.v,r.obl,r.wr,r.pan))=some (.tup [.agg [.quo (a.bkn ns k.toNat y u ns).1],.agg [.quo (a.bkn ns k.toNat y u ns).2],okV],obBack a q ns 0 k y u [],[],none)
end
section
set_option maxRecDepth 100000
variable {a:Lns} (ha:a.opt) {m:Nat} {w:World} {q:Plc} (ho:OptAt w a q) (hp:PowsAt w m) (k f:Int) (y u:Rat)
end
end
end Go.Proofs.W
