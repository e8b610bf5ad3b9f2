/- The law ParaxialPlane: its walk and its card. Part 5 of 7. No condition beside the row. -/
import Derived.Test.YtfgmlkjibdegfaaGreatDoorP02
set_option linter.unusedVariables false
set_option linter.unusedSimpArgs false
set_option maxRecDepth 100000
set_option maxHeartbeats 4000000
namespace Go.Proofs.W
open Go.RowKit Go.Mono
section
open Go.Ex
set_option maxRecDepth 100000
section
variable {a:Lns} (ha:a.opt) (q:Plc) {m:Nat} {w0:World} (ho:OptAt w0 a q) (hp:PowsAt w0 m) (k n1 d1 n2 d2:Int)
theorem Z0j:PlaR ha q ho hp k n1 d1 n2 d2 6 [false,true,true,true,true,true]:=λhns h6=>Zk
theorem Z0k:PlaR ha q ho hp k n1 d1 n2 d2 6 [false,true,true,true,true,false]:=λhns h6=>Zk
theorem Z0l:PlaR ha q ho hp k n1 d1 n2 d2 6 [false,true,true,true,false,true]:=λhns h6=>Zk
theorem Z0m:PlaR ha q ho hp k n1 d1 n2 d2 6 [false,true,true,true,false,false]:=λhns h6=>Zk
theorem Z0n:PlaR ha q ho hp k n1 d1 n2 d2 6 [false,true,true,false,true,true]:=λhns h6=>Zk
theorem Z0o:PlaR ha q ho hp k n1 d1 n2 d2 6 [false,true,true,false,true,false]:=λhns h6=>Zk
theorem Z0p:PlaR ha q ho hp k n1 d1 n2 d2 6 [false,true,true,false,false,true]:=λhns h6=>Zk
theorem Z0q:PlaR ha q ho hp k n1 d1 n2 d2 6 [false,true,true,false,false,false]:=λhns h6=>Zk
theorem Z0r:PlaR ha q ho hp k n1 d1 n2 d2 6 [false,true,false,true,true,true]:=λhns h6=>Zk
theorem Z0s:PlaR ha q ho hp k n1 d1 n2 d2 6 [false,true,false,true,true,false]:=λhns h6=>Zk
theorem Z0t:PlaR ha q ho hp k n1 d1 n2 d2 6 [false,true,false,true,false,true]:=λhns h6=>Zk
theorem Z0u:PlaR ha q ho hp k n1 d1 n2 d2 6 [false,true,false,true,false,false]:=λhns h6=>Zk
theorem Z0v:PlaR ha q ho hp k n1 d1 n2 d2 6 [false,true,false,false,true,true]:=λhns h6=>Zk
theorem Z0w:PlaR ha q ho hp k n1 d1 n2 d2 6 [false,true,false,false,true,false]:=λhns h6=>Zk
theorem Z0x:PlaR ha q ho hp k n1 d1 n2 d2 6 [false,true,false,false,false,true]:=λhns h6=>Zk
theorem Z0y:PlaR ha q ho hp k n1 d1 n2 d2 6 [false,true,false,false,false,false]:=λhns h6=>Zk
end
end
section
open Go.Ex
set_option maxRecDepth 100000
section
variable {a:Lns} (ha:a.opt) (q:Plc) {m:Nat} {w0:World} (ho:OptAt w0 a q) (hp:PowsAt w0 m) (k n1 d1 n2 d2:Int)
theorem Z0z:PlaR ha q ho hp k n1 d1 n2 d2 6 [false,false,true,true,true,true]:=λhns h6=>Zk
theorem Z00:PlaR ha q ho hp k n1 d1 n2 d2 6 [false,false,true,true,true,false]:=λhns h6=>Zk
theorem Z01:PlaR ha q ho hp k n1 d1 n2 d2 6 [false,false,true,true,false,true]:=λhns h6=>Zk
theorem Z02:PlaR ha q ho hp k n1 d1 n2 d2 6 [false,false,true,true,false,false]:=λhns h6=>Zk
theorem Z03:PlaR ha q ho hp k n1 d1 n2 d2 6 [false,false,true,false,true,true]:=λhns h6=>Zk
theorem Z04:PlaR ha q ho hp k n1 d1 n2 d2 6 [false,false,true,false,true,false]:=λhns h6=>Zk
theorem Z05:PlaR ha q ho hp k n1 d1 n2 d2 6 [false,false,true,false,false,true]:=λhns h6=>Zk
theorem Z06:PlaR ha q ho hp k n1 d1 n2 d2 6 [false,false,true,false,false,false]:=λhns h6=>Zk
theorem Z07:PlaR ha q ho hp k n1 d1 n2 d2 6 [false,false,false,true,true,true]:=λhns h6=>Zk
theorem Z08:PlaR ha q ho hp k n1 d1 n2 d2 6 [false,false,false,true,true,false]:=λhns h6=>Zk
theorem Z09:PlaR ha q ho hp k n1 d1 n2 d2 6 [false,false,false,true,false,true]:=λhns h6=>Zk
theorem Z1a:PlaR ha q ho hp k n1 d1 n2 d2 6 [false,false,false,true,false,false]:=λhns h6=>Zk
theorem Z1b:PlaR ha q ho hp k n1 d1 n2 d2 6 [false,false,false,false,true,true]:=λhns h6=>Zk
theorem Z1c:PlaR ha q ho hp k n1 d1 n2 d2 6 [false,false,false,false,true,false]:=λhns h6=>Zk
theorem Z1d:PlaR ha q ho hp k n1 d1 n2 d2 6 [false,false,false,false,false,true]:=λhns h6=>Zk
theorem Z1e:PlaR ha q ho hp k n1 d1 n2 d2 6 [false,false,false,false,false,false]:=λhns h6=>Zk
end
end
end Go.Proofs.W
