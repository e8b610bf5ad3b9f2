/- The law ParaxialPlane: its walk and its card. Part 3 of 7. No condition beside the row. -/
import Derived.Test.YtfgmlkjibdegfaaGreatDoorP02
set_option linter.unusedVariables false
set_option linter.unusedSimpArgs false
set_option maxRecDepth 100000
set_option maxHeartbeats 4000000
namespace Go.Proofs.W
open Go.RowKit Go.Mono
section
open Go.Ex
set_option maxRecDepth 100000
section
variable {a:Lns} (ha:a.opt) (q:Plc) {m:Nat} {w0:World} (ho:OptAt w0 a q) (hp:PowsAt w0 m) (k n1 d1 n2 d2:Int)
theorem Z1f:PlaR ha q ho hp k n1 d1 n2 d2 5 [true,true,true,true,true]:=λhns h6=>Zk
theorem Z1g:PlaR ha q ho hp k n1 d1 n2 d2 5 [true,true,true,true,false]:=λhns h6=>Zk
theorem Z1h:PlaR ha q ho hp k n1 d1 n2 d2 5 [true,true,true,false,true]:=λhns h6=>Zk
theorem Z1i:PlaR ha q ho hp k n1 d1 n2 d2 5 [true,true,true,false,false]:=λhns h6=>Zk
theorem Z1j:PlaR ha q ho hp k n1 d1 n2 d2 5 [true,true,false,true,true]:=λhns h6=>Zk
theorem Z1k:PlaR ha q ho hp k n1 d1 n2 d2 5 [true,true,false,true,false]:=λhns h6=>Zk
theorem Z1l:PlaR ha q ho hp k n1 d1 n2 d2 5 [true,true,false,false,true]:=λhns h6=>Zk
theorem Z1m:PlaR ha q ho hp k n1 d1 n2 d2 5 [true,true,false,false,false]:=λhns h6=>Zk
theorem Z1n:PlaR ha q ho hp k n1 d1 n2 d2 5 [true,false,true,true,true]:=λhns h6=>Zk
theorem Z1o:PlaR ha q ho hp k n1 d1 n2 d2 5 [true,false,true,true,false]:=λhns h6=>Zk
theorem Z1p:PlaR ha q ho hp k n1 d1 n2 d2 5 [true,false,true,false,true]:=λhns h6=>Zk
theorem Z1q:PlaR ha q ho hp k n1 d1 n2 d2 5 [true,false,true,false,false]:=λhns h6=>Zk
theorem Z1r:PlaR ha q ho hp k n1 d1 n2 d2 5 [true,false,false,true,true]:=λhns h6=>Zk
theorem Z1s:PlaR ha q ho hp k n1 d1 n2 d2 5 [true,false,false,true,false]:=λhns h6=>Zk
theorem Z1t:PlaR ha q ho hp k n1 d1 n2 d2 5 [true,false,false,false,true]:=λhns h6=>Zk
theorem Z1u:PlaR ha q ho hp k n1 d1 n2 d2 5 [true,false,false,false,false]:=λhns h6=>Zk
theorem Z1v:PlaR ha q ho hp k n1 d1 n2 d2 5 [false,true,true,true,true]:=λhns h6=>Zk
theorem Z1w:PlaR ha q ho hp k n1 d1 n2 d2 5 [false,true,true,true,false]:=λhns h6=>Zk
theorem Z1x:PlaR ha q ho hp k n1 d1 n2 d2 5 [false,true,true,false,true]:=λhns h6=>Zk
theorem Z1y:PlaR ha q ho hp k n1 d1 n2 d2 5 [false,true,true,false,false]:=λhns h6=>Zk
theorem Z1z:PlaR ha q ho hp k n1 d1 n2 d2 5 [false,true,false,true,true]:=λhns h6=>Zk
theorem Z10:PlaR ha q ho hp k n1 d1 n2 d2 5 [false,true,false,true,false]:=λhns h6=>Zk
theorem Z11:PlaR ha q ho hp k n1 d1 n2 d2 5 [false,true,false,false,true]:=λhns h6=>Zk
theorem Z12:PlaR ha q ho hp k n1 d1 n2 d2 5 [false,true,false,false,false]:=λhns h6=>Zk
theorem Z13:PlaR ha q ho hp k n1 d1 n2 d2 5 [false,false,true,true,true]:=λhns h6=>Zk
theorem Z14:PlaR ha q ho hp k n1 d1 n2 d2 5 [false,false,true,true,false]:=λhns h6=>Zk
theorem Z15:PlaR ha q ho hp k n1 d1 n2 d2 5 [false,false,true,false,true]:=λhns h6=>Zk
theorem Z16:PlaR ha q ho hp k n1 d1 n2 d2 5 [false,false,true,false,false]:=λhns h6=>Zk
theorem Z17:PlaR ha q ho hp k n1 d1 n2 d2 5 [false,false,false,true,true]:=λhns h6=>Zk
theorem Z18:PlaR ha q ho hp k n1 d1 n2 d2 5 [false,false,false,true,false]:=λhns h6=>Zk
theorem Z19:PlaR ha q ho hp k n1 d1 n2 d2 5 [false,false,false,false,true]:=λhns h6=>Zk
theorem Z2a:PlaR ha q ho hp k n1 d1 n2 d2 5 [false,false,false,false,false]:=λhns h6=>Zk
theorem rP5:∀bs:List Bool,bs.length=5->PlaR ha q ho hp k n1 d1 n2 d2 5 bs
 | [true,true,true,true,true],_=>Z1f ha q ho hp k n1 d1 n2 d2
 | [true,true,true,true,false],_=>Z1g ha q ho hp k n1 d1 n2 d2
 | [true,true,true,false,true],_=>Z1h ha q ho hp k n1 d1 n2 d2
 | [true,true,true,false,false],_=>Z1i ha q ho hp k n1 d1 n2 d2
 | [true,true,false,true,true],_=>Z1j ha q ho hp k n1 d1 n2 d2
 | [true,true,false,true,false],_=>Z1k ha q ho hp k n1 d1 n2 d2
 | [true,true,false,false,true],_=>Z1l ha q ho hp k n1 d1 n2 d2
 | [true,true,false,false,false],_=>Z1m ha q ho hp k n1 d1 n2 d2
 | [true,false,true,true,true],_=>Z1n ha q ho hp k n1 d1 n2 d2
 | [true,false,true,true,false],_=>Z1o ha q ho hp k n1 d1 n2 d2
 | [true,false,true,false,true],_=>Z1p ha q ho hp k n1 d1 n2 d2
 | [true,false,true,false,false],_=>Z1q ha q ho hp k n1 d1 n2 d2
 | [true,false,false,true,true],_=>Z1r ha q ho hp k n1 d1 n2 d2
 | [true,false,false,true,false],_=>Z1s ha q ho hp k n1 d1 n2 d2
 | [true,false,false,false,true],_=>Z1t ha q ho hp k n1 d1 n2 d2
 | [true,false,false,false,false],_=>Z1u ha q ho hp k n1 d1 n2 d2
 | [false,true,true,true,true],_=>Z1v ha q ho hp k n1 d1 n2 d2
 | [false,true,true,true,false],_=>Z1w ha q ho hp k n1 d1 n2 d2
 | [false,true,true,false,true],_=>Z1x ha q ho hp k n1 d1 n2 d2
 | [false,true,true,false,false],_=>Z1y ha q ho hp k n1 d1 n2 d2
 | [false,true,false,true,true],_=>Z1z ha q ho hp k n1 d1 n2 d2
 | [false,true,false,true,false],_=>Z10 ha q ho hp k n1 d1 n2 d2
 | [false,true,false,false,true],_=>Z11 ha q ho hp k n1 d1 n2 d2
 | [false,true,false,false,false],_=>Z12 ha q ho hp k n1 d1 n2 d2
 | [false,false,true,true,true],_=>Z13 ha q ho hp k n1 d1 n2 d2
 | [false,false,true,true,false],_=>Z14 ha q ho hp k n1 d1 n2 d2
 | [false,false,true,false,true],_=>Z15 ha q ho hp k n1 d1 n2 d2
 | [false,false,true,false,false],_=>Z16 ha q ho hp k n1 d1 n2 d2
 | [false,false,false,true,true],_=>Z17 ha q ho hp k n1 d1 n2 d2
 | [false,false,false,true,false],_=>Z18 ha q ho hp k n1 d1 n2 d2
 | [false,false,false,false,true],_=>Z19 ha q ho hp k n1 d1 n2 d2
 | [false,false,false,false,false],_=>Z2a ha q ho hp k n1 d1 n2 d2
end
end
end Go.Proofs.W
