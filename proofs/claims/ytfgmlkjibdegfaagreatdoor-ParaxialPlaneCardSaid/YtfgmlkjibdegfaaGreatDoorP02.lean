/- The law ParaxialPlane: its walk and its card. Part 2 of 7. No condition beside the row. -/
import Derived.Test.YtfgmlkjibdegfaaGreatDoorP01
set_option linter.unusedVariables false
set_option linter.unusedSimpArgs false
set_option maxRecDepth 100000
set_option maxHeartbeats 4000000
namespace Go.Proofs.W
open Go.RowKit Go.Mono
section
open Go.Ex
set_option maxRecDepth 100000
section
variable {a:Lns} (ha:a.opt) (q:Plc) {m:Nat} {w0:World} (ho:OptAt w0 a q) (hp:PowsAt w0 m) (k n1 d1 n2 d2:Int)
def PlaR (ns:Nat) (bs:List Bool):Prop:=∀(hns:a.ns=ns) (h6:2<=ns∧ns<=6),runPla ha q hns h6 ho hp bs k n1 d1 n2 d2=some (.ret,[],some (.a (.one (.val (.bool true)))),obPla a q ns 3 bs k n1 d1 n2 d2)
theorem Z3c:PlaR ha q ho hp k n1 d1 n2 d2 2 [true,true]:=λhns h6=>Zk
theorem Z3d:PlaR ha q ho hp k n1 d1 n2 d2 2 [true,false]:=λhns h6=>Zk
theorem Z3e:PlaR ha q ho hp k n1 d1 n2 d2 2 [false,true]:=λhns h6=>Zk
theorem Z3f:PlaR ha q ho hp k n1 d1 n2 d2 2 [false,false]:=λhns h6=>Zk
theorem rP2:∀bs:List Bool,bs.length=2->PlaR ha q ho hp k n1 d1 n2 d2 2 bs
 | [true,true],_=>Z3c ha q ho hp k n1 d1 n2 d2
 | [true,false],_=>Z3d ha q ho hp k n1 d1 n2 d2
 | [false,true],_=>Z3e ha q ho hp k n1 d1 n2 d2
 | [false,false],_=>Z3f ha q ho hp k n1 d1 n2 d2
theorem Z24:PlaR ha q ho hp k n1 d1 n2 d2 3 [true,true,true]:=λhns h6=>Zk
theorem Z25:PlaR ha q ho hp k n1 d1 n2 d2 3 [true,true,false]:=λhns h6=>Zk
theorem Z26:PlaR ha q ho hp k n1 d1 n2 d2 3 [true,false,true]:=λhns h6=>Zk
theorem Z27:PlaR ha q ho hp k n1 d1 n2 d2 3 [true,false,false]:=λhns h6=>Zk
theorem Z28:PlaR ha q ho hp k n1 d1 n2 d2 3 [false,true,true]:=λhns h6=>Zk
theorem Z29:PlaR ha q ho hp k n1 d1 n2 d2 3 [false,true,false]:=λhns h6=>Zk
theorem Z3a:PlaR ha q ho hp k n1 d1 n2 d2 3 [false,false,true]:=λhns h6=>Zk
theorem Z3b:PlaR ha q ho hp k n1 d1 n2 d2 3 [false,false,false]:=λhns h6=>Zk
theorem rP3:∀bs:List Bool,bs.length=3->PlaR ha q ho hp k n1 d1 n2 d2 3 bs
 | [true,true,true],_=>Z24 ha q ho hp k n1 d1 n2 d2
 | [true,true,false],_=>Z25 ha q ho hp k n1 d1 n2 d2
 | [true,false,true],_=>Z26 ha q ho hp k n1 d1 n2 d2
 | [true,false,false],_=>Z27 ha q ho hp k n1 d1 n2 d2
 | [false,true,true],_=>Z28 ha q ho hp k n1 d1 n2 d2
 | [false,true,false],_=>Z29 ha q ho hp k n1 d1 n2 d2
 | [false,false,true],_=>Z3a ha q ho hp k n1 d1 n2 d2
 | [false,false,false],_=>Z3b ha q ho hp k n1 d1 n2 d2
theorem Z2m:PlaR ha q ho hp k n1 d1 n2 d2 4 [true,true,true,true]:=λhns h6=>Zk
theorem Z2n:PlaR ha q ho hp k n1 d1 n2 d2 4 [true,true,true,false]:=λhns h6=>Zk
theorem Z2o:PlaR ha q ho hp k n1 d1 n2 d2 4 [true,true,false,true]:=λhns h6=>Zk
theorem Z2p:PlaR ha q ho hp k n1 d1 n2 d2 4 [true,true,false,false]:=λhns h6=>Zk
theorem Z2q:PlaR ha q ho hp k n1 d1 n2 d2 4 [true,false,true,true]:=λhns h6=>Zk
theorem Z2r:PlaR ha q ho hp k n1 d1 n2 d2 4 [true,false,true,false]:=λhns h6=>Zk
theorem Z2s:PlaR ha q ho hp k n1 d1 n2 d2 4 [true,false,false,true]:=λhns h6=>Zk
theorem Z2t:PlaR ha q ho hp k n1 d1 n2 d2 4 [true,false,false,false]:=λhns h6=>Zk
theorem Z2u:PlaR ha q ho hp k n1 d1 n2 d2 4 [false,true,true,true]:=λhns h6=>Zk
theorem Z2v:PlaR ha q ho hp k n1 d1 n2 d2 4 [false,true,true,false]:=λhns h6=>Zk
theorem Z2w:PlaR ha q ho hp k n1 d1 n2 d2 4 [false,true,false,true]:=λhns h6=>Zk
theorem Z2x:PlaR ha q ho hp k n1 d1 n2 d2 4 [false,true,false,false]:=λhns h6=>Zk
theorem Z2y:PlaR ha q ho hp k n1 d1 n2 d2 4 [false,false,true,true]:=λhns h6=>Zk
theorem Z2z:PlaR ha q ho hp k n1 d1 n2 d2 4 [false,false,true,false]:=λhns h6=>Zk
theorem Z20:PlaR ha q ho hp k n1 d1 n2 d2 4 [false,false,false,true]:=λhns h6=>Zk
theorem Z21:PlaR ha q ho hp k n1 d1 n2 d2 4 [false,false,false,false]:=λhns h6=>Zk
theorem rP4:∀bs:List Bool,bs.length=4->PlaR ha q ho hp k n1 d1 n2 d2 4 bs
 | [true,true,true,true],_=>Z2m ha q ho hp k n1 d1 n2 d2
 | [true,true,true,false],_=>Z2n ha q ho hp k n1 d1 n2 d2
 | [true,true,false,true],_=>Z2o ha q ho hp k n1 d1 n2 d2
 | [true,true,false,false],_=>Z2p ha q ho hp k n1 d1 n2 d2
 | [true,false,true,true],_=>Z2q ha q ho hp k n1 d1 n2 d2
 | [true,false,true,false],_=>Z2r ha q ho hp k n1 d1 n2 d2
 | [true,false,false,true],_=>Z2s ha q ho hp k n1 d1 n2 d2
 | [true,false,false,false],_=>Z2t ha q ho hp k n1 d1 n2 d2
 | [false,true,true,true],_=>Z2u ha q ho hp k n1 d1 n2 d2
 | [false,true,true,false],_=>Z2v ha q ho hp k n1 d1 n2 d2
 | [false,true,false,true],_=>Z2w ha q ho hp k n1 d1 n2 d2
 | [false,true,false,false],_=>Z2x ha q ho hp k n1 d1 n2 d2
 | [false,false,true,true],_=>Z2y ha q ho hp k n1 d1 n2 d2
 | [false,false,true,false],_=>Z2z ha q ho hp k n1 d1 n2 d2
 | [false,false,false,true],_=>Z20 ha q ho hp k n1 d1 n2 d2
 | [false,false,false,false],_=>Z21 ha q ho hp k n1 d1 n2 d2
end
end
end Go.Proofs.W
