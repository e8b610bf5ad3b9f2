/- The law ParaxialPlane: its walk and its card. Part 4 of 7. No condition beside the row. -/
import Derived.Test.YtfgmlkjibdegfaaGreatDoorP02
set_option linter.unusedVariables false
set_option linter.unusedSimpArgs false
set_option maxRecDepth 100000
set_option maxHeartbeats 4000000
namespace Go.Proofs.W
open Go.RowKit Go.Mono
section
open Go.Ex
set_option maxRecDepth 100000
section
variable {a:Lns} (ha:a.opt) (q:Plc) {m:Nat} {w0:World} (ho:OptAt w0 a q) (hp:PowsAt w0 m) (k n1 d1 n2 d2:Int)
theorem Zzn:PlaR ha q ho hp k n1 d1 n2 d2 6 [true,true,true,true,true,true]:=λhns h6=>Zk
theorem Zzo:PlaR ha q ho hp k n1 d1 n2 d2 6 [true,true,true,true,true,false]:=λhns h6=>Zk
theorem Zzp:PlaR ha q ho hp k n1 d1 n2 d2 6 [true,true,true,true,false,true]:=λhns h6=>Zk
theorem Zzq:PlaR ha q ho hp k n1 d1 n2 d2 6 [true,true,true,true,false,false]:=λhns h6=>Zk
theorem Zzr:PlaR ha q ho hp k n1 d1 n2 d2 6 [true,true,true,false,true,true]:=λhns h6=>Zk
theorem Zzs:PlaR ha q ho hp k n1 d1 n2 d2 6 [true,true,true,false,true,false]:=λhns h6=>Zk
theorem Zzt:PlaR ha q ho hp k n1 d1 n2 d2 6 [true,true,true,false,false,true]:=λhns h6=>Zk
theorem Zzu:PlaR ha q ho hp k n1 d1 n2 d2 6 [true,true,true,false,false,false]:=λhns h6=>Zk
theorem Zzv:PlaR ha q ho hp k n1 d1 n2 d2 6 [true,true,false,true,true,true]:=λhns h6=>Zk
theorem Zzw:PlaR ha q ho hp k n1 d1 n2 d2 6 [true,true,false,true,true,false]:=λhns h6=>Zk
theorem Zzx:PlaR ha q ho hp k n1 d1 n2 d2 6 [true,true,false,true,false,true]:=λhns h6=>Zk
theorem Zzy:PlaR ha q ho hp k n1 d1 n2 d2 6 [true,true,false,true,false,false]:=λhns h6=>Zk
theorem Zzz:PlaR ha q ho hp k n1 d1 n2 d2 6 [true,true,false,false,true,true]:=λhns h6=>Zk
theorem Zz0:PlaR ha q ho hp k n1 d1 n2 d2 6 [true,true,false,false,true,false]:=λhns h6=>Zk
theorem Zz1:PlaR ha q ho hp k n1 d1 n2 d2 6 [true,true,false,false,false,true]:=λhns h6=>Zk
theorem Zz2:PlaR ha q ho hp k n1 d1 n2 d2 6 [true,true,false,false,false,false]:=λhns h6=>Zk
end
end
section
open Go.Ex
set_option maxRecDepth 100000
section
variable {a:Lns} (ha:a.opt) (q:Plc) {m:Nat} {w0:World} (ho:OptAt w0 a q) (hp:PowsAt w0 m) (k n1 d1 n2 d2:Int)
theorem Zz3:PlaR ha q ho hp k n1 d1 n2 d2 6 [true,false,true,true,true,true]:=λhns h6=>Zk
theorem Zz4:PlaR ha q ho hp k n1 d1 n2 d2 6 [true,false,true,true,true,false]:=λhns h6=>Zk
theorem Zz5:PlaR ha q ho hp k n1 d1 n2 d2 6 [true,false,true,true,false,true]:=λhns h6=>Zk
theorem Zz6:PlaR ha q ho hp k n1 d1 n2 d2 6 [true,false,true,true,false,false]:=λhns h6=>Zk
theorem Zz7:PlaR ha q ho hp k n1 d1 n2 d2 6 [true,false,true,false,true,true]:=λhns h6=>Zk
theorem Zz8:PlaR ha q ho hp k n1 d1 n2 d2 6 [true,false,true,false,true,false]:=λhns h6=>Zk
theorem Zz9:PlaR ha q ho hp k n1 d1 n2 d2 6 [true,false,true,false,false,true]:=λhns h6=>Zk
theorem Z0a:PlaR ha q ho hp k n1 d1 n2 d2 6 [true,false,true,false,false,false]:=λhns h6=>Zk
theorem Z0b:PlaR ha q ho hp k n1 d1 n2 d2 6 [true,false,false,true,true,true]:=λhns h6=>Zk
theorem Z0c:PlaR ha q ho hp k n1 d1 n2 d2 6 [true,false,false,true,true,false]:=λhns h6=>Zk
theorem Z0d:PlaR ha q ho hp k n1 d1 n2 d2 6 [true,false,false,true,false,true]:=λhns h6=>Zk
theorem Z0e:PlaR ha q ho hp k n1 d1 n2 d2 6 [true,false,false,true,false,false]:=λhns h6=>Zk
theorem Z0f:PlaR ha q ho hp k n1 d1 n2 d2 6 [true,false,false,false,true,true]:=λhns h6=>Zk
theorem Z0g:PlaR ha q ho hp k n1 d1 n2 d2 6 [true,false,false,false,true,false]:=λhns h6=>Zk
theorem Z0h:PlaR ha q ho hp k n1 d1 n2 d2 6 [true,false,false,false,false,true]:=λhns h6=>Zk
theorem Z0i:PlaR ha q ho hp k n1 d1 n2 d2 6 [true,false,false,false,false,false]:=λhns h6=>Zk
end
end
end Go.Proofs.W
