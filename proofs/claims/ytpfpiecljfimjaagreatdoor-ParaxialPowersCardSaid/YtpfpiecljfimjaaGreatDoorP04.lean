/- The law ParaxialPowers: Index and Power equal the reference,its walk by a verified evaluator,and its card. Part 4 of 9. No condition beside the row. -/
import Derived.Test.YtpfpiecljfimjaaGreatDoorP02
set_option linter.unusedVariables false
set_option linter.unusedSimpArgs false
set_option maxRecDepth 100000
set_option maxHeartbeats 4000000
namespace Go.Proofs.W
open Go.RowKit Go.Mono
section
open Go.Ex
set_option maxRecDepth 100000
section
variable {a:Lns} (ha:a.opt) {m:Nat} {w0:World} (q:Plc) (ho:OptAt w0 a q) (hN:SrfsNil a q) (hp:PowsAt w0 m) (u k s x y:Int) (K1 S1 S2:Bool) (hns:a.ns=3) (h6:2<=3∧3<=6)
theorem Zyi:pwsRun ha hns h6 q ho hN hp u k s x y 0 K1 S1 S2:=by
 cases K1<;>cases S1<;>cases S2<;>(unfold pwsRun;as_aux_lemma=>kernel_rfl)
theorem Zyj:pwsRun ha hns h6 q ho hN hp u k s x y 1 K1 S1 S2:=by
 cases K1<;>cases S1<;>cases S2<;>(unfold pwsRun;as_aux_lemma=>kernel_rfl)
theorem Zyk:pwsRun ha hns h6 q ho hN hp u k s x y 2 K1 S1 S2:=by
 cases K1<;>cases S1<;>cases S2<;>(unfold pwsRun;as_aux_lemma=>kernel_rfl)
theorem Zyl:pwsRun ha hns h6 q ho hN hp u k s x y 3 K1 S1 S2:=by
 cases K1<;>cases S1<;>cases S2<;>(unfold pwsRun;as_aux_lemma=>kernel_rfl)
theorem Zym:pwsRun ha hns h6 q ho hN hp u k s x y 4 K1 S1 S2:=by
 cases K1<;>cases S1<;>cases S2<;>(unfold pwsRun;as_aux_lemma=>kernel_rfl)
end
end
end Go.Proofs.W
