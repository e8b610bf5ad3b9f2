/- The law SeidelShifts: Shift equals the reference: its walk by a verified evaluator, and its card. Part 5 of 11. No condition beside the row. -/
import Derived.Test.YtcgfdibagldafaaGreatDoorH04
set_option linter.unusedVariables false
set_option linter.unusedSimpArgs false
set_option maxRecDepth 100000
set_option maxHeartbeats 4000000
namespace Go.Proofs.YtcgfdibagldafaaGreatDoor
open Go.RowKit Go.Mono Go.Ex
section
section
variable {m : Nat} {l : List Rat} {ns ds : Nat → Int} {x y z : Value}
abbrev NQ (m : Nat) (l : List Rat) (w0 : World) (ns ds : Nat → Int) : Prop := ∀ i, i < 6 → ∀ ρ w, Frm w0 (fun _ => False) w → Calls Tryz.prog 12 #[.agg (numC ns ds i).toArray] w fun e w' => ∃ v, e = .returned v ∧ denA (qDen (lK m l) (lK1 m l)) ρ w' (.agg [.qe (polVar i)]) v ∧ Below w.heap.size w w'
abbrev OQ (m : Nat) (l : List Rat) (w0 : World) (x y z : Value) (o : U) : Prop := ∀ ρ w, Frm w0 (fun _ => False) w → Calls Tryz.prog 24 #[.agg #[x, y, z]] w fun e w' => ∃ v, e = .returned v ∧ denA (qDen (lK m l) (lK1 m l)) ρ w' (.agg [o]) v ∧ Below w.heap.size w w'
abbrev SW (m : Nat) : Prop := ∀ (w : World), PowsAt w m → Calls Tryz.prog 23 #[] w fun e w' => e = .returned (.bool true) ∧ Below w.heap.size w w'
abbrev kS : List Nat := [27, 27, 27, 27, 27, 27, 27]
def spH {w0 : World} (hp : PowsAt w0 m) (hks : LetS (qDen (lK m l) (lK1 m l)).env kS) (h0 : NQ m l w0 ns ds) {o : U} (h1 : OQ m l w0 x y z o) (hw : SW m) : List (Ctr (qDen (lK m l) (lK1 m l)) Tryz.prog w0 (fun _ => False)) :=
 cNums w0 _ ns ds 6 h0 :: cOddU w0 _ x y z o h1 :: cTrue hp 23 hw :: spP kS hks w0 _
def shA (ns ds : Nat → Int) (x y z : Value) (k : Int) : List SA := [.agg [.raw 2 (numC ns ds 0), .raw 2 (numC ns ds 1), .raw 2 (numC ns ds 2), .raw 2 (numC ns ds 3), .raw 2 (numC ns ds 4), .raw 2 (numC ns ds 5)], .agg [.raw 1 [x], .raw 1 [y], .raw 1 [z]], .one (.sml .u8 k)]
def shN (ns ds : Nat → Int) (L : List Prop) : List Prop := (numC ns ds 0 = numC ns ds 0) :: (numC ns ds 1 = numC ns ds 1) :: (numC ns ds 2 = numC ns ds 2) :: (numC ns ds 3 = numC ns ds 3) :: (numC ns ds 4 = numC ns ds 4) :: (numC ns ds 5 = numC ns ds 5) :: L
theorem sh0b {w0 : World} (hp : PowsAt w0 m) (hks : LetS (qDen (lK m l) (lK1 m l)).env kS) (h0 : NQ m l w0 ns ds) (h1 : OQ m l w0 x y z (.bad)) (hw : SW m) (k : Int) :
  (evF Tryz.prog (spH hp hks h0 h1 hw) [] 30 [] 7 (shA ns ds x y z k) [] 0 0 [some true, some false, some true, some false, some false, some true, some false, some false, some false, some true, some false, some false, some false, some false, some true, some false, some false, some false, some false, some false, some true, some true, some true, some false, some false, some false, some false, some false, some true, some false, some false, some false, some false, some false, some true]).map (fun r => (r.v, r.obl, r.pan)) = some (.a (.one (.val (.bool true))), shN ns ds [(6 : Int) ≠ 0, decide (k.tmod 6 < 5) = true, (6 : Int) ≠ 0, x = x, y = y, z = z, k.tmod 6 = ((0 : Nat) : Int), numC ns ds 5 = numC ns ds 5, numC ns ds 5 = numC ns ds 5], none) := by kernel_rfl
theorem sh0q {w0 : World} (hp : PowsAt w0 m) (hks : LetS (qDen (lK m l) (lK1 m l)).env kS) (h0 : NQ m l w0 ns ds) (h1 : OQ m l w0 x y z (.qe (polVar 6))) (hw : SW m) (k : Int) :
  (evF Tryz.prog (spH hp hks h0 h1 hw) [] 30 [] 7 (shA ns ds x y z k) [] 0 0 [some true, some false, some true, some false, some false, some true, some false, some false, some false, some true, some false, some false, some false, some false, some true, some false, some false, some false, some false, some false, some true, some true, some true, some false, some false, some false, some false, some false, some true, some false, some false, some false, some false, some false, some true]).map (fun r => (r.v, r.obl, r.pan)) = some (.a (.one (.val (.bool true))), shN ns ds [(6 : Int) ≠ 0, decide (k.tmod 6 < 5) = true, (6 : Int) ≠ 0, x = x, y = y, z = z, k.tmod 6 = ((0 : Nat) : Int), numC ns ds 5 = numC ns ds 5, numC ns ds 5 = numC ns ds 5], none) := by kernel_rfl
theorem sh1b {w0 : World} (hp : PowsAt w0 m) (hks : LetS (qDen (lK m l) (lK1 m l)).env kS) (h0 : NQ m l w0 ns ds) (h1 : OQ m l w0 x y z (.bad)) (hw : SW m) (k : Int) :
  (evF Tryz.prog (spH hp hks h0 h1 hw) [] 30 [] 7 (shA ns ds x y z k) [] 0 0 [some true, some false, some true, some false, some false, some true, some false, some false, some false, some true, some false, some false, some false, some false, some true, some false, some false, some false, some false, some false, some true, some true, some false, some true, some false, some false, some false, some false, some false, some true, some false, some false, some false, some false, some false, some true]).map (fun r => (r.v, r.obl, r.pan)) = some (.a (.one (.val (.bool true))), shN ns ds [(6 : Int) ≠ 0, decide (k.tmod 6 < 5) = true, (6 : Int) ≠ 0, x = x, y = y, z = z, k.tmod 6 = ((1 : Nat) : Int), numC ns ds 5 = numC ns ds 5, numC ns ds 5 = numC ns ds 5], none) := by kernel_rfl
theorem sh1q {w0 : World} (hp : PowsAt w0 m) (hks : LetS (qDen (lK m l) (lK1 m l)).env kS) (h0 : NQ m l w0 ns ds) (h1 : OQ m l w0 x y z (.qe (polVar 6))) (hw : SW m) (k : Int) :
  (evF Tryz.prog (spH hp hks h0 h1 hw) [] 30 [] 7 (shA ns ds x y z k) [] 0 0 [some true, some false, some true, some false, some false, some true, some false, some false, some false, some true, some false, some false, some false, some false, some true, some false, some false, some false, some false, some false, some true, some true, some false, some true, some false, some false, some false, some false, some false, some true, some false, some false, some false, some false, some false, some true]).map (fun r => (r.v, r.obl, r.pan)) = some (.a (.one (.val (.bool true))), shN ns ds [(6 : Int) ≠ 0, decide (k.tmod 6 < 5) = true, (6 : Int) ≠ 0, x = x, y = y, z = z, k.tmod 6 = ((1 : Nat) : Int), numC ns ds 5 = numC ns ds 5, numC ns ds 5 = numC ns ds 5], none) := by kernel_rfl
end
end
end Go.Proofs.YtcgfdibagldafaaGreatDoor
