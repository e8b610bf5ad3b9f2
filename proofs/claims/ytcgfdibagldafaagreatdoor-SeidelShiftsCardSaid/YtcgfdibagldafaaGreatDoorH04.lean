/- The law SeidelShifts: Shift equals the reference: its walk by a verified evaluator, and its card. Part 4 of 11. No condition beside the row. -/
import Derived.Test.YtcgfdibagldafaaGreatDoorA29
import Derived.Test.YtcgfdibagldafaaGreatDoorG06
import Derived.Test.YtcgfdibagldafaaGreatDoorH01
set_option linter.unusedVariables false
set_option linter.unusedSimpArgs false
set_option maxRecDepth 100000
set_option maxHeartbeats 4000000
namespace Go.Proofs.YtcgfdibagldafaaGreatDoor
open Go.RowKit Go.Mono Go.Ex
section
section
variable {K : Nat → Value} {hK : ∀ i, (K i).oneCell' = true}
def numC (ns ds : Nat → Int) (i : Nat) : List Value := [.int .i16 (ns i), .int .u8 (ds i)]
def cNums (w0 : World) (X : Nat → Prop) (ns ds : Nat → Int) (k : Nat)
    (h : ∀ i, i < k → ∀ ρ w, Frm w0 X w → Calls Tryz.prog 12 #[.agg (numC ns ds i).toArray] w fun e w' => ∃ v, e = .returned v ∧ denA (qDen K hK) ρ w' (.agg [.qe (polVar i)]) v ∧ Below w.heap.size w w') : Ctr (qDen K hK) Tryz.prog w0 X := .plain 12 (fun args _ orc => match args with
    | [.agg [.raw 2 x]] => (match Nat.blt (unar orc).1 k with
      | true => some (.a (.agg [.qe (polVar (unar orc).1)]), [x = numC ns ds (unar orc).1], (unar orc).2)
      | false => none)
    | _ => none) <| by
 intro args bk orc v obl orc' hr hobl ρ w vals hfr hb hargs
 split at hr
 ·rename_i x
  split at hr
  ·rename_i hk
   cases hr
   obtain ⟨v1, r1, rfl, ⟨cs, rfl, a1, z1, rfl, ⟨rfl, _⟩, hz1⟩, h3⟩ := hargs
   obtain rfl : r1 = [] := h3
   obtain rfl : z1 = [] := hz1
   rw [List.append_nil]
   have e := hobl (a1 = numC ns ds (unar orc).1) (by simp)
   rw [e]
   exact h _ (by simpa using hk) ρ w hfr
  ·cases hr
 ·cases hr
def cOddU (w0 : World) (X : Nat → Prop) (x y z : Value) (o : U) (h : ∀ ρ w, Frm w0 X w → Calls Tryz.prog 24 #[.agg #[x, y, z]] w fun e w' => ∃ v, e = .returned v ∧ denA (qDen K hK) ρ w' (.agg [o]) v ∧ Below w.heap.size w w') : Ctr (qDen K hK) Tryz.prog w0 X := .plain 24 (fun args _ orc => match args with
    | [.agg [.raw 1 [a], .raw 1 [b], .raw 1 [c]]] => some (.a (.agg [o]), [a = x, b = y, c = z], orc)
    | _ => none) <| by
 intro args bk orc v obl orc' hr hobl ρ w vals hfr hb hargs
 split at hr
 ·rename_i a b c
  cases hr
  obtain rfl := hobl (a = x) (by simp)
  obtain rfl := hobl (b = y) (by simp)
  obtain rfl := hobl (c = z) (by simp)
  obtain ⟨v1, r1, rfl, ⟨cs, rfl, c1, d1, rfl, ⟨rfl, _⟩, c2, d2, rfl, ⟨rfl, _⟩, c3, d3, rfl, ⟨rfl, _⟩, hd⟩, h3⟩ := hargs
  obtain rfl : r1 = [] := h3
  obtain rfl : d3 = [] := hd
  exact h ρ w hfr
 ·cases hr
end
end
end Go.Proofs.YtcgfdibagldafaaGreatDoor
