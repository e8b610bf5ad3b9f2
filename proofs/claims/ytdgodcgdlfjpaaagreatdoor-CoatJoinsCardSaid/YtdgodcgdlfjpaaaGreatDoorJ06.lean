/- The law CoatJoins: two films of one index are one, and films of the outer indices change nothing: its walk and its card. Part 6 of 9. No condition beside the row. -/
import Derived.Test.YtdgodcgdlfjpaaaGreatDoorA39
import Derived.Test.YtdgodcgdlfjpaaaGreatDoorJ02
import Derived.Test.YtdgodcgdlfjpaaaGreatDoorJ03
import Derived.Test.YtdgodcgdlfjpaaaGreatDoorJ04
import Derived.Test.YtdgodcgdlfjpaaaGreatDoorJ05
set_option linter.unusedVariables false
set_option linter.unusedSimpArgs false
namespace Go.Mono
open Go.RowKit
/-- a fraction in a box -/
structure QB (X : World) (B : Nat) (T : TypeId) (C : Array Value) (q : Rat) : Prop where
 box : Box X B T C
 qv : QV X (.agg C) q
theorem QB.below {X Y : World} {B : Nat} {T : TypeId} {C : Array Value} {q : Rat} (h : QB X B T C q) (hB : Below X.heap.size X Y) : QB Y B T C q := ⟨h.box.below hB, h.qv.ext (.of_below hB)⟩
theorem QV.size {X : World} {C : Array Value} {q : Rat} (h : QV X (.agg C) q) : C.size = 4 := by
 obtain ⟨D, hD, hs, h1⟩ := h.cells
 cases hD
 exact hs
theorem QV.one {X : World} {C : Array Value} {q : Rat} (h : QV X (.agg C) q) : C.all (·.oneCell') = true := by
 obtain ⟨D, hD, hs, h1⟩ := h.cells
 cases hD
 exact h1
theorem QV.agg {X : World} {v : Value} {q : Rat} (h : QV X v q) : ∃ C, v = .agg C ∧ QV X (.agg C) q := by
 have h' := h
 obtain ⟨D, rfl, hs, h1⟩ := h.cells
 exact ⟨D, rfl, h'⟩
theorem rangeAt_below {X Y : World} {B o : Nat} {l : List Value} (h : X.rangeAt B o l) (hlt : B < X.heap.size) (hB : Below X.heap.size X Y) : Y.rangeAt B o l := fun j v hj => (hB.cell hlt).trans (h j v hj)
/-- a matrix in memory, fraction by fraction -/
structure QRow (X : World) (B : Nat) (A0 A1 A2 A3 : Array Value) (m : Mat) : Prop where
 lt : B < X.heap.size
 r0 : X.rangeAt B 0 A0.toList
 r1 : X.rangeAt B 4 A1.toList
 r2 : X.rangeAt B 8 A2.toList
 r3 : X.rangeAt B 12 A3.toList
 q0 : QV X (.agg A0) m.a
 q1 : QV X (.agg A1) m.b
 q2 : QV X (.agg A2) m.c
 q3 : QV X (.agg A3) m.d
theorem QRow.below {X Y : World} {B : Nat} {A0 A1 A2 A3 : Array Value} {m : Mat} (h : QRow X B A0 A1 A2 A3 m) (hB : Below X.heap.size X Y) : QRow Y B A0 A1 A2 A3 m :=
 ⟨Nat.lt_of_lt_of_le h.lt hB.size, rangeAt_below h.r0 h.lt hB, rangeAt_below h.r1 h.lt hB, rangeAt_below h.r2 h.lt hB, rangeAt_below h.r3 h.lt hB, h.q0.ext (.of_below hB), h.q1.ext (.of_below hB), h.q2.ext (.of_below hB), h.q3.ext (.of_below hB)⟩
theorem MV.row {X : World} {B : Nat} {T : TypeId} {C : Array Value} {m : Mat} (h : MV X C m) (b : Box X B T C) : ∃ A0 A1 A2 A3, QRow X B A0 A1 A2 A3 m := by
 obtain ⟨a0, a1, a2, a3, b0, b1, b2, b3, c0, c1, c2, c3, d0, d1, d2, d3, rfl, h1, h2, h3, h4⟩ := h.parts
 have hc := b.cell
 refine ⟨_, _, _, _, b.lt, ?_, ?_, ?_, ?_, h1, h2, h3, h4⟩
 all_goals
  intro j v hj
  rw [hc]
  have hj4 : j < 4 := (List.getElem?_eq_some_iff.1 hj).1
  rcases (by omega : j = 0 ∨ j = 1 ∨ j = 2 ∨ j = 3) with rfl | rfl | rfl | rfl <;> exact hj
theorem small_wrap (s : Int) (h : 0 ≤ s ∧ s ≤ 255) : IntKind.i64.wrap (10000000 + IntKind.i64.wrap (100000 * IntKind.i64.wrap s)) = 10000000 + 100000 * s := by
 simp [IntKind.wrap, IntKind.signed, IntKind.bits]
 omega
theorem one_div1 : (1 : Rat) = Rat.divInt 1 1 := by decide +kernel
theorem fits_one : Fits 1 := ⟨by decide +kernel, by decide +kernel⟩
theorem det_fits {F : Nat → Flm} {n : Nat} (hF : ∀ i, i < n → (F i).ok) (hn : n ≤ 8) : Fits ((stackN F n).a * (stackN F n).d) ∧ Fits ((stackN F n).b * (stackN F n).c) ∧ (stackN F n).a * (stackN F n).d + (stackN F n).b * (stackN F n).c = 1 := by
 have hd : (stackN F n).det = 1 := stack_det (filmsN_ok hF)
 obtain ⟨h1, h2, h3, h4⟩ := stack_hs _ (filmsN_ok hF) (by rw [filmsN_length]; omega)
 exact ⟨(h1.mul h4).fits (by decide), (h2.mul h3).fits (by decide), hd⟩
theorem filmsN_reverse (F : Nat → Flm) (n : Nat) : filmsN (fun i => F (n - 1 - i)) n = (filmsN F n).reverse := by
 apply List.ext_getElem?
 intro i
 by_cases hi : i < n
 ·rw [List.getElem?_reverse (by rw [filmsN_length]; exact hi), filmsN_length]
  simp [filmsN, hi, show n - 1 - i < n by omega]
 ·rw [List.getElem?_eq_none (by rw [filmsN_length]; omega), List.getElem?_eq_none (by rw [List.length_reverse, filmsN_length]; omega)]
theorem stackN_reverse (F : Nat → Flm) (n : Nat) : stackN (fun i => F (n - 1 - i)) n = (stackN F n).turn := by
 unfold stackN
 rw [filmsN_reverse, stack_reverse]
/-- what the law says of a stack, one way round and the other -/
theorem sums_plain {F : Nat → Flm} {n : Nat} (hF : ∀ i, i < n → (F i).ok) (na nb : Int) (a1 : 10000000 ≤ na) (b1 : 10000000 ≤ nb) :
  back (idx na) (idx nb) (stackN F n) + through (idx na) (idx nb) (stackN F n) = 1 ∧ 0 ≤ (back (idx na) (idx nb) (stackN F n)).num.sign ∧ 0 < (through (idx na) (idx nb) (stackN F n)).num.sign ∧
  back (idx nb) (idx na) (stackN (fun i => F (n - 1 - i)) n) = back (idx na) (idx nb) (stackN F n) ∧ through (idx nb) (idx na) (stackN (fun i => F (n - 1 - i)) n) = through (idx na) (idx nb) (stackN F n) := by
 have hd : (stackN F n).det = 1 := stack_det (filmsN_ok hF)
 have h1 := back_nonneg _ _ _ hd (idx_pos a1) (idx_pos b1)
 have h2 := through_pos _ _ _ hd (idx_pos a1) (idx_pos b1)
 refine ⟨sum_one _ _ _ hd (idx_pos a1) (idx_pos b1), ?_, ?_, ?_⟩
 ·have := Rat.num_nonneg.2 h1
  exact Int.sign_nonneg_iff.2 this
 ·have hn := Rat.num_nonneg.2 (Rat.le_of_lt h2)
  have h0 : (through (idx na) (idx nb) (stackN F n)).num ≠ 0 := fun e => by
   rw [Rat.num_eq_zero.1 e] at h2
   exact absurd h2 (Rat.lt_irrefl)
  exact Int.sign_pos_iff.2 (by omega)
 ·rw [stackN_reverse]
  exact back_turn _ _ _
end Go.Mono
namespace Go.Proofs.YtdgodcgdlfjpaaaGreatDoor
open Go.RowKit Go.Mono
theorem owns_nil {w : World} {base : Nat} {e : TypeId} {size : Nat} {p : Option Addr} {n cap : Nat} {xs : List Value} (h : w.ownsRow base e size (.slice p n cap) n xs) : p = none → n = 0 ∧ cap = 0 := by
 rintro rfl
 obtain ⟨hl, h⟩ := h
 rcases h with ⟨h1, h0⟩ | ⟨g', cap', cur, hv, hb, hg, h1, h2, h3, h4⟩
 ·cases h1; exact ⟨rfl, rfl⟩
 ·cases hv
theorem row_some {w : World} {base : Nat} {p : Option Addr} {n cap : Nat} {G : Nat → Flm} (h : w.ownsRow base 24 3 (.slice p n cap) n (frow G n)) : ∃ g, base ≤ g ∧ (0 < n → p = some ⟨g, 0, none⟩ ∧ FRow w g n cap G) := by
 by_cases hn : 0 < n
 ·obtain ⟨g, hp, hb, hr⟩ := FRow.of_owns h hn
  exact ⟨g, hb, fun _ => ⟨hp, hr⟩⟩
 ·exact ⟨base, Nat.le_refl _, fun h => absurd h hn⟩
end Go.Proofs.YtdgodcgdlfjpaaaGreatDoor
namespace Go.Proofs.YtdgodcgdlfjpaaaGreatDoor
open Go Go.ChangeShapes Go.WideShapes Go.ChangeAt Go.RowKit Go.Mono
section
variable {H : Type} {enc : TypeId × Value → H} {W : World} {base : Nat} {r : Reach} {v : Value} {d : DataW H} {p : List MemPlace}
set_option maxRecDepth 100000 in
theorem open_oct (hv : Value.okWide Tryz.prog W r base 5 v) (h : DataW.Trod enc Tryz.prog W 0 (fun _ => true) true 5 v d p) : ∃ o : Int, v = .int .u8 o ∧ (0 ≤ o ∧ o ≤ 255) := by
 obtain ⟨x, rfl, rfl, rfl, wx⟩ := open_int Tryz.underlying5 hv h
 exact ⟨x, rfl, bounds_u8 wx⟩
end
end Go.Proofs.YtdgodcgdlfjpaaaGreatDoor
