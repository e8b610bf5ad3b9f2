/- The law CoatJoins: two films of one index are one, and films of the outer indices change nothing: its walk and its card. Part 1 of 9. No condition beside the row. -/
import Derived.Laws.CopyOwn
import Derived.Test.YtdgodcgdlfjpaaaGreatDoorA34
import Derived.Test.YtdgodcgdlfjpaaaGreatDoorA37
set_option linter.unusedVariables false
set_option linter.unusedSimpArgs false
namespace Go.Mono
open Go.RowKit
/-- three octets of a film's draft -/
structure Thn where
 i : Int
 p : Int
 q : Int
def Thn.vals (t : Thn) : Array Value := #[.int .u8 t.i, .int .u8 t.p, .int .u8 t.q]
def Thn.ok (t : Thn) : Prop := (0 ≤ t.i ∧ t.i ≤ 255) ∧ (0 ≤ t.p ∧ t.p ≤ 255) ∧ (0 ≤ t.q ∧ t.q ≤ 255)
/-- the film of a draft -/
def Thn.film (t : Thn) : Flm := ⟨10000000 + 250000 * (t.i % 61), t.p % 13, 1 + t.q % 12⟩
theorem Thn.film_small {t : Thn} (h : t.ok) : (10000000 ≤ t.film.ix ∧ t.film.ix ≤ 25000000) ∧ (0 ≤ t.film.p ∧ t.film.p ≤ 12) ∧ (1 ≤ t.film.q ∧ t.film.q ≤ 12) := by
 obtain ⟨⟨a, b⟩, ⟨c, d⟩, e, f⟩ := h
 unfold Thn.film
 simp only
 omega
theorem Thn.film_ok {t : Thn} (h : t.ok) : t.film.ok := by
 have := Thn.film_small h
 exact ⟨by omega, by omega, by omega, by omega, by omega, by omega⟩
def ThinsAt (w : World) (p : Option Addr) (n c : Nat) (G : Nat → Thn) : Prop := RdC w p n c 3 (fun i j => (G i).vals.getD j undef)
theorem RdC.rowAt {w : World} {p : Option Addr} {n c sz : Nat} {cell : Nat → Nat → Value} (h : RdC w p n c sz cell) (hn : 0 < n) : ∃ b off, p = some ⟨b, off, none⟩ ∧ b < w.heap.size ∧ ∀ i, i < n → ∀ w', Below w.heap.size w w' → ∀ j, j < sz → w'.cell? ⟨b, off + i * sz + j, none⟩ = some (cell i j) := by
 obtain ⟨_, _, h3⟩ := h
 obtain ⟨b, off, hp, hb, hc⟩ := h3 hn
 exact ⟨b, off, hp, hb, fun i hi w' hB j hj => (hB.cell hb).trans (hc i j hi hj)⟩
theorem new_cells (X : World) (cs : Array Value) (T : TypeId) : ∀ j u, cs.toList[j]? = some u → (X.alloc (.cells cs T)).cell? (Addr.add ⟨X.heap.size, 0, none⟩ j) = some u := by
 intro j u h
 rw [show Addr.add ⟨X.heap.size, 0, none⟩ j = ⟨X.heap.size, j, none⟩ from by simp [Addr.add]; exact fun h => h.symm, (Box.new X T cs).cell, ← Array.getElem?_toList]
 exact h
end Go.Mono
namespace Go.Proofs.YtdgodcgdlfjpaaaGreatDoor
open Go.RowKit Go.Mono
set_option maxRecDepth 100000 in
theorem thin_film (t : Thn) (ht : t.ok) (w : World) : Calls Tryz.prog 53 #[.agg t.vals] w fun e w' => e = .returned (.agg t.film.vals) ∧ Below w.heap.size w w' := by
 have hs := Thn.film_small ht
 obtain ⟨i, p, q⟩ := t
 unfold Thn.film at hs ⊢
 unfold Thn.vals
 obtain ⟨⟨a, b⟩, ⟨c, d⟩, e, f⟩ := ht
 simp only [Flm.vals] at hs a b c d e f ⊢
 have hif : (Tryz.prog.info? 24).map (·.size) = some 3 := by kernel_rfl
 go_enter Tryz.func53, Tryz.ntmps53
 go_wp2_with fail
 have b2 := Box.new (w.alloc (.cells #[.int .u8 i, .int .u8 p, .int .u8 q] 112)) 24 #[.int .i64 (10000000 + 250000 * (i % 61)), .int .i64 (p % 13), .int .i64 (1 + q % 12)]
 rw [World.size_alloc] at b2
 refine bodyPost_ret (b2.results rfl _ _ rfl Tryz.underlying24 rfl hif) rfl ?_
 exact ⟨rfl, belowAlloc (belowAlloc (Below.refl _ _) _) _⟩
end Go.Proofs.YtdgodcgdlfjpaaaGreatDoor
namespace Go.Mono
theorem splice_get {α : Type} (L : List α) (o : Nat) (C : List α) (h : o + C.length ≤ L.length) (j : Nat) : (splice L o C)[j]? = if j < o then L[j]? else if j < o + C.length then C[j - o]? else L[j]? := by
 have hl : (L.take o).length = o := by rw [List.length_take]; omega
 rw [splice]
 by_cases h1 : j < o
 ·rw [if_pos h1, List.getElem?_append_left (by omega), List.getElem?_take_of_lt h1]
 ·rw [if_neg h1, List.getElem?_append_right (by omega), hl]
  by_cases h2 : j < o + C.length
  ·rw [if_pos h2, List.getElem?_append_left (by omega)]
  ·rw [if_neg h2, List.getElem?_append_right (by omega), List.getElem?_drop]
   congr 1; omega
theorem ins_get {α : Type} (X Y : List α) (k : Nat) (hk : k ≤ X.length) (j : Nat) : (X.take k ++ (Y ++ X.drop k))[j]? = if j < k then X[j]? else if j < k + Y.length then Y[j - k]? else X[j - Y.length]? := by
 have hl : (X.take k).length = k := by rw [List.length_take]; omega
 by_cases h1 : j < k
 ·rw [if_pos h1, List.getElem?_append_left (by omega), List.getElem?_take_of_lt h1]
 ·rw [if_neg h1, List.getElem?_append_right (by omega), hl]
  by_cases h2 : j < k + Y.length
  ·rw [if_pos h2, List.getElem?_append_left (by omega)]
  ·rw [if_neg h2, List.getElem?_append_right (by omega), List.getElem?_drop]
   congr 1; omega
/-- room: what stands behind goes up, then the new cells come in -/
theorem splice_shift {α : Type} (L X Y : List α) (k : Nat) (hk : k ≤ X.length) (hX : L.take X.length = X) (hL : X.length + Y.length ≤ L.length) :
  (splice (splice L (k + Y.length) (X.drop k)) k Y).take (X.length + Y.length) = X.take k ++ (Y ++ X.drop k) := by
 have hd : (X.drop k).length = X.length - k := List.length_drop
 have h1 : k + Y.length + (X.drop k).length ≤ L.length := by omega
 have h2 : (splice L (k + Y.length) (X.drop k)).length = L.length := length_splice _ _ _ h1
 refine List.ext_getElem? fun j => ?_
 rw [ins_get X Y k hk]
 by_cases hj : j < X.length + Y.length
 ·rw [List.getElem?_take_of_lt hj, splice_get _ _ _ (by omega)]
  by_cases a1 : j < k
  ·rw [if_pos a1, if_pos a1, splice_get _ _ _ h1, if_pos (by omega)]
   have := congrArg (fun l => l[j]?) hX
   simpa [List.getElem?_take_of_lt (show j < X.length by omega)] using this
  ·rw [if_neg a1, if_neg a1]
   by_cases a2 : j < k + Y.length
   ·rw [if_pos a2, if_pos a2]
   ·rw [if_neg a2, if_neg a2, splice_get _ _ _ h1, if_neg a2, if_pos (by omega), List.getElem?_drop]
    congr 1; omega
 ·rw [List.getElem?_eq_none (by rw [List.length_take]; omega), if_neg (by omega), if_neg (by omega), List.getElem?_eq_none (by omega)]
/-- no room: a new row, the new cells, then what stood behind -/
theorem splice_fill {α : Type} (X Z Y : List α) (k : Nat) (hk : k ≤ X.length) (hZ : Y.length + (X.length - k) ≤ Z.length) :
  (splice (splice (X.take k ++ Z) k Y) (k + Y.length) (X.drop k)).take (X.length + Y.length) = X.take k ++ (Y ++ X.drop k) := by
 have hd : (X.drop k).length = X.length - k := List.length_drop
 have hl : (X.take k).length = k := by rw [List.length_take]; omega
 have h1 : k + Y.length ≤ (X.take k ++ Z).length := by rw [List.length_append]; omega
 have h2 : (splice (X.take k ++ Z) k Y).length = (X.take k ++ Z).length := length_splice _ _ _ h1
 have h3 : k + Y.length + (X.drop k).length ≤ (X.take k ++ Z).length := by rw [List.length_append]; omega
 refine List.ext_getElem? fun j => ?_
 rw [ins_get X Y k hk]
 by_cases hj : j < X.length + Y.length
 ·rw [List.getElem?_take_of_lt hj, splice_get _ _ _ (by omega)]
  by_cases a1 : j < k
  ·rw [if_pos (by omega), if_pos a1, splice_get _ _ _ h1, if_pos a1, List.getElem?_append_left (by omega), List.getElem?_take_of_lt a1]
  ·rw [if_neg a1]
   by_cases a2 : j < k + Y.length
   ·rw [if_pos a2, if_pos a2, splice_get _ _ _ h1, if_neg a1, if_pos a2]
   ·rw [if_neg a2, if_neg a2, if_pos (by omega), List.getElem?_drop]
    congr 1; omega
 ·rw [List.getElem?_eq_none (by rw [List.length_take]; omega), if_neg (by omega), if_neg (by omega), List.getElem?_eq_none (by omega)]
end Go.Mono
