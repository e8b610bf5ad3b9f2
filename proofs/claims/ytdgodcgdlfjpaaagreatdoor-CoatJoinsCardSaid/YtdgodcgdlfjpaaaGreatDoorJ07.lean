/- The law CoatJoins: two films of one index are one, and films of the outer indices change nothing: its walk and its card. Part 7 of 9. No condition beside the row. -/
import Derived.Test.YtdgodcgdlfjpaaaGreatDoorA29
import Derived.Test.YtdgodcgdlfjpaaaGreatDoorJ02
import Derived.Test.YtdgodcgdlfjpaaaGreatDoorJ05
import Derived.Test.YtdgodcgdlfjpaaaGreatDoorJ06
set_option linter.unusedVariables false
set_option linter.unusedSimpArgs false
namespace Go.Mono
open Go.RowKit
def two (f g : Flm) : Nat → Flm
 | 0 => f
 | _ + 1 => g
theorem films_box {V : World} {N : Nat} {T : TypeId} {H : Nat → Flm} {m : Nat} (hm : m ≤ 1000) (b : Box V N T (frow H m).toArray) : FilmsAt V (some ⟨N, 0, none⟩) m m H := by
 refine ⟨Nat.le_refl _, by omega, fun _ => ⟨N, 0, rfl, b.lt, fun i j hi hj => ?_⟩⟩
 rw [b.cell, Nat.zero_add]
 have := frow_get H m i j hi hj
 simpa using this
theorem ownsRow_alloc {w : World} {base : Nat} {v : Value} {n size : Nat} {e : TypeId} {vals : List Value} (h : w.ownsRow base e size v n vals) (o : Obj) : (w.alloc o).ownsRow base e size v n vals := by
 obtain ⟨hl, h⟩ := h
 refine ⟨hl, ?_⟩
 rcases h with h | ⟨g, cap, cur, hv, hb, hg, h1⟩
 ·exact .inl h
 ·exact .inr ⟨g, cap, cur, hv, hb, ((Box.mk hg).alloc o).blk, h1⟩
end Go.Mono
namespace Go.Proofs.YtdgodcgdlfjpaaaGreatDoor
open Go.RowKit Go.Mono
theorem ins_box (p : Option Addr) (n c i : Nat) (hi : i ≤ n) (F : Nat → Flm) (N : Nat) (m : Nat) (hm : 0 < m) (hnm : n + m ≤ 1000) (H : Nat → Flm) (base : Nat) (w : World)
  (hown : w.ownsRow base 24 3 (.slice p n c) n (frow F n)) (hbase : base ≤ w.heap.size) (b : Box w N 24 (frow H m).toArray) (hne : ∀ a, p = some a → N ≠ a.block) :
  Calls Tryz.prog 54 #[.slice p n c, .int .i64 (i : Int), .slice (some ⟨N, 0, none⟩) m m] w fun e w' => ∃ p' c', e = .returned (.slice p' (n + m) c') ∧ FilmsAt w' p' (n + m) c' (ins F i H m) ∧ Below base w w' :=
 insertF_ok p n c i hi F ⟨N, 0, none⟩ m m hm hnm H base w hown hbase (Go.Mono.films_box (by omega) b) hne _ _ b.blk
/-- the copy is made first, then the row of the new films -/
theorem ins_late (p : Option Addr) (n c i : Nat) (hi : i ≤ n) (F : Nat → Flm) (m : Nat) (hm : 0 < m) (hnm : n + m ≤ 1000) (H : Nat → Flm) (base : Nat) (w : World)
  (hown : w.ownsRow base 24 3 (.slice p n c) n (frow F n)) (hbase : base ≤ w.heap.size) :
  Calls Tryz.prog 54 #[.slice p n c, .int .i64 (i : Int), .slice (some ⟨w.heap.size, 0, none⟩) m m] (w.alloc (.cells (frow H m).toArray 24)) fun e w' => ∃ p' c', e = .returned (.slice p' (n + m) c') ∧ FilmsAt w' p' (n + m) c' (ins F i H m) ∧ Below base (w.alloc (.cells (frow H m).toArray 24)) w' :=
 ins_box p n c i hi F w.heap.size m hm hnm H base _ (ownsRow_alloc hown _) (by rw [World.size_alloc]; omega) (Box.new _ _ _) (fun a ha => by
  subst ha
  have := (hown.lt a.block rfl).2
  omega)
/-- the row of the new films is laid first -/
theorem ins_early (p : Option Addr) (n c i : Nat) (hi : i ≤ n) (F : Nat → Flm) (N m : Nat) (hm : 0 < m) (hnm : n + m ≤ 1000) (H : Nat → Flm) (base : Nat) (w : World)
  (hown : w.ownsRow base 24 3 (.slice p n c) n (frow F n)) (hbase : base ≤ w.heap.size) (b : Box w N 24 (frow H m).toArray) (hN : N < base) :
  Calls Tryz.prog 54 #[.slice p n c, .int .i64 (i : Int), .slice (some ⟨N, 0, none⟩) m m] w fun e w' => ∃ p' c', e = .returned (.slice p' (n + m) c') ∧ FilmsAt w' p' (n + m) c' (ins F i H m) ∧ Below base w w' :=
 ins_box p n c i hi F N m hm hnm H base w hown hbase b (fun a ha => by
  subst ha
  have := ownsRow_block hown
  omega)
end Go.Proofs.YtdgodcgdlfjpaaaGreatDoor
namespace Go.Mono
open Go.RowKit Go.Proofs.YtdgodcgdlfjpaaaGreatDoor
/-- a matrix in a box -/
structure MB (X : World) (B : Nat) (T : TypeId) (C : Array Value) (m : Mat) : Prop where
 box : Box X B T C
 mv : MV X C m
theorem MB.below {X Y : World} {B : Nat} {T : TypeId} {C : Array Value} {m : Mat} (h : MB X B T C m) (hB : Below X.heap.size X Y) : MB Y B T C m := ⟨h.box.below hB, h.mv.ext (.of_below hB)⟩
theorem filmsN_get (F : Nat → Flm) (n j : Nat) : (filmsN F n)[j]? = if j < n then some (F j) else none := by
 unfold filmsN
 rw [List.getElem?_map]
 by_cases h : j < n
 ·rw [if_pos h, List.getElem?_eq_getElem (by simpa using h)]
  simp
 ·rw [if_neg h, List.getElem?_eq_none (by simpa using h)]
  rfl
theorem filmsN_ins (F H : Nat → Flm) (n m i : Nat) (hi : i ≤ n) : filmsN (ins F i H m) (n + m) = filmsN F i ++ (filmsN H m ++ filmsN (fun j => F (i + j)) (n - i)) := by
 refine List.ext_getElem? fun j => ?_
 rw [filmsN_get]
 by_cases h1 : j < i
 ·rw [if_pos (by omega), List.getElem?_append_left (by rw [filmsN_length]; omega), filmsN_get, if_pos h1, ins, if_pos h1]
 ·rw [List.getElem?_append_right (by rw [filmsN_length]; omega), filmsN_length]
  by_cases h2 : j < i + m
  ·rw [if_pos (by omega), List.getElem?_append_left (by rw [filmsN_length]; omega), filmsN_get, if_pos (by omega), ins, if_neg h1, if_pos h2]
  ·rw [List.getElem?_append_right (by rw [filmsN_length]; omega), filmsN_length, filmsN_get]
   by_cases h3 : j < n + m
   ·rw [if_pos h3, if_pos (by omega), ins, if_neg h1, if_neg h2]
    congr 2; omega
   ·rw [if_neg h3, if_neg (by omega)]
theorem filmsN_cut (F : Nat → Flm) (n i : Nat) (hi : i ≤ n) : filmsN F n = filmsN F i ++ filmsN (fun j => F (i + j)) (n - i) := by
 refine List.ext_getElem? fun j => ?_
 rw [filmsN_get]
 by_cases h1 : j < i
 ·rw [if_pos (by omega), List.getElem?_append_left (by rw [filmsN_length]; omega), filmsN_get, if_pos h1]
 ·rw [List.getElem?_append_right (by rw [filmsN_length]; omega), filmsN_length, filmsN_get]
  by_cases h3 : j < n
  ·rw [if_pos h3, if_pos (by omega)]
   congr 2; omega
  ·rw [if_neg h3, if_neg (by omega)]
def one1 (f : Flm) : Nat → Flm := fun _ => f
/-- two films of one index are one film of the sum of the angles -/
theorem stack_joined (F : Nat → Flm) (n i : Nat) (hi : i ≤ n) (f g : Flm) (hf : f.sq ≠ 0) (hg : g.sq ≠ 0) (hx : g.ix = f.ix) (h0 : f.ix ≠ 0) :
  stackN (ins F i (two f g) 2) (n + 2) = stackN (ins F i (one1 (f.join g)) 1) (n + 1) := by
 unfold stackN
 rw [filmsN_ins F _ n 2 i hi, filmsN_ins F _ n 1 i hi, stackM_append, stackM_append, stackM_append, stackM_append]
 have e : stackM (filmsN (two f g) 2) = stackM (filmsN (one1 (f.join g)) 1) := by
  rw [show filmsN (two f g) 2 = [f, g] from rfl, show filmsN (one1 (f.join g)) 1 = [f.join g] from rfl]
  simp only [stackM, List.foldl, Mat.one_mul]
  exact mat_join hf hg hx h0
 rw [e]
/-- a film of no thickness is none -/
theorem stack_thin (F : Nat → Flm) (n i : Nat) (hi : i ≤ n) (x q : Int) (hq : q ≠ 0) : stackN (ins F i (one1 ⟨x, 0, q⟩) 1) (n + 1) = stackN F n := by
 unfold stackN
 rw [filmsN_ins F _ n 1 i hi, filmsN_cut F n i hi, stackM_append, stackM_append, stackM_append]
 have e : stackM (filmsN (one1 ⟨x, 0, q⟩) 1) = Mat.one := by
  rw [show filmsN (one1 (⟨x, 0, q⟩ : Flm)) 1 = [⟨x, 0, q⟩] from rfl]
  simp only [stackM, List.foldl, Mat.one_mul]
  exact mat_none x q hq
 rw [e, Mat.one_mul]
/-- films of the indices at both ends do not change what is thrown back -/
theorem ins_ok {F H : Nat → Flm} {n m i : Nat} (hi : i ≤ n) (hF : ∀ j, j < n → (F j).ok) (hH : ∀ j, j < m → (H j).ok) : ∀ j, j < n + m → (ins F i H m j).ok := fun j hj => by
 unfold ins
 split
 ·exact hF j (by omega)
 ·split
  ·exact hH _ (by omega)
  ·exact hF _ (by omega)
theorem small_mul {a b : Int} (h1 : 0 ≤ a ∧ a ≤ 12) (h2 : 0 ≤ b ∧ b ≤ 12) : 0 ≤ a * b ∧ a * b ≤ 144 :=
 ⟨Int.mul_nonneg h1.1 h2.1, Int.mul_le_mul h1.2 h2.2 h2.1 (by decide)⟩
theorem Flm.ok.sq' {f : Flm} (h : f.ok) : f.sq ≠ 0 := by
 have := h.sq_pos
 omega
theorem join_wrap {a b c d : Int} (ha : 0 ≤ a ∧ a ≤ 12) (hb : 0 ≤ b ∧ b ≤ 12) (hc : 0 ≤ c ∧ c ≤ 12) (hd : 0 ≤ d ∧ d ≤ 12) : IntKind.i64.wrap (IntKind.i64.wrap (a * b) + IntKind.i64.wrap (c * d)) = a * b + c * d ∧ IntKind.i64.wrap (IntKind.i64.wrap (a * b) - IntKind.i64.wrap (c * d)) = a * b - c * d ∧ 0 ≤ a * b + c * d ∧ a * b + c * d ≤ 288 ∧ a * b - c * d ≤ 144 := by
 have h1 := small_mul ha hb
 have h2 := small_mul hc hd
 generalize a * b = x at *
 generalize c * d = y at *
 refine ⟨?_, ?_, by omega, by omega, by omega⟩
 ·simp only [IntKind.wrap_i64]; omega
 ·simp only [IntKind.wrap_i64]; omega
end Go.Mono
namespace Go.Proofs.YtdgodcgdlfjpaaaGreatDoor
open Go.RowKit Go.Mono
theorem qsame_self (u v : Value) (a : Rat) (w : World) (h1 : QV w u a) (h2 : QV w v a) : Calls Tryz.prog 21 #[u, v] w fun e w' => e = .returned (.bool true) ∧ Below w.heap.size w w' := by
 have h := qsame_ok u v a a w w (Ext.refl _) h1 h2
 rwa [show decide (a = a) = true from decide_eq_true rfl] at h
theorem valike_ok (A C : Array Value) (m : Mat) (w : World) (hA : MV w A m) (hC : MV w C m) :
  Calls Tryz.prog 29 #[.agg A, .agg C] w fun e w' => e = .returned (.bool true) ∧ Below w.heap.size w w' := by
 obtain ⟨a0, a1, a2, a3, b0, b1, b2, b3, c0, c1, c2, c3, d0, d1, d2, d3, rfl, h1, h2, h3, h4⟩ := hA.parts
 obtain ⟨e0, e1, e2, e3, f0, f1, f2, f3, g0, g1, g2, g3, i0, i1, i2, i3, rfl, k1, k2, k3, k4⟩ := hC.parts
 exact valike_of _ _ _ _ _ _ _ _ _ _ _ _ _ _ _ _ _ _ _ _ _ _ _ _ _ _ _ _ _ _ _ _ w
  (fun W hW => qsame_self _ _ m.a W (h1.ext (.of_below hW)) (k1.ext (.of_below hW)))
  (fun W hW => qsame_self _ _ m.b W (h2.ext (.of_below hW)) (k2.ext (.of_below hW)))
  (fun W hW => qsame_self _ _ m.c W (h3.ext (.of_below hW)) (k3.ext (.of_below hW)))
  (fun W hW => qsame_self _ _ m.d W (h4.ext (.of_below hW)) (k4.ext (.of_below hW)))
end Go.Proofs.YtdgodcgdlfjpaaaGreatDoor
