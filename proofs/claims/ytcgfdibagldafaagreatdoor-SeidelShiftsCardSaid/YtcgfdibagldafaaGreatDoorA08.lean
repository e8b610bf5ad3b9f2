/- Contracts of the program's fractions, lenses and rays, and a verified evaluator of the model. Part 8 of 30. No condition beside the row. -/
import Derived.Test.YtcgfdibagldafaaGreatDoorA07
set_option linter.unusedVariables false
set_option linter.unusedSimpArgs false
set_option maxRecDepth 100000
set_option maxHeartbeats 4000000
namespace Go.Mono
open Go.RowKit
def RatV (m : Nat) (w : World) (v : Value) (q : Rat) : Prop :=
 ∃ s p k c p' k' c', v = .agg #[.bool s, .slice p k c, .slice p' k' c'] ∧ Sg s q.num ∧ Sz m w (.slice p k c) q.num.natAbs ∧ Sz m w (.slice p' k' c') q.den
theorem RatV.ext {m : Nat} {w w' : World} {v : Value} {q : Rat} (h : RatV m w v q) (hx : Ext w w') : RatV m w' v q := by
 obtain ⟨s, p, k, c, p', k', c', rfl, h1, h2, h3⟩ := h
 exact ⟨_, _, _, _, _, _, _, rfl, h1, h2.ext hx, h3.ext hx⟩
theorem RatV.mono {m m' : Nat} {w : World} {v : Value} {q : Rat} (h : RatV m w v q) (hm : m ≤ m') : RatV m' w v q := by
 obtain ⟨s, p, k, c, p', k', c', rfl, h1, h2, h3⟩ := h
 exact ⟨_, _, _, _, _, _, _, rfl, h1, h2.mono hm, h3.mono hm⟩
theorem Sg.neg {s : Bool} {z : Int} (h : Sg s z) : Sg (!s) (-z) := by
 obtain ⟨h1, h2⟩ := h
 cases s <;> simp at h1 h2 <;> constructor <;> simp <;> omega
theorem RatV.inv {m : Nat} {w : World} {b : Rat} {s : Bool} {p p' : Option Addr} {k c k' c' : Nat} (h0 : b.num ≠ 0)
  (h1 : Sg s b.num) (h2 : Sz m w (.slice p k c) b.num.natAbs) (h3 : Sz m w (.slice p' k' c') b.den) : RatV m w (.agg #[.bool s, .slice p' k' c', .slice p k c]) b⁻¹ := by
 obtain ⟨e1, e2⟩ := rat_inv_parts b h0
 have hd := Nat.pos_of_ne_zero b.den_nz
 refine ⟨_, _, _, _, _, _, _, rfl, ?_, ?_, by rw [e1]; exact h2⟩
 ·rw [e2]
  obtain ⟨g1, g2⟩ := h1
  constructor
  ·intro hs; have := g1 hs; rw [if_pos (by omega)]; omega
  ·intro hs; have := g2 hs; rw [if_neg (by omega)]; omega
 ·have : ((b⁻¹).num.natAbs : Int) = b.den := by rw [e2]; split <;> omega
  rw [this]; exact h3
end Go.Mono
namespace Go.Proofs.YtcgfdibagldafaaGreatDoor
open Go.RowKit Go.Mono
theorem prod_rat (m : Nat) (a b : Rat) (u v : Value) (w wf : World) (hx : Ext wf w) (h1 : RatV m wf u a) (h2 : RatV m wf v b) (hm : m ≤ 100000) :
  Calls Tryz.prog 49 #[u, v] w fun e w' => ∃ r, e = .returned r ∧ RatV (3 * m + 1) w' r (a * b) ∧ Below w.heap.size w w' := by
 obtain ⟨s, p, k, c, p', k', c', rfl, x1, x2, x3⟩ := h1
 obtain ⟨t, q, l, d, q', l', d', rfl, y1, y2, y3⟩ := h2
 refine (prod_sz s t p p' q q' k c k' c' l d l' d' m a b w wf hx x1 y1 x2 x3 y2 y3 hm).mono ?_
 rintro e w' ⟨s6, p6, n6, c6, q6, l6, d6, rfl, h⟩
 exact ⟨_, rfl, ⟨_, _, _, _, _, _, _, rfl, h.1, h.2.1, h.2.2.1⟩, h.2.2.2⟩
theorem sum_rat (m : Nat) (a b : Rat) (u v : Value) (w wf : World) (hx : Ext wf w) (h1 : RatV m wf u a) (h2 : RatV m wf v b) (hm : m ≤ 100000) :
  Calls Tryz.prog 50 #[u, v] w fun e w' => ∃ r, e = .returned r ∧ RatV (3 * m + 1) w' r (a + b) ∧ Below w.heap.size w w' := by
 obtain ⟨s, p, k, c, p', k', c', rfl, x1, x2, x3⟩ := h1
 obtain ⟨t, q, l, d, q', l', d', rfl, y1, y2, y3⟩ := h2
 refine (sum_sz s t p p' q q' k c k' c' l d l' d' m a b w wf hx x1 y1 x2 x3 y2 y3 hm).mono ?_
 rintro e w' ⟨s6, p6, n6, c6, q6, l6, d6, rfl, h⟩
 exact ⟨_, rfl, ⟨_, _, _, _, _, _, _, rfl, h.1, h.2.1, h.2.2.1⟩, h.2.2.2⟩
theorem turned_any (s : Bool) (p q : Option Addr) (k c l d : Nat) (w : World) :
  Calls Tryz.prog 167 #[.agg #[.bool s, .slice p k c, .slice q l d]] w fun e w' => e = .returned (.agg #[.bool s, .slice q l d, .slice p k c]) ∧ Below w.heap.size w w' := by
 go_enter Tryz.func167, Tryz.ntmps167
 go_wp2_with fail
 have b3' := (Box.new (w.alloc (.cells #[.bool s, .slice p k c, .slice q l d] 127)) 127 #[.bool s, .slice q l d, .slice p k c]).cell
 simp only [World.size_alloc] at b3'
 refine bodyPost_ret (v := .agg #[.bool s, .slice q l d, .slice p k c]) (by simp [results, Tryz.results167, go_sem, b3']) rfl ⟨rfl, ?_⟩
 exact belowAlloc (belowAlloc (Below.refl _ _) _) _
theorem quo_rat (m : Nat) (a b : Rat) (u v : Value) (w wf : World) (hx : Ext wf w) (h1 : RatV m wf u a) (h2 : RatV m wf v b) (h0 : b.num ≠ 0) (hm : m ≤ 100000) :
  Calls Tryz.prog 111 #[u, v] w fun e w' => ∃ r, e = .returned r ∧ RatV (3 * m + 1) w' r (a / b) ∧ Below w.heap.size w w' := by
 rw [Rat.div_def]
 obtain ⟨s, p, k, c, p', k', c', rfl, x1, x2, x3⟩ := h1
 obtain ⟨t, q, l, d, q', l', d', rfl, y1, y2, y3⟩ := h2
 have xa : RatV m wf (.agg #[.bool s, .slice p k c, .slice p' k' c']) a := ⟨_, _, _, _, _, _, _, rfl, x1, x2, x3⟩
 have xb := RatV.inv h0 y1 y2 y3
 replace xa := xa.ext hx
 replace xb := xb.ext hx
 clear x1 x2 x3 y1 y2 y3 hx
 go_enter Tryz.func111, Tryz.ntmps111
 go_wp2_with fail
 refine boxes3 fun W hB hs b0 b1 b2 => ?_
 have x0 := Ext.of_below hB
 replace xa := xa.ext x0
 replace xb := xb.ext x0
 have cb0 := b0.cell
 have lb0 := b0.lt
 have fb0 := b0.frozen
 have cb1 := b1.cell
 have lb1 := b1.lt
 have fb1 := b1.frozen
 have cb2 := b2.cell
 have lb2 := b2.lt
 have fb2 := b2.frozen
 have K0 := KeepBut.refl (w.heap.size + 1 + 1) W
 have n0 : w.heap.size ≠ w.heap.size + 1 + 1 := by omega
 have n1 : w.heap.size + 1 ≠ w.heap.size + 1 + 1 := by omega
 clear x0
 go_region_held3 (fun w' => (∀ b o, b < W.heap.size → b ≠ (w.heap.size + 1 + 1) → w'.cell? ⟨b, o, none⟩ = W.cell? ⟨b, o, none⟩) ∧ KeepBut (w.heap.size + 1 + 1) W.heap.size W w') ((refine KeepBut.S ?_; first | exact K0.drew | (repeat' (first | exact And.right ‹_› | exact KeepBut.call (And.right ‹_›) ‹_› | refine KeepBut.set ?_ _ _ | refine KeepBut.alloc ?_ _)))) (first | (go_at_call 167; refine (turned_any t q q' l d l' d' _).mono ?_; rintro e W5 ⟨rfl, hb5⟩; have b15 := b2.drew.below hb5; have cb15 := b15.cell; have fb15 := b15.frozen) | (go_at_call 49; (with_reducible refine (prod_rat m a b⁻¹ _ _ _ W (KeepBut.ext (And.right ‹_›) b2 (by decide)) xa xb hm).mono ?_); rintro e W6 ⟨r, rfl, ⟨s6, p6, k6, c6, q6, l6, d6, rfl, hr⟩, hb6⟩; have b16 := b15.below hb6; have cb16 := b16.cell; have fb16 := b16.frozen))
 go_wp2
 have b3' := ((((b16.set 0 (.bool s6)).set 1 (.slice p6 k6 c6)).set 2 (.slice q6 l6 d6))).cell
 have xE : Ext W6 _ := ((((Ext.refl W6).set b16 (by decide) 0 (.bool s6)).set (b16.set 0 (.bool s6)) (by decide) 1 (.slice p6 k6 c6))).set ((b16.set 0 (.bool s6)).set 1 (.slice p6 k6 c6)) (by decide) 2 (.slice q6 l6 d6)
 refine bodyPost_ret (v := .agg #[.bool s6, .slice p6 k6 c6, .slice q6 l6 d6]) (by simp [results, Tryz.results111, go_sem, b3']) rfl ⟨_, rfl, (RatV.ext ⟨_, _, _, _, _, _, _, rfl, hr⟩ xE), ?_⟩
 exact KeepBut.below (And.right ‹_›) hB (by omega) hB.size
theorem diff_rat (m : Nat) (a b : Rat) (u v : Value) (w wf : World) (hx : Ext wf w) (h1 : RatV m wf u a) (h2 : RatV m wf v b) (hm : m ≤ 100000) :
  Calls Tryz.prog 96 #[u, v] w fun e w' => ∃ r, e = .returned r ∧ RatV (3 * m + 1) w' r (a - b) ∧ Below w.heap.size w w' := by
 rw [Rat.sub_eq_add_neg]
 obtain ⟨s, p, k, c, p', k', c', rfl, x1, x2, x3⟩ := h1
 obtain ⟨t, q, l, d, q', l', d', rfl, y1, y2, y3⟩ := h2
 go_enter Tryz.func96, Tryz.ntmps96
 go_wp2_with fail
 refine boxes3c fun W hB hs b0 b1 b2 => ?_
 have x0 := hx.below hB
 have cb0 := b0.cell
 have lb0 := b0.lt
 have fb0 := b0.frozen
 have cb1 := b1.cell
 have lb1 := b1.lt
 have fb1 := b1.frozen
 have cb2 := b2.cell
 have lb2 := b2.lt
 have fb2 := b2.frozen
 refine (sum_rat m a (-b) _ _ W wf x0 ⟨_, _, _, _, _, _, _, rfl, x1, x2, x3⟩ ⟨_, _, _, _, _, _, _, rfl, (rat_neg_parts b).1 ▸ y1.neg, ?_, y3⟩ hm).mono ?_
 ·have : (-b).num.natAbs = b.num.natAbs := by rw [(rat_neg_parts b).1, Int.natAbs_neg]
  rw [this]; exact y2
 rintro e W6 ⟨r, rfl, ⟨s6, p6, k6, c6, q6, l6, d6, rfl, hr⟩, hb6⟩
 replace hB := belowCall hB hb6
 clear x0
 replace b2 := b2.below hb6
 clear cb2 lb2 fb2
 have cb2 := b2.cell
 have lb2 := b2.lt
 have fb2 := b2.frozen
 go_wp2
 have b3' := ((((b2.set 0 (.bool s6)).set 1 (.slice p6 k6 c6)).set 2 (.slice q6 l6 d6))).cell
 have xE : Ext W6 _ := ((((Ext.refl W6).set b2 (by decide) 0 (.bool s6)).set (b2.set 0 (.bool s6)) (by decide) 1 (.slice p6 k6 c6))).set ((b2.set 0 (.bool s6)).set 1 (.slice p6 k6 c6)) (by decide) 2 (.slice q6 l6 d6)
 refine bodyPost_ret (v := .agg #[.bool s6, .slice p6 k6 c6, .slice q6 l6 d6]) (by simp [results, Tryz.results96, go_sem, b3']) rfl ⟨_, rfl, (RatV.ext ⟨_, _, _, _, _, _, _, rfl, hr⟩ xE), ?_⟩
 exact belowSet (belowSet (belowSet hB (by omega) _ _) (by omega) _ _) (by omega) _ _
theorem read_any (s s' : Bool) (p q : Option Addr) (k c l d : Nat) (w : World) :
  Calls Tryz.prog 99 #[.agg #[.bool s, .slice p k c, .bool s', .slice q l d]] w fun e w' => e = .returned (.agg #[.bool s, .slice p k c, .slice q l d]) ∧ Below w.heap.size w w' := by
 go_enter Tryz.func99, Tryz.ntmps99
 go_wp2_with fail
 have b3' := (Box.new (w.alloc (.cells #[.bool s, .slice p k c, .bool s', .slice q l d] 54)) 127 #[.bool s, .slice p k c, .slice q l d]).cell
 simp only [World.size_alloc] at b3'
 refine bodyPost_ret (v := .agg #[.bool s, .slice p k c, .slice q l d]) (by simp [results, Tryz.results99, go_sem, b3']) rfl ⟨rfl, ?_⟩
 exact belowAlloc (belowAlloc (Below.refl _ _) _) _
end Go.Proofs.YtcgfdibagldafaaGreatDoor
namespace Go.Mono
open Go.RowKit
section
theorem Sz.tight {m k : Nat} {w : World} {v : Value} {N : Int} (h : Sz m w v N) (hN : N < pw k) : Sz k w v N := by
 obtain ⟨n, f, h1, h2, rfl, h4⟩ := h
 refine ⟨n, f, h1, h2, rfl, ?_⟩
 by_cases hn : n = 0
 ·omega
 have := h2.ge (by omega)
 by_cases hk : n ≤ k
 ·exact hk
 ·have := pw_mono (i := k) (k := n - 1) (by omega)
  omega
theorem Sz.lt {m : Nat} {w : World} {v : Value} {N : Int} (h : Sz m w v N) : N < pw m := by
 obtain ⟨n, f, h1, h2, rfl, h4⟩ := h
 have := h2.lt
 have := pw_mono h4
 omega
def Fits (q : Rat) : Prop := (q.num.natAbs : Int) < pw 600 ∧ (q.den : Int) < pw 600
def QV (w : World) (v : Value) (q : Rat) : Prop :=
 ∃ p k c p' k' c', v = .agg #[.bool (decide (q.num < 0)), .slice p k c, .bool false, .slice p' k' c'] ∧ Sz 600 w (.slice p k c) q.num.natAbs ∧ Sz 600 w (.slice p' k' c') q.den
theorem QV.ext {w w' : World} {v : Value} {q : Rat} (h : QV w v q) (hx : Ext w w') : QV w' v q := by
 obtain ⟨p, k, c, p', k', c', rfl, h2, h3⟩ := h
 exact ⟨_, _, _, _, _, _, rfl, h2.ext hx, h3.ext hx⟩
theorem QV.fits {w : World} {v : Value} {q : Rat} (h : QV w v q) : Fits q := by
 obtain ⟨p, k, c, p', k', c', rfl, h2, h3⟩ := h
 exact ⟨h2.lt, h3.lt⟩
theorem Sg.self (z : Int) : Sg (decide (z < 0)) z := by
 constructor <;> intro h <;> simp at h <;> omega
theorem Fits.of {q : Rat} (k : Nat) (hk : k ≤ 600) (h1 : (q.num.natAbs : Int) < pw k) (h2 : (q.den : Int) < pw k) : Fits q := by
 have := pw_mono hk
 exact ⟨by omega, by omega⟩
section
variable {P : Program} {f : FuncId} {args : Array Value} {R : Ending → World → Prop} {w : World} {T0 T1 T2 T3 : TypeId} {c0 c1 c2 c3 : Array Value}
theorem boxes4c (h : ∀ W, Below w.heap.size w W → w.heap.size + 4 ≤ W.heap.size → Box W w.heap.size T0 c0 → Box W (w.heap.size + 1) T1 c1 → Box W (w.heap.size + 1 + 1) T2 c2 → Box W (w.heap.size + 1 + 1 + 1) T3 c3 → Calls P f args W R) :
  Calls P f args ((((w.alloc (.cells c0 T0)).alloc (.cells c1 T1)).alloc (.cells c2 T2)).alloc (.cells c3 T3)) R := by
 have b3 := Box.new (((w.alloc (.cells c0 T0)).alloc (.cells c1 T1)).alloc (.cells c2 T2)) T3 c3
 simp only [World.size_alloc] at b3
 have b1 := Box.new (w.alloc (.cells c0 T0)) T1 c1
 have b2 := Box.new ((w.alloc (.cells c0 T0)).alloc (.cells c1 T1)) T2 c2
 simp only [World.size_alloc] at b1 b2
 exact h _ (((((Below.refl _ _).alloc (Nat.le_refl _) _).alloc (by simp) _).alloc (by simp; omega) _).alloc (by simp; omega) _) (by simp) ((((Box.new _ _ _).alloc _).alloc _).alloc _) ((b1.alloc _).alloc _) (b2.alloc _) b3
end
end
end Go.Mono
