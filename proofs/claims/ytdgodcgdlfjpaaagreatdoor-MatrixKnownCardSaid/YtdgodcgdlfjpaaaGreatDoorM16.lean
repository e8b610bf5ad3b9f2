/- The law MatrixKnown: the examples of the ray transfer matrices, afocal lenses, mirrors and the order of errors; its walk by a verified evaluator of the model, and its card. Part 16 of 36. No condition beside the row. -/
import Derived.Test.YtdgodcgdlfjpaaaGreatDoorM02
import Derived.Test.YtdgodcgdlfjpaaaGreatDoorM15
set_option linter.unusedVariables false
set_option linter.unusedSimpArgs false
set_option maxRecDepth 100000
set_option maxHeartbeats 4000000
namespace Go.Proofs.YtdgodcgdlfjpaaaGreatDoor
open Go.RowKit Go.Mono
theorem add_ok (a b : Rat) (u v : Value) (w wf : World) (hx : Ext wf w) (ha : QV wf u a) (hb : QV wf v b) (hf : Fits (a + b)) :
  Calls Tryz.prog 35 #[u, v] w fun e w' => ∃ r, e = .returned (.tuple #[r, .int .i64 0]) ∧ QV w' r (a + b) ∧ Below w.heap.size w w' := by
 replace ha := ha.ext hx
 replace hb := hb.ext hx
 clear hx
 have ha' := ha
 have hb' := hb
 obtain ⟨p1, k1, c1, q1, l1, d1, rfl, _, _⟩ := ha
 obtain ⟨p2, k2, c2, q2, l2, d2, rfl, _, _⟩ := hb
 go_enter Tryz.func35, Tryz.ntmps35
 go_wp2_with fail
 refine boxes3c fun W hB hs b0 b1 b2 => ?_
 refine (both_sum a b _ _ W (ha'.ext (.of_below hB)) (hb'.ext (.of_below hB)) hf).mono ?_
 rintro e W1 ⟨r, rfl, ⟨p7, k7, c7, q7, l7, d7, rfl, z7, y7⟩, hb7⟩
 replace hB := belowCall hB hb7
 replace b2 := b2.below hb7
 have cb2 := b2.cell
 have lb2 := b2.lt
 have fb2 := b2.frozen
 go_wp2
 have b3' := ((((b2.set 0 (.bool (decide ((a + b).num < 0)))).set 1 (.slice p7 k7 c7)).set 2 (.bool false)).set 3 (.slice q7 l7 d7)).cell
 have xE : Ext W1 _ := (((((Ext.refl W1).set b2 (by decide) 0 (.bool (decide ((a + b).num < 0)))).set (b2.set 0 (.bool (decide ((a + b).num < 0)))) (by decide) 1 (.slice p7 k7 c7))).set ((b2.set 0 (.bool (decide ((a + b).num < 0)))).set 1 (.slice p7 k7 c7)) (by decide) 2 (.bool false)).set (((b2.set 0 (.bool (decide ((a + b).num < 0)))).set 1 (.slice p7 k7 c7)).set 2 (.bool false)) (by decide) 3 (.slice q7 l7 d7)
 refine bodyPost_ret (v := .tuple #[.agg #[.bool (decide ((a + b).num < 0)), .slice p7 k7 c7, .bool false, .slice q7 l7 d7], .int .i64 0]) (by simp [results, Tryz.results35, go_sem, b3']) rfl ⟨_, rfl, ⟨_, _, _, _, _, _, rfl, z7.ext xE, y7.ext xE⟩, ?_⟩
 exact belowSet (belowSet (belowSet (belowSet hB (by omega) _ _) (by omega) _ _) (by omega) _ _) (by omega) _ _
theorem sub_ok (a b : Rat) (u v : Value) (w wf : World) (hx : Ext wf w) (ha : QV wf u a) (hb : QV wf v b) (hf : Fits (a - b)) :
  Calls Tryz.prog 108 #[u, v] w fun e w' => ∃ r, e = .returned (.tuple #[r, .int .i64 0]) ∧ QV w' r (a - b) ∧ Below w.heap.size w w' := by
 replace ha := ha.ext hx
 replace hb := hb.ext hx
 clear hx
 have ha' := ha
 have hb' := hb
 obtain ⟨p1, k1, c1, q1, l1, d1, rfl, _, _⟩ := ha
 obtain ⟨p2, k2, c2, q2, l2, d2, rfl, _, _⟩ := hb
 go_enter Tryz.func108, Tryz.ntmps108
 go_wp2_with fail
 refine boxes3c fun W hB hs b0 b1 b2 => ?_
 refine (both_diff a b _ _ W (ha'.ext (.of_below hB)) (hb'.ext (.of_below hB)) hf).mono ?_
 rintro e W1 ⟨r, rfl, ⟨p7, k7, c7, q7, l7, d7, rfl, z7, y7⟩, hb7⟩
 replace hB := belowCall hB hb7
 replace b2 := b2.below hb7
 have cb2 := b2.cell
 have lb2 := b2.lt
 have fb2 := b2.frozen
 go_wp2
 have b3' := ((((b2.set 0 (.bool (decide ((a - b).num < 0)))).set 1 (.slice p7 k7 c7)).set 2 (.bool false)).set 3 (.slice q7 l7 d7)).cell
 have xE : Ext W1 _ := (((((Ext.refl W1).set b2 (by decide) 0 (.bool (decide ((a - b).num < 0)))).set (b2.set 0 (.bool (decide ((a - b).num < 0)))) (by decide) 1 (.slice p7 k7 c7))).set ((b2.set 0 (.bool (decide ((a - b).num < 0)))).set 1 (.slice p7 k7 c7)) (by decide) 2 (.bool false)).set (((b2.set 0 (.bool (decide ((a - b).num < 0)))).set 1 (.slice p7 k7 c7)).set 2 (.bool false)) (by decide) 3 (.slice q7 l7 d7)
 refine bodyPost_ret (v := .tuple #[.agg #[.bool (decide ((a - b).num < 0)), .slice p7 k7 c7, .bool false, .slice q7 l7 d7], .int .i64 0]) (by simp [results, Tryz.results108, go_sem, b3']) rfl ⟨_, rfl, ⟨_, _, _, _, _, _, rfl, z7.ext xE, y7.ext xE⟩, ?_⟩
 exact belowSet (belowSet (belowSet (belowSet hB (by omega) _ _) (by omega) _ _) (by omega) _ _) (by omega) _ _
theorem mul_ok (a b : Rat) (u v : Value) (w wf : World) (hx : Ext wf w) (ha : QV wf u a) (hb : QV wf v b) (hf : Fits (a * b)) :
  Calls Tryz.prog 37 #[u, v] w fun e w' => ∃ r, e = .returned (.tuple #[r, .int .i64 0]) ∧ QV w' r (a * b) ∧ Below w.heap.size w w' := by
 replace ha := ha.ext hx
 replace hb := hb.ext hx
 clear hx
 have ha' := ha
 have hb' := hb
 obtain ⟨p1, k1, c1, q1, l1, d1, rfl, _, _⟩ := ha
 obtain ⟨p2, k2, c2, q2, l2, d2, rfl, _, _⟩ := hb
 go_enter Tryz.func37, Tryz.ntmps37
 go_wp2_with fail
 refine boxes3c fun W hB hs b0 b1 b2 => ?_
 refine (both_prod a b _ _ W (ha'.ext (.of_below hB)) (hb'.ext (.of_below hB)) hf).mono ?_
 rintro e W1 ⟨r, rfl, ⟨p7, k7, c7, q7, l7, d7, rfl, z7, y7⟩, hb7⟩
 replace hB := belowCall hB hb7
 replace b2 := b2.below hb7
 have cb2 := b2.cell
 have lb2 := b2.lt
 have fb2 := b2.frozen
 go_wp2
 have b3' := ((((b2.set 0 (.bool (decide ((a * b).num < 0)))).set 1 (.slice p7 k7 c7)).set 2 (.bool false)).set 3 (.slice q7 l7 d7)).cell
 have xE : Ext W1 _ := (((((Ext.refl W1).set b2 (by decide) 0 (.bool (decide ((a * b).num < 0)))).set (b2.set 0 (.bool (decide ((a * b).num < 0)))) (by decide) 1 (.slice p7 k7 c7))).set ((b2.set 0 (.bool (decide ((a * b).num < 0)))).set 1 (.slice p7 k7 c7)) (by decide) 2 (.bool false)).set (((b2.set 0 (.bool (decide ((a * b).num < 0)))).set 1 (.slice p7 k7 c7)).set 2 (.bool false)) (by decide) 3 (.slice q7 l7 d7)
 refine bodyPost_ret (v := .tuple #[.agg #[.bool (decide ((a * b).num < 0)), .slice p7 k7 c7, .bool false, .slice q7 l7 d7], .int .i64 0]) (by simp [results, Tryz.results37, go_sem, b3']) rfl ⟨_, rfl, ⟨_, _, _, _, _, _, rfl, z7.ext xE, y7.ext xE⟩, ?_⟩
 exact belowSet (belowSet (belowSet (belowSet hB (by omega) _ _) (by omega) _ _) (by omega) _ _) (by omega) _ _
theorem div_ok (a b : Rat) (u v : Value) (w wf : World) (hx : Ext wf w) (ha : QV wf u a) (hb : QV wf v b) (h0 : b.num ≠ 0) (hf : Fits (a / b)) :
  Calls Tryz.prog 125 #[u, v] w fun e w' => ∃ r, e = .returned (.tuple #[r, .int .i64 0]) ∧ QV w' r (a / b) ∧ Below w.heap.size w w' := by
 replace ha := ha.ext hx
 replace hb := hb.ext hx
 clear hx
 have ha' := ha
 have hb' := hb
 obtain ⟨p1, k1, c1, q1, l1, d1, rfl, _, _⟩ := ha
 obtain ⟨p2, k2, c2, q2, l2, d2, rfl, y1, _⟩ := hb
 have hk2 : ((k2 : Int) == 0) = false := by
  have := y1.len_pos.1 (by omega)
  simp; omega
 clear y1
 go_enter Tryz.func125, Tryz.ntmps125
 go_wp2_with fail
 refine boxes4c fun W hB hs b0 b1 b2 b3 => ?_
 replace ha' := ha'.ext (.of_below hB)
 replace hb' := hb'.ext (.of_below hB)
 refine (all2_ok a b _ _ _ _ p1 q1 p2 q2 k1 c1 l1 d1 k2 c2 l2 d2 _ _ b3 ha' hb').mono ?_
 rintro e W1 ⟨rfl, hb1⟩
 replace hB := belowCall hB hb1
 replace ha' := ha'.ext (.of_below hb1)
 replace hb' := hb'.ext (.of_below hb1)
 replace b0 := b0.below hb1
 try clear cb0 lb0 fb0
 have cb0 := b0.cell
 have lb0 := b0.lt
 have fb0 := b0.frozen
 replace b1 := b1.below hb1
 try clear cb1 lb1 fb1
 have cb1 := b1.cell
 have lb1 := b1.lt
 have fb1 := b1.frozen
 replace b2 := b2.below hb1
 try clear cb2 lb2 fb2
 have cb2 := b2.cell
 have lb2 := b2.lt
 have fb2 := b2.frozen
 go_wp2_with fail
 refine (both_quo a b _ _ W1 ha' hb' h0 hf).mono ?_
 rintro e W2 ⟨r, rfl, ⟨p7, k7, c7, q7, l7, d7, rfl, z7, y7⟩, hb7⟩
 replace hB := belowCall hB hb7
 replace b2 := b2.below hb7
 clear cb2 lb2 fb2
 have cb2 := b2.cell
 have lb2 := b2.lt
 have fb2 := b2.frozen
 go_wp2
 have b3' := ((((b2.set 0 (.bool (decide ((a / b).num < 0)))).set 1 (.slice p7 k7 c7)).set 2 (.bool false)).set 3 (.slice q7 l7 d7)).cell
 have xE : Ext W2 _ := (((((Ext.refl W2).set b2 (by decide) 0 (.bool (decide ((a / b).num < 0)))).set (b2.set 0 (.bool (decide ((a / b).num < 0)))) (by decide) 1 (.slice p7 k7 c7))).set ((b2.set 0 (.bool (decide ((a / b).num < 0)))).set 1 (.slice p7 k7 c7)) (by decide) 2 (.bool false)).set (((b2.set 0 (.bool (decide ((a / b).num < 0)))).set 1 (.slice p7 k7 c7)).set 2 (.bool false)) (by decide) 3 (.slice q7 l7 d7)
 refine bodyPost_ret (v := .tuple #[.agg #[.bool (decide ((a / b).num < 0)), .slice p7 k7 c7, .bool false, .slice q7 l7 d7], .int .i64 0]) (by simp [results, Tryz.results125, go_sem, b3']) rfl ⟨_, rfl, ⟨_, _, _, _, _, _, rfl, z7.ext xE, y7.ext xE⟩, ?_⟩
 exact belowSet (belowSet (belowSet (belowSet hB (by omega) _ _) (by omega) _ _) (by omega) _ _) (by omega) _ _
theorem eqint_sl (p q : Option Addr) (n m c1 c2 : Nat) (f g : Nat → Int) (w : World) (h1 : SlF w (.slice p n c1) n f) (h2 : SlF w (.slice q m c2) m g) :
  Calls Tryz.prog 155 #[.slice p n c1, .slice q m c2] w fun e w' => ∃ r : Bool, e = .returned (.bool r) ∧ (r = true ↔ n = m ∧ ∀ i, i < n → f i = g i) ∧ ∃ k, w' = w.drewN k := by
 obtain ⟨hc1, hn1, hx1⟩ := h1.opens
 obtain ⟨hc2, hn2, hx2⟩ := h2.opens
 clear h1 h2
 by_cases hnm : n = m
 ·subst hnm
  go_enter Tryz.func155, Tryz.ntmps155
  go_wp2
  go_loopw [13] (fun a wr => ∃ k : Nat, k ≤ n ∧ a = .int .i64 (k : Int) ∧ (∀ i, i < k → f i = g i) ∧ ∃ j, wr = w.drewN j) (fun a _ => (n - intOf a).toNat)
  case atStart => exact ⟨0, Nat.zero_le _, rfl, fun i hi => by omega, 0, rfl⟩
  case round =>
   obtain ⟨k, hk, rfl, ht, j, rfl⟩ := hrel
   have HT := Lib.hid ht; clear ht
   by_cases h0 : k < n
   ·obtain ⟨b, off, rfl, hb, hcell⟩ := hx1 (by omega)
    obtain ⟨b2, off2, rfl, hb2, hcell2⟩ := hx2 (by omega)
    have a1 := hcell k (by omega)
    have a2 := hcell2 k (by omega)
    clear hcell hcell2 hx1 hx2
    have h0' : (k : Int) < n := by omega
    by_cases hfg : f k = g k
    ·have hq : (f k != g k) = false := by simpa using hfg
     have HF := Lib.hid hfg; clear hfg
     go_wp2
     go_quiet (fail)
     go_wp2
     go_roundw
     case rel =>
      refine ⟨k + 1, by omega, by simp, fun i hi => ?_, _, rfl⟩
      by_cases h : i < k
      ·exact HT.out i h
      ·obtain rfl : i = k := by omega
       exact HF.out
     case measure => simp [intOf]; omega
    ·have hq : (f k != g k) = true := by simpa using hfg
     have HF := Lib.hid hfg; clear hfg
     go_wp2
     go_quiet (fail)
     go_wp2
     go_ret
     exact ⟨false, rfl, ⟨by simp, fun h => absurd (h.2 k h0) HF.out⟩, _, by rw [World.drewN_drewN]⟩
   ·obtain rfl : k = n := by omega
    go_wp2
    go_ret
    refine ⟨true, rfl, ?_, _, rfl⟩
    simp only [true_and]
    first | exact HT.out | exact ⟨trivial, HT.out⟩ | (simp; exact HT.out)
 ·have hq : ((n : Int) != m) = true := by simp; omega
  have HN := Lib.hid hnm; clear hnm
  go_enter Tryz.func155, Tryz.ntmps155
  go_wp2
  go_ret
  exact ⟨false, rfl, ⟨by simp, fun h => absurd h.1 HN.out⟩, 0, rfl⟩
theorem eqint_sz (m1 m2 : Nat) (p q : Option Addr) (n m c1 c2 : Nat) (N M : Int) (w wf : World) (hx : Ext wf w) (h1 : Sz m1 wf (.slice p n c1) N) (h2 : Sz m2 wf (.slice q m c2) M) :
  Calls Tryz.prog 155 #[.slice p n c1, .slice q m c2] w fun e w' => e = .returned (.bool (decide (N = M))) ∧ Below w.heap.size w w' := by
 obtain ⟨n', f, s1, d1, rfl, _, rfl⟩ := (h1.ext hx).sl
 obtain ⟨m', g, s2, d2, rfl, _, rfl⟩ := (h2.ext hx).sl
 refine (eqint_sl p q _ _ c1 c2 f g w s1 s2).mono ?_
 rintro e w' ⟨r, rfl, hr, k, rfl⟩
 refine ⟨?_, below_drewN (Below.refl _ _) k⟩
 have : r = decide (vf f n' = vf g m') := by
  rw [Bool.eq_iff_iff, hr, decide_eq_true_iff]
  constructor
  ·rintro ⟨rfl, h⟩; exact vf_congr h
  ·intro h; exact d1.unique d2 h
 rw [this]
theorem lsame_ok (s t : Bool) (m1 m2 : Nat) (p q : Option Addr) (n m c1 c2 : Nat) (N M : Int) (w wf : World) (hx : Ext wf w) (h1 : Sz m1 wf (.slice p n c1) N) (h2 : Sz m2 wf (.slice q m c2) M) :
  Calls Tryz.prog 78 #[.agg #[.bool s, .slice p n c1], .agg #[.bool t, .slice q m c2]] w fun e w' => e = .returned (.bool (decide (s = t ∧ N = M))) ∧ Below w.heap.size w w' := by
 replace h1 := h1.ext hx
 replace h2 := h2.ext hx
 clear hx
 by_cases hst : s = t
 ·subst hst
  have e1 : decide (s = s ∧ N = M) = decide (N = M) := by simp
  rw [e1]
  clear e1
  go_enter Tryz.func78, Tryz.ntmps78
  go_wp2_with fail
  refine boxes2c fun W hB hs b0 b1 => ?_
  refine (eqint_sz m1 m2 p q n m c1 c2 N M W w (.of_below hB) h1 h2).mono ?_
  rintro e W1 ⟨rfl, hb1⟩
  go_wp2
  go_ret
  exact ⟨rfl, belowCall hB hb1⟩
 ·have e1 : decide (s = t ∧ N = M) = false := by simp [hst]
  rw [e1]
  clear e1
  have hss : (s == t) = false := by simpa using hst
  clear hst
  go_enter Tryz.func78, Tryz.ntmps78
  go_wp2_with fail
  go_ret
  exact ⟨rfl, belowAlloc (belowAlloc (Below.refl _ _) _) _⟩
theorem qsame_parts (s s' t t' : Bool) (m1 : Nat) (p q p' q' : Option Addr) (n m c1 c2 n' m' c1' c2' : Nat) (N M N' M' : Int) (w wf : World) (hx : Ext wf w) (h1 : Sz m1 wf (.slice p n c1) N) (h2 : Sz m1 wf (.slice q m c2) M) (h3 : Sz m1 wf (.slice p' n' c1') N') (h4 : Sz m1 wf (.slice q' m' c2') M') :
  Calls Tryz.prog 21 #[.agg #[.bool s, .slice p n c1, .bool t, .slice q m c2], .agg #[.bool s', .slice p' n' c1', .bool t', .slice q' m' c2']] w fun e w' => e = .returned (.bool (decide ((s = s' ∧ N = N') ∧ (t = t' ∧ M = M')))) ∧ Below w.heap.size w w' := by
 replace h1 := h1.ext hx
 replace h2 := h2.ext hx
 replace h3 := h3.ext hx
 replace h4 := h4.ext hx
 clear hx
 by_cases hst : s = s' ∧ N = N'
 ·have e1 : decide ((s = s' ∧ N = N') ∧ (t = t' ∧ M = M')) = decide (t = t' ∧ M = M') := by simp [hst]
  rw [e1]
  clear e1
  have e2 : decide (s = s' ∧ N = N') = true := by simp [hst]
  replace e2 := Lib.hid e2
  clear hst
  go_enter Tryz.func21, Tryz.ntmps21
  go_wp2_with fail
  refine boxes2c fun W hB hs b0 b1 => ?_
  refine (lsame_ok s s' m1 m1 p p' n n' c1 c1' N N' _ w (.of_below hB) h1 h3).mono ?_
  rintro e W1 ⟨rfl, hb1⟩
  rw [e2.out]
  replace hB := belowCall hB hb1
  replace b0 := b0.below hb1
  replace b1 := b1.below hb1
  have cb0 := b0.cell
  have lb0 := b0.lt
  have fb0 := b0.frozen
  have cb1 := b1.cell
  have lb1 := b1.lt
  have fb1 := b1.frozen
  go_wp2_with fail
  refine (lsame_ok t t' m1 m1 q q' m m' c2 c2' M M' _ w (.of_below hB) h2 h4).mono ?_
  rintro e W2 ⟨rfl, hb2⟩
  go_wp2
  go_ret
  exact ⟨by simp, belowCall hB hb2⟩
 ·have e1 : decide ((s = s' ∧ N = N') ∧ (t = t' ∧ M = M')) = false := by simp; intro a b; exact absurd ⟨a, b⟩ hst
  rw [e1]
  clear e1
  have e2 : decide (s = s' ∧ N = N') = false := by simpa using hst
  replace e2 := Lib.hid e2
  clear hst
  go_enter Tryz.func21, Tryz.ntmps21
  go_wp2_with fail
  refine boxes2c fun W hB hs b0 b1 => ?_
  refine (lsame_ok s s' m1 m1 p p' n n' c1 c1' N N' _ w (.of_below hB) h1 h3).mono ?_
  rintro e W1 ⟨rfl, hb1⟩
  rw [e2.out]
  go_wp2
  go_ret
  exact ⟨rfl, belowCall hB hb1⟩
theorem qsame_ok (u v : Value) (a b : Rat) (w wf : World) (hx : Ext wf w) (h1 : QV wf u a) (h2 : QV wf v b) :
  Calls Tryz.prog 21 #[u, v] w fun e w' => e = .returned (.bool (decide (a = b))) ∧ Below w.heap.size w w' := by
 obtain ⟨p, k, c, p', k', c', rfl, x1, x2⟩ := h1
 obtain ⟨q, l, d, q', l', d', rfl, y1, y2⟩ := h2
 have : decide ((decide (a.num < 0) = decide (b.num < 0) ∧ (a.num.natAbs : Int) = b.num.natAbs) ∧ (false = false ∧ (a.den : Int) = b.den)) = decide (a = b) := by
  rw [decide_eq_decide]
  constructor
  ·rintro ⟨⟨h1, h2⟩, _, h3⟩
   rw [decide_eq_decide] at h1
   exact Rat.ext (by omega) (by omega)
  ·rintro rfl; simp
 rw [← this]
 exact qsame_parts _ _ _ _ 600 p p' q q' k k' c c' l l' d d' _ _ _ _ w wf hx x1 x2 y1 y2
theorem lof_ok (z : Int) (w : World) (h1 : -9223372036854775808 ≤ z) (h2 : z ≤ 9223372036854775807) :
  Calls Tryz.prog 163 #[.int .i64 z] w fun e w' => ∃ p k c, e = .returned (.agg #[.bool (decide (z < 0)), .slice p k c]) ∧ Sz 600 w' (.slice p k c) z.natAbs ∧ Below w.heap.size w w' := by
 go_enter Tryz.func163, Tryz.ntmps163
 go_wp2_with fail
 refine boxes2 fun W hB hs b0 b1 => ?_
 go_loopw [0] (fun a wr => ∃ (k : Nat) (f : Nat → Int) (r : Int) (v : Value), a = .int .i64 r ∧ OwnF wr (w.heap.size + 1 + 1) v k f ∧ Box wr (w.heap.size + 1) 35 #[.bool (decide (z < 0)), v] ∧ Box wr w.heap.size 35 #[.bool false, .slice none 0 0] ∧ OfInv z r k f ∧ Below w.heap.size w wr ∧ w.heap.size + 1 + 1 ≤ wr.heap.size) (fun a _ => (intOf a).natAbs)
 case atStart => exact ⟨0, _, z, _, rfl, OwnF.nil _ _ _, b1, b0, OfInv.start z, hB, hs⟩
 case round =>
  clear b0 b1 hB hs
  obtain ⟨k, f, r, v, rfl, ho, b1, b0, hI, hB, hs⟩ := hrel
  have hr := hI.bound h1 h2
  obtain ⟨p, c, rfl⟩ := ho.shape
  by_cases h0 : r = 0
  ·subst h0
   have cb0 := b0.cell
   have lb0 := b0.lt
   have fb0 := b0.frozen
   have cb1 := b1.cell
   have lb1 := b1.lt
   have fb1 := b1.frozen
   go_wp2
   have b3' := ((b0.set 0 (.bool (decide (z < 0)))).set 1 (.slice p k c)).cell
   have hk3 : k ≤ 600 := by
    have hv := hI.val
    have hd : Digs f k := ⟨hI.lo, hI.hi, hI.top rfl⟩
    by_cases h : k ≤ 3
    ·omega
    ·have := hd.ge (by omega)
     have h3 := pw_mono (i := 3) (k := k - 1) (by omega)
     have e3 : pw 3 = 1000000000000000000000000000 := by decide
     simp at hv
     omega
   have hd : Digs f k := ⟨hI.lo, hI.hi, hI.top rfl⟩
   refine bodyPost_ret (v := .agg #[.bool (decide (z < 0)), .slice p k c]) (by simp [results, Tryz.results163, go_sem, b3']) rfl ⟨_, _, _, rfl, ⟨k, f, ?_, hd, ?_, hk3⟩, ?_⟩
   ·exact ((ho.set _ _ (by show w.heap.size < _; omega)).set _ _ (by show w.heap.size < _; omega)).sl (by omega)
   ·have := hI.val; simpa using this
   ·exact belowSet (belowSet hB (by omega) _ _) (by omega) _ _
  ·have hk := hI.small h1 h2 h0
   have hst := hI.step h0
   have h0' : (r != 0) = true := by simpa using h0
   have hmm : (r.tmod 1000000000).natAbs < 1000000000 := by rw [Int.natAbs_tmod]; exact Nat.mod_lt _ (by decide)
   have hm1 : -1000000000 < r.tmod 1000000000 := by omega
   have hm2 : r.tmod 1000000000 < 1000000000 := by omega
   have hdd : (r.tdiv 1000000000).natAbs = r.natAbs / 1000000000 := by rw [Int.natAbs_tdiv]; rfl
   have hw : wrap64 (r.tdiv 1000000000) = r.tdiv 1000000000 := by unfold wrap64; omega
   have cb0 := b0.cell
   have lb0 := b0.lt
   have fb0 := b0.frozen
   have cb1 := b1.cell
   have lb1 := b1.lt
   have fb1 := b1.frozen
   replace h0 := Lib.hid h0
   go_wp2_with (at_builtin; (refine wpList_append_ints _ rfl _ _ 33 rfl Tryz.underlying33 infoInt (w.heap.size + 1 + 1) (.slice p k c) k f rfl ?_ (some ⟨wr.heap.size, 0, none⟩) 1 1 (fun _ => ((r.tmod 1000000000).natAbs : Int)) rfl ?_ ?_ ?_ ?_); (exact (ho.below ((Below.refl _ _).alloc (Nat.le_refl _) _))); (exact (slF_lit wr _ _ (by first | omega | (split <;> omega)))); omega; (simp; omega); (intro v' w1 ho' hg); (obtain ⟨p', c', rfl⟩ := ho'.shape); (have hz := ((Below.refl (w.heap.size + 1 + 1) wr).alloc hs _).grown hg (by simp; omega) (fun k hk => ho.low k hk)); (replace b0 := b0.low hz (by omega)); (replace b1 := b1.low hz (by omega)); (clear cb0 lb0 fb0 cb1 lb1 fb1); (have cb0 := b0.cell); (have cb1 := b1.cell); (have fb1 := b1.frozen); (have lb1 := b1.lt))
   all_goals
    go_roundw
    case rel =>
     refine ⟨k + 1, _, r.tdiv 1000000000, .slice p' (k + 1) c', by simp, ho'.set ⟨w.heap.size + 1, 1, none⟩ _ (by show w.heap.size + 1 < _; omega), b1.set 1 _, b0.other _ _ (by show w.heap.size ≠ w.heap.size + 1; omega), hst, ?_, ?_⟩
     ·exact belowSet (hB.trans (hz.mono (by omega))) (by omega) _ _
     ·have := hz.size
      simp only [World.size_setCell]
      omega
    case measure =>
     have := h0.out
     first
      | (show (r.tdiv 1000000000).natAbs < r.natAbs; rw [hdd]; exact Nat.div_lt_self (by omega) (by decide))
      | fail "measure"
end Go.Proofs.YtdgodcgdlfjpaaaGreatDoor
namespace Go.Mono
open Go.RowKit
theorem rat_divInt (a b : Int) (hb : b ≠ 0) :
  Sg (decide (a < 0) != decide (b < 0)) (Rat.divInt a b).num ∧ ((Rat.divInt a b).num.natAbs : Int) = (a.natAbs : Int) / gcdZ a.natAbs b.natAbs ∧ ((Rat.divInt a b).den : Int) = (b.natAbs : Int) / gcdZ a.natAbs b.natAbs := by
 have hg : gcdZ a.natAbs b.natAbs = ((b.gcd a : Nat) : Int) := by
  simp only [gcdZ, Int.toNat_natCast, Int.gcd]
  rw [Nat.gcd_comm]
 have hg0 : 0 < b.gcd a := Int.gcd_pos_of_ne_zero_left _ hb
 have hs : (b.sign * a).natAbs = a.natAbs := by
  rw [Int.natAbs_mul, Int.natAbs_sign_of_ne_zero hb, Nat.one_mul]
 refine ⟨?_, ?_, ?_⟩
 ·rw [Rat.num_divInt]
  refine Sg.div ?_ (by omega)
  rcases Int.lt_or_gt_of_ne hb with h | h
  ·rw [Int.sign_eq_neg_one_of_neg h]
   constructor <;> intro hh <;> simp [h] at hh <;> omega
  ·rw [Int.sign_eq_one_of_pos h]
   constructor <;> intro hh <;> simp [show ¬ b < 0 by omega] at hh <;> omega
 ·rw [Rat.num_divInt, hg]
  have hd : b.gcd a ∣ (b.sign * a).natAbs := by
   rw [hs]
   exact Nat.gcd_dvd_right _ _
  rw [natAbs_div hd, hs]
 ·rw [Rat.den_divInt, if_neg hb, hg]
  simp
end Go.Mono
