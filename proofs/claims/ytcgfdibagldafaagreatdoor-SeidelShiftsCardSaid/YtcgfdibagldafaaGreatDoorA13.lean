/- Contracts of the program's fractions, lenses and rays, and a verified evaluator of the model. Part 13 of 30. No condition beside the row. -/
import Derived.Test.YtcgfdibagldafaaGreatDoorA02
import Derived.Test.YtcgfdibagldafaaGreatDoorA12
set_option linter.unusedVariables false
set_option linter.unusedSimpArgs false
set_option maxRecDepth 100000
set_option maxHeartbeats 4000000
namespace Go.Proofs.YtcgfdibagldafaaGreatDoor
open Go.RowKit Go.Mono
theorem add_ok (a b : Rat) (u v : Value) (w wf : World) (hx : Ext wf w) (ha : QV wf u a) (hb : QV wf v b) (hf : Fits (a + b)) :
  Calls Tryz.prog 17 #[u, v] w fun e w' => ∃ r, e = .returned (.tuple #[r, .int .i64 0]) ∧ QV w' r (a + b) ∧ Below w.heap.size w w' := by
 replace ha := ha.ext hx
 replace hb := hb.ext hx
 clear hx
 have ha' := ha
 have hb' := hb
 obtain ⟨p1, k1, c1, q1, l1, d1, rfl, _, _⟩ := ha
 obtain ⟨p2, k2, c2, q2, l2, d2, rfl, _, _⟩ := hb
 go_enter Tryz.func17, Tryz.ntmps17
 go_wp2_with fail
 refine boxes3c fun W hB hs b0 b1 b2 => ?_
 refine (both_sum a b _ _ W (ha'.ext (.of_below hB)) (hb'.ext (.of_below hB)) hf).mono ?_
 rintro e W1 ⟨r, rfl, ⟨p7, k7, c7, q7, l7, d7, rfl, z7, y7⟩, hb7⟩
 replace hB := belowCall hB hb7
 replace b2 := b2.below hb7
 have cb2 := b2.cell
 have lb2 := b2.lt
 have fb2 := b2.frozen
 go_wp2
 have b3' := ((((b2.set 0 (.bool (decide ((a + b).num < 0)))).set 1 (.slice p7 k7 c7)).set 2 (.bool false)).set 3 (.slice q7 l7 d7)).cell
 have xE : Ext W1 _ := (((((Ext.refl W1).set b2 (by decide) 0 (.bool (decide ((a + b).num < 0)))).set (b2.set 0 (.bool (decide ((a + b).num < 0)))) (by decide) 1 (.slice p7 k7 c7))).set ((b2.set 0 (.bool (decide ((a + b).num < 0)))).set 1 (.slice p7 k7 c7)) (by decide) 2 (.bool false)).set (((b2.set 0 (.bool (decide ((a + b).num < 0)))).set 1 (.slice p7 k7 c7)).set 2 (.bool false)) (by decide) 3 (.slice q7 l7 d7)
 refine bodyPost_ret (v := .tuple #[.agg #[.bool (decide ((a + b).num < 0)), .slice p7 k7 c7, .bool false, .slice q7 l7 d7], .int .i64 0]) (by simp [results, Tryz.results17, go_sem, b3']) rfl ⟨_, rfl, ⟨_, _, _, _, _, _, rfl, z7.ext xE, y7.ext xE⟩, ?_⟩
 exact belowSet (belowSet (belowSet (belowSet hB (by omega) _ _) (by omega) _ _) (by omega) _ _) (by omega) _ _
theorem sub_ok (a b : Rat) (u v : Value) (w wf : World) (hx : Ext wf w) (ha : QV wf u a) (hb : QV wf v b) (hf : Fits (a - b)) :
  Calls Tryz.prog 46 #[u, v] w fun e w' => ∃ r, e = .returned (.tuple #[r, .int .i64 0]) ∧ QV w' r (a - b) ∧ Below w.heap.size w w' := by
 replace ha := ha.ext hx
 replace hb := hb.ext hx
 clear hx
 have ha' := ha
 have hb' := hb
 obtain ⟨p1, k1, c1, q1, l1, d1, rfl, _, _⟩ := ha
 obtain ⟨p2, k2, c2, q2, l2, d2, rfl, _, _⟩ := hb
 go_enter Tryz.func46, Tryz.ntmps46
 go_wp2_with fail
 refine boxes3c fun W hB hs b0 b1 b2 => ?_
 refine (both_diff a b _ _ W (ha'.ext (.of_below hB)) (hb'.ext (.of_below hB)) hf).mono ?_
 rintro e W1 ⟨r, rfl, ⟨p7, k7, c7, q7, l7, d7, rfl, z7, y7⟩, hb7⟩
 replace hB := belowCall hB hb7
 replace b2 := b2.below hb7
 have cb2 := b2.cell
 have lb2 := b2.lt
 have fb2 := b2.frozen
 go_wp2
 have b3' := ((((b2.set 0 (.bool (decide ((a - b).num < 0)))).set 1 (.slice p7 k7 c7)).set 2 (.bool false)).set 3 (.slice q7 l7 d7)).cell
 have xE : Ext W1 _ := (((((Ext.refl W1).set b2 (by decide) 0 (.bool (decide ((a - b).num < 0)))).set (b2.set 0 (.bool (decide ((a - b).num < 0)))) (by decide) 1 (.slice p7 k7 c7))).set ((b2.set 0 (.bool (decide ((a - b).num < 0)))).set 1 (.slice p7 k7 c7)) (by decide) 2 (.bool false)).set (((b2.set 0 (.bool (decide ((a - b).num < 0)))).set 1 (.slice p7 k7 c7)).set 2 (.bool false)) (by decide) 3 (.slice q7 l7 d7)
 refine bodyPost_ret (v := .tuple #[.agg #[.bool (decide ((a - b).num < 0)), .slice p7 k7 c7, .bool false, .slice q7 l7 d7], .int .i64 0]) (by simp [results, Tryz.results46, go_sem, b3']) rfl ⟨_, rfl, ⟨_, _, _, _, _, _, rfl, z7.ext xE, y7.ext xE⟩, ?_⟩
 exact belowSet (belowSet (belowSet (belowSet hB (by omega) _ _) (by omega) _ _) (by omega) _ _) (by omega) _ _
theorem mul_ok (a b : Rat) (u v : Value) (w wf : World) (hx : Ext wf w) (ha : QV wf u a) (hb : QV wf v b) (hf : Fits (a * b)) :
  Calls Tryz.prog 16 #[u, v] w fun e w' => ∃ r, e = .returned (.tuple #[r, .int .i64 0]) ∧ QV w' r (a * b) ∧ Below w.heap.size w w' := by
 replace ha := ha.ext hx
 replace hb := hb.ext hx
 clear hx
 have ha' := ha
 have hb' := hb
 obtain ⟨p1, k1, c1, q1, l1, d1, rfl, _, _⟩ := ha
 obtain ⟨p2, k2, c2, q2, l2, d2, rfl, _, _⟩ := hb
 go_enter Tryz.func16, Tryz.ntmps16
 go_wp2_with fail
 refine boxes3c fun W hB hs b0 b1 b2 => ?_
 refine (both_prod a b _ _ W (ha'.ext (.of_below hB)) (hb'.ext (.of_below hB)) hf).mono ?_
 rintro e W1 ⟨r, rfl, ⟨p7, k7, c7, q7, l7, d7, rfl, z7, y7⟩, hb7⟩
 replace hB := belowCall hB hb7
 replace b2 := b2.below hb7
 have cb2 := b2.cell
 have lb2 := b2.lt
 have fb2 := b2.frozen
 go_wp2
 have b3' := ((((b2.set 0 (.bool (decide ((a * b).num < 0)))).set 1 (.slice p7 k7 c7)).set 2 (.bool false)).set 3 (.slice q7 l7 d7)).cell
 have xE : Ext W1 _ := (((((Ext.refl W1).set b2 (by decide) 0 (.bool (decide ((a * b).num < 0)))).set (b2.set 0 (.bool (decide ((a * b).num < 0)))) (by decide) 1 (.slice p7 k7 c7))).set ((b2.set 0 (.bool (decide ((a * b).num < 0)))).set 1 (.slice p7 k7 c7)) (by decide) 2 (.bool false)).set (((b2.set 0 (.bool (decide ((a * b).num < 0)))).set 1 (.slice p7 k7 c7)).set 2 (.bool false)) (by decide) 3 (.slice q7 l7 d7)
 refine bodyPost_ret (v := .tuple #[.agg #[.bool (decide ((a * b).num < 0)), .slice p7 k7 c7, .bool false, .slice q7 l7 d7], .int .i64 0]) (by simp [results, Tryz.results16, go_sem, b3']) rfl ⟨_, rfl, ⟨_, _, _, _, _, _, rfl, z7.ext xE, y7.ext xE⟩, ?_⟩
 exact belowSet (belowSet (belowSet (belowSet hB (by omega) _ _) (by omega) _ _) (by omega) _ _) (by omega) _ _
theorem div_ok (a b : Rat) (u v : Value) (w wf : World) (hx : Ext wf w) (ha : QV wf u a) (hb : QV wf v b) (h0 : b.num ≠ 0) (hf : Fits (a / b)) :
  Calls Tryz.prog 57 #[u, v] w fun e w' => ∃ r, e = .returned (.tuple #[r, .int .i64 0]) ∧ QV w' r (a / b) ∧ Below w.heap.size w w' := by
 replace ha := ha.ext hx
 replace hb := hb.ext hx
 clear hx
 have ha' := ha
 have hb' := hb
 obtain ⟨p1, k1, c1, q1, l1, d1, rfl, _, _⟩ := ha
 obtain ⟨p2, k2, c2, q2, l2, d2, rfl, y1, _⟩ := hb
 have hk2 : ((k2 : Int) == 0) = false := by
  have := y1.len_pos.1 (by omega)
  simp; omega
 clear y1
 go_enter Tryz.func57, Tryz.ntmps57
 go_wp2_with fail
 refine boxes4c fun W hB hs b0 b1 b2 b3 => ?_
 replace ha' := ha'.ext (.of_below hB)
 replace hb' := hb'.ext (.of_below hB)
 refine (all2_ok a b _ _ _ _ p1 q1 p2 q2 k1 c1 l1 d1 k2 c2 l2 d2 _ _ b3 ha' hb').mono ?_
 rintro e W1 ⟨rfl, hb1⟩
 replace hB := belowCall hB hb1
 replace ha' := ha'.ext (.of_below hb1)
 replace hb' := hb'.ext (.of_below hb1)
 replace b0 := b0.below hb1
 try clear cb0 lb0 fb0
 have cb0 := b0.cell
 have lb0 := b0.lt
 have fb0 := b0.frozen
 replace b1 := b1.below hb1
 try clear cb1 lb1 fb1
 have cb1 := b1.cell
 have lb1 := b1.lt
 have fb1 := b1.frozen
 replace b2 := b2.below hb1
 try clear cb2 lb2 fb2
 have cb2 := b2.cell
 have lb2 := b2.lt
 have fb2 := b2.frozen
 go_wp2_with fail
 refine (both_quo a b _ _ W1 ha' hb' h0 hf).mono ?_
 rintro e W2 ⟨r, rfl, ⟨p7, k7, c7, q7, l7, d7, rfl, z7, y7⟩, hb7⟩
 replace hB := belowCall hB hb7
 replace b2 := b2.below hb7
 clear cb2 lb2 fb2
 have cb2 := b2.cell
 have lb2 := b2.lt
 have fb2 := b2.frozen
 go_wp2
 have b3' := ((((b2.set 0 (.bool (decide ((a / b).num < 0)))).set 1 (.slice p7 k7 c7)).set 2 (.bool false)).set 3 (.slice q7 l7 d7)).cell
 have xE : Ext W2 _ := (((((Ext.refl W2).set b2 (by decide) 0 (.bool (decide ((a / b).num < 0)))).set (b2.set 0 (.bool (decide ((a / b).num < 0)))) (by decide) 1 (.slice p7 k7 c7))).set ((b2.set 0 (.bool (decide ((a / b).num < 0)))).set 1 (.slice p7 k7 c7)) (by decide) 2 (.bool false)).set (((b2.set 0 (.bool (decide ((a / b).num < 0)))).set 1 (.slice p7 k7 c7)).set 2 (.bool false)) (by decide) 3 (.slice q7 l7 d7)
 refine bodyPost_ret (v := .tuple #[.agg #[.bool (decide ((a / b).num < 0)), .slice p7 k7 c7, .bool false, .slice q7 l7 d7], .int .i64 0]) (by simp [results, Tryz.results57, go_sem, b3']) rfl ⟨_, rfl, ⟨_, _, _, _, _, _, rfl, z7.ext xE, y7.ext xE⟩, ?_⟩
 exact belowSet (belowSet (belowSet (belowSet hB (by omega) _ _) (by omega) _ _) (by omega) _ _) (by omega) _ _
theorem eqint_sl (p q : Option Addr) (n m c1 c2 : Nat) (f g : Nat → Int) (w : World) (h1 : SlF w (.slice p n c1) n f) (h2 : SlF w (.slice q m c2) m g) :
  Calls Tryz.prog 97 #[.slice p n c1, .slice q m c2] w fun e w' => ∃ r : Bool, e = .returned (.bool r) ∧ (r = true ↔ n = m ∧ ∀ i, i < n → f i = g i) ∧ ∃ k, w' = w.drewN k := by
 obtain ⟨hc1, hn1, hx1⟩ := h1.opens
 obtain ⟨hc2, hn2, hx2⟩ := h2.opens
 clear h1 h2
 by_cases hnm : n = m
 ·subst hnm
  go_enter Tryz.func97, Tryz.ntmps97
  go_wp2
  go_loopw [13] (fun a wr => ∃ k : Nat, k ≤ n ∧ a = .int .i64 (k : Int) ∧ (∀ i, i < k → f i = g i) ∧ ∃ j, wr = w.drewN j) (fun a _ => (n - intOf a).toNat)
  case atStart => exact ⟨0, Nat.zero_le _, rfl, fun i hi => by omega, 0, rfl⟩
  case round =>
   obtain ⟨k, hk, rfl, ht, j, rfl⟩ := hrel
   have HT := Lib.hid ht; clear ht
   by_cases h0 : k < n
   ·obtain ⟨b, off, rfl, hb, hcell⟩ := hx1 (by omega)
    obtain ⟨b2, off2, rfl, hb2, hcell2⟩ := hx2 (by omega)
    have a1 := hcell k (by omega)
    have a2 := hcell2 k (by omega)
    clear hcell hcell2 hx1 hx2
    have h0' : (k : Int) < n := by omega
    by_cases hfg : f k = g k
    ·have hq : (f k != g k) = false := by simpa using hfg
     have HF := Lib.hid hfg; clear hfg
     go_wp2
     go_quiet (fail)
     go_wp2
     go_roundw
     case rel =>
      refine ⟨k + 1, by omega, by simp, fun i hi => ?_, _, rfl⟩
      by_cases h : i < k
      ·exact HT.out i h
      ·obtain rfl : i = k := by omega
       exact HF.out
     case measure => simp [intOf]; omega
    ·have hq : (f k != g k) = true := by simpa using hfg
     have HF := Lib.hid hfg; clear hfg
     go_wp2
     go_quiet (fail)
     go_wp2
     go_ret
     exact ⟨false, rfl, ⟨by simp, fun h => absurd (h.2 k h0) HF.out⟩, _, by rw [World.drewN_drewN]⟩
   ·obtain rfl : k = n := by omega
    go_wp2
    go_ret
    refine ⟨true, rfl, ?_, _, rfl⟩
    simp only [true_and]
    first | exact HT.out | exact ⟨trivial, HT.out⟩ | (simp; exact HT.out)
 ·have hq : ((n : Int) != m) = true := by simp; omega
  have HN := Lib.hid hnm; clear hnm
  go_enter Tryz.func97, Tryz.ntmps97
  go_wp2
  go_ret
  exact ⟨false, rfl, ⟨by simp, fun h => absurd h.1 HN.out⟩, 0, rfl⟩
theorem eqint_sz (m1 m2 : Nat) (p q : Option Addr) (n m c1 c2 : Nat) (N M : Int) (w wf : World) (hx : Ext wf w) (h1 : Sz m1 wf (.slice p n c1) N) (h2 : Sz m2 wf (.slice q m c2) M) :
  Calls Tryz.prog 97 #[.slice p n c1, .slice q m c2] w fun e w' => e = .returned (.bool (decide (N = M))) ∧ Below w.heap.size w w' := by
 obtain ⟨n', f, s1, d1, rfl, _, rfl⟩ := (h1.ext hx).sl
 obtain ⟨m', g, s2, d2, rfl, _, rfl⟩ := (h2.ext hx).sl
 refine (eqint_sl p q _ _ c1 c2 f g w s1 s2).mono ?_
 rintro e w' ⟨r, rfl, hr, k, rfl⟩
 refine ⟨?_, below_drewN (Below.refl _ _) k⟩
 have : r = decide (vf f n' = vf g m') := by
  rw [Bool.eq_iff_iff, hr, decide_eq_true_iff]
  constructor
  ·rintro ⟨rfl, h⟩; exact vf_congr h
  ·intro h; exact d1.unique d2 h
 rw [this]
theorem lsame_ok (s t : Bool) (m1 m2 : Nat) (p q : Option Addr) (n m c1 c2 : Nat) (N M : Int) (w wf : World) (hx : Ext wf w) (h1 : Sz m1 wf (.slice p n c1) N) (h2 : Sz m2 wf (.slice q m c2) M) :
  Calls Tryz.prog 47 #[.agg #[.bool s, .slice p n c1], .agg #[.bool t, .slice q m c2]] w fun e w' => e = .returned (.bool (decide (s = t ∧ N = M))) ∧ Below w.heap.size w w' := by
 replace h1 := h1.ext hx
 replace h2 := h2.ext hx
 clear hx
 by_cases hst : s = t
 ·subst hst
  have e1 : decide (s = s ∧ N = M) = decide (N = M) := by simp
  rw [e1]
  clear e1
  go_enter Tryz.func47, Tryz.ntmps47
  go_wp2_with fail
  refine boxes2c fun W hB hs b0 b1 => ?_
  refine (eqint_sz m1 m2 p q n m c1 c2 N M W w (.of_below hB) h1 h2).mono ?_
  rintro e W1 ⟨rfl, hb1⟩
  go_wp2
  go_ret
  exact ⟨rfl, belowCall hB hb1⟩
 ·have e1 : decide (s = t ∧ N = M) = false := by simp [hst]
  rw [e1]
  clear e1
  have hss : (s == t) = false := by simpa using hst
  clear hst
  go_enter Tryz.func47, Tryz.ntmps47
  go_wp2_with fail
  go_ret
  exact ⟨rfl, belowAlloc (belowAlloc (Below.refl _ _) _) _⟩
theorem qsame_parts (s s' t t' : Bool) (m1 : Nat) (p q p' q' : Option Addr) (n m c1 c2 n' m' c1' c2' : Nat) (N M N' M' : Int) (w wf : World) (hx : Ext wf w) (h1 : Sz m1 wf (.slice p n c1) N) (h2 : Sz m1 wf (.slice q m c2) M) (h3 : Sz m1 wf (.slice p' n' c1') N') (h4 : Sz m1 wf (.slice q' m' c2') M') :
  Calls Tryz.prog 14 #[.agg #[.bool s, .slice p n c1, .bool t, .slice q m c2], .agg #[.bool s', .slice p' n' c1', .bool t', .slice q' m' c2']] w fun e w' => e = .returned (.bool (decide ((s = s' ∧ N = N') ∧ (t = t' ∧ M = M')))) ∧ Below w.heap.size w w' := by
 replace h1 := h1.ext hx
 replace h2 := h2.ext hx
 replace h3 := h3.ext hx
 replace h4 := h4.ext hx
 clear hx
 by_cases hst : s = s' ∧ N = N'
 ·have e1 : decide ((s = s' ∧ N = N') ∧ (t = t' ∧ M = M')) = decide (t = t' ∧ M = M') := by simp [hst]
  rw [e1]
  clear e1
  have e2 : decide (s = s' ∧ N = N') = true := by simp [hst]
  replace e2 := Lib.hid e2
  clear hst
  go_enter Tryz.func14, Tryz.ntmps14
  go_wp2_with fail
  refine boxes2c fun W hB hs b0 b1 => ?_
  refine (lsame_ok s s' m1 m1 p p' n n' c1 c1' N N' _ w (.of_below hB) h1 h3).mono ?_
  rintro e W1 ⟨rfl, hb1⟩
  rw [e2.out]
  replace hB := belowCall hB hb1
  replace b0 := b0.below hb1
  replace b1 := b1.below hb1
  have cb0 := b0.cell
  have lb0 := b0.lt
  have fb0 := b0.frozen
  have cb1 := b1.cell
  have lb1 := b1.lt
  have fb1 := b1.frozen
  go_wp2_with fail
  refine (lsame_ok t t' m1 m1 q q' m m' c2 c2' M M' _ w (.of_below hB) h2 h4).mono ?_
  rintro e W2 ⟨rfl, hb2⟩
  go_wp2
  go_ret
  exact ⟨by simp, belowCall hB hb2⟩
 ·have e1 : decide ((s = s' ∧ N = N') ∧ (t = t' ∧ M = M')) = false := by simp; intro a b; exact absurd ⟨a, b⟩ hst
  rw [e1]
  clear e1
  have e2 : decide (s = s' ∧ N = N') = false := by simpa using hst
  replace e2 := Lib.hid e2
  clear hst
  go_enter Tryz.func14, Tryz.ntmps14
  go_wp2_with fail
  refine boxes2c fun W hB hs b0 b1 => ?_
  refine (lsame_ok s s' m1 m1 p p' n n' c1 c1' N N' _ w (.of_below hB) h1 h3).mono ?_
  rintro e W1 ⟨rfl, hb1⟩
  rw [e2.out]
  go_wp2
  go_ret
  exact ⟨rfl, belowCall hB hb1⟩
theorem qsame_ok (u v : Value) (a b : Rat) (w wf : World) (hx : Ext wf w) (h1 : QV wf u a) (h2 : QV wf v b) :
  Calls Tryz.prog 14 #[u, v] w fun e w' => e = .returned (.bool (decide (a = b))) ∧ Below w.heap.size w w' := by
 obtain ⟨p, k, c, p', k', c', rfl, x1, x2⟩ := h1
 obtain ⟨q, l, d, q', l', d', rfl, y1, y2⟩ := h2
 have : decide ((decide (a.num < 0) = decide (b.num < 0) ∧ (a.num.natAbs : Int) = b.num.natAbs) ∧ (false = false ∧ (a.den : Int) = b.den)) = decide (a = b) := by
  rw [decide_eq_decide]
  constructor
  ·rintro ⟨⟨h1, h2⟩, _, h3⟩
   rw [decide_eq_decide] at h1
   exact Rat.ext (by omega) (by omega)
  ·rintro rfl; simp
 rw [← this]
 exact qsame_parts _ _ _ _ 600 p p' q q' k k' c c' l l' d d' _ _ _ _ w wf hx x1 x2 y1 y2
theorem lof_ok (z : Int) (w : World) (h1 : -9223372036854775808 ≤ z) (h2 : z ≤ 9223372036854775807) :
  Calls Tryz.prog 109 #[.int .i64 z] w fun e w' => ∃ p k c, e = .returned (.agg #[.bool (decide (z < 0)), .slice p k c]) ∧ Sz 600 w' (.slice p k c) z.natAbs ∧ Below w.heap.size w w' := by
 go_enter Tryz.func109, Tryz.ntmps109
 go_wp2_with fail
 refine boxes2 fun W hB hs b0 b1 => ?_
 go_loopw [0] (fun a wr => ∃ (k : Nat) (f : Nat → Int) (r : Int) (v : Value), a = .int .i64 r ∧ OwnF wr (w.heap.size + 1 + 1) v k f ∧ Box wr (w.heap.size + 1) 50 #[.bool (decide (z < 0)), v] ∧ Box wr w.heap.size 50 #[.bool false, .slice none 0 0] ∧ OfInv z r k f ∧ Below w.heap.size w wr ∧ w.heap.size + 1 + 1 ≤ wr.heap.size) (fun a _ => (intOf a).natAbs)
 case atStart => exact ⟨0, _, z, _, rfl, OwnF.nil _ _ _, b1, b0, OfInv.start z, hB, hs⟩
 case round =>
  clear b0 b1 hB hs
  obtain ⟨k, f, r, v, rfl, ho, b1, b0, hI, hB, hs⟩ := hrel
  have hr := hI.bound h1 h2
  obtain ⟨p, c, rfl⟩ := ho.shape
  by_cases h0 : r = 0
  ·subst h0
   have cb0 := b0.cell
   have lb0 := b0.lt
   have fb0 := b0.frozen
   have cb1 := b1.cell
   have lb1 := b1.lt
   have fb1 := b1.frozen
   go_wp2
   have b3' := ((b0.set 0 (.bool (decide (z < 0)))).set 1 (.slice p k c)).cell
   have hk3 : k ≤ 600 := by
    have hv := hI.val
    have hd : Digs f k := ⟨hI.lo, hI.hi, hI.top rfl⟩
    by_cases h : k ≤ 3
    ·omega
    ·have := hd.ge (by omega)
     have h3 := pw_mono (i := 3) (k := k - 1) (by omega)
     have e3 : pw 3 = 1000000000000000000000000000 := by decide
     simp at hv
     omega
   have hd : Digs f k := ⟨hI.lo, hI.hi, hI.top rfl⟩
   refine bodyPost_ret (v := .agg #[.bool (decide (z < 0)), .slice p k c]) (by simp [results, Tryz.results109, go_sem, b3']) rfl ⟨_, _, _, rfl, ⟨k, f, ?_, hd, ?_, hk3⟩, ?_⟩
   ·exact ((ho.set _ _ (by show w.heap.size < _; omega)).set _ _ (by show w.heap.size < _; omega)).sl (by omega)
   ·have := hI.val; simpa using this
   ·exact belowSet (belowSet hB (by omega) _ _) (by omega) _ _
  ·have hk := hI.small h1 h2 h0
   have hst := hI.step h0
   have h0' : (r != 0) = true := by simpa using h0
   have hmm : (r.tmod 1000000000).natAbs < 1000000000 := by rw [Int.natAbs_tmod]; exact Nat.mod_lt _ (by decide)
   have hm1 : -1000000000 < r.tmod 1000000000 := by omega
   have hm2 : r.tmod 1000000000 < 1000000000 := by omega
   have hdd : (r.tdiv 1000000000).natAbs = r.natAbs / 1000000000 := by rw [Int.natAbs_tdiv]; rfl
   have hw : wrap64 (r.tdiv 1000000000) = r.tdiv 1000000000 := by unfold wrap64; omega
   have cb0 := b0.cell
   have lb0 := b0.lt
   have fb0 := b0.frozen
   have cb1 := b1.cell
   have lb1 := b1.lt
   have fb1 := b1.frozen
   replace h0 := Lib.hid h0
   go_wp2_with (at_builtin; (refine wpList_append_ints _ rfl _ _ 48 rfl Tryz.underlying48 infoInt (w.heap.size + 1 + 1) (.slice p k c) k f rfl ?_ (some ⟨wr.heap.size, 0, none⟩) 1 1 (fun _ => ((r.tmod 1000000000).natAbs : Int)) rfl ?_ ?_ ?_ ?_); (exact (ho.below ((Below.refl _ _).alloc (Nat.le_refl _) _))); (exact (slF_lit wr _ _ (by first | omega | (split <;> omega)))); omega; (simp; omega); (intro v' w1 ho' hg); (obtain ⟨p', c', rfl⟩ := ho'.shape); (have hz := ((Below.refl (w.heap.size + 1 + 1) wr).alloc hs _).grown hg (by simp; omega) (fun k hk => ho.low k hk)); (replace b0 := b0.low hz (by omega)); (replace b1 := b1.low hz (by omega)); (clear cb0 lb0 fb0 cb1 lb1 fb1); (have cb0 := b0.cell); (have cb1 := b1.cell); (have fb1 := b1.frozen); (have lb1 := b1.lt))
   all_goals
    go_roundw
    case rel =>
     refine ⟨k + 1, _, r.tdiv 1000000000, .slice p' (k + 1) c', by simp, ho'.set ⟨w.heap.size + 1, 1, none⟩ _ (by show w.heap.size + 1 < _; omega), b1.set 1 _, b0.other _ _ (by show w.heap.size ≠ w.heap.size + 1; omega), hst, ?_, ?_⟩
     ·exact belowSet (hB.trans (hz.mono (by omega))) (by omega) _ _
     ·have := hz.size
      simp only [World.size_setCell]
      omega
    case measure =>
     have := h0.out
     first
      | (show (r.tdiv 1000000000).natAbs < r.natAbs; rw [hdd]; exact Nat.div_lt_self (by omega) (by decide))
      | fail "measure"
end Go.Proofs.YtcgfdibagldafaaGreatDoor
namespace Go.Mono
open Go.RowKit
theorem rat_divInt (a b : Int) (hb : b ≠ 0) :
  Sg (decide (a < 0) != decide (b < 0)) (Rat.divInt a b).num ∧ ((Rat.divInt a b).num.natAbs : Int) = (a.natAbs : Int) / gcdZ a.natAbs b.natAbs ∧ ((Rat.divInt a b).den : Int) = (b.natAbs : Int) / gcdZ a.natAbs b.natAbs := by
 have hg : gcdZ a.natAbs b.natAbs = ((b.gcd a : Nat) : Int) := by
  simp only [gcdZ, Int.toNat_natCast, Int.gcd]
  rw [Nat.gcd_comm]
 have hg0 : 0 < b.gcd a := Int.gcd_pos_of_ne_zero_left _ hb
 have hs : (b.sign * a).natAbs = a.natAbs := by
  rw [Int.natAbs_mul, Int.natAbs_sign_of_ne_zero hb, Nat.one_mul]
 refine ⟨?_, ?_, ?_⟩
 ·rw [Rat.num_divInt]
  refine Sg.div ?_ (by omega)
  rcases Int.lt_or_gt_of_ne hb with h | h
  ·rw [Int.sign_eq_neg_one_of_neg h]
   constructor <;> intro hh <;> simp [h] at hh <;> omega
  ·rw [Int.sign_eq_one_of_pos h]
   constructor <;> intro hh <;> simp [show ¬ b < 0 by omega] at hh <;> omega
 ·rw [Rat.num_divInt, hg]
  have hd : b.gcd a ∣ (b.sign * a).natAbs := by
   rw [hs]
   exact Nat.gcd_dvd_right _ _
  rw [natAbs_div hd, hs]
 ·rw [Rat.den_divInt, if_neg hb, hg]
  simp
theorem Sz.div_lt {m : Nat} {w : World} {v : Value} {N M : Int} (h : Sz m w v (N / M)) : N / M < pw m := h.lt
theorem rat_divInt0 (a b : Int) (hb : b ≠ 0) : (Rat.divInt a b).num.natAbs ≤ a.natAbs ∧ (Rat.divInt a b).den ≤ b.natAbs := by
 constructor
 ·rw [Rat.num_divInt]
  have h1 : (b.sign * a / (b.gcd a : Int)).natAbs ≤ (b.sign * a).natAbs := Int.natAbs_ediv_le_natAbs _ _
  have h2 : (b.sign * a).natAbs = a.natAbs := by rw [Int.natAbs_mul, Int.natAbs_sign_of_ne_zero hb, Nat.one_mul]
  omega
 ·rw [Rat.den_divInt, if_neg hb]
  exact Nat.div_le_self _ _
def Ov (N D : Nat) (x : Rat) : Prop := 0 < D ∧ ∃ z : Int, x = Rat.divInt z D ∧ z.natAbs ≤ N
theorem Ov.mul {N D N' D' : Nat} {x y : Rat} (h : Ov N D x) (g : Ov N' D' y) : Ov (N * N') (D * D') (x * y) := by
 obtain ⟨h0, z, rfl, hz⟩ := h
 obtain ⟨g0, z', rfl, gz⟩ := g
 refine ⟨Nat.mul_pos h0 g0, z * z', ?_, ?_⟩
 ·rw [Rat.divInt_mul_divInt, Int.natCast_mul]
 ·rw [Int.natAbs_mul]
  exact Nat.mul_le_mul hz gz
theorem Ov.add {N D N' D' : Nat} {x y : Rat} (h : Ov N D x) (g : Ov N' D' y) : Ov (N * D' + N' * D) (D * D') (x + y) := by
 obtain ⟨h0, z, rfl, hz⟩ := h
 obtain ⟨g0, z', rfl, gz⟩ := g
 refine ⟨Nat.mul_pos h0 g0, z * D' + z' * D, ?_, ?_⟩
 ·rw [Rat.divInt_add_divInt _ _ (by omega) (by omega), Int.natCast_mul]
 ·refine Nat.le_trans (Int.natAbs_add_le _ _) ?_
  rw [Int.natAbs_mul, Int.natAbs_mul, Int.natAbs_natCast, Int.natAbs_natCast]
  exact Nat.add_le_add (Nat.mul_le_mul_right _ hz) (Nat.mul_le_mul_right _ gz)
theorem Ov.neg {N D : Nat} {x : Rat} (h : Ov N D x) : Ov N D (-x) := by
 obtain ⟨h0, z, rfl, hz⟩ := h
 exact ⟨h0, -z, Rat.neg_divInt _ _, by simpa using hz⟩
theorem Ov.sub {N D N' D' : Nat} {x y : Rat} (h : Ov N D x) (g : Ov N' D' y) : Ov (N * D' + N' * D) (D * D') (x - y) := by
 rw [Rat.sub_eq_add_neg]; exact h.add g.neg
theorem divInt_plus (a b : Int) (D : Nat) (h : 0 < D) : Rat.divInt a D + Rat.divInt b D = Rat.divInt (a + b) D := by
 rw [Rat.divInt_add_divInt _ _ (by omega) (by omega), ← Int.add_mul, Rat.divInt_mul_right (by omega)]
theorem Ov.add_same {N D N' : Nat} {x y : Rat} (h : Ov N D x) (g : Ov N' D y) : Ov (N + N') D (x + y) := by
 obtain ⟨h0, z, rfl, hz⟩ := h
 obtain ⟨g0, z', rfl, gz⟩ := g
 refine ⟨h0, z + z', divInt_plus _ _ _ h0, ?_⟩
 have := Int.natAbs_add_le z z'
 omega
theorem Ov.sub_same {N D N' : Nat} {x y : Rat} (h : Ov N D x) (g : Ov N' D y) : Ov (N + N') D (x - y) := by
 rw [Rat.sub_eq_add_neg]; exact h.add_same g.neg
theorem Ov.mono {N M D : Nat} {x : Rat} (h : Ov N D x) (hN : N ≤ M) : Ov M D x := by
 obtain ⟨h0, z, rfl, hz⟩ := h
 exact ⟨h0, z, rfl, Nat.le_trans hz hN⟩
theorem Ov.scale {N D : Nat} {x : Rat} (h : Ov N D x) (k : Nat) (hk : 0 < k) : Ov (N * k) (D * k) x := by
 obtain ⟨h0, z, rfl, hz⟩ := h
 refine ⟨Nat.mul_pos h0 hk, z * k, ?_, ?_⟩
 ·rw [Int.natCast_mul, Rat.divInt_mul_right (by omega)]
 ·rw [Int.natAbs_mul, Int.natAbs_natCast]
  exact Nat.mul_le_mul_right _ hz
theorem Ov.of (z : Int) (d : Nat) (hd : 0 < d) (N : Nat) (h : z.natAbs ≤ N) : Ov N d (Rat.divInt z d) := ⟨hd, z, rfl, h⟩
theorem Ov.self (x : Rat) : Ov x.num.natAbs x.den x := ⟨x.den_pos, x.num, (Rat.num_divInt_den x).symm, Nat.le_refl _⟩
theorem Ov.num_le {N D : Nat} {x : Rat} (h : Ov N D x) : x.num.natAbs ≤ N ∧ x.den ≤ D := by
 obtain ⟨h0, z, rfl, hz⟩ := h
 have := rat_divInt0 z D (by omega)
 exact ⟨Nat.le_trans this.1 hz, by simpa using this.2⟩
def Hs (k : Nat) (x : Rat) : Prop := x.num.natAbs ≤ 10 ^ k ∧ x.den ≤ 10 ^ k
theorem Hs.mono {k l : Nat} {x : Rat} (h : Hs k x) (hl : k ≤ l) : Hs l x := by
 have := Nat.pow_le_pow_right (n := 10) (by omega) hl
 exact ⟨Nat.le_trans h.1 this, Nat.le_trans h.2 this⟩
theorem Hs.of_ov {N D k : Nat} {x : Rat} (h : Ov N D x) (hN : N ≤ 10 ^ k) (hD : D ≤ 10 ^ k) : Hs k x :=
 ⟨Nat.le_trans h.num_le.1 hN, Nat.le_trans h.num_le.2 hD⟩
theorem Hs.ov {k : Nat} {x : Rat} (h : Hs k x) : Ov (10 ^ k) x.den x := (Ov.self x).mono h.1
theorem Hs.mul {k l : Nat} {x y : Rat} (h : Hs k x) (g : Hs l y) : Hs (k + l) (x * y) := by
 refine Hs.of_ov ((Ov.self x).mul (Ov.self y)) ?_ ?_
 ·rw [Nat.pow_add]; exact Nat.mul_le_mul h.1 g.1
 ·rw [Nat.pow_add]; exact Nat.mul_le_mul h.2 g.2
theorem Hs.add {k l : Nat} {x y : Rat} (h : Hs k x) (g : Hs l y) : Hs (k + l + 1) (x + y) := by
 refine Hs.of_ov ((Ov.self x).add (Ov.self y)) ?_ ?_
 ·have e1 := Nat.mul_le_mul h.1 g.2
  have e2 := Nat.mul_le_mul g.1 h.2
  rw [Nat.pow_succ, Nat.pow_add]
  rw [Nat.mul_comm (10 ^ l)] at e2
  omega
 ·have := Nat.mul_le_mul h.2 g.2
  rw [Nat.pow_succ, Nat.pow_add]
  omega
theorem Hs.neg {k : Nat} {x : Rat} (h : Hs k x) : Hs k (-x) := by
 refine ⟨?_, h.2⟩
 rw [Rat.neg_num, Int.natAbs_neg]; exact h.1
theorem Hs.sub {k l : Nat} {x y : Rat} (h : Hs k x) (g : Hs l y) : Hs (k + l + 1) (x - y) := by
 rw [Rat.sub_eq_add_neg]; exact h.add g.neg
theorem Hs.inv {k : Nat} {x : Rat} (h : Hs k x) : Hs k x⁻¹ := by
 by_cases h0 : x.num = 0
 ·obtain rfl : x = 0 := Rat.num_eq_zero.1 h0
  rw [Rat.inv_zero]; exact h
 ·have e : x⁻¹ = Rat.divInt x.den x.num := by
   rw [← Rat.inv_divInt, Rat.num_divInt_den]
  have := rat_divInt0 x.den x.num h0
  rw [← e] at this
  exact ⟨Nat.le_trans this.1 (by simpa using h.2), Nat.le_trans this.2 h.1⟩
theorem Hs.div {k l : Nat} {x y : Rat} (h : Hs k x) (g : Hs l y) : Hs (k + l) (x / y) := by
 rw [Rat.div_def]; exact h.mul g.inv
theorem Hs.divInt {k : Nat} (a b : Int) (hb : b ≠ 0) (h1 : a.natAbs ≤ 10 ^ k) (h2 : b.natAbs ≤ 10 ^ k) : Hs k (Rat.divInt a b) := by
 have := rat_divInt0 a b hb
 exact ⟨Nat.le_trans this.1 h1, Nat.le_trans this.2 h2⟩
end Go.Mono
namespace Go.Proofs.YtcgfdibagldafaaGreatDoor
open Go.RowKit Go.Mono
theorem make_ok (a b : Int) (h0 : b ≠ 0) (p q : Option Addr) (k c l d : Nat) (w wf : World) (hx : Ext wf w) (x : Sz 600 wf (.slice p k c) a.natAbs) (y : Sz 600 wf (.slice q l d) b.natAbs) :
  Calls Tryz.prog 108 #[.agg #[.bool (decide (a < 0)), .slice p k c], .agg #[.bool (decide (b < 0)), .slice q l d]] w fun e w' => ∃ r, e = .returned (.tuple #[r, .int .i64 0]) ∧ QV w' r (Rat.divInt a b) ∧ Below w.heap.size w w' := by
 replace x := x.ext hx
 replace y := y.ext hx
 clear hx
 obtain ⟨g1, g2, g3⟩ := rat_divInt a b h0
 have hi0 : ∀ w : World, (Instr.index 261 (.agg #[.bool (decide (a < 0)), .slice p k c, .bool (decide (b < 0)), .slice q l d]) (.int .i64 0)).run Tryz.prog w = .ok (.agg #[.bool (decide (a < 0)), .slice p k c]) w := fun _ => by kernel_rfl
 have hi1 : ∀ w : World, (Instr.index 261 (.agg #[.bool (decide (a < 0)), .slice p k c, .bool (decide (b < 0)), .slice q l d]) (.int .i64 1)).run Tryz.prog w = .ok (.agg #[.bool (decide (b < 0)), .slice q l d]) w := fun _ => by kernel_rfl
 have hl : ((l : Int) == 0) = false := by
  have := y.len_pos.1 (by omega)
  simp; omega
 have ha : decide (a < 0) = true → (0 : Int) < a.natAbs := by intro h; simp at h; omega
 have hb' : decide (b < 0) = true → (0 : Int) < b.natAbs := by intro h; simp at h; omega
 go_enter Tryz.func108, Tryz.ntmps108
 go_wp2_with fail
 refine boxes3 fun W hB hs b0 b1 b2 => ?_
 replace x := x.ext (.of_below hB)
 replace y := y.ext (.of_below hB)
 go_loopw [12] (fun a wr => ∃ i : Nat, i ≤ 2 ∧ a = .int .i64 (i : Int) ∧ Below W.heap.size W wr) (fun a _ => (2 - intOf a).toNat)
 case atStart => exact ⟨0, by omega, rfl, Below.refl _ _⟩
 case round =>
  obtain ⟨i, hi, rfl, hb⟩ := hrel
  rcases (by omega : i = 0 ∨ i = 1 ∨ i = 2) with rfl | rfl | rfl
  ·go_wp2_with (go_at_call 123; (with_reducible refine (lcheck_ok _ p k c _ _ W ((Ext.of_below hb).alloc _) x ha).mono ?_); rintro e W4 ⟨rfl, hb4⟩)
   go_roundw
   case rel => exact ⟨1, by omega, by simp, belowCall (belowAlloc hb _) hb4⟩
   case measure => simp [intOf]
  ·go_wp2_with (go_at_call 123; (with_reducible refine (lcheck_ok _ q l d _ _ W ((Ext.of_below hb).alloc _) y hb').mono ?_); rintro e W4 ⟨rfl, hb4⟩)
   go_roundw
   case rel => exact ⟨2, by omega, by simp, belowCall (belowAlloc hb _) hb4⟩
   case measure => simp [intOf]
  ·replace hB := belowCall hB hb
   replace x := x.ext (.of_below hb)
   replace y := y.ext (.of_below hb)
   replace b0 := b0.below hb
   try clear cb0 lb0 fb0
   have cb0 := b0.cell
   have lb0 := b0.lt
   have fb0 := b0.frozen
   replace b1 := b1.below hb
   try clear cb1 lb1 fb1
   have cb1 := b1.cell
   have lb1 := b1.lt
   have fb1 := b1.frozen
   replace b2 := b2.below hb
   try clear cb2 lb2 fb2
   have cb2 := b2.cell
   have lb2 := b2.lt
   have fb2 := b2.frozen
   clear hi0 hi1 hi ha hb'
   go_wp2_with fail
   refine (reduced_sz _ p q k c l d 600 _ _ wr wr (Ext.refl _) x y (by omega) (by omega)).mono ?_
   rintro e W1 ⟨p1, n1, c1, q1, l1, d1, rfl, z1, z2, hb1⟩
   rw [← g2] at z1
   rw [← g3] at z2
   replace hB := belowCall hB hb1
   replace b2 := b2.below hb1
   clear cb2 lb2 fb2
   have cb2 := b2.cell
   have lb2 := b2.lt
   have fb2 := b2.frozen
   go_wp2_with fail
   refine (told_ok 600 _ p1 q1 n1 c1 l1 d1 (Rat.divInt a b) _ W1 (Ext.refl _) g1 z1 z2 (by omega)).mono ?_
   rintro e W2 ⟨p7, k7, c7, q7, l7, d7, rfl, z7, y7, hb7⟩
   replace hB := belowCall hB hb7
   replace b2 := b2.below hb7
   clear cb2 lb2 fb2
   have cb2 := b2.cell
   have lb2 := b2.lt
   have fb2 := b2.frozen
   go_wp2
   have b3' := ((((b2.set 0 (.bool (decide ((Rat.divInt a b).num < 0)))).set 1 (.slice p7 k7 c7)).set 2 (.bool false)).set 3 (.slice q7 l7 d7)).cell
   have xE : Ext W2 _ := (((((Ext.refl W2).set b2 (by decide) 0 (.bool (decide ((Rat.divInt a b).num < 0)))).set (b2.set 0 (.bool (decide ((Rat.divInt a b).num < 0)))) (by decide) 1 (.slice p7 k7 c7))).set ((b2.set 0 (.bool (decide ((Rat.divInt a b).num < 0)))).set 1 (.slice p7 k7 c7)) (by decide) 2 (.bool false)).set (((b2.set 0 (.bool (decide ((Rat.divInt a b).num < 0)))).set 1 (.slice p7 k7 c7)).set 2 (.bool false)) (by decide) 3 (.slice q7 l7 d7)
   refine bodyPost_ret (v := .tuple #[.agg #[.bool (decide ((Rat.divInt a b).num < 0)), .slice p7 k7 c7, .bool false, .slice q7 l7 d7], .int .i64 0]) (by simp [results, Tryz.results108, go_sem, b3']) rfl ⟨_, rfl, ⟨_, _, _, _, _, _, rfl, z7.ext xE, y7.ext xE⟩, ?_⟩
   exact belowSet (belowSet (belowSet (belowSet hB (by omega) _ _) (by omega) _ _) (by omega) _ _) (by omega) _ _
end Go.Proofs.YtcgfdibagldafaaGreatDoor
namespace Go.Ex
open Go.Mono
section
structure Cf where
 n : Int
 d : Nat
def Cf.ev (c : Cf) : Rat := mkRat c.n (c.d + 1)
def Cf.low (n : Int) (d : Nat) : Cf := ⟨n / (Nat.gcd n.natAbs d : Nat), d / Nat.gcd n.natAbs d - 1⟩
theorem Cf.low_ev (n : Int) (d : Nat) (h : 0 < d) : (Cf.low n d).ev = mkRat n d := by
 have hg : 0 < Nat.gcd n.natAbs d := Nat.gcd_pos_of_pos_right _ h
 have h1 : ((Nat.gcd n.natAbs d : Nat) : Int) ∣ n := Int.ofNat_dvd_left.2 (Nat.gcd_dvd_left _ _)
 have h2 : Nat.gcd n.natAbs d ∣ d := Nat.gcd_dvd_right _ _
 unfold Cf.ev Cf.low
 generalize Nat.gcd n.natAbs d = g at *
 obtain ⟨a, rfl⟩ := h1
 obtain ⟨b, rfl⟩ := h2
 have hb : 0 < b := Nat.pos_of_mul_pos_left h
 dsimp only
 rw [Int.mul_ediv_cancel_left _ (by omega), Nat.mul_div_cancel_left _ hg, Nat.sub_add_cancel hb, Rat.mkRat_mul_left (by omega)]
def Cf.add (a b : Cf) : Cf := Cf.low (a.n * (b.d + 1 : Nat) + b.n * (a.d + 1 : Nat)) ((a.d + 1) * (b.d + 1))
def Cf.mul (a b : Cf) : Cf := Cf.low (a.n * b.n) ((a.d + 1) * (b.d + 1))
theorem Cf.add_ev (a b : Cf) : (a.add b).ev = a.ev + b.ev := by
 unfold Cf.add
 rw [Cf.low_ev _ _ (Nat.mul_pos (Nat.succ_pos _) (Nat.succ_pos _))]
 unfold Cf.ev
 rw [Rat.mkRat_add_mkRat _ _ (Nat.succ_ne_zero _) (Nat.succ_ne_zero _)]
theorem Cf.mul_ev (a b : Cf) : (a.mul b).ev = a.ev * b.ev := by
 unfold Cf.mul
 rw [Cf.low_ev _ _ (Nat.mul_pos (Nat.succ_pos _) (Nat.succ_pos _))]
 unfold Cf.ev
 rw [Rat.mkRat_mul_mkRat]
def rpow (x : Rat) : Nat → Rat
 | 0 => 1
 | n + 1 => rpow x n * x
theorem rpow_add (x : Rat) (a : Nat) : ∀ b, rpow x (a + b) = rpow x a * rpow x b
 | 0 => by simp [rpow, Rat.mul_one]
 | b + 1 => by
   show rpow x (a + b) * x = rpow x a * (rpow x b * x)
   rw [rpow_add x a b, Rat.mul_assoc]
abbrev Mon := List Nat
abbrev Pol := List (Cf × Mon)
section
variable (env : Nat → Rat)
def monEv : Nat → Mon → Rat
 | _, [] => 1
 | i, e :: r => rpow (env i) e * monEv (i + 1) r
def polEv : Pol → Rat
 | [] => 0
 | t :: r => t.1.ev * monEv env 0 t.2 + polEv r
end
def monMul : Mon → Mon → Mon
 | [], m => m
 | a :: r, [] => a :: r
 | a :: r, b :: s => (a + b) :: monMul r s
theorem monMul_ev (env : Nat → Rat) : ∀ (m k : Mon) (i : Nat), monEv env i (monMul m k) = monEv env i m * monEv env i k
 | [], k, i => by simp [monMul, monEv, Rat.one_mul]
 | a :: r, [], i => by simp [monMul, monEv, Rat.mul_one]
 | a :: r, b :: s, i => by
   unfold monMul monEv
   rw [rpow_add, monMul_ev env r s (i + 1)]
   grind
def mcmp : Mon → Mon → Nat
 | [], [] => 1
 | [], _ :: _ => 0
 | _ :: _, [] => 2
 | a :: r, b :: s => bif Nat.beq a b then mcmp r s else bif Nat.blt a b then 0 else 2
theorem mcmp_eq : ∀ {m k : Mon}, mcmp m k = 1 → m = k
 | [], [], _ => rfl
 | [], _ :: _, h => by cases h
 | _ :: _, [], h => by cases h
 | a :: r, b :: s, h => by
   unfold mcmp at h
   cases hb : Nat.beq a b with
   | true =>
     rw [hb] at h
     rw [Nat.eq_of_beq_eq_true hb, mcmp_eq (m := r) (k := s) h]
   | false =>
     rw [hb] at h
     dsimp only [cond_false] at h
     cases hl : Nat.blt a b <;> rw [hl] at h <;> cases h
def isZ0 (z : Int) : Bool :=
 match z with
 | .ofNat 0 => true
 | _ => false
theorem isZ0_ok {z : Int} (h : isZ0 z = true) : z = 0 := by
 unfold isZ0 at h
 split at h
 ·rfl
 ·cases h
def polIns (c : Cf) (m : Mon) : Pol → Pol
 | [] => [(c, m)]
 | (d, k) :: r => match mcmp m k with
   | 0 => (c, m) :: (d, k) :: r
   | 1 => bif isZ0 (c.add d).n then r else (c.add d, k) :: r
   | _ => (d, k) :: polIns c m r
theorem cf_zero {c : Cf} (h : c.n = 0) : c.ev = 0 := by
 unfold Cf.ev
 rw [h, Rat.zero_mkRat]
theorem polIns_ev (env : Nat → Rat) (c : Cf) (m : Mon) : ∀ p : Pol, polEv env (polIns c m p) = c.ev * monEv env 0 m + polEv env p
 | [] => by simp [polIns, polEv]
 | (d, k) :: r => by
   unfold polIns
   split
   ·simp only [polEv]
   ·rename_i h
    have := mcmp_eq h
    subst this
    have he := Cf.add_ev c d
    cases hz : isZ0 (c.add d).n with
    | true =>
      have h0 := cf_zero (isZ0_ok hz)
      rw [he] at h0
      simp only [cond_true, polEv]
      grind
    | false =>
      simp only [cond_false, polEv, he]
      grind
   ·simp only [polEv]
    rw [polIns_ev env c m r]
    grind
def polAdd : Pol → Pol → Pol
 | [], q => q
 | (c, m) :: r, q => polIns c m (polAdd r q)
theorem polAdd_ev (env : Nat → Rat) : ∀ p q : Pol, polEv env (polAdd p q) = polEv env p + polEv env q
 | [], q => by simp [polAdd, polEv, Rat.zero_add]
 | (c, m) :: r, q => by
   unfold polAdd
   rw [polIns_ev, polAdd_ev env r q]
   simp only [polEv]
   grind
def polScale (c : Cf) (m : Mon) : Pol → Pol
 | [] => []
 | (d, k) :: r => (c.mul d, monMul m k) :: polScale c m r
theorem polScale_ev (env : Nat → Rat) (c : Cf) (m : Mon) : ∀ p : Pol, polEv env (polScale c m p) = c.ev * monEv env 0 m * polEv env p
 | [] => by simp [polScale, polEv, Rat.mul_zero]
 | (d, k) :: r => by
   simp only [polScale, polEv]
   rw [polScale_ev env c m r, Cf.mul_ev, monMul_ev]
   grind
def polMul : Pol → Pol → Pol
 | [], _ => []
 | (c, m) :: r, q => polAdd (polScale c m q) (polMul r q)
theorem polMul_ev (env : Nat → Rat) : ∀ p q : Pol, polEv env (polMul p q) = polEv env p * polEv env q
 | [], q => by simp [polMul, polEv, Rat.zero_mul]
 | (c, m) :: r, q => by
   unfold polMul
   rw [polAdd_ev, polScale_ev, polMul_ev env r q]
   simp only [polEv]
   grind
def polC (n : Int) (d : Nat) : Pol := bif isZ0 n then [] else [(Cf.low n (d + 1), [])]
theorem polC_ev (env : Nat → Rat) (n : Int) (d : Nat) : polEv env (polC n d) = mkRat n (d + 1) := by
 unfold polC
 cases hz : isZ0 n with
 | true =>
   rw [isZ0_ok hz, Rat.zero_mkRat]
   rfl
 | false =>
   simp only [cond_false, polEv, monEv]
   rw [Cf.low_ev _ _ (Nat.succ_pos d), Rat.mul_one, Rat.add_zero]
def polNeg (p : Pol) : Pol := polScale ⟨-1, 0⟩ [] p
theorem polNeg_ev (env : Nat → Rat) (p : Pol) : polEv env (polNeg p) = - polEv env p := by
 unfold polNeg
 rw [polScale_ev]
 have : (Cf.ev ⟨-1, 0⟩) = -1 := by decide +kernel
 rw [this]
 simp only [monEv]
 grind
def polSub (p q : Pol) : Pol := polAdd p (polNeg q)
theorem polSub_ev (env : Nat → Rat) (p q : Pol) : polEv env (polSub p q) = polEv env p - polEv env q := by
 unfold polSub
 rw [polAdd_ev, polNeg_ev]
 grind
def polVar (i : Nat) : Pol := [(⟨1, 0⟩, List.replicate i 0 ++ [1])]
theorem monVar_ev (env : Nat → Rat) : ∀ (i j : Nat), monEv env j (List.replicate i 0 ++ [1]) = env (j + i)
 | 0, j => by simp [monEv, rpow, Rat.mul_one, Rat.one_mul]
 | i + 1, j => by
   rw [List.replicate_succ, List.cons_append]
   unfold monEv
   rw [monVar_ev env i (j + 1), show j + 1 + i = j + (i + 1) by omega]
   simp [rpow, Rat.one_mul]
theorem polVar_ev (env : Nat → Rat) (i : Nat) : polEv env (polVar i) = env i := by
 unfold polVar polEv
 dsimp only
 rw [monVar_ev, Nat.zero_add]
 have : (Cf.ev ⟨1, 0⟩) = 1 := by decide +kernel
 rw [this, Rat.one_mul]
 exact Rat.add_zero _
def polK : Pol → Option Cf
 | [] => some ⟨0, 0⟩
 | [(c, [])] => some c
 | _ => none
theorem polK_ev (env : Nat → Rat) {p : Pol} {c : Cf} (h : polK p = some c) : polEv env p = c.ev := by
 unfold polK at h
 split at h
 ·cases h
  rw [cf_zero rfl]
  rfl
 ·cases h
  simp [polEv, monEv, Rat.mul_one, Rat.add_zero]
 ·cases h
def szM : List Nat → Mon → Option Nat
 | _, [] => some 0
 | [], _ :: _ => none
 | k :: ks, e :: r => (szM ks r).map (e * k + ·)
def szP (ks : List Nat) : Pol → Option Nat
 | [] => some 0
 | t :: r => bif Nat.ble t.1.n.natAbs (Nat.pow 10 60) && Nat.ble (t.1.d + 1) (Nat.pow 10 60) then (match szM ks t.2, szP ks r with
   | some a, some b => some (60 + a + b + 1)
   | _, _ => none) else none
def LetS (env : Nat → Rat) (ks : List Nat) : Prop := ∀ i k, ks[i]? = some k → Hs k (env i)
theorem ten_pow (k : Nat) : 1 ≤ 10 ^ k := by
 have := Nat.pow_le_pow_right (n := 10) (by decide) (Nat.zero_le k)
 simpa using this
theorem hs_zero (k : Nat) : Hs k 0 := ⟨by simp, ten_pow k⟩
theorem hs_one (k : Nat) : Hs k 1 := ⟨ten_pow k, ten_pow k⟩
theorem rpow_hs {x : Rat} {k : Nat} (h : Hs k x) : ∀ e, Hs (e * k) (rpow x e)
 | 0 => hs_one _
 | e + 1 => by
   rw [Nat.succ_mul]
   exact (rpow_hs h e).mul h
theorem szM_ok (env : Nat → Rat) : ∀ (ks : List Nat) (m : Mon) (j n : Nat), (∀ i k, ks[i]? = some k → Hs k (env (j + i))) → szM ks m = some n → Hs n (monEv env j m)
 | ks, [], j, n, h, e => by
   unfold szM at e
   cases e
   exact hs_one _
 | [], _ :: _, j, n, h, e => by cases e
 | k :: ks, x :: r, j, n, h, e => by
   unfold szM at e
   obtain ⟨a, ha, rfl⟩ := Option.map_eq_some_iff.1 e
   refine (rpow_hs (h 0 k rfl) x).mul (szM_ok env ks r (j + 1) a (fun i k' hi => ?_) ha)
   rw [show j + 1 + i = j + (i + 1) by omega]
   exact h (i + 1) k' (by simpa using hi)
theorem szP_ok {env : Nat → Rat} {ks : List Nat} (h : LetS env ks) : ∀ (p : Pol) (n : Nat), szP ks p = some n → Hs n (polEv env p)
 | [], n, e => by cases e; exact hs_zero _
 | t :: r, n, e => by
   unfold szP at e
   cases hc : (Nat.ble t.1.n.natAbs (Nat.pow 10 60) && Nat.ble (t.1.d + 1) (Nat.pow 10 60)) with
   | false => rw [hc] at e; cases e
   | true =>
     rw [hc] at e
     dsimp only [cond_true] at e
     rw [Bool.and_eq_true] at hc
     split at e
     ·rename_i a b ha hb
      cases e
      have h1 : Hs 60 t.1.ev := by
       unfold Cf.ev
       rw [← Rat.divInt_ofNat]
       exact Hs.divInt _ _ (by omega) (Nat.le_of_ble_eq_true hc.1) (by have := Nat.le_of_ble_eq_true hc.2; exact this)
      exact (h1.mul (szM_ok env ks t.2 0 a (fun i k hi => by rw [Nat.zero_add]; exact h i k hi) ha)).add (szP_ok h r b hb)
     ·cases e
def szB (ks : List Nat) (p : Pol) : Bool :=
 match szP ks p with
 | some n => Nat.ble n 5399
 | none => false
end
end Go.Ex
