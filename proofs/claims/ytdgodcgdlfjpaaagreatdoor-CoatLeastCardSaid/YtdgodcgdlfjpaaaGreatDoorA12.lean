/- Contracts of package coat and of the examples of its law, for the laws of layer 40. Part 12 of 39. No condition beside the row. -/
import Derived.Shelf.Abstract
import Derived.Test.YtdgodcgdlfjpaaaGreatDoorA02
import Derived.Test.YtdgodcgdlfjpaaaGreatDoorA11
set_option linter.unusedVariables false
set_option linter.unusedSimpArgs false
namespace Go.Proofs.YtdgodcgdlfjpaaaGreatDoor
open Go.RowKit Go.Mono
set_option maxRecDepth 100000 in
set_option maxHeartbeats 1000000 in
theorem eqint_sl (p q : Option Addr) (n m c1 c2 : Nat) (f g : Nat → Int) (w : World) (h1 : SlF w (.slice p n c1) n f) (h2 : SlF w (.slice q m c2) m g) :
    Calls Tryz.prog 155 #[.slice p n c1, .slice q m c2] w fun e w' => ∃ r : Bool, e = .returned (.bool r) ∧ (r = true ↔ n = m ∧ ∀ i, i < n → f i = g i) ∧ ∃ k, w' = w.drewN k := by
  obtain ⟨hc1, hn1, hx1⟩ := h1.opens
  obtain ⟨hc2, hn2, hx2⟩ := h2.opens
  clear h1 h2
  by_cases hnm : n = m
  · subst hnm
    go_enter Tryz.func155, Tryz.ntmps155
    go_wp2
    go_loopw [13] (fun a wr => ∃ k : Nat, k ≤ n ∧ a = .int .i64 (k : Int) ∧ (∀ i, i < k → f i = g i) ∧ ∃ j, wr = w.drewN j) (fun a _ => (n - intOf a).toNat)
    case atStart => exact ⟨0, Nat.zero_le _, rfl, fun i hi => by omega, 0, rfl⟩
    case round =>
      obtain ⟨k, hk, rfl, ht, j, rfl⟩ := hrel
      have HT := Lib.hid ht; clear ht
      by_cases h0 : k < n
      · obtain ⟨b, off, rfl, hb, hcell⟩ := hx1 (by omega)
        obtain ⟨b2, off2, rfl, hb2, hcell2⟩ := hx2 (by omega)
        have a1 := hcell k (by omega)
        have a2 := hcell2 k (by omega)
        clear hcell hcell2 hx1 hx2
        have h0' : (k : Int) < n := by omega
        by_cases hfg : f k = g k
        · have hq : (f k != g k) = false := by simpa using hfg
          have HF := Lib.hid hfg; clear hfg
          go_wp2
          go_quiet (fail)
          go_wp2
          go_roundw
          case rel =>
            refine ⟨k + 1, by omega, by simp, fun i hi => ?_, _, rfl⟩
            by_cases h : i < k
            · exact HT.out i h
            · obtain rfl : i = k := by omega
              exact HF.out
          case measure => simp [intOf]; omega
        · have hq : (f k != g k) = true := by simpa using hfg
          have HF := Lib.hid hfg; clear hfg
          go_wp2
          go_quiet (fail)
          go_wp2
          go_ret
          exact ⟨false, rfl, ⟨by simp, fun h => absurd (h.2 k h0) HF.out⟩, _, by rw [World.drewN_drewN]⟩
      · obtain rfl : k = n := by omega
        go_wp2
        go_ret
        refine ⟨true, rfl, ?_, _, rfl⟩
        simp only [true_and]
        first | exact HT.out | exact ⟨trivial, HT.out⟩ | (simp; exact HT.out)
  · have hq : ((n : Int) != m) = true := by simp; omega
    have HN := Lib.hid hnm; clear hnm
    go_enter Tryz.func155, Tryz.ntmps155
    go_wp2
    go_ret
    exact ⟨false, rfl, ⟨by simp, fun h => absurd h.1 HN.out⟩, 0, rfl⟩
theorem eqint_sz (m1 m2 : Nat) (p q : Option Addr) (n m c1 c2 : Nat) (N M : Int) (w wf : World) (hx : Ext wf w) (h1 : Sz m1 wf (.slice p n c1) N) (h2 : Sz m2 wf (.slice q m c2) M) :
    Calls Tryz.prog 155 #[.slice p n c1, .slice q m c2] w fun e w' => e = .returned (.bool (decide (N = M))) ∧ Below w.heap.size w w' := by
  obtain ⟨n', f, s1, d1, rfl, _, rfl⟩ := (h1.ext hx).sl
  obtain ⟨m', g, s2, d2, rfl, _, rfl⟩ := (h2.ext hx).sl
  refine (eqint_sl p q _ _ c1 c2 f g w s1 s2).mono ?_
  rintro e w' ⟨r, rfl, hr, k, rfl⟩
  refine ⟨?_, below_drewN (Below.refl _ _) k⟩
  have : r = decide (vf f n' = vf g m') := by
    rw [Bool.eq_iff_iff, hr, decide_eq_true_iff]
    constructor
    · rintro ⟨rfl, h⟩; exact vf_congr h
    · intro h; exact d1.unique d2 h
  rw [this]
end Go.Proofs.YtdgodcgdlfjpaaaGreatDoor
namespace Go.Proofs.YtdgodcgdlfjpaaaGreatDoor
open Go.RowKit Go.Mono
set_option maxRecDepth 100000 in
set_option maxHeartbeats 1000000 in
theorem lsame_ok (s t : Bool) (m1 m2 : Nat) (p q : Option Addr) (n m c1 c2 : Nat) (N M : Int) (w wf : World) (hx : Ext wf w) (h1 : Sz m1 wf (.slice p n c1) N) (h2 : Sz m2 wf (.slice q m c2) M) :
    Calls Tryz.prog 78 #[.agg #[.bool s, .slice p n c1], .agg #[.bool t, .slice q m c2]] w fun e w' => e = .returned (.bool (decide (s = t ∧ N = M))) ∧ Below w.heap.size w w' := by
  replace h1 := h1.ext hx
  replace h2 := h2.ext hx
  clear hx
  by_cases hst : s = t
  · subst hst
    have e1 : decide (s = s ∧ N = M) = decide (N = M) := by simp
    rw [e1]
    clear e1
    go_enter Tryz.func78, Tryz.ntmps78
    go_wp2_with fail
    refine boxes2c fun W hB hs b0 b1 => ?_
    refine (eqint_sz m1 m2 p q n m c1 c2 N M W w (.of_below hB) h1 h2).mono ?_
    rintro e W1 ⟨rfl, hb1⟩
    go_wp2
    go_ret
    exact ⟨rfl, belowCall hB hb1⟩
  · have e1 : decide (s = t ∧ N = M) = false := by simp [hst]
    rw [e1]
    clear e1
    have hss : (s == t) = false := by simpa using hst
    clear hst
    go_enter Tryz.func78, Tryz.ntmps78
    go_wp2_with fail
    go_ret
    exact ⟨rfl, belowAlloc (belowAlloc (Below.refl _ _) _) _⟩
set_option maxRecDepth 100000 in
set_option maxHeartbeats 1000000 in
theorem qsame_parts (s s' t t' : Bool) (m1 : Nat) (p q p' q' : Option Addr) (n m c1 c2 n' m' c1' c2' : Nat) (N M N' M' : Int) (w wf : World) (hx : Ext wf w) (h1 : Sz m1 wf (.slice p n c1) N) (h2 : Sz m1 wf (.slice q m c2) M) (h3 : Sz m1 wf (.slice p' n' c1') N') (h4 : Sz m1 wf (.slice q' m' c2') M') :
    Calls Tryz.prog 21 #[.agg #[.bool s, .slice p n c1, .bool t, .slice q m c2], .agg #[.bool s', .slice p' n' c1', .bool t', .slice q' m' c2']] w fun e w' => e = .returned (.bool (decide ((s = s' ∧ N = N') ∧ (t = t' ∧ M = M')))) ∧ Below w.heap.size w w' := by
  replace h1 := h1.ext hx
  replace h2 := h2.ext hx
  replace h3 := h3.ext hx
  replace h4 := h4.ext hx
  clear hx
  by_cases hst : s = s' ∧ N = N'
  · have e1 : decide ((s = s' ∧ N = N') ∧ (t = t' ∧ M = M')) = decide (t = t' ∧ M = M') := by simp [hst]
    rw [e1]
    clear e1
    have e2 : decide (s = s' ∧ N = N') = true := by simp [hst]
    replace e2 := Lib.hid e2
    clear hst
    go_enter Tryz.func21, Tryz.ntmps21
    go_wp2_with fail
    refine boxes2c fun W hB hs b0 b1 => ?_
    refine (lsame_ok s s' m1 m1 p p' n n' c1 c1' N N' _ w (.of_below hB) h1 h3).mono ?_
    rintro e W1 ⟨rfl, hb1⟩
    rw [e2.out]
    replace hB := belowCall hB hb1
    replace b0 := b0.below hb1
    replace b1 := b1.below hb1
    have cb0 := b0.cell
    have lb0 := b0.lt
    have fb0 := b0.frozen
    have cb1 := b1.cell
    have lb1 := b1.lt
    have fb1 := b1.frozen
    go_wp2_with fail
    refine (lsame_ok t t' m1 m1 q q' m m' c2 c2' M M' _ w (.of_below hB) h2 h4).mono ?_
    rintro e W2 ⟨rfl, hb2⟩
    go_wp2
    go_ret
    exact ⟨by simp, belowCall hB hb2⟩
  · have e1 : decide ((s = s' ∧ N = N') ∧ (t = t' ∧ M = M')) = false := by simp; intro a b; exact absurd ⟨a, b⟩ hst
    rw [e1]
    clear e1
    have e2 : decide (s = s' ∧ N = N') = false := by simpa using hst
    replace e2 := Lib.hid e2
    clear hst
    go_enter Tryz.func21, Tryz.ntmps21
    go_wp2_with fail
    refine boxes2c fun W hB hs b0 b1 => ?_
    refine (lsame_ok s s' m1 m1 p p' n n' c1 c1' N N' _ w (.of_below hB) h1 h3).mono ?_
    rintro e W1 ⟨rfl, hb1⟩
    rw [e2.out]
    go_wp2
    go_ret
    exact ⟨rfl, belowCall hB hb1⟩
theorem qsame_ok (u v : Value) (a b : Rat) (w wf : World) (hx : Ext wf w) (h1 : QV wf u a) (h2 : QV wf v b) :
    Calls Tryz.prog 21 #[u, v] w fun e w' => e = .returned (.bool (decide (a = b))) ∧ Below w.heap.size w w' := by
  obtain ⟨p, k, c, p', k', c', rfl, x1, x2⟩ := h1
  obtain ⟨q, l, d, q', l', d', rfl, y1, y2⟩ := h2
  have : decide ((decide (a.num < 0) = decide (b.num < 0) ∧ (a.num.natAbs : Int) = b.num.natAbs) ∧ (false = false ∧ (a.den : Int) = b.den)) = decide (a = b) := by
    rw [decide_eq_decide]
    constructor
    · rintro ⟨⟨h1, h2⟩, _, h3⟩
      rw [decide_eq_decide] at h1
      exact Rat.ext (by omega) (by omega)
    · rintro rfl; simp
  rw [← this]
  exact qsame_parts _ _ _ _ 600 p p' q q' k k' c c' l l' d d' _ _ _ _ w wf hx x1 x2 y1 y2
end Go.Proofs.YtdgodcgdlfjpaaaGreatDoor
namespace Go.Proofs.YtdgodcgdlfjpaaaGreatDoor
open Go.RowKit Go.Mono
set_option maxRecDepth 100000 in
set_option maxHeartbeats 1000000 in
theorem lof_ok (z : Int) (w : World) (h1 : -9223372036854775808 ≤ z) (h2 : z ≤ 9223372036854775807) :
    Calls Tryz.prog 163 #[.int .i64 z] w fun e w' => ∃ p k c, e = .returned (.agg #[.bool (decide (z < 0)), .slice p k c]) ∧ Sz 600 w' (.slice p k c) z.natAbs ∧ Below w.heap.size w w' := by
  go_enter Tryz.func163, Tryz.ntmps163
  go_wp2_with fail
  refine boxes2 fun W hB hs b0 b1 => ?_
  go_loopw [0] (fun a wr => ∃ (k : Nat) (f : Nat → Int) (r : Int) (v : Value), a = .int .i64 r ∧ OwnF wr (w.heap.size + 1 + 1) v k f ∧ Box wr (w.heap.size + 1) 35 #[.bool (decide (z < 0)), v] ∧ Box wr w.heap.size 35 #[.bool false, .slice none 0 0] ∧ OfInv z r k f ∧ Below w.heap.size w wr ∧ w.heap.size + 1 + 1 ≤ wr.heap.size) (fun a _ => (intOf a).natAbs)
  case atStart => exact ⟨0, _, z, _, rfl, OwnF.nil _ _ _, b1, b0, OfInv.start z, hB, hs⟩
  case round =>
    clear b0 b1 hB hs
    obtain ⟨k, f, r, v, rfl, ho, b1, b0, hI, hB, hs⟩ := hrel
    have hr := hI.bound h1 h2
    obtain ⟨p, c, rfl⟩ := ho.shape
    by_cases h0 : r = 0
    · subst h0
      have cb0 := b0.cell
      have lb0 := b0.lt
      have fb0 := b0.frozen
      have cb1 := b1.cell
      have lb1 := b1.lt
      have fb1 := b1.frozen
      go_wp2
      have b3' := ((b0.set 0 (.bool (decide (z < 0)))).set 1 (.slice p k c)).cell
      have hk3 : k ≤ 600 := by
        have hv := hI.val
        have hd : Digs f k := ⟨hI.lo, hI.hi, hI.top rfl⟩
        by_cases h : k ≤ 3
        · omega
        · have := hd.ge (by omega)
          have h3 := pw_mono (i := 3) (k := k - 1) (by omega)
          have e3 : pw 3 = 1000000000000000000000000000 := by decide
          simp at hv
          omega
      have hd : Digs f k := ⟨hI.lo, hI.hi, hI.top rfl⟩
      refine bodyPost_ret (v := .agg #[.bool (decide (z < 0)), .slice p k c]) (by simp [results, Tryz.results163, go_sem, b3']) rfl ⟨_, _, _, rfl, ⟨k, f, ?_, hd, ?_, hk3⟩, ?_⟩
      · exact ((ho.set _ _ (by show w.heap.size < _; omega)).set _ _ (by show w.heap.size < _; omega)).sl (by omega)
      · have := hI.val; simpa using this
      · exact belowSet (belowSet hB (by omega) _ _) (by omega) _ _
    · have hk := hI.small h1 h2 h0
      have hst := hI.step h0
      have h0' : (r != 0) = true := by simpa using h0
      have hmm : (r.tmod 1000000000).natAbs < 1000000000 := by rw [Int.natAbs_tmod]; exact Nat.mod_lt _ (by decide)
      have hm1 : -1000000000 < r.tmod 1000000000 := by omega
      have hm2 : r.tmod 1000000000 < 1000000000 := by omega
      have hdd : (r.tdiv 1000000000).natAbs = r.natAbs / 1000000000 := by rw [Int.natAbs_tdiv]; rfl
      have hw : wrap64 (r.tdiv 1000000000) = r.tdiv 1000000000 := by unfold wrap64; omega
      have cb0 := b0.cell
      have lb0 := b0.lt
      have fb0 := b0.frozen
      have cb1 := b1.cell
      have lb1 := b1.lt
      have fb1 := b1.frozen
      replace h0 := Lib.hid h0
      go_wp2_with (at_builtin; (refine wpList_append_ints _ rfl _ _ 33 rfl Tryz.underlying33 infoInt (w.heap.size + 1 + 1) (.slice p k c) k f rfl ?_ (some ⟨wr.heap.size, 0, none⟩) 1 1 (fun _ => ((r.tmod 1000000000).natAbs : Int)) rfl ?_ ?_ ?_ ?_); (exact (ho.below ((Below.refl _ _).alloc (Nat.le_refl _) _))); (exact (slF_lit wr _ _ (by first | omega | (split <;> omega)))); omega; (simp; omega); (intro v' w1 ho' hg); (obtain ⟨p', c', rfl⟩ := ho'.shape); (have hz := ((Below.refl (w.heap.size + 1 + 1) wr).alloc hs _).grown hg (by simp; omega) (fun k hk => ho.low k hk)); (replace b0 := b0.low hz (by omega)); (replace b1 := b1.low hz (by omega)); (clear cb0 lb0 fb0 cb1 lb1 fb1); (have cb0 := b0.cell); (have cb1 := b1.cell); (have fb1 := b1.frozen); (have lb1 := b1.lt))
      all_goals
        go_roundw
        case rel =>
          refine ⟨k + 1, _, r.tdiv 1000000000, .slice p' (k + 1) c', by simp, ho'.set ⟨w.heap.size + 1, 1, none⟩ _ (by show w.heap.size + 1 < _; omega), b1.set 1 _, b0.other _ _ (by show w.heap.size ≠ w.heap.size + 1; omega), hst, ?_, ?_⟩
          · exact belowSet (hB.trans (hz.mono (by omega))) (by omega) _ _
          · have := hz.size
            simp only [World.size_setCell]
            omega
        case measure =>
          have := h0.out
          first
            | (show (r.tdiv 1000000000).natAbs < r.natAbs; rw [hdd]; exact Nat.div_lt_self (by omega) (by decide))
            | fail "measure"
end Go.Proofs.YtdgodcgdlfjpaaaGreatDoor
namespace Go.Mono
open Go.RowKit
theorem rat_divInt (a b : Int) (hb : b ≠ 0) :
    Sg (decide (a < 0) != decide (b < 0)) (Rat.divInt a b).num ∧ ((Rat.divInt a b).num.natAbs : Int) = (a.natAbs : Int) / gcdZ a.natAbs b.natAbs ∧ ((Rat.divInt a b).den : Int) = (b.natAbs : Int) / gcdZ a.natAbs b.natAbs := by
  have hg : gcdZ a.natAbs b.natAbs = ((b.gcd a : Nat) : Int) := by
    simp only [gcdZ, Int.toNat_natCast, Int.gcd]
    rw [Nat.gcd_comm]
  have hg0 : 0 < b.gcd a := Int.gcd_pos_of_ne_zero_left _ hb
  have hs : (b.sign * a).natAbs = a.natAbs := by
    rw [Int.natAbs_mul, Int.natAbs_sign_of_ne_zero hb, Nat.one_mul]
  refine ⟨?_, ?_, ?_⟩
  · rw [Rat.num_divInt]
    refine Sg.div ?_ (by omega)
    rcases Int.lt_or_gt_of_ne hb with h | h
    · rw [Int.sign_eq_neg_one_of_neg h]
      constructor <;> intro hh <;> simp [h] at hh <;> omega
    · rw [Int.sign_eq_one_of_pos h]
      constructor <;> intro hh <;> simp [show ¬ b < 0 by omega] at hh <;> omega
  · rw [Rat.num_divInt, hg]
    have hd : b.gcd a ∣ (b.sign * a).natAbs := by
      rw [hs]
      exact Nat.gcd_dvd_right _ _
    rw [natAbs_div hd, hs]
  · rw [Rat.den_divInt, if_neg hb, hg]
    simp
theorem Sz.div_lt {m : Nat} {w : World} {v : Value} {N M : Int} (h : Sz m w v (N / M)) : N / M < pw m := h.lt
end Go.Mono
namespace Go.Mono
theorem rat_divInt0 (a b : Int) (hb : b ≠ 0) : (Rat.divInt a b).num.natAbs ≤ a.natAbs ∧ (Rat.divInt a b).den ≤ b.natAbs := by
  constructor
  · rw [Rat.num_divInt]
    have h1 : (b.sign * a / (b.gcd a : Int)).natAbs ≤ (b.sign * a).natAbs := Int.natAbs_ediv_le_natAbs _ _
    have h2 : (b.sign * a).natAbs = a.natAbs := by rw [Int.natAbs_mul, Int.natAbs_sign_of_ne_zero hb, Nat.one_mul]
    omega
  · rw [Rat.den_divInt, if_neg hb]
    exact Nat.div_le_self _ _
/-- x is an integer of at most N over D -/
def Ov (N D : Nat) (x : Rat) : Prop := 0 < D ∧ ∃ z : Int, x = Rat.divInt z D ∧ z.natAbs ≤ N
theorem Ov.mul {N D N' D' : Nat} {x y : Rat} (h : Ov N D x) (g : Ov N' D' y) : Ov (N * N') (D * D') (x * y) := by
  obtain ⟨h0, z, rfl, hz⟩ := h
  obtain ⟨g0, z', rfl, gz⟩ := g
  refine ⟨Nat.mul_pos h0 g0, z * z', ?_, ?_⟩
  · rw [Rat.divInt_mul_divInt, Int.natCast_mul]
  · rw [Int.natAbs_mul]
    exact Nat.mul_le_mul hz gz
theorem Ov.add {N D N' D' : Nat} {x y : Rat} (h : Ov N D x) (g : Ov N' D' y) : Ov (N * D' + N' * D) (D * D') (x + y) := by
  obtain ⟨h0, z, rfl, hz⟩ := h
  obtain ⟨g0, z', rfl, gz⟩ := g
  refine ⟨Nat.mul_pos h0 g0, z * D' + z' * D, ?_, ?_⟩
  · rw [Rat.divInt_add_divInt _ _ (by omega) (by omega), Int.natCast_mul]
  · refine Nat.le_trans (Int.natAbs_add_le _ _) ?_
    rw [Int.natAbs_mul, Int.natAbs_mul, Int.natAbs_natCast, Int.natAbs_natCast]
    exact Nat.add_le_add (Nat.mul_le_mul_right _ hz) (Nat.mul_le_mul_right _ gz)
theorem Ov.neg {N D : Nat} {x : Rat} (h : Ov N D x) : Ov N D (-x) := by
  obtain ⟨h0, z, rfl, hz⟩ := h
  exact ⟨h0, -z, Rat.neg_divInt _ _, by simpa using hz⟩
theorem Ov.sub {N D N' D' : Nat} {x y : Rat} (h : Ov N D x) (g : Ov N' D' y) : Ov (N * D' + N' * D) (D * D') (x - y) := by
  rw [Rat.sub_eq_add_neg]; exact h.add g.neg
theorem divInt_plus (a b : Int) (D : Nat) (h : 0 < D) : Rat.divInt a D + Rat.divInt b D = Rat.divInt (a + b) D := by
  rw [Rat.divInt_add_divInt _ _ (by omega) (by omega), ← Int.add_mul, Rat.divInt_mul_right (by omega)]
theorem Ov.add_same {N D N' : Nat} {x y : Rat} (h : Ov N D x) (g : Ov N' D y) : Ov (N + N') D (x + y) := by
  obtain ⟨h0, z, rfl, hz⟩ := h
  obtain ⟨g0, z', rfl, gz⟩ := g
  refine ⟨h0, z + z', divInt_plus _ _ _ h0, ?_⟩
  have := Int.natAbs_add_le z z'
  omega
theorem Ov.sub_same {N D N' : Nat} {x y : Rat} (h : Ov N D x) (g : Ov N' D y) : Ov (N + N') D (x - y) := by
  rw [Rat.sub_eq_add_neg]; exact h.add_same g.neg
theorem Ov.mono {N M D : Nat} {x : Rat} (h : Ov N D x) (hN : N ≤ M) : Ov M D x := by
  obtain ⟨h0, z, rfl, hz⟩ := h
  exact ⟨h0, z, rfl, Nat.le_trans hz hN⟩
theorem Ov.scale {N D : Nat} {x : Rat} (h : Ov N D x) (k : Nat) (hk : 0 < k) : Ov (N * k) (D * k) x := by
  obtain ⟨h0, z, rfl, hz⟩ := h
  refine ⟨Nat.mul_pos h0 hk, z * k, ?_, ?_⟩
  · rw [Int.natCast_mul, Rat.divInt_mul_right (by omega)]
  · rw [Int.natAbs_mul, Int.natAbs_natCast]
    exact Nat.mul_le_mul_right _ hz
theorem Ov.of (z : Int) (d : Nat) (hd : 0 < d) (N : Nat) (h : z.natAbs ≤ N) : Ov N d (Rat.divInt z d) := ⟨hd, z, rfl, h⟩
theorem Ov.self (x : Rat) : Ov x.num.natAbs x.den x := ⟨x.den_pos, x.num, (Rat.num_divInt_den x).symm, Nat.le_refl _⟩
theorem Ov.num_le {N D : Nat} {x : Rat} (h : Ov N D x) : x.num.natAbs ≤ N ∧ x.den ≤ D := by
  obtain ⟨h0, z, rfl, hz⟩ := h
  have := rat_divInt0 z D (by omega)
  exact ⟨Nat.le_trans this.1 hz, by simpa using this.2⟩
/-- numerator and denominator have at most k decimal digits, and a bit -/
def Hs (k : Nat) (x : Rat) : Prop := x.num.natAbs ≤ 10 ^ k ∧ x.den ≤ 10 ^ k
theorem Hs.mono {k l : Nat} {x : Rat} (h : Hs k x) (hl : k ≤ l) : Hs l x := by
  have := Nat.pow_le_pow_right (n := 10) (by omega) hl
  exact ⟨Nat.le_trans h.1 this, Nat.le_trans h.2 this⟩
theorem Hs.of_ov {N D k : Nat} {x : Rat} (h : Ov N D x) (hN : N ≤ 10 ^ k) (hD : D ≤ 10 ^ k) : Hs k x :=
  ⟨Nat.le_trans h.num_le.1 hN, Nat.le_trans h.num_le.2 hD⟩
theorem Hs.ov {k : Nat} {x : Rat} (h : Hs k x) : Ov (10 ^ k) x.den x := (Ov.self x).mono h.1
theorem Hs.mul {k l : Nat} {x y : Rat} (h : Hs k x) (g : Hs l y) : Hs (k + l) (x * y) := by
  refine Hs.of_ov ((Ov.self x).mul (Ov.self y)) ?_ ?_
  · rw [Nat.pow_add]; exact Nat.mul_le_mul h.1 g.1
  · rw [Nat.pow_add]; exact Nat.mul_le_mul h.2 g.2
theorem Hs.add {k l : Nat} {x y : Rat} (h : Hs k x) (g : Hs l y) : Hs (k + l + 1) (x + y) := by
  refine Hs.of_ov ((Ov.self x).add (Ov.self y)) ?_ ?_
  · have e1 := Nat.mul_le_mul h.1 g.2
    have e2 := Nat.mul_le_mul g.1 h.2
    rw [Nat.pow_succ, Nat.pow_add]
    rw [Nat.mul_comm (10 ^ l)] at e2
    omega
  · have := Nat.mul_le_mul h.2 g.2
    rw [Nat.pow_succ, Nat.pow_add]
    omega
theorem Hs.neg {k : Nat} {x : Rat} (h : Hs k x) : Hs k (-x) := by
  refine ⟨?_, h.2⟩
  rw [Rat.neg_num, Int.natAbs_neg]; exact h.1
theorem Hs.sub {k l : Nat} {x y : Rat} (h : Hs k x) (g : Hs l y) : Hs (k + l + 1) (x - y) := by
  rw [Rat.sub_eq_add_neg]; exact h.add g.neg
theorem Hs.inv {k : Nat} {x : Rat} (h : Hs k x) : Hs k x⁻¹ := by
  by_cases h0 : x.num = 0
  · obtain rfl : x = 0 := Rat.num_eq_zero.1 h0
    rw [Rat.inv_zero]; exact h
  · have e : x⁻¹ = Rat.divInt x.den x.num := by
      rw [← Rat.inv_divInt, Rat.num_divInt_den]
    have := rat_divInt0 x.den x.num h0
    rw [← e] at this
    exact ⟨Nat.le_trans this.1 (by simpa using h.2), Nat.le_trans this.2 h.1⟩
theorem Hs.div {k l : Nat} {x y : Rat} (h : Hs k x) (g : Hs l y) : Hs (k + l) (x / y) := by
  rw [Rat.div_def]; exact h.mul g.inv
theorem Hs.divInt {k : Nat} (a b : Int) (hb : b ≠ 0) (h1 : a.natAbs ≤ 10 ^ k) (h2 : b.natAbs ≤ 10 ^ k) : Hs k (Rat.divInt a b) := by
  have := rat_divInt0 a b hb
  exact ⟨Nat.le_trans this.1 h1, Nat.le_trans this.2 h2⟩
end Go.Mono
namespace Go.Proofs.YtdgodcgdlfjpaaaGreatDoor
open Go.RowKit Go.Mono
set_option maxRecDepth 100000 in
set_option maxHeartbeats 1000000 in
theorem make_ok (a b : Int) (h0 : b ≠ 0) (p q : Option Addr) (k c l d : Nat) (w wf : World) (hx : Ext wf w) (x : Sz 600 wf (.slice p k c) a.natAbs) (y : Sz 600 wf (.slice q l d) b.natAbs) :
    Calls Tryz.prog 162 #[.agg #[.bool (decide (a < 0)), .slice p k c], .agg #[.bool (decide (b < 0)), .slice q l d]] w fun e w' => ∃ r, e = .returned (.tuple #[r, .int .i64 0]) ∧ QV w' r (Rat.divInt a b) ∧ Below w.heap.size w w' := by
  replace x := x.ext hx
  replace y := y.ext hx
  clear hx
  obtain ⟨g1, g2, g3⟩ := rat_divInt a b h0
  have hi0 : ∀ w : World, (Instr.index 247 (.agg #[.bool (decide (a < 0)), .slice p k c, .bool (decide (b < 0)), .slice q l d]) (.int .i64 0)).run Tryz.prog w = .ok (.agg #[.bool (decide (a < 0)), .slice p k c]) w := fun _ => by kernel_rfl
  have hi1 : ∀ w : World, (Instr.index 247 (.agg #[.bool (decide (a < 0)), .slice p k c, .bool (decide (b < 0)), .slice q l d]) (.int .i64 1)).run Tryz.prog w = .ok (.agg #[.bool (decide (b < 0)), .slice q l d]) w := fun _ => by kernel_rfl
  have hl : ((l : Int) == 0) = false := by
    have := y.len_pos.1 (by omega)
    simp; omega
  have ha : decide (a < 0) = true → (0 : Int) < a.natAbs := by intro h; simp at h; omega
  have hb' : decide (b < 0) = true → (0 : Int) < b.natAbs := by intro h; simp at h; omega
  go_enter Tryz.func162, Tryz.ntmps162
  go_wp2_with fail
  refine boxes3 fun W hB hs b0 b1 b2 => ?_
  replace x := x.ext (.of_below hB)
  replace y := y.ext (.of_below hB)
  go_loopw [12] (fun a wr => ∃ i : Nat, i ≤ 2 ∧ a = .int .i64 (i : Int) ∧ Below W.heap.size W wr) (fun a _ => (2 - intOf a).toNat)
  case atStart => exact ⟨0, by omega, rfl, Below.refl _ _⟩
  case round =>
    obtain ⟨i, hi, rfl, hb⟩ := hrel
    rcases (by omega : i = 0 ∨ i = 1 ∨ i = 2) with rfl | rfl | rfl
    · go_wp2_with (go_at_call 167; (with_reducible refine (lcheck_ok _ p k c _ _ W ((Ext.of_below hb).alloc _) x ha).mono ?_); rintro e W4 ⟨rfl, hb4⟩)
      go_roundw
      case rel => exact ⟨1, by omega, by simp, belowCall (belowAlloc hb _) hb4⟩
      case measure => simp [intOf]
    · go_wp2_with (go_at_call 167; (with_reducible refine (lcheck_ok _ q l d _ _ W ((Ext.of_below hb).alloc _) y hb').mono ?_); rintro e W4 ⟨rfl, hb4⟩)
      go_roundw
      case rel => exact ⟨2, by omega, by simp, belowCall (belowAlloc hb _) hb4⟩
      case measure => simp [intOf]
    · replace hB := belowCall hB hb
      replace x := x.ext (.of_below hb)
      replace y := y.ext (.of_below hb)
      replace b0 := b0.below hb
      try clear cb0 lb0 fb0
      have cb0 := b0.cell
      have lb0 := b0.lt
      have fb0 := b0.frozen
      replace b1 := b1.below hb
      try clear cb1 lb1 fb1
      have cb1 := b1.cell
      have lb1 := b1.lt
      have fb1 := b1.frozen
      replace b2 := b2.below hb
      try clear cb2 lb2 fb2
      have cb2 := b2.cell
      have lb2 := b2.lt
      have fb2 := b2.frozen
      clear hi0 hi1 hi ha hb'
      go_wp2_with fail
      refine (reduced_sz _ p q k c l d 600 _ _ wr wr (Ext.refl _) x y (by omega) (by omega)).mono ?_
      rintro e W1 ⟨p1, n1, c1, q1, l1, d1, rfl, z1, z2, hb1⟩
      rw [← g2] at z1
      rw [← g3] at z2
      replace hB := belowCall hB hb1
      replace b2 := b2.below hb1
      clear cb2 lb2 fb2
      have cb2 := b2.cell
      have lb2 := b2.lt
      have fb2 := b2.frozen
      go_wp2_with fail
      refine (told_ok 600 _ p1 q1 n1 c1 l1 d1 (Rat.divInt a b) _ W1 (Ext.refl _) g1 z1 z2 (by omega)).mono ?_
      rintro e W2 ⟨p7, k7, c7, q7, l7, d7, rfl, z7, y7, hb7⟩
      replace hB := belowCall hB hb7
      replace b2 := b2.below hb7
      clear cb2 lb2 fb2
      have cb2 := b2.cell
      have lb2 := b2.lt
      have fb2 := b2.frozen
      go_wp2
      have b3' := ((((b2.set 0 (.bool (decide ((Rat.divInt a b).num < 0)))).set 1 (.slice p7 k7 c7)).set 2 (.bool false)).set 3 (.slice q7 l7 d7)).cell
      have xE : Ext W2 _ := (((((Ext.refl W2).set b2 (by decide) 0 (.bool (decide ((Rat.divInt a b).num < 0)))).set (b2.set 0 (.bool (decide ((Rat.divInt a b).num < 0)))) (by decide) 1 (.slice p7 k7 c7))).set ((b2.set 0 (.bool (decide ((Rat.divInt a b).num < 0)))).set 1 (.slice p7 k7 c7)) (by decide) 2 (.bool false)).set (((b2.set 0 (.bool (decide ((Rat.divInt a b).num < 0)))).set 1 (.slice p7 k7 c7)).set 2 (.bool false)) (by decide) 3 (.slice q7 l7 d7)
      refine bodyPost_ret (v := .tuple #[.agg #[.bool (decide ((Rat.divInt a b).num < 0)), .slice p7 k7 c7, .bool false, .slice q7 l7 d7], .int .i64 0]) (by simp [results, Tryz.results162, go_sem, b3']) rfl ⟨_, rfl, ⟨_, _, _, _, _, _, rfl, z7.ext xE, y7.ext xE⟩, ?_⟩
      exact belowSet (belowSet (belowSet (belowSet hB (by omega) _ _) (by omega) _ _) (by omega) _ _) (by omega) _ _
end Go.Proofs.YtdgodcgdlfjpaaaGreatDoor
namespace Go.Mono
/-- a film's numbers -/
structure Flm where
  ix : Int
  p : Int
  q : Int
deriving DecidableEq
def Flm.ok (f : Flm) : Prop := 10000000 ≤ f.ix ∧ f.ix ≤ 40000000 ∧ 0 ≤ f.p ∧ f.p ≤ 1000 ∧ 1 ≤ f.q ∧ f.q ≤ 1000
instance (f : Flm) : Decidable f.ok := by unfold Flm.ok; infer_instance
/-- the matrix ((a, i b), (i c, d)) -/
structure Mat where
  a : Rat
  b : Rat
  c : Rat
  d : Rat
theorem Mat.ext {x y : Mat} (h1 : x.a = y.a) (h2 : x.b = y.b) (h3 : x.c = y.c) (h4 : x.d = y.d) : x = y := by
  cases x; cases y; simp_all
def Mat.one : Mat := ⟨1, 0, 0, 1⟩
def Mat.mul (x y : Mat) : Mat := ⟨x.a * y.a - x.b * y.c, x.a * y.b + x.b * y.d, x.c * y.a + x.d * y.c, x.d * y.d - x.c * y.b⟩
theorem Mat.mul_assoc (x y z : Mat) : (x.mul y).mul z = x.mul (y.mul z) := by
  apply Mat.ext <;> simp only [Mat.mul] <;> grind
theorem Mat.one_mul (x : Mat) : Mat.one.mul x = x := by
  apply Mat.ext <;> simp only [Mat.mul, Mat.one] <;> grind
theorem Mat.mul_one (x : Mat) : x.mul Mat.one = x := by
  apply Mat.ext <;> simp only [Mat.mul, Mat.one] <;> grind
def Mat.det (x : Mat) : Rat := x.a * x.d + x.b * x.c
theorem Mat.det_mul (x y : Mat) : (x.mul y).det = x.det * y.det := by
  simp only [Mat.mul, Mat.det]; grind
def Flm.sq (f : Flm) : Int := f.q * f.q + f.p * f.p
def Flm.cos (f : Flm) : Rat := Rat.divInt (f.q * f.q - f.p * f.p) f.sq
def Flm.sin (f : Flm) : Rat := Rat.divInt (2 * f.p * f.q) f.sq
def idx (n : Int) : Rat := Rat.divInt n 10000000
def Flm.mat (f : Flm) : Mat := ⟨f.cos, f.sin / idx f.ix, idx f.ix * f.sin, f.cos⟩
theorem Flm.ok.sq_pos {f : Flm} (h : f.ok) : 1 ≤ f.sq := by
  obtain ⟨_, _, h1, _, h2, _⟩ := h
  have a := Int.mul_le_mul h2 h2 (by omega) (by omega)
  have b := Int.mul_nonneg h1 h1
  unfold Flm.sq; omega
theorem ratcast_ne {n : Int} (h : n ≠ 0) : (n : Rat) ≠ 0 := by
  intro e
  apply h
  exact Rat.intCast_inj.1 (by simpa using e)
theorem idx_ne {n : Int} (h : n ≠ 0) : idx n ≠ 0 := by
  unfold idx
  rw [Rat.divInt_eq_div]
  have := ratcast_ne h
  grind
theorem Flm.cs (f : Flm) (h : f.sq ≠ 0) : f.cos * f.cos + f.sin * f.sin = 1 := by
  unfold Flm.cos Flm.sin
  rw [Rat.divInt_eq_div, Rat.divInt_eq_div]
  have h0 := ratcast_ne h
  have e : ((f.sq : Int) : Rat) = (f.q : Rat) * f.q + f.p * f.p := by
    unfold Flm.sq; rw [Rat.intCast_add, Rat.intCast_mul, Rat.intCast_mul]
  have e1 : ((f.q * f.q - f.p * f.p : Int) : Rat) = (f.q : Rat) * f.q - f.p * f.p := by
    rw [Rat.intCast_sub, Rat.intCast_mul, Rat.intCast_mul]
  have e2 : ((2 * f.p * f.q : Int) : Rat) = 2 * (f.p : Rat) * f.q := by
    rw [Rat.intCast_mul, Rat.intCast_mul]; rfl
  rw [e1, e2]
  generalize ((f.sq : Int) : Rat) = s at *
  generalize (f.p : Rat) = p at *
  generalize (f.q : Rat) = q at *
  have : ((q * q - p * p) * (q * q - p * p) + (2 * p * q) * (2 * p * q)) = s * s := by rw [e]; grind
  grind
theorem Flm.ok.ne {f : Flm} (h : f.ok) : f.sq ≠ 0 ∧ f.ix ≠ 0 := by
  have := h.sq_pos
  have := h.1
  omega
theorem Flm.det {f : Flm} (h : f.ok) : f.mat.det = 1 := by
  have h1 := f.cs h.ne.1
  have h2 := idx_ne h.ne.2
  simp only [Flm.mat, Mat.det]
  generalize f.cos = c at *
  generalize f.sin = s at *
  generalize idx f.ix = n at *
  grind
def stackM (l : List Flm) : Mat := l.foldl (fun a f => a.mul f.mat) Mat.one
theorem fold_mul (l : List Flm) (x : Mat) : l.foldl (fun a f => a.mul f.mat) x = x.mul (stackM l) := by
  unfold stackM
  induction l generalizing x with
  | nil => simp [Mat.mul_one]
  | cons f l ih =>
    simp only [List.foldl_cons]
    rw [ih, ih (Mat.one.mul f.mat), Mat.one_mul, Mat.mul_assoc]
theorem stackM_nil : stackM [] = Mat.one := rfl
theorem stackM_cons (f : Flm) (l : List Flm) : stackM (f :: l) = f.mat.mul (stackM l) := by
  show l.foldl _ (Mat.one.mul f.mat) = _
  rw [fold_mul, Mat.one_mul]
theorem stackM_append (l m : List Flm) : stackM (l ++ m) = (stackM l).mul (stackM m) := by
  show (l ++ m).foldl _ Mat.one = _
  rw [List.foldl_append, fold_mul]
  rfl
theorem stackM_snoc (l : List Flm) (f : Flm) : stackM (l ++ [f]) = (stackM l).mul f.mat := by
  show (l ++ [f]).foldl _ Mat.one = _
  rw [List.foldl_append]; rfl
theorem stack_det {l : List Flm} (h : ∀ f ∈ l, f.ok) : (stackM l).det = 1 := by
  induction l with
  | nil => rw [stackM_nil]; simp only [Mat.one, Mat.det]; grind
  | cons f l ih =>
    rw [stackM_cons, Mat.det_mul, Flm.det (h f (by simp)), ih fun g hg => h g (by simp [hg])]
    grind
/-- the matrix of the stack passed the other way round -/
def Mat.turn (x : Mat) : Mat := ⟨x.d, x.b, x.c, x.a⟩
theorem Mat.turn_mul (x y : Mat) : (x.mul y).turn = y.turn.mul x.turn := by
  apply Mat.ext <;> simp only [Mat.mul, Mat.turn] <;> grind
theorem stack_reverse (l : List Flm) : stackM l.reverse = (stackM l).turn := by
  induction l with
  | nil => rfl
  | cons f l ih => rw [List.reverse_cons, stackM_append, ih, stackM_cons f [], stackM_nil, Mat.mul_one, stackM_cons, Mat.turn_mul]; rfl
/-- what a stack does between two indices -/
def big (n m : Rat) (x : Mat) : Rat := (n * x.a + m * x.d) * (n * x.a + m * x.d) + (n * m * x.b + x.c) * (n * m * x.b + x.c)
def low (n m : Rat) (x : Mat) : Rat := (n * x.a - m * x.d) * (n * x.a - m * x.d) + (n * m * x.b - x.c) * (n * m * x.b - x.c)
def back (n m : Rat) (x : Mat) : Rat := low n m x / big n m x
def through (n m : Rat) (x : Mat) : Rat := 4 * (n * m) / big n m x
theorem rat_sq_nonneg (x : Rat) : 0 ≤ x * x := by
  rcases Rat.le_total (a := 0) (b := x) with h | h
  · exact Rat.mul_nonneg h h
  · have : 0 ≤ (-x) * (-x) := Rat.mul_nonneg (by grind) (by grind)
    grind
theorem low_nonneg (n m : Rat) (x : Mat) : 0 ≤ low n m x := by
  have h1 := rat_sq_nonneg (n * x.a - m * x.d)
  have h2 := rat_sq_nonneg (n * m * x.b - x.c)
  unfold low; grind
theorem big_low (n m : Rat) (x : Mat) (h : x.det = 1) : big n m x = low n m x + 4 * (n * m) := by
  unfold Mat.det at h
  have : 4 * (n * m) = 4 * (n * m) * (x.a * x.d + x.b * x.c) := by rw [h]; grind
  rw [this]
  unfold big low
  grind
theorem big_pos (n m : Rat) (x : Mat) (h : x.det = 1) (hn : 0 < n) (hm : 0 < m) : 0 < big n m x := by
  rw [big_low n m x h]
  have := low_nonneg n m x
  have := Rat.mul_pos hn hm
  grind
theorem sum_one (n m : Rat) (x : Mat) (h : x.det = 1) (hn : 0 < n) (hm : 0 < m) : back n m x + through n m x = 1 := by
  have h1 := big_pos n m x h hn hm
  have h2 := big_low n m x h
  unfold back through
  generalize big n m x = b at *
  generalize low n m x = l at *
  have h3 : b ≠ 0 := by grind
  have h4 : l / b + 4 * (n * m) / b = (l + 4 * (n * m)) / b := by grind
  rw [h4, ← h2]
  grind
theorem back_nonneg (n m : Rat) (x : Mat) (h : x.det = 1) (hn : 0 < n) (hm : 0 < m) : 0 ≤ back n m x := by
  have h1 := big_pos n m x h hn hm
  have h2 := low_nonneg n m x
  unfold back
  rw [Rat.div_def]
  exact Rat.mul_nonneg h2 (Rat.le_of_lt (Rat.inv_pos.2 h1))
theorem through_pos (n m : Rat) (x : Mat) (h : x.det = 1) (hn : 0 < n) (hm : 0 < m) : 0 < through n m x := by
  have h1 := big_pos n m x h hn hm
  have h2 := Rat.mul_pos hn hm
  unfold through
  rw [Rat.div_def]
  exact Rat.mul_pos (by grind) (Rat.inv_pos.2 h1)
theorem back_turn (n m : Rat) (x : Mat) : back m n x.turn = back n m x ∧ through m n x.turn = through n m x := by
  have h1 : big m n x.turn = big n m x := by unfold big Mat.turn; grind
  have h2 : low m n x.turn = low n m x := by unfold low Mat.turn; grind
  unfold back through
  rw [h1, h2]
  constructor
  · rfl
  · rw [show m * n = n * m by grind]
end Go.Mono
namespace Go.Mono
/-- two films of one index are one film -/
def Flm.join (f g : Flm) : Flm := ⟨f.ix, f.p * g.q + g.p * f.q, f.q * g.q - f.p * g.p⟩
theorem sq_join (f g : Flm) : (f.join g).sq = f.sq * g.sq := by
  unfold Flm.join Flm.sq; grind
theorem ratcast_mul_ne {n m : Int} (h : n ≠ 0) (g : m ≠ 0) : ((n * m : Int) : Rat) ≠ 0 := ratcast_ne (by
  intro e
  rcases Int.mul_eq_zero.1 e with h1 | h1
  · exact h h1
  · exact g h1)
theorem cos_join {f g : Flm} (hf : f.sq ≠ 0) (hg : g.sq ≠ 0) : (f.join g).cos = f.cos * g.cos - f.sin * g.sin := by
  unfold Flm.cos Flm.sin
  rw [sq_join, Rat.divInt_mul_divInt, Rat.divInt_mul_divInt, Rat.divInt_sub_divInt _ _ (by intro e; rcases Int.mul_eq_zero.1 e with h | h <;> contradiction) (by intro e; rcases Int.mul_eq_zero.1 e with h | h <;> contradiction), ← Int.sub_mul,
    Rat.divInt_mul_right (by intro e; rcases Int.mul_eq_zero.1 e with h | h <;> contradiction)]
  congr 1
  unfold Flm.join; grind
theorem sin_join {f g : Flm} (hf : f.sq ≠ 0) (hg : g.sq ≠ 0) : (f.join g).sin = f.sin * g.cos + f.cos * g.sin := by
  unfold Flm.cos Flm.sin
  rw [sq_join, Rat.divInt_mul_divInt, Rat.divInt_mul_divInt, Rat.divInt_add_divInt _ _ (by intro e; rcases Int.mul_eq_zero.1 e with h | h <;> contradiction) (by intro e; rcases Int.mul_eq_zero.1 e with h | h <;> contradiction), ← Int.add_mul,
    Rat.divInt_mul_right (by intro e; rcases Int.mul_eq_zero.1 e with h | h <;> contradiction)]
  congr 1
  unfold Flm.join; grind
theorem mat_join {f g : Flm} (hf : f.sq ≠ 0) (hg : g.sq ≠ 0) (hi : g.ix = f.ix) (h0 : f.ix ≠ 0) : f.mat.mul g.mat = (f.join g).mat := by
  have e1 := cos_join hf hg
  have e2 := sin_join hf hg
  have e3 : (f.join g).ix = f.ix := rfl
  have hn := idx_ne h0
  apply Mat.ext <;> simp only [Mat.mul, Flm.mat, e1, e2, e3, hi] <;> grind
/-- a film without thickness -/
theorem mat_none (n q : Int) (hq : q ≠ 0) : (Flm.mk n 0 q).mat = Mat.one := by
  have hqq : q * q ≠ 0 := by intro e; rcases Int.mul_eq_zero.1 e with h | h <;> contradiction
  have h1 : (Flm.mk n 0 q).cos = 1 := by
    simp only [Flm.cos, Flm.sq, Int.mul_zero, Int.sub_zero, Int.add_zero]
    rw [Rat.divInt_eq_div]
    have := ratcast_ne hqq
    grind
  have h2 : (Flm.mk n 0 q).sin = 0 := by
    simp only [Flm.sin, Int.mul_zero, Int.zero_mul]
    exact Rat.zero_divInt _
  apply Mat.ext <;> simp only [Flm.mat, Mat.one, h1, h2] <;> grind
/-- a film of the space's own index ahead of a stack, and one behind it -/
theorem ends_ahead (n m c s : Rat) (x : Mat) (hc : c * c + s * s = 1) (hn : n ≠ 0) : big n m (Mat.mul ⟨c, s / n, n * s, c⟩ x) = big n m x ∧ low n m (Mat.mul ⟨c, s / n, n * s, c⟩ x) = low n m x := by
  obtain ⟨t, ht⟩ : ∃ t, s / n = t := ⟨_, rfl⟩
  have hs : s = n * t := by grind
  have e1 : ∀ X Y : Rat, (c * X - s * Y) * (c * X - s * Y) + (c * Y + s * X) * (c * Y + s * X) = X * X + Y * Y := by
    intro X Y
    have : (c * X - s * Y) * (c * X - s * Y) + (c * Y + s * X) * (c * Y + s * X) = (c * c + s * s) * (X * X + Y * Y) := by grind
    rw [this, hc]; grind
  constructor
  · have := e1 (n * x.a + m * x.d) (n * m * x.b + x.c)
    unfold big
    simp only [Mat.mul, ht]
    rw [← this]
    have p1 : n * (c * x.a - t * x.c) + m * (c * x.d - n * s * x.b) = c * (n * x.a + m * x.d) - s * (n * m * x.b + x.c) := by rw [hs]; grind
    have p2 : n * m * (c * x.b + t * x.d) + (n * s * x.a + c * x.c) = c * (n * m * x.b + x.c) + s * (n * x.a + m * x.d) := by rw [hs]; grind
    rw [p1, p2]
  · have := e1 (n * x.a - m * x.d) (x.c - n * m * x.b)
    unfold low
    simp only [Mat.mul, ht]
    have q : (n * m * x.b - x.c) * (n * m * x.b - x.c) = (x.c - n * m * x.b) * (x.c - n * m * x.b) := by grind
    rw [q, ← this]
    have p1 : n * (c * x.a - t * x.c) - m * (c * x.d - n * s * x.b) = c * (n * x.a - m * x.d) - s * (x.c - n * m * x.b) := by rw [hs]; grind
    have p2 : n * m * (c * x.b + t * x.d) - (n * s * x.a + c * x.c) = -(c * (x.c - n * m * x.b) + s * (n * x.a - m * x.d)) := by rw [hs]; grind
    rw [p1, p2]
    grind
theorem ends_behind (n m c s : Rat) (x : Mat) (hc : c * c + s * s = 1) (hm : m ≠ 0) : big n m (x.mul ⟨c, s / m, m * s, c⟩) = big n m x ∧ low n m (x.mul ⟨c, s / m, m * s, c⟩) = low n m x := by
  have h := ends_ahead m n c s x.turn hc hm
  have hb : ∀ y : Mat, big m n y.turn = big n m y := fun y => by unfold big Mat.turn; grind
  have hl : ∀ y : Mat, low m n y.turn = low n m y := fun y => by unfold low Mat.turn; grind
  have e : (x.mul ⟨c, s / m, m * s, c⟩).turn = Mat.mul ⟨c, s / m, m * s, c⟩ x.turn := by rw [Mat.turn_mul]; rfl
  rw [← hb, ← hl, e, h.1, h.2, hb, hl]
  exact ⟨rfl, rfl⟩
theorem stack_ends (n m : Int) (f g : Flm) (l : List Flm) (hn : n ≠ 0) (hm : m ≠ 0) (hf : f.ix = n) (hg : g.ix = m) (hf0 : f.sq ≠ 0) (hg0 : g.sq ≠ 0) :
    back (idx n) (idx m) (stackM (f :: (l ++ [g]))) = back (idx n) (idx m) (stackM l) ∧ through (idx n) (idx m) (stackM (f :: (l ++ [g]))) = through (idx n) (idx m) (stackM l) := by
  rw [stackM_cons, stackM_snoc]
  have a := ends_ahead (idx n) (idx m) f.cos f.sin ((stackM l).mul g.mat) (f.cs hf0) (idx_ne hn)
  have b := ends_behind (idx n) (idx m) g.cos g.sin (stackM l) (g.cs hg0) (idx_ne hm)
  have ef : f.mat = ⟨f.cos, f.sin / idx n, idx n * f.sin, f.cos⟩ := by unfold Flm.mat; rw [hf]
  have eg : g.mat = ⟨g.cos, g.sin / idx m, idx m * g.sin, g.cos⟩ := by unfold Flm.mat; rw [hg]
  rw [← ef] at a
  rw [← eg] at b
  unfold back through
  rw [a.1, a.2, b.1, b.2]
  exact ⟨rfl, rfl⟩
end Go.Mono
namespace Go.Mono
/-- a matrix over one denominator of at most D -/
def Mov (N D : Nat) (x : Mat) : Prop := ∃ d, d ≤ D ∧ Ov N d x.a ∧ Ov N d x.b ∧ Ov N d x.c ∧ Ov N d x.d
def bnd : Nat := 4000000000000000000000
theorem mul_in {a b : Int} {A B : Nat} (h1 : a.natAbs ≤ A) (h2 : b.natAbs ≤ B) : (a * b).natAbs ≤ A * B := by
  rw [Int.natAbs_mul]; exact Nat.mul_le_mul h1 h2
theorem Flm.ok.mov {f : Flm} (h : f.ok) : Mov bnd bnd f.mat := by
  have hs := h.sq_pos
  have hn := h.ne
  obtain ⟨i1, i2, p1, p2, q1, q2⟩ := h
  have pq : (f.p * f.q).natAbs ≤ 1000 * 1000 := mul_in (by omega) (by omega)
  have pp : (f.p * f.p).natAbs ≤ 1000 * 1000 := mul_in (by omega) (by omega)
  have qq : (f.q * f.q).natAbs ≤ 1000 * 1000 := mul_in (by omega) (by omega)
  have ii : (f.ix * f.ix).natAbs ≤ 40000000 * 40000000 := mul_in (by omega) (by omega)
  have pp0 : 0 ≤ f.p * f.p := Int.mul_nonneg p1 p1
  have qq0 : 0 ≤ f.q * f.q := Int.mul_nonneg (by omega) (by omega)
  have pq0 : 0 ≤ f.p * f.q := Int.mul_nonneg p1 (by omega)
  obtain ⟨s, es⟩ : ∃ s : Nat, f.sq = (s : Int) := ⟨f.sq.toNat, by omega⟩
  obtain ⟨n, en⟩ : ∃ n : Nat, f.ix = (n : Int) := ⟨f.ix.toNat, by omega⟩
  have s2 : s ≤ 2000000 := by have : f.sq = f.q * f.q + f.p * f.p := rfl; omega
  have n2 : n ≤ 40000000 := by omega
  have s0 : 0 < s := by omega
  have n0 : 0 < n := by omega
  have hc : Ov 1000000 s f.cos := by
    unfold Flm.cos; rw [es]; exact Ov.of _ s s0 _ (by omega)
  have hi : Ov 2000000 s f.sin := by
    unfold Flm.sin; rw [es]; refine Ov.of _ s s0 _ ?_
    rw [show 2 * f.p * f.q = 2 * (f.p * f.q) from by grind]; omega
  have hd : Ov (2000000 * 10000000) (s * n) (f.sin / idx f.ix) := by
    have : f.sin / idx f.ix = f.sin * Rat.divInt 10000000 n := by
      rw [Rat.div_def]; unfold idx; rw [Rat.inv_divInt, en]
    rw [this]
    exact hi.mul (Ov.of 10000000 n n0 10000000 (by decide))
  have hm : Ov (40000000 * 2000000) (10000000 * s) (idx f.ix * f.sin) := by
    have : Ov 40000000 10000000 (idx f.ix) := by unfold idx; exact Ov.of f.ix 10000000 (by decide) _ (by omega)
    exact this.mul hi
  have hc' : Ov bnd (s * (n * 10000000)) f.cos := (hc.scale (n * 10000000) (by omega)).mono (by
    have : 1000000 * (n * 10000000) ≤ 1000000 * (40000000 * 10000000) := Nat.mul_le_mul_left _ (Nat.mul_le_mul_right _ n2)
    unfold bnd; omega)
  refine ⟨s * (n * 10000000), ?_, hc', ?_, ?_, hc'⟩
  · have : s * (n * 10000000) ≤ 2000000 * (40000000 * 10000000) := Nat.mul_le_mul s2 (Nat.mul_le_mul_right _ n2)
    unfold bnd; omega
  · have := hd.scale 10000000 (by decide)
    rw [Nat.mul_assoc s n] at this
    exact Ov.mono (M := bnd) this (by decide)
  · have := hm.scale n n0
    rw [show 10000000 * s * n = s * (n * 10000000) from by rw [Nat.mul_comm 10000000, Nat.mul_assoc, Nat.mul_comm 10000000]] at this
    refine Ov.mono (M := bnd) this ?_
    have : 40000000 * 2000000 * n ≤ 40000000 * 2000000 * 40000000 := Nat.mul_le_mul_left _ n2
    unfold bnd; omega
/-- the products of which the entries of a product are made -/
theorem Mov.parts {N D N' D' : Nat} {x y : Mat} (h : Mov N D x) (g : Mov N' D' y) : ∃ d, d ≤ D * D' ∧
    (∀ u v, (u = x.a ∨ u = x.b ∨ u = x.c ∨ u = x.d) → (v = y.a ∨ v = y.b ∨ v = y.c ∨ v = y.d) → Ov (N * N') d (u * v)) := by
  obtain ⟨d, hd, a, b, c, e⟩ := h
  obtain ⟨d', hd', a', b', c', e'⟩ := g
  refine ⟨d * d', Nat.mul_le_mul hd hd', ?_⟩
  intro u v hu hv
  rcases hu with rfl | rfl | rfl | rfl <;> rcases hv with rfl | rfl | rfl | rfl <;> exact Ov.mul (by assumption) (by assumption)
theorem Mov.mul {N D N' D' : Nat} {x y : Mat} (h : Mov N D x) (g : Mov N' D' y) : Mov (2 * (N * N')) (D * D') (x.mul y) := by
  obtain ⟨d, hd, hp⟩ := h.parts g
  rw [Nat.two_mul]
  exact ⟨d, hd, (hp _ _ (by simp) (by simp)).sub_same (hp _ _ (by simp) (by simp)), (hp _ _ (by simp) (by simp)).add_same (hp _ _ (by simp) (by simp)), (hp _ _ (by simp) (by simp)).add_same (hp _ _ (by simp) (by simp)), (hp _ _ (by simp) (by simp)).sub_same (hp _ _ (by simp) (by simp))⟩
theorem Mov.one : Mov 1 1 Mat.one := by
  have h0 : Ov 1 1 (0 : Rat) := Ov.of 0 1 (by decide) 1 (by decide)
  have h1 : Ov 1 1 (1 : Rat) := Ov.of 1 1 (by decide) 1 (by decide)
  exact ⟨1, Nat.le_refl _, h1, h0, h0, h1⟩
theorem stack_mov (l : List Flm) (h : ∀ f ∈ l, f.ok) : Mov ((2 * bnd) ^ l.length) (bnd ^ l.length) (stackM l) := by
  suffices H : ∀ (l m : List Flm), (∀ f ∈ m, f.ok) → Mov ((2 * bnd) ^ l.length) (bnd ^ l.length) (stackM l) → Mov ((2 * bnd) ^ (l ++ m).length) (bnd ^ (l ++ m).length) (stackM (l ++ m)) by
    have := H [] l h Mov.one
    simpa using this
  intro l m hm hl
  induction m generalizing l with
  | nil => simpa using hl
  | cons f m ih =>
    have e : l ++ f :: m = (l ++ [f]) ++ m := by simp
    rw [e]
    refine ih (l ++ [f]) (fun g hg => hm g (by simp [hg])) ?_
    rw [stackM_snoc]
    have := hl.mul (hm f (by simp)).mov
    rw [show 2 * ((2 * bnd) ^ l.length * bnd) = (2 * bnd) ^ (l ++ [f]).length from by rw [List.length_append, List.length_singleton, Nat.pow_succ, Nat.mul_left_comm], show bnd ^ l.length * bnd = bnd ^ (l ++ [f]).length from by rw [List.length_append, List.length_singleton, Nat.pow_succ]] at this
    exact this
/-- all entries of a matrix have at most k digits -/
def Mhs (k : Nat) (x : Mat) : Prop := Hs k x.a ∧ Hs k x.b ∧ Hs k x.c ∧ Hs k x.d
theorem Mov.mhs {N D k : Nat} {x : Mat} (h : Mov N D x) (hN : N ≤ 10 ^ k) (hD : D ≤ 10 ^ k) : Mhs k x := by
  obtain ⟨d, hd, a, b, c, e⟩ := h
  exact ⟨.of_ov a hN (by omega), .of_ov b hN (by omega), .of_ov c hN (by omega), .of_ov e hN (by omega)⟩
theorem pow_bnd (k : Nat) (hk : k ≤ 9) : (2 * bnd) ^ k ≤ 10 ^ 198 ∧ bnd ^ k ≤ 10 ^ 198 := by
  have h1 : (2 * bnd) ^ k ≤ (2 * bnd) ^ 9 := Nat.pow_le_pow_right (by decide) hk
  have h2 : bnd ^ k ≤ (2 * bnd) ^ k := Nat.pow_le_pow_left (by decide) _
  have h3 : (2 * bnd) ^ 9 ≤ 10 ^ 198 := by decide +kernel
  omega
/-- what mul, add and sub of a stack and its next film make -/
theorem stack_step (l : List Flm) (f : Flm) (h : ∀ g ∈ l, g.ok) (hf : f.ok) (hl : l.length ≤ 8) :
    ∀ u v u' v', (u = (stackM l).a ∨ u = (stackM l).b ∨ u = (stackM l).c ∨ u = (stackM l).d) → (v = f.mat.a ∨ v = f.mat.b ∨ v = f.mat.c ∨ v = f.mat.d) →
      (u' = (stackM l).a ∨ u' = (stackM l).b ∨ u' = (stackM l).c ∨ u' = (stackM l).d) → (v' = f.mat.a ∨ v' = f.mat.b ∨ v' = f.mat.c ∨ v' = f.mat.d) → Hs 221 (u * v) ∧ Hs 221 (u * v + u' * v') ∧ Hs 221 (u * v - u' * v') := by
  intro u v u' v' hu hv hu' hv'
  obtain ⟨d, hd, hp⟩ := (stack_mov l h).parts hf.mov
  have b := pow_bnd l.length (by omega)
  have e1 : (2 * bnd) ^ l.length * bnd ≤ 10 ^ 198 * bnd := Nat.mul_le_mul_right _ b.1
  have e2 : bnd ^ l.length * bnd ≤ 10 ^ 198 * bnd := Nat.mul_le_mul_right _ b.2
  have e3 : 10 ^ 198 * bnd + 10 ^ 198 * bnd ≤ 10 ^ 221 := by decide +kernel
  have e4 : 10 ^ 198 * bnd ≤ 10 ^ 221 := by omega
  have x := hp u v hu hv
  have y := hp u' v' hu' hv'
  exact ⟨.of_ov x (by omega) (by omega), .of_ov (x.add_same y) (by omega) (by omega), .of_ov (x.sub_same y) (by omega) (by omega)⟩
theorem stack_hs (l : List Flm) (h : ∀ g ∈ l, g.ok) (hl : l.length ≤ 9) : Mhs 198 (stackM l) :=
  (stack_mov l h).mhs (pow_bnd _ hl).1 (pow_bnd _ hl).2
theorem film_hs {f : Flm} (h : f.ok) : Mhs 22 f.mat ∧ Hs 22 f.sin ∧ Hs 22 f.cos ∧ Hs 22 (idx f.ix) := by
  have hm := h.mov.mhs (k := 22) (by decide +kernel) (by decide +kernel)
  refine ⟨hm, ?_, hm.1, ?_⟩
  · have hs := h.sq_pos
    obtain ⟨i1, i2, p1, p2, q1, q2⟩ := h
    have pq : (f.p * f.q).natAbs ≤ 1000 * 1000 := mul_in (by omega) (by omega)
    have pp : (f.p * f.p).natAbs ≤ 1000 * 1000 := mul_in (by omega) (by omega)
    have qq : (f.q * f.q).natAbs ≤ 1000 * 1000 := mul_in (by omega) (by omega)
    have e : f.sq = f.q * f.q + f.p * f.p := rfl
    refine Hs.divInt _ _ (by omega) ?_ (by omega)
    rw [show 2 * f.p * f.q = 2 * (f.p * f.q) from by grind]; omega
  · obtain ⟨i1, i2, _⟩ := h
    exact Hs.divInt _ _ (by decide) (by omega) (by omega)
theorem idx_hs {n : Int} (h1 : 10000000 ≤ n) (h2 : n ≤ 40000000) : Hs 8 (idx n) := Hs.divInt _ _ (by decide) (by omega) (by omega)
end Go.Mono
namespace Go.Proofs.YtdgodcgdlfjpaaaGreatDoor
open Go.RowKit Go.Mono
set_option maxRecDepth 100000 in
set_option maxHeartbeats 1000000 in
theorem qof_ok (a b : Int) (h0 : b ≠ 0) (w : World) (a1 : -9223372036854775808 ≤ a) (a2 : a ≤ 9223372036854775807) (b1 : -9223372036854775808 ≤ b) (b2 : b ≤ 9223372036854775807) :
    Calls Tryz.prog 93 #[.int .i64 a, .int .i64 b] w fun e w' => ∃ r, e = .returned (.tuple #[r, .int .i64 0]) ∧ QV w' r (Rat.divInt a b) ∧ Below w.heap.size w w' := by
  go_enter Tryz.func93, Tryz.ntmps93
  go_wp2_with fail
  refine boxes1c fun W hB hs bb => ?_
  refine (lof_ok a W a1 a2).mono ?_
  rintro e W1 ⟨p, k, c, rfl, z1, hb1⟩
  replace hB := belowCall hB hb1
  replace bb := bb.below hb1
  have cbb := bb.cell
  have lbb := bb.lt
  have fbb := bb.frozen
  go_wp2_with fail
  refine (lof_ok b W1 b1 b2).mono ?_
  rintro e W2 ⟨q, l, d, rfl, z2, hb2⟩
  replace hB := belowCall hB hb2
  replace z1 := z1.ext (.of_below hb2)
  replace bb := bb.below hb2
  try clear cbb lbb fbb
  have cbb := bb.cell
  have lbb := bb.lt
  have fbb := bb.frozen
  go_wp2_with fail
  refine (make_ok a b h0 p q k c l d W2 W2 (Ext.refl _) z1 z2).mono ?_
  rintro e W3 ⟨r, rfl, ⟨p7, k7, c7, q7, l7, d7, rfl, z7, y7⟩, hb7⟩
  replace hB := belowCall hB hb7
  replace z1 := z1.ext (.of_below hb7)
  replace bb := bb.below hb7
  try clear cbb lbb fbb
  have cbb := bb.cell
  have lbb := bb.lt
  have fbb := bb.frozen
  go_wp2
  have b3' := ((((bb.set 0 (.bool (decide ((Rat.divInt a b).num < 0)))).set 1 (.slice p7 k7 c7)).set 2 (.bool false)).set 3 (.slice q7 l7 d7)).cell
  have xE : Ext W3 _ := (((((Ext.refl W3).set bb (by decide) 0 (.bool (decide ((Rat.divInt a b).num < 0)))).set (bb.set 0 (.bool (decide ((Rat.divInt a b).num < 0)))) (by decide) 1 (.slice p7 k7 c7))).set ((bb.set 0 (.bool (decide ((Rat.divInt a b).num < 0)))).set 1 (.slice p7 k7 c7)) (by decide) 2 (.bool false)).set (((bb.set 0 (.bool (decide ((Rat.divInt a b).num < 0)))).set 1 (.slice p7 k7 c7)).set 2 (.bool false)) (by decide) 3 (.slice q7 l7 d7)
  refine bodyPost_ret (v := .tuple #[.agg #[.bool (decide ((Rat.divInt a b).num < 0)), .slice p7 k7 c7, .bool false, .slice q7 l7 d7], .int .i64 0]) (by simp [results, Tryz.results93, go_sem, b3']) rfl ⟨_, rfl, ⟨_, _, _, _, _, _, rfl, z7.ext xE, y7.ext xE⟩, ?_⟩
  exact belowSet (belowSet (belowSet (belowSet hB (by omega) _ _) (by omega) _ _) (by omega) _ _) (by omega) _ _
end Go.Proofs.YtdgodcgdlfjpaaaGreatDoor
namespace Go.Mono
open Go.RowKit
/-- the slice reads as the ints f, whatever the type of its block -/
def RdF (w : World) (p : Option Addr) (n c : Nat) (f : Nat → Int) : Prop :=
  n ≤ c ∧ n ≤ 140737488351232 ∧ (0 < n → ∃ b off, p = some ⟨b, off, none⟩ ∧ b < w.heap.size ∧ (∀ i, i < n → w.cell? ⟨b, off + i, none⟩ = some (.int .i64 (f i))))
theorem RdF.below {w w' : World} {p : Option Addr} {n c : Nat} {f : Nat → Int} (h : RdF w p n c f) (hB : Below w.heap.size w w') : RdF w' p n c f := by
  obtain ⟨h1, h2, h3⟩ := h
  refine ⟨h1, h2, fun hn => ?_⟩
  obtain ⟨b, off, hp, hb, hc⟩ := h3 hn
  exact ⟨b, off, hp, Nat.lt_of_lt_of_le hb hB.size, fun i hi => (hB.cell hb).trans (hc i hi)⟩
end Go.Mono
namespace Go.Proofs.YtdgodcgdlfjpaaaGreatDoor
open Go.RowKit Go.Mono
set_option maxRecDepth 100000 in
set_option maxHeartbeats 1000000 in
theorem between1_ok (z lo hi : Int) (B0 B1 : Nat) (w : World) (b0 : Box w B0 3 #[.int .i64 lo]) (b1 : Box w B1 3 #[.int .i64 hi]) (h1 : lo ≤ z) (h2 : z ≤ hi) :
    Calls Tryz.prog 250 #[.int .i64 z, .pointer (some ⟨B0, 0, none⟩), .pointer (some ⟨B1, 0, none⟩)] w fun e w' => e = .returned (.bool false) ∧ w' = w := by
  have c0 := b0.cell
  have c1 := b1.cell
  have e1 : ¬ (z < lo) := by omega
  have e2 : ¬ (hi < z) := by omega
  go_enter Tryz.func250, Tryz.ntmps250
  go_wp2
  go_ret
  exact ⟨rfl, rfl⟩
set_option maxRecDepth 100000 in
set_option maxHeartbeats 1000000 in
theorem index_none (n : Nat) (p : Option Addr) (c : Nat) (f : Nat → Int) (g : Nat) (eg : ∀ args w, (callFunc g args).run Tryz.prog w = .ok (.enter g args) w) (cap : Array Value) (w : World) (h : RdF w p n c f)
    (hf : ∀ i, i < n → Calls Tryz.prog g (#[.int .i64 (f i)] ++ cap) w fun e w' => e = .returned (.bool false) ∧ w' = w) :
    Calls Tryz.prog 277 #[.slice p n c, .func (.func g) #[] cap] w fun e w' => e = .returned (.int .i64 (-1)) ∧ w' = w := by
  obtain ⟨hc1, hn1, hx1⟩ := h
  go_enter Tryz.func277, Tryz.ntmps277
  go_wp2
  go_loopw [8] (fun a wr => ∃ k : Nat, k ≤ n ∧ a = .int .i64 (k : Int) ∧ wr = w) (fun a _ => (n - intOf a).toNat)
  case atStart => exact ⟨0, Nat.zero_le _, rfl, rfl⟩
  case round =>
    obtain ⟨k, hk, rfl, rfl⟩ := hrel
    by_cases h0 : k < n
    · obtain ⟨b, off, rfl, hb, hcell⟩ := hx1 (by omega)
      have a1 := hcell k (by omega)
      have hfk := hf k h0
      clear hcell hx1 hf
      have h0' : (k : Int) < n := by omega
      go_wp2
      refine hfk.mono ?_
      rintro e w' ⟨rfl, rfl⟩
      go_wp2
      go_roundw
      case rel => refine ⟨k + 1, by omega, ?_⟩; simp
      case measure => simp [intOf]; omega
    · obtain rfl : k = n := by omega
      go_wp2
      go_ret
      exact ⟨rfl, rfl⟩
set_option maxRecDepth 100000 in
set_option maxHeartbeats 1000000 in
theorem contains_none (n : Nat) (p : Option Addr) (c : Nat) (f : Nat → Int) (g : Nat) (eg : ∀ args w, (callFunc g args).run Tryz.prog w = .ok (.enter g args) w) (cap : Array Value) (w : World) (h : RdF w p n c f)
    (hf : ∀ i, i < n → Calls Tryz.prog g (#[.int .i64 (f i)] ++ cap) w fun e w' => e = .returned (.bool false) ∧ w' = w) :
    Calls Tryz.prog 249 #[.slice p n c, .func (.func g) #[] cap] w fun e w' => e = .returned (.bool false) ∧ w' = w := by
  have hi := index_none n p c f g eg cap w h hf
  clear h hf
  go_enter Tryz.func249, Tryz.ntmps249
  go_wp2_with (go_at_call 277; refine hi.mono ?_; rintro e w' ⟨rfl, rfl⟩)
  go_ret
  exact ⟨rfl, rfl⟩
theorem enters_between1 : ∀ args w, (callFunc 250 args).run Tryz.prog w = .ok (.enter 250 args) w := Go.Proofs.enters_of Tryz.func250 (by kernel_rfl) rfl
set_option maxRecDepth 100000 in
set_option maxHeartbeats 1000000 in
theorem between_ok (lo hi : Int) (n : Nat) (p : Option Addr) (c : Nat) (f : Nat → Int) (w : World) (h : RdF w p n c f) (h1 : ∀ i, i < n → lo ≤ f i ∧ f i ≤ hi) :
    Calls Tryz.prog 208 #[.int .i64 lo, .int .i64 hi, .slice p n c] w fun e w' => e = .returned (.bool true) ∧ Below w.heap.size w w' := by
  have hmf : ∀ (fn : Fn) (first cap : Array Value) (w : World), (Instr.makeFunc fn first cap).run Tryz.prog w = .ok (.func fn first cap) w := fun _ _ _ _ => rfl
  go_enter Tryz.func208, Tryz.ntmps208
  go_wp2_with fail
  refine boxes2c fun W hB hs b0 b1 => ?_
  replace h := h.below hB
  refine (contains_none n p c f _ enters_between1 _ W h fun i hi => ?_).mono ?_
  · exact between1_ok _ _ _ _ _ W b0 b1 (h1 i hi).1 (h1 i hi).2
  rintro e W1 ⟨rfl, rfl⟩
  go_wp2
  go_ret
  exact ⟨rfl, hB⟩
set_option maxRecDepth 100000 in
set_option maxHeartbeats 1000000 in
theorem about_ok (m : Int) (n : Nat) (p : Option Addr) (c : Nat) (f : Nat → Int) (w : World) (h : RdF w p n c f) (hm0 : 0 ≤ m) (hm1 : m ≤ 1000000000) (h1 : ∀ i, i < n → -m ≤ f i ∧ f i ≤ m) :
    Calls Tryz.prog 212 #[.int .i64 m, .slice p n c] w fun e w' => e = .returned (.bool true) ∧ Below w.heap.size w w' := by
  have hb := between_ok (-m) m n p c f w h h1
  clear h h1
  go_enter Tryz.func212, Tryz.ntmps212
  go_wp2_with (go_at_call 208; refine hb.mono ?_; rintro e w' ⟨rfl, hb⟩)
  go_ret
  exact ⟨rfl, hb⟩
end Go.Proofs.YtdgodcgdlfjpaaaGreatDoor
