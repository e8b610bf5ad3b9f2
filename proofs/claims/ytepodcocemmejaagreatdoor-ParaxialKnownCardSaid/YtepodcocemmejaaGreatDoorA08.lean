/- Part 8 of 52 of the proof that the law ParaxialKnown returns true, whatever stands in memory, if the two listed variables hold what the text lays: contracts of the functions that it reaches. No condition beside the row. -/
import Derived.Deep.DeepCutAuto
import Derived.Test.YtepodcocemmejaaGreatDoorA03
import Derived.Test.YtepodcocemmejaaGreatDoorA07
set_option linter.unusedVariables false
set_option linter.unusedSimpArgs false
namespace Go.Mono
open Go.RowKit
theorem SlF.unique {w : World} {v : Value} {n m : Nat} {f g : Nat → Int} (h : SlF w v n f) (k : SlF w v m g) : n = m ∧ ∀ i, i < n → f i = g i := by
  rcases h with ⟨rfl, rfl⟩ | ⟨b, off, cap, cs, fr, rfl, _, _, hh, hi⟩
  · rcases k with ⟨_, rfl⟩ | ⟨b, off, cap, cs, fr, hv, _⟩
    · exact ⟨rfl, fun i hi => by omega⟩
    · simp at hv
  · rcases k with ⟨hv, _⟩ | ⟨b', off', cap', cs', fr', hv, _, _, hh', hi'⟩
    · simp at hv
    · simp only [Value.slice.injEq, Option.some.injEq, Addr.mk.injEq] at hv
      obtain ⟨⟨rfl, rfl, _⟩, rfl, _⟩ := hv
      rw [hh] at hh'
      simp at hh'
      obtain ⟨rfl, _⟩ := hh'
      refine ⟨rfl, fun i h => ?_⟩
      have := (hi i h).symm.trans (hi' i h)
      simpa using this
theorem Sz.unique {m m' : Nat} {w : World} {v : Value} {N M : Int} (h : Sz m w v N) (k : Sz m' w v M) : N = M := by
  obtain ⟨n, f, s1, _, rfl, _⟩ := h
  obtain ⟨n', g, s2, _, rfl, _⟩ := k
  obtain ⟨rfl, e⟩ := s1.unique s2
  exact vf_congr e
/-- the number that a slice is, for measures -/
noncomputable def szVal (w : World) (v : Value) : Int := Classical.epsilon fun N => ∃ m, Sz m w v N
theorem Sz.szVal {m : Nat} {w : World} {v : Value} {N : Int} (h : Sz m w v N) : Mono.szVal w v = N := by
  obtain ⟨m', h'⟩ := Classical.epsilon_spec (p := fun N => ∃ m, Sz m w v N) ⟨N, m, h⟩
  exact h'.unique h
theorem Sz.zero (m : Nat) (w : World) : Sz m w (.slice none 0 0) 0 := ⟨0, fun _ => 0, .inl ⟨rfl, rfl⟩, ⟨fun i hi => by omega, fun i hi => by omega, fun h => by omega⟩, rfl, Nat.zero_le _⟩
theorem Sz.len_pos {m : Nat} {w : World} {p : Option Addr} {n c : Nat} {N : Int} (h : Sz m w (.slice p n c) N) : 0 < N ↔ 0 < n := by
  obtain ⟨n, f, s1, d, rfl, l, rfl⟩ := h.sl
  exact d.pos
def gcdZ (N M : Int) : Int := (Nat.gcd N.toNat M.toNat : Nat)
theorem gcdZ_zero {N : Int} (h : 0 ≤ N) : gcdZ N 0 = N := by simp [gcdZ]; omega
theorem gcdZ_step {N M : Int} (h : 0 ≤ N) (hM : 0 < M) : gcdZ M (N % M) = gcdZ N M := by
  obtain ⟨n, rfl⟩ := Int.eq_ofNat_of_zero_le h
  obtain ⟨m, rfl⟩ := Int.eq_ofNat_of_zero_le (Int.le_of_lt hM)
  unfold gcdZ
  have e : ((n : Int) % (m : Int)).toNat = n % m := by rw [← Int.natCast_emod, Int.toNat_natCast]
  rw [e, Int.toNat_natCast, Int.toNat_natCast, Nat.gcd_comm n m, Nat.gcd_rec m n, Nat.gcd_comm]
end Go.Mono
namespace Go.Proofs.YtepodcocemmejaaGreatDoor
open Go.RowKit Go.Mono
theorem over_sz (m0 : Nat) (w wf : World) (hx : Ext wf w) (p q : Option Addr) (n m c1 c2 : Nat) (N M : Int) (h1 : Sz m0 wf (.slice p n c1) N) (h2 : Sz m0 wf (.slice q m c2) M) (hM : 0 < M) (hm0 : m0 ≤ 1000000) :
    Calls Tryz.prog 164 #[.slice p n c1, .slice q m c2] w fun e w' => ∃ p1 k1 c1 p2 k2 c2, e = .returned (.tuple #[.slice p1 k1 c1, .slice p2 k2 c2]) ∧ Sz m0 w' (.slice p1 k1 c1) (N / M) ∧ Sz m0 w' (.slice p2 k2 c2) (N % M) ∧ Below w.heap.size w w' := by
  have hN := h1.nonneg
  rcases Int.lt_or_le N M with hlt | hle
  · refine (over_less m0 m0 w wf hx p q n m c1 c2 N M h1 h2 hlt).mono ?_
    rintro e w' ⟨rfl, k, rfl⟩
    refine ⟨_, _, _, _, _, _, rfl, ?_, ?_, below_drewN (Below.refl _ _) k⟩
    · rw [Int.ediv_eq_zero_of_lt hN hlt]; exact Sz.zero _ _
    · rw [Int.emod_eq_of_lt hN hlt]; exact h1.ext (hx.below (below_drewN (Below.refl _ _) k))
  · obtain ⟨n', f, s1, d1, rfl, l1, rfl⟩ := (h1.ext hx).sl
    obtain ⟨m', g, s2, d2, rfl, l2, rfl⟩ := (h2.ext hx).sl
    have hml := d2.len_le d1 hle
    have hm0' := d2.pos.1 hM
    by_cases hm1 : m' = 1
    · subst hm1
      refine (over_one m0 w w (Ext.refl _) p q n' c1 c2 _ _ ⟨n', f, s1, d1, rfl, l1⟩ ⟨1, g, s2, d2, rfl, Nat.le_refl _⟩ hM hle hm0).mono ?_
      rintro e w' ⟨p1, k1, c3, p2, k2, c4, rfl, z1, z2, hb⟩
      exact ⟨_, _, _, _, _, _, rfl, z1, z2.mono (by omega), hb⟩
    · obtain ⟨m, rfl⟩ : ∃ m, m' = m + 2 := ⟨m' - 2, by omega⟩
      refine (over_many p q n' m c1 c2 f g w s1 s2 d1 d2 (by omega) hle).mono ?_
      rintro e w' ⟨p1, k1, c3, p2, k2, c4, rfl, z1, z2, hb⟩
      exact ⟨_, _, _, _, _, _, rfl, z1.mono l1, z2.mono l2, hb⟩
set_option maxHeartbeats 1000000 in
theorem common_sz (m0 : Nat) (w wf : World) (hx : Ext wf w) (p q : Option Addr) (n m c1 c2 : Nat) (N M : Int) (h1 : Sz m0 wf (.slice p n c1) N) (h2 : Sz m0 wf (.slice q m c2) M) (hm0 : m0 ≤ 1000000) :
    Calls Tryz.prog 119 #[.slice p n c1, .slice q m c2] w fun e w' => ∃ p k c, e = .returned (.slice p k c) ∧ Sz m0 w' (.slice p k c) (gcdZ N M) ∧ Below w.heap.size w w' := by
  replace h1 := h1.ext hx
  replace h2 := h2.ext hx
  go_enter Tryz.func119, Tryz.ntmps119
  go_wp2_with fail
  go_loopw [0, 1] (fun a b wr => ∃ p n c q m d A B, a = .slice p n c ∧ b = .slice q m d ∧ Sz m0 wr (.slice p n c) A ∧ Sz m0 wr (.slice q m d) B ∧ gcdZ A B = gcdZ N M ∧ Below w.heap.size w wr) (fun _ b wr => (szVal wr b).toNat)
  case atStart => exact ⟨_, _, _, _, _, _, _, _, rfl, rfl, h1, h2, rfl, Below.refl _ _⟩
  case round =>
    clear h1 h2 hx
    obtain ⟨p, n, c, q, m, d, A, B, rfl, rfl, h1, h2, hg, hb⟩ := hrel
    have hA := h1.nonneg
    have hv := h2.szVal
    have hl := h2.len_pos
    replace hg := Lib.hid hg
    replace hv := Lib.hid hv
    by_cases h0 : 0 < m
    · have hB := hl.2 h0
      clear hl
      have ho := over_sz m0 wr wr (Ext.refl _) p q n m c d A B h1 h2 hB hm0
      go_wp2_with (go_at_call 164; refine ho.mono ?_; rintro e w' ⟨p1, k1, c3, p2, k2, c4, rfl, z1, z2, hb2⟩)
      go_roundw
      case rel => exact ⟨_, _, _, _, _, _, _, _, rfl, rfl, h2.ext (.of_below hb2), z2, (gcdZ_step hA hB).trans hg.out, below_call hb hb2⟩
      case measure =>
        rw [z2.szVal, hv.out]
        have := Int.emod_lt_of_pos A hB
        have := Int.emod_nonneg A (show B ≠ 0 by omega)
        omega
    · have hB : B = 0 := by have := h2.nonneg; omega
      obtain rfl : m = 0 := by omega
      replace hB := Lib.hid hB
      clear hl
      go_wp2
      go_ret
      refine ⟨_, _, _, rfl, ?_, hb⟩
      rw [← hg.out, hB.out, gcdZ_zero hA]
      exact h1
theorem without_sz (m0 : Nat) (w wf : World) (hx : Ext wf w) (p q : Option Addr) (n m c1 c2 : Nat) (N M : Int) (h1 : Sz m0 wf (.slice p n c1) N) (h2 : Sz m0 wf (.slice q m c2) M) (hM : 0 < M) (hm0 : m0 ≤ 1000000) :
    Calls Tryz.prog 120 #[.slice p n c1, .slice q m c2] w fun e w' => ∃ p1 k1 c1, e = .returned (.slice p1 k1 c1) ∧ Sz m0 w' (.slice p1 k1 c1) (N / M) ∧ Below w.heap.size w w' := by
  have ho := over_sz m0 w wf hx p q n m c1 c2 N M h1 h2 hM hm0
  go_enter Tryz.func120, Tryz.ntmps120
  go_wp2_with (go_at_call 164; refine ho.mono ?_; rintro e w' ⟨p1, k1, c3, p2, k2, c4, rfl, z1, z2, hb2⟩)
  go_ret
  exact ⟨_, _, _, rfl, z1, hb2⟩
end Go.Proofs.YtepodcocemmejaaGreatDoor
namespace Go.Proofs.YtepodcocemmejaaGreatDoor
open Go.RowKit Go.Mono
set_option maxHeartbeats 400000 in
theorem wtimes_sz (neg : Bool) (p1 p2 : Option Addr) (k1 c1 k2 c2 m1 m2 : Nat) (n1 n2 : Int) (w wf : World) (hx : Ext wf w) (h1 : Sz m1 wf (.slice p1 k1 c1) n1) (h2 : Sz m2 wf (.slice p2 k2 c2) n2) (hm1 : m1 ≤ 1000000) (hm2 : m2 ≤ 1000000) :
    Calls Tryz.prog 121 #[.agg #[.bool neg, .slice p1 k1 c1], .slice p2 k2 c2] w fun e w' => ∃ p n c, e = .returned (.agg #[.bool neg, .slice p n c]) ∧ Sz (m1 + m2) w' (.slice p n c) (n1 * n2) ∧ Below w.heap.size w w' := by
  go_enter Tryz.func121, Tryz.ntmps121
  go_wp2
  refine boxes2 fun W hB hs b0 b1 => ?_
  have z1 := h1.ext (hx.below hB)
  have z2 := h2.ext (hx.below hB)
  have c0 := b0.cell
  have l0 := b0.lt
  have K0 := KeepBut.refl (w.heap.size + 1) W
  clear h1 h2 hx
  go_region_held3 (fun w' => (∀ b o, b < W.heap.size → b ≠ w.heap.size + 1 → w'.cell? ⟨b, o, none⟩ = W.cell? ⟨b, o, none⟩) ∧ KeepBut (w.heap.size + 1) W.heap.size W w') ((refine KeepBut.S ?_; first | exact K0.drew | (repeat' (first | exact And.right ‹_› | exact KeepBut.call (And.right ‹_›) ‹_› | refine KeepBut.set ?_ _ _)))) (first | (go_at_call 118; refine (times_sz m1 m2 _ W (KeepBut.ext (And.right ‹_›) b1 (by decide)) _ _ _ _ _ _ n1 n2 z1 z2 hm1 hm2).mono ?_; rintro e w' ⟨p, n, c, rfl, hv, hb⟩; have b1' := b1.drew.below hb; have k1 := b1'.cell; have f1 := b1'.frozen))
  go_wp2
  have b2 := ((b1'.set 0 (.bool neg)).set 1 (.slice p n c)).cell
  refine bodyPost_ret (v := .agg #[.bool neg, .slice p n c]) (by simp [results, Tryz.results121, go_sem, b2]) rfl ⟨p, n, c, rfl, ?_, ?_⟩
  · exact hv.ext (((Ext.refl _).set b1' (by decide) _ _).set (b1'.set _ _) (by decide) _ _)
  · exact KeepBut.below (And.right ‹_›) hB (by omega) hB.size
end Go.Proofs.YtepodcocemmejaaGreatDoor
namespace Go.Mono
theorem Sg.add_same {s : Bool} {a b : Int} (h : Sg s a) (k : Sg s b) : Sg s (a + b) ∧ (a + b).natAbs = a.natAbs + b.natAbs := by
  cases s
  · have := h.2 rfl; have := k.2 rfl
    exact ⟨⟨fun h => by simp at h, fun _ => by omega⟩, by omega⟩
  · have := h.1 rfl; have := k.1 rfl
    exact ⟨⟨fun _ => by omega, fun h => by simp at h⟩, by omega⟩
theorem Sg.add_less {s : Bool} {a b : Int} (h : Sg s a) (k : Sg (!s) b) (hl : (a.natAbs : Int) < b.natAbs) : Sg (!s) (a + b) ∧ ((a + b).natAbs : Int) = b.natAbs - a.natAbs := by
  cases s
  · have := h.2 rfl; have := k.1 rfl
    exact ⟨⟨fun _ => by omega, fun h => by simp at h⟩, by omega⟩
  · have := h.1 rfl; have := k.2 rfl
    exact ⟨⟨fun h => by simp at h, fun _ => by omega⟩, by omega⟩
theorem Sg.add_more {s : Bool} {a b : Int} (h : Sg s a) (k : Sg (!s) b) (hl : (b.natAbs : Int) ≤ a.natAbs) : Sg s (a + b) ∧ ((a + b).natAbs : Int) = a.natAbs - b.natAbs := by
  cases s
  · have := h.2 rfl; have := k.1 rfl
    exact ⟨⟨fun h => by simp at h, fun _ => by omega⟩, by omega⟩
  · have := h.1 rfl; have := k.2 rfl
    exact ⟨⟨fun _ => by omega, fun h => by simp at h⟩, by omega⟩
end Go.Mono
namespace Go.Proofs.YtepodcocemmejaaGreatDoor
open Go.RowKit Go.Mono
set_option maxHeartbeats 1000000 in
theorem wplus_sz (s1 s2 : Bool) (p1 p2 : Option Addr) (k1 c1 k2 c2 m : Nat) (n1 n2 : Int) (w wf : World) (hx : Ext wf w) (h1 : Sz m wf (.slice p1 k1 c1) n1.natAbs) (h2 : Sz m wf (.slice p2 k2 c2) n2.natAbs) (g1 : Sg s1 n1) (g2 : Sg s2 n2) (hm : m ≤ 1000000) :
    Calls Tryz.prog 122 #[.agg #[.bool s1, .slice p1 k1 c1], .agg #[.bool s2, .slice p2 k2 c2]] w fun e w' => ∃ s p n c, e = .returned (.agg #[.bool s, .slice p n c]) ∧ Sg s (n1 + n2) ∧ Sz (m + 1) w' (.slice p n c) (n1 + n2).natAbs ∧ Below w.heap.size w w' := by
  by_cases hs12 : s1 = s2
  · subst hs12
    obtain ⟨e1, e2⟩ := g1.add_same g2
    replace e2 := Lib.hid e2
    clear g1 g2
    go_enter Tryz.func122, Tryz.ntmps122
    go_wp2_with fail
    refine boxes3 fun W hB hs b0 b1 b2 => ?_
    have z1 := h1.ext (hx.below hB)
    have z2 := h2.ext (hx.below hB)
    have c0 := b0.cell
    have c1' := b1.cell
    have l0 := b0.lt
    have l1 := b1.lt
    have r0 : w.heap.size ≠ w.heap.size + 1 + 1 := by omega
    have r1 : w.heap.size + 1 ≠ w.heap.size + 1 + 1 := by omega
    have K0 := KeepBut.refl (w.heap.size + 1 + 1) W
    clear h1 h2 hx
    go_region_held3 (fun w' => (∀ b o, b < W.heap.size → b ≠ (w.heap.size + 1 + 1) → w'.cell? ⟨b, o, none⟩ = W.cell? ⟨b, o, none⟩) ∧ KeepBut (w.heap.size + 1 + 1) W.heap.size W w') ((refine KeepBut.S ?_; first | exact K0.drew | (repeat' (first | exact And.right ‹_› | exact KeepBut.call (And.right ‹_›) ‹_› | refine KeepBut.set ?_ _ _ | refine KeepBut.alloc ?_ _)))) (first | (go_at_call 165; refine (plus_sz m m _ W (KeepBut.ext (And.right ‹_›) b2 (by decide)) _ _ _ _ _ _ _ _ z1 z2 hm hm).mono ?_; rintro e w' ⟨p, n, c, rfl, hv, hb⟩; have b2' := b2.drew.below hb; have k1 := b2'.cell; have f1 := b2'.frozen))
    go_wp2
    have b3 := ((b2'.set 0 (.bool s1)).set 1 (.slice p n c)).cell
    refine bodyPost_ret (v := .agg #[.bool s1, .slice p n c]) (by simp [results, Tryz.results122, go_sem, b3]) rfl ⟨s1, p, n, c, rfl, e1, ?_, ?_⟩
    · rw [e2.out]
      exact (hv.ext (((Ext.refl _).set b2' (by decide) _ _).set (b2'.set _ _) (by decide) _ _)).mono (by omega)
    · exact KeepBut.below (And.right ‹_›) hB (by omega) hB.size
  · obtain rfl : s2 = !s1 := by cases s1 <;> cases s2 <;> simp_all
    have hc := cmp_sz m m
    rcases Int.lt_or_le (n1.natAbs : Int) n2.natAbs with hl | hl
    · obtain ⟨e1, e2⟩ := g1.add_less g2 hl
      replace e2 := Lib.hid e2
      clear g1 g2 hs12
      go_enter Tryz.func122, Tryz.ntmps122
      go_wp2_with fail
      refine boxes3c fun W hB hs b0 b1 b2 => ?_
      have z1 := h1.ext (hx.below hB)
      have z2 := h2.ext (hx.below hB)
      have HC := hc W W (Ext.refl _) p1 p2 k1 k2 c1 c2 _ _ z1 z2
      refine HC.mono ?_
      rintro e w' ⟨x, ⟨rfl, j, rfl⟩, hc1, hc2⟩
      have hc0 : x < 0 := hc1.2 hl
      clear h1 h2 hx hc HC hc1 hc2
      have x1 : Ext W (W.drewN j) := (Ext.refl _).below (below_drewN (Below.refl _ _) j)
      replace z1 := z1.ext x1
      replace z2 := z2.ext x1
      replace hB := below_drewN hB j
      have b0 : Box (W.drewN j) _ _ _ := ⟨b0.blk⟩
      have b1 : Box (W.drewN j) _ _ _ := ⟨b1.blk⟩
      have b2 : Box (W.drewN j) _ _ _ := ⟨b2.blk⟩
      generalize W.drewN j = W at z1 z2 hB b0 b1 b2 ⊢
      have c0 := b0.cell
      have c1' := b1.cell
      have l0 := b0.lt
      have l1 := b1.lt
      have r0 : w.heap.size ≠ w.heap.size + 1 + 1 := by omega
      have r1 : w.heap.size + 1 ≠ w.heap.size + 1 + 1 := by omega
      have K0 := KeepBut.refl (w.heap.size + 1 + 1) W
      go_wp2_with fail
      go_region_held3 (fun w' => (∀ b o, b < W.heap.size → b ≠ (w.heap.size + 1 + 1) → w'.cell? ⟨b, o, none⟩ = W.cell? ⟨b, o, none⟩) ∧ KeepBut (w.heap.size + 1 + 1) W.heap.size W w') ((refine KeepBut.S ?_; first | exact K0.drew | (repeat' (first | exact And.right ‹_› | exact KeepBut.call (And.right ‹_›) ‹_› | refine KeepBut.set ?_ _ _ | refine KeepBut.alloc ?_ _)))) (first | (go_at_call 166; refine (minus_sz m m _ W (KeepBut.ext (And.right ‹_›) b2 (by decide)) _ _ _ _ _ _ _ _ z2 z1 hm (Int.le_of_lt hl)).mono ?_; rintro e w' ⟨p, n, c, rfl, hv, hb⟩; have b2' := b2.drew.below hb; have k1 := b2'.cell; have f1 := b2'.frozen))
      go_wp2
      have b3 := ((b2'.set 0 (.bool !s1)).set 1 (.slice p n c)).cell
      refine bodyPost_ret (v := .agg #[.bool !s1, .slice p n c]) (by simp [results, Tryz.results122, go_sem, b3]) rfl ⟨!s1, p, n, c, rfl, e1, ?_, ?_⟩
      · rw [e2.out]
        exact (hv.ext (((Ext.refl _).set b2' (by decide) _ _).set (b2'.set _ _) (by decide) _ _)).mono (by omega)
      · exact KeepBut.below (And.right ‹_›) hB (by omega) hB.size
    · obtain ⟨e1, e2⟩ := g1.add_more g2 hl
      replace e2 := Lib.hid e2
      clear g1 g2 hs12
      go_enter Tryz.func122, Tryz.ntmps122
      go_wp2_with fail
      refine boxes3c fun W hB hs b0 b1 b2 => ?_
      have z1 := h1.ext (hx.below hB)
      have z2 := h2.ext (hx.below hB)
      have HC := hc W W (Ext.refl _) p1 p2 k1 k2 c1 c2 _ _ z1 z2
      refine HC.mono ?_
      rintro e w' ⟨x, ⟨rfl, j, rfl⟩, hc1, hc2⟩
      have hc0 : ¬ x < 0 := fun h => by have := hc1.1 h; omega
      clear h1 h2 hx hc HC hc1 hc2
      have x1 : Ext W (W.drewN j) := (Ext.refl _).below (below_drewN (Below.refl _ _) j)
      replace z1 := z1.ext x1
      replace z2 := z2.ext x1
      replace hB := below_drewN hB j
      have b0 : Box (W.drewN j) _ _ _ := ⟨b0.blk⟩
      have b1 : Box (W.drewN j) _ _ _ := ⟨b1.blk⟩
      have b2 : Box (W.drewN j) _ _ _ := ⟨b2.blk⟩
      generalize W.drewN j = W at z1 z2 hB b0 b1 b2 ⊢
      have c0 := b0.cell
      have c1' := b1.cell
      have l0 := b0.lt
      have l1 := b1.lt
      have r0 : w.heap.size ≠ w.heap.size + 1 + 1 := by omega
      have r1 : w.heap.size + 1 ≠ w.heap.size + 1 + 1 := by omega
      have K0 := KeepBut.refl (w.heap.size + 1 + 1) W
      go_wp2_with fail
      go_region_held3 (fun w' => (∀ b o, b < W.heap.size → b ≠ (w.heap.size + 1 + 1) → w'.cell? ⟨b, o, none⟩ = W.cell? ⟨b, o, none⟩) ∧ KeepBut (w.heap.size + 1 + 1) W.heap.size W w') ((refine KeepBut.S ?_; first | exact K0.drew | (repeat' (first | exact And.right ‹_› | exact KeepBut.call (And.right ‹_›) ‹_› | refine KeepBut.set ?_ _ _ | refine KeepBut.alloc ?_ _)))) (first | (go_at_call 166; refine (minus_sz m m _ W (KeepBut.ext (And.right ‹_›) b2 (by decide)) _ _ _ _ _ _ _ _ z1 z2 hm hl).mono ?_; rintro e w' ⟨p, n, c, rfl, hv, hb⟩; have b2' := b2.drew.below hb; have k1 := b2'.cell; have f1 := b2'.frozen))
      go_wp2
      have b3 := ((b2'.set 0 (.bool s1)).set 1 (.slice p n c)).cell
      refine bodyPost_ret (v := .agg #[.bool s1, .slice p n c]) (by simp [results, Tryz.results122, go_sem, b3]) rfl ⟨s1, p, n, c, rfl, e1, ?_, ?_⟩
      · rw [e2.out]
        exact (hv.ext (((Ext.refl _).set b2' (by decide) _ _).set (b2'.set _ _) (by decide) _ _)).mono (by omega)
      · exact KeepBut.below (And.right ‹_›) hB (by omega) hB.size
end Go.Proofs.YtepodcocemmejaaGreatDoor
namespace Go.Mono
theorem gcdZ_den (a b : Rat) : gcdZ (a.den : Int) (b.den : Int) = ((a.den.gcd b.den : Nat) : Int) := by simp [gcdZ]
theorem den_gcd_pos (a b : Rat) : 0 < ((a.den.gcd b.den : Nat) : Int) := by
  have := Nat.gcd_pos_of_pos_left b.den (Nat.pos_of_ne_zero a.den_nz); omega
end Go.Mono
namespace Go.Proofs.YtepodcocemmejaaGreatDoor
open Go.RowKit Go.Mono
set_option maxRecDepth 100000 in
set_option maxHeartbeats 2000000 in
theorem sum_sz (s1 s2 : Bool) (p1 q1 p2 q2 : Option Addr) (k1 c1 l1 e1 k2 c2 l2 e2 m : Nat) (a b : Rat) (w wf : World) (hx : Ext wf w)
    (g1 : Sg s1 a.num) (g2 : Sg s2 b.num) (z1 : Sz m wf (.slice p1 k1 c1) a.num.natAbs) (y1 : Sz m wf (.slice q1 l1 e1) a.den) (z2 : Sz m wf (.slice p2 k2 c2) b.num.natAbs) (y2 : Sz m wf (.slice q2 l2 e2) b.den) (hm : m ≤ 100000) :
    Calls Tryz.prog 73 #[.agg #[.bool s1, .slice p1 k1 c1, .slice q1 l1 e1], .agg #[.bool s2, .slice p2 k2 c2, .slice q2 l2 e2]] w fun e w' => ∃ s p n c q l d, e = .returned (.agg #[.bool s, .slice p n c, .slice q l d]) ∧ Sg s (a + b).num ∧ Sz (3 * m + 1) w' (.slice p n c) (a + b).num.natAbs ∧ Sz (3 * m + 1) w' (.slice q l d) (a + b).den ∧ Below w.heap.size w w' := by
  replace z1 := z1.ext hx
  replace z2 := z2.ext hx
  replace y1 := y1.ext hx
  replace y2 := y2.ext hx
  have hG := den_gcd_pos a b
  have hGe := gcdZ_den a b
  clear hx
  go_enter Tryz.func73, Tryz.ntmps73
  go_wp2_with fail
  refine boxes3c fun W hB hs b0 b1 b2 => ?_
  have x0 := Ext.of_below hB
  refine (common_sz m W w x0 q1 q2 l1 l2 e1 e2 _ _ y1 y2 (by omega)).mono ?_
  rintro e W1 ⟨pg, kg, cg, rfl, zg, hb⟩
  rw [hGe] at zg
  have x1 := x0.below hb
  replace hB := belowCall hB hb
  replace z1 := z1.ext x0
  replace z2 := z2.ext x0
  replace y1 := y1.ext x0
  replace y2 := y2.ext x0
  replace z1 := z1.ext (.of_below hb)
  replace z2 := z2.ext (.of_below hb)
  replace y1 := y1.ext (.of_below hb)
  replace y2 := y2.ext (.of_below hb)
  replace b0 := b0.below hb
  try clear cb0 lb0 fb0
  have cb0 := b0.cell
  have lb0 := b0.lt
  have fb0 := b0.frozen
  replace b1 := b1.below hb
  try clear cb1 lb1 fb1
  have cb1 := b1.cell
  have lb1 := b1.lt
  have fb1 := b1.frozen
  replace b2 := b2.below hb
  try clear cb2 lb2 fb2
  have cb2 := b2.cell
  have lb2 := b2.lt
  have fb2 := b2.frozen
  clear x0 x1 hb hGe
  go_wp2_with fail
  go_region_held3 (fun w' => (∀ b o, b < W1.heap.size → w'.cell? ⟨b, o, none⟩ = W1.cell? ⟨b, o, none⟩) ∧ Below W1.heap.size W1 w') ((refine belowS ?_; first | exact (Below.refl _ _).drew | (repeat' (first | exact And.right ‹_› | exact belowCall (And.right ‹_›) ‹_› | exact belowAlloc (And.right ‹_›) _ | exact belowAlloc ‹_› _ | refine belowSet ?_ (by omega) _ _)))) (first | (go_at_call 120; (with_reducible refine (without_sz m _ W1 (.of_below (And.right ‹_›)) q1 pg l1 kg e1 cg _ _ y1 zg hG (by omega)).mono ?_); rintro e W2 ⟨px, kx, cx, rfl, zx, hb2⟩) | (go_at_call 120; (with_reducible refine (without_sz m _ W1 (.of_below (And.right ‹_›)) q2 pg l2 kg e2 cg _ _ y2 zg hG (by omega)).mono ?_); rintro e W3 ⟨py, ky, cy, rfl, zy, hb3⟩; replace zx := zx.ext (.of_below hb3)))
  have hb : Below W1.heap.size W1 W3 := And.right ‹_›
  replace hB := belowCall hB hb
  replace z1 := z1.ext (.of_below hb)
  replace z2 := z2.ext (.of_below hb)
  replace y1 := y1.ext (.of_below hb)
  replace y2 := y2.ext (.of_below hb)
  replace zg := zg.ext (.of_below hb)
  replace b0 := b0.below hb
  try clear cb0 lb0 fb0
  have cb0 := b0.cell
  have lb0 := b0.lt
  have fb0 := b0.frozen
  replace b1 := b1.below hb
  try clear cb1 lb1 fb1
  have cb1 := b1.cell
  have lb1 := b1.lt
  have fb1 := b1.frozen
  replace b2 := b2.below hb
  try clear cb2 lb2 fb2
  have cb2 := b2.cell
  have lb2 := b2.lt
  have fb2 := b2.frozen
  clear hb hb2 hb3
  have Y0 : 0 ≤ (b.den : Int) / ((a.den.gcd b.den : Nat) : Int) := Int.ediv_nonneg (by omega) (by omega)
  have X0 : 0 ≤ (a.den : Int) / ((a.den.gcd b.den : Nat) : Int) := Int.ediv_nonneg (by omega) (by omega)
  have E4 := natAbs_mul_pos (z := a.num) Y0
  have E5 := natAbs_mul_pos (z := b.num) X0
  have G1 := g1.mul Y0
  have G2 := g2.mul X0
  replace E4 := Lib.hid E4
  replace E5 := Lib.hid E5
  go_wp2_with fail
  go_cut [8] (fun s8 wx => ∃ B3 s p n c, s8 = .pointer (some ⟨B3, 0, none⟩) ∧ Box wx B3 134 #[.bool s, .slice p n c] ∧ W3.heap.size ≤ B3 ∧ Below W3.heap.size W3 wx ∧ Sg s (a.num * (((b.den : Int) / (a.den.gcd b.den : Nat))) + b.num * ((a.den : Int) / (a.den.gcd b.den : Nat))) ∧ Sz (2 * m + 1) wx (.slice p n c) (a.num * (((b.den : Int) / (a.den.gcd b.den : Nat))) + b.num * ((a.den : Int) / (a.den.gcd b.den : Nat))).natAbs)
  case first =>
    go_region_held3 (fun w' => (∀ b o, b < W3.heap.size → w'.cell? ⟨b, o, none⟩ = W3.cell? ⟨b, o, none⟩) ∧ Below W3.heap.size W3 w') ((refine belowS ?_; first | exact (Below.refl _ _).drew | (repeat' (first | exact And.right ‹_› | exact belowCall (And.right ‹_›) ‹_› | exact belowAlloc (And.right ‹_›) _ | exact belowAlloc ‹_› _ | refine belowSet ?_ (by omega) _ _)))) (first | (go_at_call 121; (with_reducible refine (wtimes_sz s1 p1 py k1 c1 ky cy m m _ _ _ W3 (.of_below (And.right ‹_›)) z1 zy (by omega) (by omega)).mono ?_); rintro e W4 ⟨p4, k4, c4, rfl, z4, hb4⟩; (have hzhb4 := belowCall (And.right ‹_›) hb4); (have hshb4 := hzhb4.size); (first | (replace bn := bn.below hb4; clear cbn fbn lbn; have cbn := bn.cell; have fbn := bn.frozen; have lbn := bn.lt) | (have bn := (Box.new _ 134 _).below hb4; have cbn := bn.cell; have fbn := bn.frozen; have lbn := bn.lt) | (have bn := (Box.new _ 134 _).drew.below hb4; have cbn := bn.cell; have fbn := bn.frozen; have lbn := bn.lt) | skip)) | (go_at_call 121; (with_reducible refine (wtimes_sz s2 p2 px k2 c2 kx cx m m _ _ _ W3 (.of_below (And.right ‹_›)) z2 zx (by omega) (by omega)).mono ?_); rintro e W5 ⟨p5, k5, c5, rfl, z5, hb5⟩; (have hzhb5 := belowCall (And.right ‹_›) hb5); (have hshb5 := hzhb5.size); (first | (replace bn := bn.below hb5; clear cbn fbn lbn; have cbn := bn.cell; have fbn := bn.frozen; have lbn := bn.lt) | (have bn := (Box.new _ 134 _).below hb5; have cbn := bn.cell; have fbn := bn.frozen; have lbn := bn.lt) | (have bn := (Box.new _ 134 _).drew.below hb5; have cbn := bn.cell; have fbn := bn.frozen; have lbn := bn.lt) | skip); replace z4 := z4.ext (by first | exact .of_below hb5 | exact ((Ext.refl _).alloc _).below hb5 | exact ((Ext.refl _).alloc _).drew.below hb5); rw [← E4.out] at z4; rw [← E5.out] at z5) | (go_at_call 122; refine (wplus_sz s1 s2 p4 p5 k4 c4 k5 c5 (m + m) _ _ _ W5 (by first | exact Ext.refl _ | exact (Ext.refl _).alloc _) z4 z5 G1 G2 (by omega)).mono ?_; rintro e W6 ⟨s6, p6, k6, c6, rfl, g6, z6, hb6⟩; (have hzhb6 := belowCall (And.right ‹_›) hb6); (have hshb6 := hzhb6.size); (first | (replace bn := bn.below hb6; clear cbn fbn lbn; have cbn := bn.cell; have fbn := bn.frozen; have lbn := bn.lt) | (have bn := (Box.new _ 134 _).below hb6; have cbn := bn.cell; have fbn := bn.frozen; have lbn := bn.lt) | (have bn := (Box.new _ 134 _).drew.below hb6; have cbn := bn.cell; have fbn := bn.frozen; have lbn := bn.lt) | skip)))
    all_goals
      go_wp2_with fail
      go_meet
      exact ⟨_, s6, p6, k6, c6, rfl, (by first | exact Box.new _ _ _ | exact (bn.set 0 _).set 1 _), (by omega), And.right ‹_›, g6, (by first | exact (z6.ext ((Ext.refl _).alloc _)).mono (by omega) | exact (z6.ext (((Ext.refl _).set bn (by decide) _ _).set (bn.set _ _) (by decide) _ _)).mono (by omega))⟩
  case rest =>
    obtain ⟨B3, s3, p3, k3, c3, rfl, b3, hB3, hb, gs, zn⟩ := hcut
    have lr3 : w.heap.size + 1 + 1 < W3.heap.size := lb2
    replace hB := belowCall hB hb
    replace zg := zg.ext (.of_below hb)
    replace zx := zx.ext (.of_below hb)
    replace y2 := y2.ext (.of_below hb)
    replace b0 := b0.below hb
    try clear cb0 lb0 fb0
    have cb0 := b0.cell
    have lb0 := b0.lt
    have fb0 := b0.frozen
    replace b1 := b1.below hb
    try clear cb1 lb1 fb1
    have cb1 := b1.cell
    have lb1 := b1.lt
    have fb1 := b1.frozen
    replace b2 := b2.below hb
    try clear cb2 lb2 fb2
    have cb2 := b2.cell
    have lb2 := b2.lt
    have fb2 := b2.frozen
    have cb3 := b3.cell
    have lb3 := b3.lt
    have fb3 := b3.frozen
    generalize hn : a.num * (((b.den : Int) / (a.den.gcd b.den : Nat))) + b.num * ((a.den : Int) / (a.den.gcd b.den : Nat)) = n at gs zn
    clear hb z1 z2 y1 zy E4 E5 G1 G2 X0 Y0
    go_wp2_with fail
    obtain ⟨N1, N2, N3, N4⟩ := rat_sum a b n hn
    have hge2 : gcdZ (n.natAbs : Int) ((a.den.gcd b.den : Nat) : Int) = ((n.natAbs.gcd (a.den.gcd b.den) : Nat) : Int) := by simp [gcdZ]
    have gs' := gs.div N4
    rw [← N1] at gs'
    replace N2 := Lib.hid N2
    replace N3 := Lib.hid N3
    refine (common_sz (2 * m + 1) _ _ (Ext.refl _) p3 pg k3 kg c3 cg _ _ zn (zg.mono (by omega)) (by omega)).mono ?_
    rintro e W7 ⟨ph, kh, ch, rfl, zh, hb⟩
    rw [hge2] at zh
    replace hB := belowCall hB hb
    replace zx := zx.ext (.of_below hb)
    replace y2 := y2.ext (.of_below hb)
    replace zn := zn.ext (.of_below hb)
    replace b0 := b0.below hb
    try clear cb0 lb0 fb0
    have cb0 := b0.cell
    have lb0 := b0.lt
    have fb0 := b0.frozen
    replace b1 := b1.below hb
    try clear cb1 lb1 fb1
    have cb1 := b1.cell
    have lb1 := b1.lt
    have fb1 := b1.frozen
    replace b2 := b2.below hb
    try clear cb2 lb2 fb2
    have cb2 := b2.cell
    have lb2 := b2.lt
    have fb2 := b2.frozen
    replace b3 := b3.below hb
    try clear cb3 lb3 fb3
    have cb3 := b3.cell
    have lb3 := b3.lt
    have fb3 := b3.frozen
    have lR : w.heap.size ≤ w.heap.size + 1 + 1 := by omega
    have nR0 : w.heap.size ≠ w.heap.size + 1 + 1 := by omega
    have nR1 : w.heap.size + 1 ≠ w.heap.size + 1 + 1 := by omega
    have nR3 : B3 ≠ w.heap.size + 1 + 1 := by omega
    have K0 := KeepBut.refl (w.heap.size + 1 + 1) W7
    generalize ((n.natAbs.gcd (a.den.gcd b.den) : Nat) : Int) = H at *
    generalize (a.den : Int) / ((a.den.gcd b.den : Nat) : Int) = X at *
    clear hb hge2 hn N1 gs zg
    go_wp2_with fail
    go_region_held3 (fun w' => (∀ b o, b < W7.heap.size → b ≠ (w.heap.size + 1 + 1) → w'.cell? ⟨b, o, none⟩ = W7.cell? ⟨b, o, none⟩) ∧ KeepBut (w.heap.size + 1 + 1) W7.heap.size W7 w') ((refine KeepBut.S ?_; first | exact K0.drew | (repeat' (first | exact And.right ‹_› | exact KeepBut.call (And.right ‹_›) ‹_› | refine KeepBut.set ?_ _ _ | refine KeepBut.alloc ?_ _)))) (first | (go_at_call 120; (with_reducible refine (without_sz (2 * m + 1) _ W7 (KeepBut.ext (And.right ‹_›) b2 (by decide)) p3 ph k3 kh c3 ch _ _ zn zh N4 (by omega)).mono ?_); rintro e W8 ⟨p8, k8, c8, rfl, z8, hb8⟩; have b28 := b2.drew.below hb8; have cb28 := b28.cell; have fb28 := b28.frozen) | (go_at_call 120; (with_reducible refine (without_sz (2 * m + 1) _ W7 (KeepBut.ext (And.right ‹_›) b2 (by decide)) q2 ph l2 kh e2 ch _ _ (y2.mono (by omega)) zh N4 (by omega)).mono ?_); rintro e W9 ⟨p9, k9, c9, rfl, z9, hb9⟩; replace z8 := z8.ext (.of_below hb9); have b29 := b28.below hb9; have cb29 := b29.cell; have fb29 := b29.frozen) | (go_at_call 118; refine (times_sz m (2 * m + 1) _ W9 (Ext.refl _) px p9 kx k9 cx c9 _ _ (zx.ext (KeepBut.ext (And.right ‹_›) b2 (by decide))) z9 (by omega) (by omega)).mono ?_; rintro e W10 ⟨p10, k10, c10, rfl, z10, hb10⟩; replace z8 := z8.ext (.of_below hb10); have b20 := b29.below hb10; have cb20 := b20.cell; have fb20 := b20.frozen))
    go_wp2
    have b3' := (((b20.set 0 (.bool s3)).set 1 (.slice p8 k8 c8)).set 2 (.slice p10 k10 c10)).cell
    have xE : Ext W10 _ := ((((Ext.refl W10).set b20 (by decide) 0 (.bool s3)).set (b20.set 0 (.bool s3)) (by decide) 1 (.slice p8 k8 c8))).set ((b20.set 0 (.bool s3)).set 1 (.slice p8 k8 c8)) (by decide) 2 (.slice p10 k10 c10)
    refine bodyPost_ret (v := .agg #[.bool s3, .slice p8 k8 c8, .slice p10 k10 c10]) (by simp [results, Tryz.results73, go_sem, b3']) rfl ⟨s3, _, _, _, _, _, _, rfl, gs', ?_, ?_, ?_⟩
    · rw [N2.out]; exact (z8.ext xE).mono (by omega)
    · rw [N3.out]; exact (z10.ext xE).mono (by omega)
    · exact KeepBut.below (And.right ‹_›) hB lR hB.size
end Go.Proofs.YtepodcocemmejaaGreatDoor
