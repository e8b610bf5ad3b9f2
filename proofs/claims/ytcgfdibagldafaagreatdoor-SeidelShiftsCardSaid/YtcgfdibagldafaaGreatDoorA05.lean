/- Contracts of the program's fractions, lenses and rays, and a verified evaluator of the model. Part 5 of 30. No condition beside the row. -/
import Derived.Test.YtcgfdibagldafaaGreatDoorA01
import Derived.Test.YtcgfdibagldafaaGreatDoorA04
set_option linter.unusedVariables false
set_option linter.unusedSimpArgs false
set_option maxRecDepth 100000
set_option maxHeartbeats 4000000
namespace Go.Mono
open Go.RowKit
theorem SlF.unique {w : World} {v : Value} {n m : Nat} {f g : Nat → Int} (h : SlF w v n f) (k : SlF w v m g) : n = m ∧ ∀ i, i < n → f i = g i := by
 rcases h with ⟨rfl, rfl⟩ | ⟨b, off, cap, cs, fr, rfl, _, _, hh, hi⟩
 ·rcases k with ⟨_, rfl⟩ | ⟨b, off, cap, cs, fr, hv, _⟩
  ·exact ⟨rfl, fun i hi => by omega⟩
  ·simp at hv
 ·rcases k with ⟨hv, _⟩ | ⟨b', off', cap', cs', fr', hv, _, _, hh', hi'⟩
  ·simp at hv
  ·simp only [Value.slice.injEq, Option.some.injEq, Addr.mk.injEq] at hv
   obtain ⟨⟨rfl, rfl, _⟩, rfl, _⟩ := hv
   rw [hh] at hh'
   simp at hh'
   obtain ⟨rfl, _⟩ := hh'
   refine ⟨rfl, fun i h => ?_⟩
   have := (hi i h).symm.trans (hi' i h)
   simpa using this
theorem Sz.unique {m m' : Nat} {w : World} {v : Value} {N M : Int} (h : Sz m w v N) (k : Sz m' w v M) : N = M := by
 obtain ⟨n, f, s1, _, rfl, _⟩ := h
 obtain ⟨n', g, s2, _, rfl, _⟩ := k
 obtain ⟨rfl, e⟩ := s1.unique s2
 exact vf_congr e
noncomputable def szVal (w : World) (v : Value) : Int := Classical.epsilon fun N => ∃ m, Sz m w v N
theorem Sz.szVal {m : Nat} {w : World} {v : Value} {N : Int} (h : Sz m w v N) : Mono.szVal w v = N := by
 obtain ⟨m', h'⟩ := Classical.epsilon_spec (p := fun N => ∃ m, Sz m w v N) ⟨N, m, h⟩
 exact h'.unique h
theorem Sz.zero (m : Nat) (w : World) : Sz m w (.slice none 0 0) 0 := ⟨0, fun _ => 0, .inl ⟨rfl, rfl⟩, ⟨fun i hi => by omega, fun i hi => by omega, fun h => by omega⟩, rfl, Nat.zero_le _⟩
theorem Sz.len_pos {m : Nat} {w : World} {p : Option Addr} {n c : Nat} {N : Int} (h : Sz m w (.slice p n c) N) : 0 < N ↔ 0 < n := by
 obtain ⟨n, f, s1, d, rfl, l, rfl⟩ := h.sl
 exact d.pos
def gcdZ (N M : Int) : Int := (Nat.gcd N.toNat M.toNat : Nat)
theorem gcdZ_zero {N : Int} (h : 0 ≤ N) : gcdZ N 0 = N := by simp [gcdZ]; omega
theorem gcdZ_step {N M : Int} (h : 0 ≤ N) (hM : 0 < M) : gcdZ M (N % M) = gcdZ N M := by
 obtain ⟨n, rfl⟩ := Int.eq_ofNat_of_zero_le h
 obtain ⟨m, rfl⟩ := Int.eq_ofNat_of_zero_le (Int.le_of_lt hM)
 unfold gcdZ
 have e : ((n : Int) % (m : Int)).toNat = n % m := by rw [← Int.natCast_emod, Int.toNat_natCast]
 rw [e, Int.toNat_natCast, Int.toNat_natCast, Nat.gcd_comm n m, Nat.gcd_rec m n, Nat.gcd_comm]
end Go.Mono
namespace Go.Proofs.YtcgfdibagldafaaGreatDoor
open Go.RowKit Go.Mono
theorem over_sz (m0 : Nat) (w wf : World) (hx : Ext wf w) (p q : Option Addr) (n m c1 c2 : Nat) (N M : Int) (h1 : Sz m0 wf (.slice p n c1) N) (h2 : Sz m0 wf (.slice q m c2) M) (hM : 0 < M) (hm0 : m0 ≤ 1000000) :
  Calls Tryz.prog 164 #[.slice p n c1, .slice q m c2] w fun e w' => ∃ p1 k1 c1 p2 k2 c2, e = .returned (.tuple #[.slice p1 k1 c1, .slice p2 k2 c2]) ∧ Sz m0 w' (.slice p1 k1 c1) (N / M) ∧ Sz m0 w' (.slice p2 k2 c2) (N % M) ∧ Below w.heap.size w w' := by
 have hN := h1.nonneg
 rcases Int.lt_or_le N M with hlt | hle
 ·refine (over_less m0 m0 w wf hx p q n m c1 c2 N M h1 h2 hlt).mono ?_
  rintro e w' ⟨rfl, k, rfl⟩
  refine ⟨_, _, _, _, _, _, rfl, ?_, ?_, below_drewN (Below.refl _ _) k⟩
  ·rw [Int.ediv_eq_zero_of_lt hN hlt]; exact Sz.zero _ _
  ·rw [Int.emod_eq_of_lt hN hlt]; exact h1.ext (hx.below (below_drewN (Below.refl _ _) k))
 ·obtain ⟨n', f, s1, d1, rfl, l1, rfl⟩ := (h1.ext hx).sl
  obtain ⟨m', g, s2, d2, rfl, l2, rfl⟩ := (h2.ext hx).sl
  have hml := d2.len_le d1 hle
  have hm0' := d2.pos.1 hM
  by_cases hm1 : m' = 1
  ·subst hm1
   refine (over_one m0 w w (Ext.refl _) p q n' c1 c2 _ _ ⟨n', f, s1, d1, rfl, l1⟩ ⟨1, g, s2, d2, rfl, Nat.le_refl _⟩ hM hle hm0).mono ?_
   rintro e w' ⟨p1, k1, c3, p2, k2, c4, rfl, z1, z2, hb⟩
   exact ⟨_, _, _, _, _, _, rfl, z1, z2.mono (by omega), hb⟩
  ·obtain ⟨m, rfl⟩ : ∃ m, m' = m + 2 := ⟨m' - 2, by omega⟩
   refine (over_many p q n' m c1 c2 f g w s1 s2 d1 d2 (by omega) hle).mono ?_
   rintro e w' ⟨p1, k1, c3, p2, k2, c4, rfl, z1, z2, hb⟩
   exact ⟨_, _, _, _, _, _, rfl, z1.mono l1, z2.mono l2, hb⟩
theorem common_sz (m0 : Nat) (w wf : World) (hx : Ext wf w) (p q : Option Addr) (n m c1 c2 : Nat) (N M : Int) (h1 : Sz m0 wf (.slice p n c1) N) (h2 : Sz m0 wf (.slice q m c2) M) (hm0 : m0 ≤ 1000000) :
  Calls Tryz.prog 103 #[.slice p n c1, .slice q m c2] w fun e w' => ∃ p k c, e = .returned (.slice p k c) ∧ Sz m0 w' (.slice p k c) (gcdZ N M) ∧ Below w.heap.size w w' := by
 replace h1 := h1.ext hx
 replace h2 := h2.ext hx
 go_enter Tryz.func103, Tryz.ntmps103
 go_wp2_with fail
 go_loopw [0, 1] (fun a b wr => ∃ p n c q m d A B, a = .slice p n c ∧ b = .slice q m d ∧ Sz m0 wr (.slice p n c) A ∧ Sz m0 wr (.slice q m d) B ∧ gcdZ A B = gcdZ N M ∧ Below w.heap.size w wr) (fun _ b wr => (szVal wr b).toNat)
 case atStart => exact ⟨_, _, _, _, _, _, _, _, rfl, rfl, h1, h2, rfl, Below.refl _ _⟩
 case round =>
  clear h1 h2 hx
  obtain ⟨p, n, c, q, m, d, A, B, rfl, rfl, h1, h2, hg, hb⟩ := hrel
  have hA := h1.nonneg
  have hv := h2.szVal
  have hl := h2.len_pos
  replace hg := Lib.hid hg
  replace hv := Lib.hid hv
  by_cases h0 : 0 < m
  ·have hB := hl.2 h0
   clear hl
   have ho := over_sz m0 wr wr (Ext.refl _) p q n m c d A B h1 h2 hB hm0
   go_wp2_with (go_at_call 164; refine ho.mono ?_; rintro e w' ⟨p1, k1, c3, p2, k2, c4, rfl, z1, z2, hb2⟩)
   go_roundw
   case rel => exact ⟨_, _, _, _, _, _, _, _, rfl, rfl, h2.ext (.of_below hb2), z2, (gcdZ_step hA hB).trans hg.out, below_call hb hb2⟩
   case measure =>
    rw [z2.szVal, hv.out]
    have := Int.emod_lt_of_pos A hB
    have := Int.emod_nonneg A (show B ≠ 0 by omega)
    omega
  ·have hB : B = 0 := by have := h2.nonneg; omega
   obtain rfl : m = 0 := by omega
   replace hB := Lib.hid hB
   clear hl
   go_wp2
   go_ret
   refine ⟨_, _, _, rfl, ?_, hb⟩
   rw [← hg.out, hB.out, gcdZ_zero hA]
   exact h1
theorem without_sz (m0 : Nat) (w wf : World) (hx : Ext wf w) (p q : Option Addr) (n m c1 c2 : Nat) (N M : Int) (h1 : Sz m0 wf (.slice p n c1) N) (h2 : Sz m0 wf (.slice q m c2) M) (hM : 0 < M) (hm0 : m0 ≤ 1000000) :
  Calls Tryz.prog 104 #[.slice p n c1, .slice q m c2] w fun e w' => ∃ p1 k1 c1, e = .returned (.slice p1 k1 c1) ∧ Sz m0 w' (.slice p1 k1 c1) (N / M) ∧ Below w.heap.size w w' := by
 have ho := over_sz m0 w wf hx p q n m c1 c2 N M h1 h2 hM hm0
 go_enter Tryz.func104, Tryz.ntmps104
 go_wp2_with (go_at_call 164; refine ho.mono ?_; rintro e w' ⟨p1, k1, c3, p2, k2, c4, rfl, z1, z2, hb2⟩)
 go_ret
 exact ⟨_, _, _, rfl, z1, hb2⟩
theorem wtimes_sz (neg : Bool) (p1 p2 : Option Addr) (k1 c1 k2 c2 m1 m2 : Nat) (n1 n2 : Int) (w wf : World) (hx : Ext wf w) (h1 : Sz m1 wf (.slice p1 k1 c1) n1) (h2 : Sz m2 wf (.slice p2 k2 c2) n2) (hm1 : m1 ≤ 1000000) (hm2 : m2 ≤ 1000000) :
  Calls Tryz.prog 105 #[.agg #[.bool neg, .slice p1 k1 c1], .slice p2 k2 c2] w fun e w' => ∃ p n c, e = .returned (.agg #[.bool neg, .slice p n c]) ∧ Sz (m1 + m2) w' (.slice p n c) (n1 * n2) ∧ Below w.heap.size w w' := by
 go_enter Tryz.func105, Tryz.ntmps105
 go_wp2
 refine boxes2 fun W hB hs b0 b1 => ?_
 have z1 := h1.ext (hx.below hB)
 have z2 := h2.ext (hx.below hB)
 have c0 := b0.cell
 have l0 := b0.lt
 have K0 := KeepBut.refl (w.heap.size + 1) W
 clear h1 h2 hx
 go_region_held3 (fun w' => (∀ b o, b < W.heap.size → b ≠ w.heap.size + 1 → w'.cell? ⟨b, o, none⟩ = W.cell? ⟨b, o, none⟩) ∧ KeepBut (w.heap.size + 1) W.heap.size W w') ((refine KeepBut.S ?_; first | exact K0.drew | (repeat' (first | exact And.right ‹_› | exact KeepBut.call (And.right ‹_›) ‹_› | refine KeepBut.set ?_ _ _)))) (first | (go_at_call 102; refine (times_sz m1 m2 _ W (KeepBut.ext (And.right ‹_›) b1 (by decide)) _ _ _ _ _ _ n1 n2 z1 z2 hm1 hm2).mono ?_; rintro e w' ⟨p, n, c, rfl, hv, hb⟩; have b1' := b1.drew.below hb; have k1 := b1'.cell; have f1 := b1'.frozen))
 go_wp2
 have b2 := ((b1'.set 0 (.bool neg)).set 1 (.slice p n c)).cell
 refine bodyPost_ret (v := .agg #[.bool neg, .slice p n c]) (by simp [results, Tryz.results105, go_sem, b2]) rfl ⟨p, n, c, rfl, ?_, ?_⟩
 ·exact hv.ext (((Ext.refl _).set b1' (by decide) _ _).set (b1'.set _ _) (by decide) _ _)
 ·exact KeepBut.below (And.right ‹_›) hB (by omega) hB.size
end Go.Proofs.YtcgfdibagldafaaGreatDoor
namespace Go.Mono
theorem Sg.add_same {s : Bool} {a b : Int} (h : Sg s a) (k : Sg s b) : Sg s (a + b) ∧ (a + b).natAbs = a.natAbs + b.natAbs := by
 cases s
 ·have := h.2 rfl; have := k.2 rfl
  exact ⟨⟨fun h => by simp at h, fun _ => by omega⟩, by omega⟩
 ·have := h.1 rfl; have := k.1 rfl
  exact ⟨⟨fun _ => by omega, fun h => by simp at h⟩, by omega⟩
theorem Sg.add_less {s : Bool} {a b : Int} (h : Sg s a) (k : Sg (!s) b) (hl : (a.natAbs : Int) < b.natAbs) : Sg (!s) (a + b) ∧ ((a + b).natAbs : Int) = b.natAbs - a.natAbs := by
 cases s
 ·have := h.2 rfl; have := k.1 rfl
  exact ⟨⟨fun _ => by omega, fun h => by simp at h⟩, by omega⟩
 ·have := h.1 rfl; have := k.2 rfl
  exact ⟨⟨fun h => by simp at h, fun _ => by omega⟩, by omega⟩
theorem Sg.add_more {s : Bool} {a b : Int} (h : Sg s a) (k : Sg (!s) b) (hl : (b.natAbs : Int) ≤ a.natAbs) : Sg s (a + b) ∧ ((a + b).natAbs : Int) = a.natAbs - b.natAbs := by
 cases s
 ·have := h.2 rfl; have := k.1 rfl
  exact ⟨⟨fun h => by simp at h, fun _ => by omega⟩, by omega⟩
 ·have := h.1 rfl; have := k.2 rfl
  exact ⟨⟨fun _ => by omega, fun h => by simp at h⟩, by omega⟩
end Go.Mono
namespace Go.Proofs.YtcgfdibagldafaaGreatDoor
open Go.RowKit Go.Mono
theorem wplus_sz (s1 s2 : Bool) (p1 p2 : Option Addr) (k1 c1 k2 c2 m : Nat) (n1 n2 : Int) (w wf : World) (hx : Ext wf w) (h1 : Sz m wf (.slice p1 k1 c1) n1.natAbs) (h2 : Sz m wf (.slice p2 k2 c2) n2.natAbs) (g1 : Sg s1 n1) (g2 : Sg s2 n2) (hm : m ≤ 1000000) :
  Calls Tryz.prog 106 #[.agg #[.bool s1, .slice p1 k1 c1], .agg #[.bool s2, .slice p2 k2 c2]] w fun e w' => ∃ s p n c, e = .returned (.agg #[.bool s, .slice p n c]) ∧ Sg s (n1 + n2) ∧ Sz (m + 1) w' (.slice p n c) (n1 + n2).natAbs ∧ Below w.heap.size w w' := by
 by_cases hs12 : s1 = s2
 ·subst hs12
  obtain ⟨e1, e2⟩ := g1.add_same g2
  replace e2 := Lib.hid e2
  clear g1 g2
  go_enter Tryz.func106, Tryz.ntmps106
  go_wp2_with fail
  refine boxes3 fun W hB hs b0 b1 b2 => ?_
  have z1 := h1.ext (hx.below hB)
  have z2 := h2.ext (hx.below hB)
  have c0 := b0.cell
  have c1' := b1.cell
  have l0 := b0.lt
  have l1 := b1.lt
  have r0 : w.heap.size ≠ w.heap.size + 1 + 1 := by omega
  have r1 : w.heap.size + 1 ≠ w.heap.size + 1 + 1 := by omega
  have K0 := KeepBut.refl (w.heap.size + 1 + 1) W
  clear h1 h2 hx
  go_region_held3 (fun w' => (∀ b o, b < W.heap.size → b ≠ (w.heap.size + 1 + 1) → w'.cell? ⟨b, o, none⟩ = W.cell? ⟨b, o, none⟩) ∧ KeepBut (w.heap.size + 1 + 1) W.heap.size W w') ((refine KeepBut.S ?_; first | exact K0.drew | (repeat' (first | exact And.right ‹_› | exact KeepBut.call (And.right ‹_›) ‹_› | refine KeepBut.set ?_ _ _ | refine KeepBut.alloc ?_ _)))) (first | (go_at_call 165; refine (plus_sz m m _ W (KeepBut.ext (And.right ‹_›) b2 (by decide)) _ _ _ _ _ _ _ _ z1 z2 hm hm).mono ?_; rintro e w' ⟨p, n, c, rfl, hv, hb⟩; have b2' := b2.drew.below hb; have k1 := b2'.cell; have f1 := b2'.frozen))
  go_wp2
  have b3 := ((b2'.set 0 (.bool s1)).set 1 (.slice p n c)).cell
  refine bodyPost_ret (v := .agg #[.bool s1, .slice p n c]) (by simp [results, Tryz.results106, go_sem, b3]) rfl ⟨s1, p, n, c, rfl, e1, ?_, ?_⟩
  ·rw [e2.out]
   exact (hv.ext (((Ext.refl _).set b2' (by decide) _ _).set (b2'.set _ _) (by decide) _ _)).mono (by omega)
  ·exact KeepBut.below (And.right ‹_›) hB (by omega) hB.size
 ·obtain rfl : s2 = !s1 := by cases s1 <;> cases s2 <;> simp_all
  have hc := cmp_sz m m
  rcases Int.lt_or_le (n1.natAbs : Int) n2.natAbs with hl | hl
  ·obtain ⟨e1, e2⟩ := g1.add_less g2 hl
   replace e2 := Lib.hid e2
   clear g1 g2 hs12
   go_enter Tryz.func106, Tryz.ntmps106
   go_wp2_with fail
   refine boxes3c fun W hB hs b0 b1 b2 => ?_
   have z1 := h1.ext (hx.below hB)
   have z2 := h2.ext (hx.below hB)
   have HC := hc W W (Ext.refl _) p1 p2 k1 k2 c1 c2 _ _ z1 z2
   refine HC.mono ?_
   rintro e w' ⟨x, ⟨rfl, j, rfl⟩, hc1, hc2⟩
   have hc0 : x < 0 := hc1.2 hl
   clear h1 h2 hx hc HC hc1 hc2
   have x1 : Ext W (W.drewN j) := (Ext.refl _).below (below_drewN (Below.refl _ _) j)
   replace z1 := z1.ext x1
   replace z2 := z2.ext x1
   replace hB := below_drewN hB j
   have b0 : Box (W.drewN j) _ _ _ := ⟨b0.blk⟩
   have b1 : Box (W.drewN j) _ _ _ := ⟨b1.blk⟩
   have b2 : Box (W.drewN j) _ _ _ := ⟨b2.blk⟩
   generalize W.drewN j = W at z1 z2 hB b0 b1 b2 ⊢
   have c0 := b0.cell
   have c1' := b1.cell
   have l0 := b0.lt
   have l1 := b1.lt
   have r0 : w.heap.size ≠ w.heap.size + 1 + 1 := by omega
   have r1 : w.heap.size + 1 ≠ w.heap.size + 1 + 1 := by omega
   have K0 := KeepBut.refl (w.heap.size + 1 + 1) W
   go_wp2_with fail
   go_region_held3 (fun w' => (∀ b o, b < W.heap.size → b ≠ (w.heap.size + 1 + 1) → w'.cell? ⟨b, o, none⟩ = W.cell? ⟨b, o, none⟩) ∧ KeepBut (w.heap.size + 1 + 1) W.heap.size W w') ((refine KeepBut.S ?_; first | exact K0.drew | (repeat' (first | exact And.right ‹_› | exact KeepBut.call (And.right ‹_›) ‹_› | refine KeepBut.set ?_ _ _ | refine KeepBut.alloc ?_ _)))) (first | (go_at_call 166; refine (minus_sz m m _ W (KeepBut.ext (And.right ‹_›) b2 (by decide)) _ _ _ _ _ _ _ _ z2 z1 hm (Int.le_of_lt hl)).mono ?_; rintro e w' ⟨p, n, c, rfl, hv, hb⟩; have b2' := b2.drew.below hb; have k1 := b2'.cell; have f1 := b2'.frozen))
   go_wp2
   have b3 := ((b2'.set 0 (.bool !s1)).set 1 (.slice p n c)).cell
   refine bodyPost_ret (v := .agg #[.bool !s1, .slice p n c]) (by simp [results, Tryz.results106, go_sem, b3]) rfl ⟨!s1, p, n, c, rfl, e1, ?_, ?_⟩
   ·rw [e2.out]
    exact (hv.ext (((Ext.refl _).set b2' (by decide) _ _).set (b2'.set _ _) (by decide) _ _)).mono (by omega)
   ·exact KeepBut.below (And.right ‹_›) hB (by omega) hB.size
  ·obtain ⟨e1, e2⟩ := g1.add_more g2 hl
   replace e2 := Lib.hid e2
   clear g1 g2 hs12
   go_enter Tryz.func106, Tryz.ntmps106
   go_wp2_with fail
   refine boxes3c fun W hB hs b0 b1 b2 => ?_
   have z1 := h1.ext (hx.below hB)
   have z2 := h2.ext (hx.below hB)
   have HC := hc W W (Ext.refl _) p1 p2 k1 k2 c1 c2 _ _ z1 z2
   refine HC.mono ?_
   rintro e w' ⟨x, ⟨rfl, j, rfl⟩, hc1, hc2⟩
   have hc0 : ¬ x < 0 := fun h => by have := hc1.1 h; omega
   clear h1 h2 hx hc HC hc1 hc2
   have x1 : Ext W (W.drewN j) := (Ext.refl _).below (below_drewN (Below.refl _ _) j)
   replace z1 := z1.ext x1
   replace z2 := z2.ext x1
   replace hB := below_drewN hB j
   have b0 : Box (W.drewN j) _ _ _ := ⟨b0.blk⟩
   have b1 : Box (W.drewN j) _ _ _ := ⟨b1.blk⟩
   have b2 : Box (W.drewN j) _ _ _ := ⟨b2.blk⟩
   generalize W.drewN j = W at z1 z2 hB b0 b1 b2 ⊢
   have c0 := b0.cell
   have c1' := b1.cell
   have l0 := b0.lt
   have l1 := b1.lt
   have r0 : w.heap.size ≠ w.heap.size + 1 + 1 := by omega
   have r1 : w.heap.size + 1 ≠ w.heap.size + 1 + 1 := by omega
   have K0 := KeepBut.refl (w.heap.size + 1 + 1) W
   go_wp2_with fail
   go_region_held3 (fun w' => (∀ b o, b < W.heap.size → b ≠ (w.heap.size + 1 + 1) → w'.cell? ⟨b, o, none⟩ = W.cell? ⟨b, o, none⟩) ∧ KeepBut (w.heap.size + 1 + 1) W.heap.size W w') ((refine KeepBut.S ?_; first | exact K0.drew | (repeat' (first | exact And.right ‹_› | exact KeepBut.call (And.right ‹_›) ‹_› | refine KeepBut.set ?_ _ _ | refine KeepBut.alloc ?_ _)))) (first | (go_at_call 166; refine (minus_sz m m _ W (KeepBut.ext (And.right ‹_›) b2 (by decide)) _ _ _ _ _ _ _ _ z1 z2 hm hl).mono ?_; rintro e w' ⟨p, n, c, rfl, hv, hb⟩; have b2' := b2.drew.below hb; have k1 := b2'.cell; have f1 := b2'.frozen))
   go_wp2
   have b3 := ((b2'.set 0 (.bool s1)).set 1 (.slice p n c)).cell
   refine bodyPost_ret (v := .agg #[.bool s1, .slice p n c]) (by simp [results, Tryz.results106, go_sem, b3]) rfl ⟨s1, p, n, c, rfl, e1, ?_, ?_⟩
   ·rw [e2.out]
    exact (hv.ext (((Ext.refl _).set b2' (by decide) _ _).set (b2'.set _ _) (by decide) _ _)).mono (by omega)
   ·exact KeepBut.below (And.right ‹_›) hB (by omega) hB.size
end Go.Proofs.YtcgfdibagldafaaGreatDoor
