/- Contracts of the program's fractions, lenses and rays, and a verified evaluator of the model. Part 10 of 30. No condition beside the row. -/
import Derived.Test.YtcgfdibagldafaaGreatDoorA08
set_option linter.unusedVariables false
set_option linter.unusedSimpArgs false
set_option maxRecDepth 100000
set_option maxHeartbeats 4000000
namespace Go.Proofs.YtcgfdibagldafaaGreatDoor
open Go.RowKit Go.Mono
theorem one_sz (w : World) : Calls Tryz.prog 125 #[] w fun e w' => ∃ p k c, e = .returned (.slice p k c) ∧ Sz 1 w' (.slice p k c) 1 ∧ Below w.heap.size w w' := by
 go_enter Tryz.func125, Tryz.ntmps125
 go_wp2
 go_ret
 refine ⟨_, _, _, rfl, ?_, (Below.refl _ _).alloc (Nat.le_refl _) _⟩
 refine ⟨1, fun _ => 1, .inr ⟨_, _, _, #[.int .i64 1], (0, 0), rfl, by omega, by omega, ?_, ?_⟩, ⟨fun i hi => by omega, fun i hi => by omega, fun _ => by decide⟩, by decide, by omega⟩
 ·exact (Box.new w 3 #[.int .i64 1]).blk
 ·intro i hi
  obtain rfl : i = 0 := by omega
  rfl
theorem lcheck_ok (s : Bool) (p : Option Addr) (n c : Nat) (N : Int) (w wf : World) (hx : Ext wf w) (h : Sz 600 wf (.slice p n c) N) (hs : s = true → 0 < N) :
  Calls Tryz.prog 123 #[.agg #[.bool s, .slice p n c]] w fun e w' => e = .returned (.int .i64 0) ∧ Below w.heap.size w w' := by
 replace h := h.ext hx
 clear hx
 have hp := h.len_pos
 obtain ⟨n', f, h1, h2, h3, h4, rfl⟩ := h.sl
 obtain ⟨hc, hn, hcell⟩ := h1.opens
 clear h h1 h3
 by_cases h0 : 0 < n'
 ·obtain ⟨b, off, rfl, hb, hcell⟩ := hcell h0
  obtain ⟨k, rfl⟩ : ∃ k, n' = k + 1 := ⟨n' - 1, by omega⟩
  have ht := h2.top h0
  simp only [Nat.add_sub_cancel] at ht
  have ht' : (f k == 0) = false := by simpa using ht
  replace ht := Lib.hid ht
  go_enter Tryz.func123, Tryz.ntmps123
  go_wp2_with fail
  refine boxes1 fun W hB hs b0 => ?_
  replace hcell : ∀ i, i < k + 1 → W.cell? ⟨b, off + i, none⟩ = some (.int .i64 (f i)) := fun i hi => (hB.cell hb).trans (hcell i hi)
  have hlast := hcell k (by omega)
  have cb0 := b0.cell
  have lb0 := b0.lt
  have fb0 := b0.frozen
  go_wp2
  go_loopw [35] (fun a wr => ∃ i : Nat, i ≤ k + 1 ∧ a = .int .i64 (i : Int) ∧ wr = W) (fun a _ => (k + 1 - intOf a).toNat)
  case atStart => exact ⟨0, by omega, rfl, rfl⟩
  case round =>
   obtain ⟨i, hi, rfl, rfl⟩ := hrel
   by_cases hik : i < k + 1
   ·have a1 := hcell i hik
    have a2 := h2.lo i hik
    have a3 := h2.hi i hik
    clear hcell h2 hlast
    have a4 : ¬ (f i < 0) := by omega
    have a5 : ¬ (1000000000 ≤ f i) := by omega
    have hik' : (i : Int) < k + 1 := by omega
    go_wp2
    go_roundw
    case rel => refine ⟨i + 1, by omega, ?_⟩; simp
    case measure => simp [intOf]; omega
   ·obtain rfl : i = k + 1 := by omega
    go_wp2
    go_ret
    exact ⟨rfl, hB⟩
 ·obtain rfl : n' = 0 := by omega
  have hsf : s = false := by
   cases s
   ·rfl
   ·have := hp.1 (hs rfl); omega
  subst hsf
  go_enter Tryz.func123, Tryz.ntmps123
  go_wp2_with fail
  refine boxes1 fun W hB hs b0 => ?_
  have cb0 := b0.cell
  have lb0 := b0.lt
  have fb0 := b0.frozen
  go_wp2
  go_loopw [35] (fun a wr => a = .int .i64 0 ∧ wr = W) (fun a _ => 0)
  case atStart => exact ⟨rfl, rfl⟩
  case round =>
   obtain ⟨rfl, rfl⟩ := hrel
   go_wp2
   go_ret
   exact ⟨rfl, hB⟩
end Go.Proofs.YtcgfdibagldafaaGreatDoor
namespace Go.Mono
theorem gcdZ_red (q : Rat) : gcdZ q.num.natAbs q.den = 1 := by
 have := q.reduced
 simp only [gcdZ, Int.toNat_natCast]
 rw [this.gcd_eq_one]; rfl
end Go.Mono
namespace Go.Proofs.YtcgfdibagldafaaGreatDoor
open Go.RowKit Go.Mono
theorem cmp_same (m1 m2 : Nat) (w : World) (p q : Option Addr) (n m c1 c2 : Nat) (N : Int) (h1 : Sz m1 w (.slice p n c1) N) (h2 : Sz m2 w (.slice q m c2) N) :
  Calls Tryz.prog 124 #[.slice p n c1, .slice q m c2] w fun e w' => e = .returned (.int .i64 0) ∧ Below w.heap.size w w' := by
 refine (cmp_sz m1 m2 w w (Ext.refl _) p q n m c1 c2 N N h1 h2).mono ?_
 rintro e w' ⟨c, ⟨rfl, k, rfl⟩, _, hc⟩
 obtain rfl := hc.2 rfl
 exact ⟨rfl, below_drewN (Below.refl _ _) k⟩
theorem qcheck_ok (v : Value) (q : Rat) (w wf : World) (hx : Ext wf w) (h : QV wf v q) :
  Calls Tryz.prog 67 #[v] w fun e w' => e = .returned (.int .i64 0) ∧ Below w.heap.size w w' := by
 replace h := h.ext hx
 clear hx
 obtain ⟨p, k, c, p', k', c', rfl, h1, h2⟩ := h
 have hden : 0 < k' := h2.len_pos.1 (by have := Nat.pos_of_ne_zero q.den_nz; omega)
 have hneg : decide (q.num < 0) = true → (0 : Int) < q.num.natAbs := by intro h; simp at h; omega
 have hone := gcdZ_red q
 have hf0 : ∀ w : World, (Instr.field 127 (.agg #[.bool (decide (q.num < 0)), .slice p k c, .slice p' k' c']) 0).run Tryz.prog w = .ok (.agg #[.bool (decide (q.num < 0)), .slice p k c]) w := fun _ => by kernel_rfl
 have hf1 : ∀ w : World, (Instr.field 125 (.agg #[.bool (decide (q.num < 0)), .slice p k c]) 1).run Tryz.prog w = .ok (.slice p k c) w := fun _ => by kernel_rfl
 go_enter Tryz.func67, Tryz.ntmps67
 go_wp2_with fail
 refine boxes1 fun W hB hs b0 => ?_
 replace h1 := h1.ext (.of_below hB)
 replace h2 := h2.ext (.of_below hB)
 have cb0 := b0.cell
 have lb0 := b0.lt
 have fb0 := b0.frozen
 have hne : ((k' : Int) == 0) = false := by simp; omega
 go_region_held3 (fun w' => (∀ b o, b < W.heap.size → w'.cell? ⟨b, o, none⟩ = W.cell? ⟨b, o, none⟩) ∧ Below W.heap.size W w') ((refine belowS ?_; first | exact (Below.refl _ _).drew | (repeat' (first | exact And.right ‹_› | exact belowCall (And.right ‹_›) ‹_› | exact belowAlloc (And.right ‹_›) _ | exact belowAlloc ‹_› _ | refine belowSet ?_ (by omega) _ _)))) (first | (go_at_call 123; (with_reducible refine (lcheck_ok _ p k c _ _ W (.of_below (And.right ‹_›)) h1 hneg).mono ?_); rintro e W4 ⟨rfl, hb4⟩) | (go_at_call 123; (with_reducible refine (lcheck_ok _ p' k' c' _ _ W (.of_below (And.right ‹_›)) h2 (by simp)).mono ?_); rintro e W5 ⟨rfl, hb5⟩) | (go_at_call 99; refine (read_any _ _ p p' k c k' c' _).mono ?_; rintro e W6 ⟨rfl, hb6⟩) | (go_at_call 103; refine (common_sz 600 _ W (.of_below (And.right ‹_›)) p p' k k' c c' _ _ h1 h2 (by omega)).mono ?_; rintro e W7 ⟨pg, kg, cg, rfl, zg, hb7⟩; rw [hone] at zg; (try replace z1 := z1.ext (by first | exact .of_below hb7 | exact ((Ext.refl _).alloc _).below hb7 | exact ((Ext.refl _).alloc _).drew.below hb7))) | (go_at_call 125; refine (one_sz _).mono ?_; rintro e W8 ⟨p1, k1, c1, rfl, z1, hb8⟩; (try replace zg := zg.ext (by first | exact .of_below hb8 | exact ((Ext.refl _).alloc _).below hb8 | exact ((Ext.refl _).alloc _).drew.below hb8))) | (go_at_call 124; refine (cmp_same 600 1 _ pg p1 kg k1 cg c1 _ zg z1).mono ?_; rintro e W9 ⟨rfl, hb9⟩))
 all_goals
  go_wp2
  go_ret
  exact ⟨rfl, belowCall hB (And.right ‹_›)⟩
theorem all2_ok (a b : Rat) (s1 t1 s2 t2 : Bool) (p1 q1 p2 q2 : Option Addr) (k1 c1 l1 d1 k2 c2 l2 d2 g : Nat) (w : World)
  (h : Box w g 52 #[.bool s1, .slice p1 k1 c1, .bool t1, .slice q1 l1 d1, .bool s2, .slice p2 k2 c2, .bool t2, .slice q2 l2 d2])
  (ha : QV w (.agg #[.bool s1, .slice p1 k1 c1, .bool t1, .slice q1 l1 d1]) a) (hb : QV w (.agg #[.bool s2, .slice p2 k2 c2, .bool t2, .slice q2 l2 d2]) b) :
  Calls Tryz.prog 98 #[.slice (some ⟨g, 0, none⟩) 2 2] w fun e w' => e = .returned (.int .i64 0) ∧ Below w.heap.size w w' := by
 go_enter Tryz.func98, Tryz.ntmps98
 go_wp2
 go_loopw [8] (fun x wr => ∃ i : Nat, i ≤ 2 ∧ x = .int .i64 (i : Int) ∧ Below w.heap.size w wr) (fun x _ => (2 - intOf x).toNat)
 case atStart => exact ⟨0, by omega, rfl, Below.refl _ _⟩
 case round =>
  obtain ⟨i, hi, rfl, hB⟩ := hrel
  replace h := h.below hB
  have ch := h.cell
  have fh := h.frozen
  have lh := h.lt
  replace ha := ha.ext (.of_below hB)
  replace hb := hb.ext (.of_below hB)
  rcases (by omega : i = 0 ∨ i = 1 ∨ i = 2) with rfl | rfl | rfl
  ·go_wp2_with (go_at_call 67; (with_reducible refine (qcheck_ok _ a _ _ ((Ext.refl wr).alloc _) ha).mono ?_); rintro e W4 ⟨rfl, hb4⟩)
   go_roundw
   case rel => exact ⟨1, by omega, by simp, belowCall (belowAlloc hB _) hb4⟩
   case measure => simp [intOf]
  ·go_wp2_with (go_at_call 67; (with_reducible refine (qcheck_ok _ b _ _ ((Ext.refl wr).alloc _) hb).mono ?_); rintro e W4 ⟨rfl, hb4⟩)
   go_roundw
   case rel => exact ⟨2, by omega, by simp, belowCall (belowAlloc hB _) hb4⟩
   case measure => simp [intOf]
  ·go_wp2
   go_ret
   exact ⟨rfl, hB⟩
end Go.Proofs.YtcgfdibagldafaaGreatDoor
