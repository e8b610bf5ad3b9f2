/- Part 16 of 52 of the proof that the law ParaxialKnown returns true, whatever stands in memory, if the two listed variables hold what the text lays: contracts of the functions that it reaches. No condition beside the row. -/
import Derived.Shelf.Abstract
import Derived.Test.YtepodcocemmejaaGreatDoorA15
set_option linter.unusedVariables false
set_option linter.unusedSimpArgs false
namespace Go.Mono
open Go.RowKit
theorem rat_divInt (a b : Int) (hb : b ≠ 0) :
    Sg (decide (a < 0) != decide (b < 0)) (Rat.divInt a b).num ∧ ((Rat.divInt a b).num.natAbs : Int) = (a.natAbs : Int) / gcdZ a.natAbs b.natAbs ∧ ((Rat.divInt a b).den : Int) = (b.natAbs : Int) / gcdZ a.natAbs b.natAbs := by
  have hg : gcdZ a.natAbs b.natAbs = ((b.gcd a : Nat) : Int) := by
    simp only [gcdZ, Int.toNat_natCast, Int.gcd]
    rw [Nat.gcd_comm]
  have hg0 : 0 < b.gcd a := Int.gcd_pos_of_ne_zero_left _ hb
  have hs : (b.sign * a).natAbs = a.natAbs := by
    rw [Int.natAbs_mul, Int.natAbs_sign_of_ne_zero hb, Nat.one_mul]
  refine ⟨?_, ?_, ?_⟩
  · rw [Rat.num_divInt]
    refine Sg.div ?_ (by omega)
    rcases Int.lt_or_gt_of_ne hb with h | h
    · rw [Int.sign_eq_neg_one_of_neg h]
      constructor <;> intro hh <;> simp [h] at hh <;> omega
    · rw [Int.sign_eq_one_of_pos h]
      constructor <;> intro hh <;> simp [show ¬ b < 0 by omega] at hh <;> omega
  · rw [Rat.num_divInt, hg]
    have hd : b.gcd a ∣ (b.sign * a).natAbs := by
      rw [hs]
      exact Nat.gcd_dvd_right _ _
    rw [natAbs_div hd, hs]
  · rw [Rat.den_divInt, if_neg hb, hg]
    simp
theorem Sz.div_lt {m : Nat} {w : World} {v : Value} {N M : Int} (h : Sz m w v (N / M)) : N / M < pw m := h.lt
end Go.Mono
namespace Go.Proofs.YtepodcocemmejaaGreatDoor
open Go.RowKit Go.Mono
set_option maxRecDepth 100000 in
set_option maxHeartbeats 1000000 in
theorem make_ok (a b : Int) (h0 : b ≠ 0) (p q : Option Addr) (k c l d : Nat) (w wf : World) (hx : Ext wf w) (x : Sz 600 wf (.slice p k c) a.natAbs) (y : Sz 600 wf (.slice q l d) b.natAbs) :
    Calls Tryz.prog 124 #[.agg #[.bool (decide (a < 0)), .slice p k c], .agg #[.bool (decide (b < 0)), .slice q l d]] w fun e w' => ∃ r, e = .returned (.tuple #[r, .int .i64 0]) ∧ QV w' r (Rat.divInt a b) ∧ Below w.heap.size w w' := by
  replace x := x.ext hx
  replace y := y.ext hx
  clear hx
  obtain ⟨g1, g2, g3⟩ := rat_divInt a b h0
  have hi0 : ∀ w : World, (Instr.index 231 (.agg #[.bool (decide (a < 0)), .slice p k c, .bool (decide (b < 0)), .slice q l d]) (.int .i64 0)).run Tryz.prog w = .ok (.agg #[.bool (decide (a < 0)), .slice p k c]) w := fun _ => by kernel_rfl
  have hi1 : ∀ w : World, (Instr.index 231 (.agg #[.bool (decide (a < 0)), .slice p k c, .bool (decide (b < 0)), .slice q l d]) (.int .i64 1)).run Tryz.prog w = .ok (.agg #[.bool (decide (b < 0)), .slice q l d]) w := fun _ => by kernel_rfl
  have hl : ((l : Int) == 0) = false := by
    have := y.len_pos.1 (by omega)
    simp; omega
  have ha : decide (a < 0) = true → (0 : Int) < a.natAbs := by intro h; simp at h; omega
  have hb' : decide (b < 0) = true → (0 : Int) < b.natAbs := by intro h; simp at h; omega
  go_enter Tryz.func124, Tryz.ntmps124
  go_wp2_with fail
  refine boxes3 fun W hB hs b0 b1 b2 => ?_
  replace x := x.ext (.of_below hB)
  replace y := y.ext (.of_below hB)
  go_loopw [12] (fun a wr => ∃ i : Nat, i ≤ 2 ∧ a = .int .i64 (i : Int) ∧ Below W.heap.size W wr) (fun a _ => (2 - intOf a).toNat)
  case atStart => exact ⟨0, by omega, rfl, Below.refl _ _⟩
  case round =>
    obtain ⟨i, hi, rfl, hb⟩ := hrel
    rcases (by omega : i = 0 ∨ i = 1 ∨ i = 2) with rfl | rfl | rfl
    · go_wp2_with (go_at_call 147; (with_reducible refine (lcheck_ok _ p k c _ _ W ((Ext.of_below hb).alloc _) x ha).mono ?_); rintro e W4 ⟨rfl, hb4⟩)
      go_roundw
      case rel => exact ⟨1, by omega, by simp, belowCall (belowAlloc hb _) hb4⟩
      case measure => simp [intOf]
    · go_wp2_with (go_at_call 147; (with_reducible refine (lcheck_ok _ q l d _ _ W ((Ext.of_below hb).alloc _) y hb').mono ?_); rintro e W4 ⟨rfl, hb4⟩)
      go_roundw
      case rel => exact ⟨2, by omega, by simp, belowCall (belowAlloc hb _) hb4⟩
      case measure => simp [intOf]
    · replace hB := belowCall hB hb
      replace x := x.ext (.of_below hb)
      replace y := y.ext (.of_below hb)
      replace b0 := b0.below hb
      try clear cb0 lb0 fb0
      have cb0 := b0.cell
      have lb0 := b0.lt
      have fb0 := b0.frozen
      replace b1 := b1.below hb
      try clear cb1 lb1 fb1
      have cb1 := b1.cell
      have lb1 := b1.lt
      have fb1 := b1.frozen
      replace b2 := b2.below hb
      try clear cb2 lb2 fb2
      have cb2 := b2.cell
      have lb2 := b2.lt
      have fb2 := b2.frozen
      clear hi0 hi1 hi ha hb'
      go_wp2_with fail
      refine (reduced_sz _ p q k c l d 600 _ _ wr wr (Ext.refl _) x y (by omega) (by omega)).mono ?_
      rintro e W1 ⟨p1, n1, c1, q1, l1, d1, rfl, z1, z2, hb1⟩
      rw [← g2] at z1
      rw [← g3] at z2
      replace hB := belowCall hB hb1
      replace b2 := b2.below hb1
      clear cb2 lb2 fb2
      have cb2 := b2.cell
      have lb2 := b2.lt
      have fb2 := b2.frozen
      go_wp2_with fail
      refine (told_ok 600 _ p1 q1 n1 c1 l1 d1 (Rat.divInt a b) _ W1 (Ext.refl _) g1 z1 z2 (by omega)).mono ?_
      rintro e W2 ⟨p7, k7, c7, q7, l7, d7, rfl, z7, y7, hb7⟩
      replace hB := belowCall hB hb7
      replace b2 := b2.below hb7
      clear cb2 lb2 fb2
      have cb2 := b2.cell
      have lb2 := b2.lt
      have fb2 := b2.frozen
      go_wp2
      have b3' := ((((b2.set 0 (.bool (decide ((Rat.divInt a b).num < 0)))).set 1 (.slice p7 k7 c7)).set 2 (.bool false)).set 3 (.slice q7 l7 d7)).cell
      have xE : Ext W2 _ := (((((Ext.refl W2).set b2 (by decide) 0 (.bool (decide ((Rat.divInt a b).num < 0)))).set (b2.set 0 (.bool (decide ((Rat.divInt a b).num < 0)))) (by decide) 1 (.slice p7 k7 c7))).set ((b2.set 0 (.bool (decide ((Rat.divInt a b).num < 0)))).set 1 (.slice p7 k7 c7)) (by decide) 2 (.bool false)).set (((b2.set 0 (.bool (decide ((Rat.divInt a b).num < 0)))).set 1 (.slice p7 k7 c7)).set 2 (.bool false)) (by decide) 3 (.slice q7 l7 d7)
      refine bodyPost_ret (v := .tuple #[.agg #[.bool (decide ((Rat.divInt a b).num < 0)), .slice p7 k7 c7, .bool false, .slice q7 l7 d7], .int .i64 0]) (by simp [results, Tryz.results124, go_sem, b3']) rfl ⟨_, rfl, ⟨_, _, _, _, _, _, rfl, z7.ext xE, y7.ext xE⟩, ?_⟩
      exact belowSet (belowSet (belowSet (belowSet hB (by omega) _ _) (by omega) _ _) (by omega) _ _) (by omega) _ _
end Go.Proofs.YtepodcocemmejaaGreatDoor
namespace Go.Proofs.YtepodcocemmejaaGreatDoor
open Go.RowKit Go.Mono
set_option maxRecDepth 100000 in
set_option maxHeartbeats 1000000 in
theorem qof_ok (a b : Int) (h0 : b ≠ 0) (w : World) (a1 : -9223372036854775808 ≤ a) (a2 : a ≤ 9223372036854775807) (b1 : -9223372036854775808 ≤ b) (b2 : b ≤ 9223372036854775807) :
    Calls Tryz.prog 79 #[.int .i64 a, .int .i64 b] w fun e w' => ∃ r, e = .returned (.tuple #[r, .int .i64 0]) ∧ QV w' r (Rat.divInt a b) ∧ Below w.heap.size w w' := by
  go_enter Tryz.func79, Tryz.ntmps79
  go_wp2_with fail
  refine boxes1c fun W hB hs bb => ?_
  refine (lof_ok a W a1 a2).mono ?_
  rintro e W1 ⟨p, k, c, rfl, z1, hb1⟩
  replace hB := belowCall hB hb1
  replace bb := bb.below hb1
  have cbb := bb.cell
  have lbb := bb.lt
  have fbb := bb.frozen
  go_wp2_with fail
  refine (lof_ok b W1 b1 b2).mono ?_
  rintro e W2 ⟨q, l, d, rfl, z2, hb2⟩
  replace hB := belowCall hB hb2
  replace z1 := z1.ext (.of_below hb2)
  replace bb := bb.below hb2
  try clear cbb lbb fbb
  have cbb := bb.cell
  have lbb := bb.lt
  have fbb := bb.frozen
  go_wp2_with fail
  refine (make_ok a b h0 p q k c l d W2 W2 (Ext.refl _) z1 z2).mono ?_
  rintro e W3 ⟨r, rfl, ⟨p7, k7, c7, q7, l7, d7, rfl, z7, y7⟩, hb7⟩
  replace hB := belowCall hB hb7
  replace z1 := z1.ext (.of_below hb7)
  replace bb := bb.below hb7
  try clear cbb lbb fbb
  have cbb := bb.cell
  have lbb := bb.lt
  have fbb := bb.frozen
  go_wp2
  have b3' := ((((bb.set 0 (.bool (decide ((Rat.divInt a b).num < 0)))).set 1 (.slice p7 k7 c7)).set 2 (.bool false)).set 3 (.slice q7 l7 d7)).cell
  have xE : Ext W3 _ := (((((Ext.refl W3).set bb (by decide) 0 (.bool (decide ((Rat.divInt a b).num < 0)))).set (bb.set 0 (.bool (decide ((Rat.divInt a b).num < 0)))) (by decide) 1 (.slice p7 k7 c7))).set ((bb.set 0 (.bool (decide ((Rat.divInt a b).num < 0)))).set 1 (.slice p7 k7 c7)) (by decide) 2 (.bool false)).set (((bb.set 0 (.bool (decide ((Rat.divInt a b).num < 0)))).set 1 (.slice p7 k7 c7)).set 2 (.bool false)) (by decide) 3 (.slice q7 l7 d7)
  refine bodyPost_ret (v := .tuple #[.agg #[.bool (decide ((Rat.divInt a b).num < 0)), .slice p7 k7 c7, .bool false, .slice q7 l7 d7], .int .i64 0]) (by simp [results, Tryz.results79, go_sem, b3']) rfl ⟨_, rfl, ⟨_, _, _, _, _, _, rfl, z7.ext xE, y7.ext xE⟩, ?_⟩
  exact belowSet (belowSet (belowSet (belowSet hB (by omega) _ _) (by omega) _ _) (by omega) _ _) (by omega) _ _
end Go.Proofs.YtepodcocemmejaaGreatDoor
namespace Go.Mono
open Go.RowKit
/-- the slice reads as the ints f, whatever the type of its block -/
def RdF (w : World) (p : Option Addr) (n c : Nat) (f : Nat → Int) : Prop :=
  n ≤ c ∧ n ≤ 140737488351232 ∧ (0 < n → ∃ b off, p = some ⟨b, off, none⟩ ∧ b < w.heap.size ∧ (∀ i, i < n → w.cell? ⟨b, off + i, none⟩ = some (.int .i64 (f i))))
theorem RdF.below {w w' : World} {p : Option Addr} {n c : Nat} {f : Nat → Int} (h : RdF w p n c f) (hB : Below w.heap.size w w') : RdF w' p n c f := by
  obtain ⟨h1, h2, h3⟩ := h
  refine ⟨h1, h2, fun hn => ?_⟩
  obtain ⟨b, off, hp, hb, hc⟩ := h3 hn
  exact ⟨b, off, hp, Nat.lt_of_lt_of_le hb hB.size, fun i hi => (hB.cell hb).trans (hc i hi)⟩
end Go.Mono
namespace Go.Proofs.YtepodcocemmejaaGreatDoor
open Go.RowKit Go.Mono
set_option maxRecDepth 100000 in
set_option maxHeartbeats 1000000 in
theorem between1_ok (z lo hi : Int) (B0 B1 : Nat) (w : World) (b0 : Box w B0 3 #[.int .i64 lo]) (b1 : Box w B1 3 #[.int .i64 hi]) (h1 : lo ≤ z) (h2 : z ≤ hi) :
    Calls Tryz.prog 249 #[.int .i64 z, .pointer (some ⟨B0, 0, none⟩), .pointer (some ⟨B1, 0, none⟩)] w fun e w' => e = .returned (.bool false) ∧ w' = w := by
  have c0 := b0.cell
  have c1 := b1.cell
  have e1 : ¬ (z < lo) := by omega
  have e2 : ¬ (hi < z) := by omega
  go_enter Tryz.func249, Tryz.ntmps249
  go_wp2
  go_ret
  exact ⟨rfl, rfl⟩
set_option maxRecDepth 100000 in
set_option maxHeartbeats 1000000 in
theorem index_none (n : Nat) (p : Option Addr) (c : Nat) (f : Nat → Int) (g : Nat) (eg : ∀ args w, (callFunc g args).run Tryz.prog w = .ok (.enter g args) w) (cap : Array Value) (w : World) (h : RdF w p n c f)
    (hf : ∀ i, i < n → Calls Tryz.prog g (#[.int .i64 (f i)] ++ cap) w fun e w' => e = .returned (.bool false) ∧ w' = w) :
    Calls Tryz.prog 256 #[.slice p n c, .func (.func g) #[] cap] w fun e w' => e = .returned (.int .i64 (-1)) ∧ w' = w := by
  obtain ⟨hc1, hn1, hx1⟩ := h
  go_enter Tryz.func256, Tryz.ntmps256
  go_wp2
  go_loopw [8] (fun a wr => ∃ k : Nat, k ≤ n ∧ a = .int .i64 (k : Int) ∧ wr = w) (fun a _ => (n - intOf a).toNat)
  case atStart => exact ⟨0, Nat.zero_le _, rfl, rfl⟩
  case round =>
    obtain ⟨k, hk, rfl, rfl⟩ := hrel
    by_cases h0 : k < n
    · obtain ⟨b, off, rfl, hb, hcell⟩ := hx1 (by omega)
      have a1 := hcell k (by omega)
      have hfk := hf k h0
      clear hcell hx1 hf
      have h0' : (k : Int) < n := by omega
      go_wp2
      refine hfk.mono ?_
      rintro e w' ⟨rfl, rfl⟩
      go_wp2
      go_roundw
      case rel => refine ⟨k + 1, by omega, ?_⟩; simp
      case measure => simp [intOf]; omega
    · obtain rfl : k = n := by omega
      go_wp2
      go_ret
      exact ⟨rfl, rfl⟩
set_option maxRecDepth 100000 in
set_option maxHeartbeats 1000000 in
theorem contains_none (n : Nat) (p : Option Addr) (c : Nat) (f : Nat → Int) (g : Nat) (eg : ∀ args w, (callFunc g args).run Tryz.prog w = .ok (.enter g args) w) (cap : Array Value) (w : World) (h : RdF w p n c f)
    (hf : ∀ i, i < n → Calls Tryz.prog g (#[.int .i64 (f i)] ++ cap) w fun e w' => e = .returned (.bool false) ∧ w' = w) :
    Calls Tryz.prog 248 #[.slice p n c, .func (.func g) #[] cap] w fun e w' => e = .returned (.bool false) ∧ w' = w := by
  have hi := index_none n p c f g eg cap w h hf
  clear h hf
  go_enter Tryz.func248, Tryz.ntmps248
  go_wp2_with (go_at_call 256; refine hi.mono ?_; rintro e w' ⟨rfl, rfl⟩)
  go_ret
  exact ⟨rfl, rfl⟩
theorem enters_between1 : ∀ args w, (callFunc 249 args).run Tryz.prog w = .ok (.enter 249 args) w := Go.Proofs.enters_of Tryz.func249 (by kernel_rfl) rfl
set_option maxRecDepth 100000 in
set_option maxHeartbeats 1000000 in
theorem between_ok (lo hi : Int) (n : Nat) (p : Option Addr) (c : Nat) (f : Nat → Int) (w : World) (h : RdF w p n c f) (h1 : ∀ i, i < n → lo ≤ f i ∧ f i ≤ hi) :
    Calls Tryz.prog 231 #[.int .i64 lo, .int .i64 hi, .slice p n c] w fun e w' => e = .returned (.bool true) ∧ Below w.heap.size w w' := by
  have hmf : ∀ (fn : Fn) (first cap : Array Value) (w : World), (Instr.makeFunc fn first cap).run Tryz.prog w = .ok (.func fn first cap) w := fun _ _ _ _ => rfl
  go_enter Tryz.func231, Tryz.ntmps231
  go_wp2_with fail
  refine boxes2c fun W hB hs b0 b1 => ?_
  replace h := h.below hB
  refine (contains_none n p c f _ enters_between1 _ W h fun i hi => ?_).mono ?_
  · exact between1_ok _ _ _ _ _ W b0 b1 (h1 i hi).1 (h1 i hi).2
  rintro e W1 ⟨rfl, rfl⟩
  go_wp2
  go_ret
  exact ⟨rfl, hB⟩
set_option maxRecDepth 100000 in
set_option maxHeartbeats 1000000 in
theorem about_ok (m : Int) (n : Nat) (p : Option Addr) (c : Nat) (f : Nat → Int) (w : World) (h : RdF w p n c f) (hm0 : 0 ≤ m) (hm1 : m ≤ 1000000000) (h1 : ∀ i, i < n → -m ≤ f i ∧ f i ≤ m) :
    Calls Tryz.prog 235 #[.int .i64 m, .slice p n c] w fun e w' => e = .returned (.bool true) ∧ Below w.heap.size w w' := by
  have hb := between_ok (-m) m n p c f w h h1
  clear h h1
  go_enter Tryz.func235, Tryz.ntmps235
  go_wp2_with (go_at_call 231; refine hb.mono ?_; rintro e w' ⟨rfl, hb⟩)
  go_ret
  exact ⟨rfl, hb⟩
end Go.Proofs.YtepodcocemmejaaGreatDoor
