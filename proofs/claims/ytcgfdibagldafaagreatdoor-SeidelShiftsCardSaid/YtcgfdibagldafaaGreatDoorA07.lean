/- Contracts of the program's fractions, lenses and rays, and a verified evaluator of the model. Part 7 of 30. No condition beside the row. -/
import Derived.Test.YtcgfdibagldafaaGreatDoorA06
set_option linter.unusedVariables false
set_option linter.unusedSimpArgs false
set_option maxRecDepth 100000
set_option maxHeartbeats 4000000
namespace Go.Proofs.YtcgfdibagldafaaGreatDoor
open Go.RowKit Go.Mono
theorem less_closure (m0 : Nat) (w wf : World) (hx : Ext wf w) (p q : Option Addr) (n m c1 c2 B : Nat) (N M : Int) (h1 : Sz m0 wf (.slice p n c1) N) (h2 : Sz m0 wf (.slice q m c2) M) (hM : 0 < M) (hm0 : m0 ≤ 1000000) (b0 : Box w B 123 #[.slice q m c2]) :
  Calls Tryz.prog 162 #[.slice p n c1, .pointer (some ⟨B, 0, none⟩)] w fun e w' => ∃ p1 k1 c1, e = .returned (.slice p1 k1 c1) ∧ Sz m0 w' (.slice p1 k1 c1) (N / M) ∧ Below w.heap.size w w' := by
 have ho := without_sz m0 w wf hx p q n m c1 c2 N M h1 h2 hM hm0
 have cb := b0.cell
 go_enter Tryz.func162, Tryz.ntmps162
 go_wp2_with (go_at_call 104; refine ho.mono ?_; rintro e w' ⟨p1, k1, c3, rfl, z1, hb2⟩)
 go_ret
 exact ⟨_, _, _, rfl, z1, hb2⟩
theorem reduced_sz (s : Bool) (p q : Option Addr) (k c l d m : Nat) (N D : Int) (w wf : World) (hx : Ext wf w) (z : Sz m wf (.slice p k c) N) (y : Sz m wf (.slice q l d) D) (hD : 0 < D) (hm : m ≤ 1000000) :
  Calls Tryz.prog 101 #[.agg #[.bool s, .slice p k c, .slice q l d]] w fun e w' => ∃ p n c q l d, e = .returned (.agg #[.bool s, .slice p n c, .slice q l d]) ∧ Sz m w' (.slice p n c) (N / gcdZ N D) ∧ Sz m w' (.slice q l d) (D / gcdZ N D) ∧ Below w.heap.size w w' := by
 replace z := z.ext hx
 replace y := y.ext hx
 have hG : 0 < gcdZ N D := by
  have : 0 < Nat.gcd N.toNat D.toNat := Nat.gcd_pos_of_pos_right _ (by omega)
  unfold gcdZ; omega
 clear hx
 go_enter Tryz.func101, Tryz.ntmps101
 go_wp2_with fail
 refine boxes2c fun W hB hs b0 b1 => ?_
 have x0 := Ext.of_below hB
 refine (common_sz m W w x0 p q k l c d _ _ z y hm).mono ?_
 rintro e W1 ⟨pg, kg, cg, rfl, zg, hb⟩
 replace z := z.ext x0
 replace y := y.ext x0
 replace hB := belowCall hB hb
 replace z := z.ext (.of_below hb)
 replace y := y.ext (.of_below hb)
 replace b0 := b0.below hb
 try clear cb0 lb0 fb0
 have cb0 := b0.cell
 have lb0 := b0.lt
 have fb0 := b0.frozen
 replace b1 := b1.below hb
 try clear cb1 lb1 fb1
 have cb1 := b1.cell
 have lb1 := b1.lt
 have fb1 := b1.frozen
 generalize hGe : gcdZ N D = G at zg hG
 replace hGe := Lib.hid hGe
 clear x0 hb
 have hmf : ∀ (fn : Fn) (first cap : Array Value) (w : World), (Instr.makeFunc fn first cap).run Tryz.prog w = .ok (.func fn first cap) w := fun _ _ _ _ => rfl
 go_wp2_with fail
 refine boxes1 fun W2 hb2 hs2 bg => ?_
 have ng : W1.heap.size ≠ w.heap.size + 1 := by omega
 replace hB := belowCall hB hb2
 replace z := z.ext (.of_below hb2)
 replace y := y.ext (.of_below hb2)
 replace zg := zg.ext (.of_below hb2)
 replace b0 := b0.below hb2
 try clear cb0 lb0 fb0
 have cb0 := b0.cell
 have lb0 := b0.lt
 have fb0 := b0.frozen
 replace b1 := b1.below hb2
 try clear cb1 lb1 fb1
 have cb1 := b1.cell
 have lb1 := b1.lt
 have fb1 := b1.frozen
 have cbg := bg.cell
 have lbg := bg.lt
 have fbg := bg.frozen
 have K0 := KeepBut.refl (w.heap.size + 1) W2
 have n0 : w.heap.size ≠ w.heap.size + 1 := by omega
 clear hb2
 go_region_held3 (fun w' => (∀ b o, b < W2.heap.size → b ≠ (w.heap.size + 1) → w'.cell? ⟨b, o, none⟩ = W2.cell? ⟨b, o, none⟩) ∧ KeepBut (w.heap.size + 1) W2.heap.size W2 w') ((refine KeepBut.S ?_; first | exact K0.drew | (repeat' (first | exact And.right ‹_› | exact KeepBut.call (And.right ‹_›) ‹_› | refine KeepBut.set ?_ _ _ | refine KeepBut.alloc ?_ _)))) (first | (go_at_call 162; (with_reducible refine (less_closure m _ W2 (KeepBut.ext (And.right ‹_›) b1 (by decide)) p pg k kg c cg W1.heap.size _ _ z zg hG hm (KeepBut.box (And.right ‹_›) bg (by assumption) (by assumption))).mono ?_); rintro e W3 ⟨p3, k3, c3, rfl, z3, hb3⟩; have b13 := b1.drew.below hb3; have cb13 := b13.cell; have fb13 := b13.frozen) | (go_at_call 162; (with_reducible refine (less_closure m _ W2 (KeepBut.ext (And.right ‹_›) b1 (by decide)) q pg l kg d cg W1.heap.size _ _ y zg hG hm (KeepBut.box (And.right ‹_›) bg (by assumption) (by assumption))).mono ?_); rintro e W4 ⟨p4, k4, c4, rfl, z4, hb4⟩; replace z3 := z3.ext (.of_below hb4); have b14 := b13.below hb4; have cb14 := b14.cell; have fb14 := b14.frozen))
 go_wp2
 have b3' := ((((b14.set 0 (.bool s)).set 1 (.slice p3 k3 c3)).set 2 (.slice p4 k4 c4))).cell
 have xE : Ext W4 _ := ((((Ext.refl W4).set b14 (by decide) 0 (.bool s)).set (b14.set 0 (.bool s)) (by decide) 1 (.slice p3 k3 c3))).set ((b14.set 0 (.bool s)).set 1 (.slice p3 k3 c3)) (by decide) 2 (.slice p4 k4 c4)
 refine bodyPost_ret (v := .agg #[.bool s, .slice p3 k3 c3, .slice p4 k4 c4]) (by simp [results, Tryz.results101, go_sem, b3']) rfl ⟨_, _, _, _, _, _, rfl, ?_, ?_, ?_⟩
 ·rw [hGe.out]; exact z3.ext xE
 ·rw [hGe.out]; exact z4.ext xE
 ·exact KeepBut.below (And.right ‹_›) hB (by omega) hB.size
end Go.Proofs.YtcgfdibagldafaaGreatDoor
namespace Go.Mono
theorem Sg.prod {s t : Bool} {x y : Int} (h : Sg s x) (g : Sg t y) : Sg (s != t) (x * y) := by
 obtain ⟨h1, h2⟩ := h
 obtain ⟨g1, g2⟩ := g
 cases s <;> cases t <;> simp at h1 h2 g1 g2 <;> constructor <;> simp
 ·exact Int.mul_nonneg h2 g2
 ·exact Int.mul_nonpos_of_nonneg_of_nonpos h2 g1
 ·exact Int.mul_nonpos_of_nonpos_of_nonneg h1 g2
 ·exact Int.mul_nonneg_of_nonpos_of_nonpos h1 g1
theorem rat_prod (a b : Rat) :
  ((a * b).num.natAbs : Int) = ((a.num.natAbs : Int) / gcdZ a.num.natAbs b.den) * ((b.num.natAbs : Int) / gcdZ b.num.natAbs a.den) ∧
  ((a * b).den : Int) = ((b.den : Int) / gcdZ a.num.natAbs b.den) * ((a.den : Int) / gcdZ b.num.natAbs a.den) := by
 obtain ⟨h1, h2⟩ := rat_mul_parts a b
 have e1 : gcdZ (a.num.natAbs : Int) b.den = ((a.num.natAbs.gcd b.den : Nat) : Int) := by simp [gcdZ]
 have e2 : gcdZ (b.num.natAbs : Int) a.den = ((b.num.natAbs.gcd a.den : Nat) : Int) := by simp [gcdZ]
 rw [e1, e2]
 constructor
 ·rw [h1, Int.natAbs_mul, Int.natCast_mul, natAbs_div (Nat.gcd_dvd_left _ _), natAbs_div (Nat.gcd_dvd_left _ _)]
 ·rw [h2, Int.natCast_mul, Int.mul_comm]
  simp only [Int.natCast_ediv]
theorem rat_prod_sg {s t : Bool} {a b : Rat} (h : Sg s a.num) (g : Sg t b.num) : Sg (s != t) (a * b).num := by
 rw [(rat_mul_parts a b).1]
 refine Sg.prod (h.div ?_) (g.div ?_)
 ·have := Nat.gcd_pos_of_pos_right a.num.natAbs (Nat.pos_of_ne_zero b.den_nz); omega
 ·have := Nat.gcd_pos_of_pos_right b.num.natAbs (Nat.pos_of_ne_zero a.den_nz); omega
end Go.Mono
namespace Go.Proofs.YtcgfdibagldafaaGreatDoor
open Go.RowKit Go.Mono
theorem prod_sz (s1 s2 : Bool) (p1 q1 p2 q2 : Option Addr) (k1 c1 l1 e1 k2 c2 l2 e2 m : Nat) (a b : Rat) (w wf : World) (hx : Ext wf w)
  (g1 : Sg s1 a.num) (g2 : Sg s2 b.num) (z1 : Sz m wf (.slice p1 k1 c1) a.num.natAbs) (y1 : Sz m wf (.slice q1 l1 e1) a.den) (z2 : Sz m wf (.slice p2 k2 c2) b.num.natAbs) (y2 : Sz m wf (.slice q2 l2 e2) b.den) (hm : m ≤ 100000) :
  Calls Tryz.prog 49 #[.agg #[.bool s1, .slice p1 k1 c1, .slice q1 l1 e1], .agg #[.bool s2, .slice p2 k2 c2, .slice q2 l2 e2]] w fun e w' => ∃ s p n c q l d, e = .returned (.agg #[.bool s, .slice p n c, .slice q l d]) ∧ Sg s (a * b).num ∧ Sz (3 * m + 1) w' (.slice p n c) (a * b).num.natAbs ∧ Sz (3 * m + 1) w' (.slice q l d) (a * b).den ∧ Below w.heap.size w w' := by
 replace z1 := z1.ext hx
 replace z2 := z2.ext hx
 replace y1 := y1.ext hx
 replace y2 := y2.ext hx
 have D1 : 0 < (a.den : Int) := by have := Nat.pos_of_ne_zero a.den_nz; omega
 have D2 : 0 < (b.den : Int) := by have := Nat.pos_of_ne_zero b.den_nz; omega
 have gs := rat_prod_sg g1 g2
 obtain ⟨E1, E2⟩ := rat_prod a b
 replace E1 := Lib.hid E1
 replace E2 := Lib.hid E2
 clear hx g1 g2
 go_enter Tryz.func49, Tryz.ntmps49
 go_wp2_with fail
 refine boxes3c fun W hB hs b0 b1 b2 => ?_
 have x0 := Ext.of_below hB
 replace z1 := z1.ext x0
 replace y1 := y1.ext x0
 replace z2 := z2.ext x0
 replace y2 := y2.ext x0
 refine (reduced_sz s1 p1 q2 k1 c1 l2 e2 m _ _ W W (Ext.refl _) z1 y2 D2 (by omega)).mono ?_
 rintro e W1 ⟨p3, k3, c3, q3, l3, d3, rfl, z3, y3, hb⟩
 replace hB := belowCall hB hb
 replace z1 := z1.ext (.of_below hb)
 replace z2 := z2.ext (.of_below hb)
 replace y1 := y1.ext (.of_below hb)
 replace y2 := y2.ext (.of_below hb)
 replace b0 := b0.below hb
 try clear cb0 lb0 fb0
 have cb0 := b0.cell
 have lb0 := b0.lt
 have fb0 := b0.frozen
 replace b1 := b1.below hb
 try clear cb1 lb1 fb1
 have cb1 := b1.cell
 have lb1 := b1.lt
 have fb1 := b1.frozen
 replace b2 := b2.below hb
 try clear cb2 lb2 fb2
 have cb2 := b2.cell
 have lb2 := b2.lt
 have fb2 := b2.frozen
 clear x0 hb
 go_wp2_with fail
 refine boxes1c fun W2 hb hs2 b3 => ?_
 have n3 : W1.heap.size ≠ w.heap.size + 1 + 1 := by omega
 replace hB := belowCall hB hb
 replace z1 := z1.ext (.of_below hb)
 replace z2 := z2.ext (.of_below hb)
 replace y1 := y1.ext (.of_below hb)
 replace y2 := y2.ext (.of_below hb)
 replace z3 := z3.ext (.of_below hb)
 replace y3 := y3.ext (.of_below hb)
 replace b0 := b0.below hb
 try clear cb0 lb0 fb0
 have cb0 := b0.cell
 have lb0 := b0.lt
 have fb0 := b0.frozen
 replace b1 := b1.below hb
 try clear cb1 lb1 fb1
 have cb1 := b1.cell
 have lb1 := b1.lt
 have fb1 := b1.frozen
 replace b2 := b2.below hb
 try clear cb2 lb2 fb2
 have cb2 := b2.cell
 have lb2 := b2.lt
 have fb2 := b2.frozen
 have cb3 := b3.cell
 have lb3 := b3.lt
 have fb3 := b3.frozen
 refine (reduced_sz s2 p2 q1 k2 c2 l1 e1 m _ _ W2 W2 (Ext.refl _) z2 y1 D1 (by omega)).mono ?_
 rintro e W3 ⟨p4, k4, c4, q4, l4, d4, rfl, z4, y4, hb4⟩
 replace hB := belowCall hB hb4
 replace z3 := z3.ext (.of_below hb4)
 replace y3 := y3.ext (.of_below hb4)
 replace b0 := b0.below hb4
 try clear cb0 lb0 fb0
 have cb0 := b0.cell
 have lb0 := b0.lt
 have fb0 := b0.frozen
 replace b1 := b1.below hb4
 try clear cb1 lb1 fb1
 have cb1 := b1.cell
 have lb1 := b1.lt
 have fb1 := b1.frozen
 replace b2 := b2.below hb4
 try clear cb2 lb2 fb2
 have cb2 := b2.cell
 have lb2 := b2.lt
 have fb2 := b2.frozen
 replace b3 := b3.below hb4
 try clear cb3 lb3 fb3
 have cb3 := b3.cell
 have lb3 := b3.lt
 have fb3 := b3.frozen
 go_wp2_with fail
 refine boxes1 fun W4 hb5 hs4 b4 => ?_
 have n4 : W3.heap.size ≠ w.heap.size + 1 + 1 := by omega
 replace hB := belowCall hB hb5
 replace z3 := z3.ext (.of_below hb5)
 replace y3 := y3.ext (.of_below hb5)
 replace z4 := z4.ext (.of_below hb5)
 replace y4 := y4.ext (.of_below hb5)
 replace b0 := b0.below hb5
 try clear cb0 lb0 fb0
 have cb0 := b0.cell
 have lb0 := b0.lt
 have fb0 := b0.frozen
 replace b1 := b1.below hb5
 try clear cb1 lb1 fb1
 have cb1 := b1.cell
 have lb1 := b1.lt
 have fb1 := b1.frozen
 replace b2 := b2.below hb5
 try clear cb2 lb2 fb2
 have cb2 := b2.cell
 have lb2 := b2.lt
 have fb2 := b2.frozen
 replace b3 := b3.below hb5
 try clear cb3 lb3 fb3
 have cb3 := b3.cell
 have lb3 := b3.lt
 have fb3 := b3.frozen
 have cb4 := b4.cell
 have lb4 := b4.lt
 have fb4 := b4.frozen
 have K0 := KeepBut.refl (w.heap.size + 1 + 1) W4
 have n0 : w.heap.size ≠ w.heap.size + 1 + 1 := by omega
 have n1 : w.heap.size + 1 ≠ w.heap.size + 1 + 1 := by omega
 clear hb hb4 hb5 z1 z2 y1 y2
 go_region_held3 (fun w' => (∀ b o, b < W4.heap.size → b ≠ (w.heap.size + 1 + 1) → w'.cell? ⟨b, o, none⟩ = W4.cell? ⟨b, o, none⟩) ∧ KeepBut (w.heap.size + 1 + 1) W4.heap.size W4 w') ((refine KeepBut.S ?_; first | exact K0.drew | (repeat' (first | exact And.right ‹_› | exact KeepBut.call (And.right ‹_›) ‹_› | refine KeepBut.set ?_ _ _ | refine KeepBut.alloc ?_ _)))) (first | (go_at_call 102; (with_reducible refine (times_sz m m _ W4 (KeepBut.ext (And.right ‹_›) b2 (by decide)) p3 p4 k3 k4 c3 c4 _ _ z3 z4 (by omega) (by omega)).mono ?_); rintro e W5 ⟨p5, k5, c5, rfl, z5, hb5⟩; have b15 := b2.drew.below hb5; have cb15 := b15.cell; have fb15 := b15.frozen) | (go_at_call 102; (with_reducible refine (times_sz m m _ W4 (KeepBut.ext (And.right ‹_›) b2 (by decide)) q3 q4 l3 l4 d3 d4 _ _ y3 y4 (by omega) (by omega)).mono ?_); rintro e W6 ⟨p6, k6, c6, rfl, z6, hb6⟩; replace z5 := z5.ext (.of_below hb6); have b16 := b15.below hb6; have cb16 := b16.cell; have fb16 := b16.frozen))
 go_wp2
 have b3' := ((((b16.set 0 (.bool (!(s1 == s2)))).set 1 (.slice p5 k5 c5)).set 2 (.slice p6 k6 c6))).cell
 have xE : Ext W6 _ := ((((Ext.refl W6).set b16 (by decide) 0 (.bool (!(s1 == s2)))).set (b16.set 0 (.bool (!(s1 == s2)))) (by decide) 1 (.slice p5 k5 c5))).set ((b16.set 0 (.bool (!(s1 == s2)))).set 1 (.slice p5 k5 c5)) (by decide) 2 (.slice p6 k6 c6)
 refine bodyPost_ret (v := .agg #[.bool (!(s1 == s2)), .slice p5 k5 c5, .slice p6 k6 c6]) (by simp [results, Tryz.results49, go_sem, b3']) rfl ⟨_, _, _, _, _, _, _, rfl, gs, ?_, ?_, ?_⟩
 ·rw [E1.out]; exact (z5.ext xE).mono (by omega)
 ·rw [E2.out]; exact (z6.ext xE).mono (by omega)
 ·exact KeepBut.below (And.right ‹_›) hB (by omega) hB.size
end Go.Proofs.YtcgfdibagldafaaGreatDoor
