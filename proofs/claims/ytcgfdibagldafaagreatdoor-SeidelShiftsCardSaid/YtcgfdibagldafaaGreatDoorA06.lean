/- Contracts of the program's fractions, lenses and rays, and a verified evaluator of the model. Part 6 of 30. No condition beside the row. -/
import Derived.Deep.DeepCutAuto
import Derived.Test.YtcgfdibagldafaaGreatDoorA05
set_option linter.unusedVariables false
set_option linter.unusedSimpArgs false
set_option maxRecDepth 100000
set_option maxHeartbeats 4000000
namespace Go.Mono
theorem gcdZ_den (a b : Rat) : gcdZ (a.den : Int) (b.den : Int) = ((a.den.gcd b.den : Nat) : Int) := by simp [gcdZ]
theorem den_gcd_pos (a b : Rat) : 0 < ((a.den.gcd b.den : Nat) : Int) := by
 have := Nat.gcd_pos_of_pos_left b.den (Nat.pos_of_ne_zero a.den_nz); omega
end Go.Mono
namespace Go.Proofs.YtcgfdibagldafaaGreatDoor
open Go.RowKit Go.Mono
theorem sum_sz (s1 s2 : Bool) (p1 q1 p2 q2 : Option Addr) (k1 c1 l1 e1 k2 c2 l2 e2 m : Nat) (a b : Rat) (w wf : World) (hx : Ext wf w)
  (g1 : Sg s1 a.num) (g2 : Sg s2 b.num) (z1 : Sz m wf (.slice p1 k1 c1) a.num.natAbs) (y1 : Sz m wf (.slice q1 l1 e1) a.den) (z2 : Sz m wf (.slice p2 k2 c2) b.num.natAbs) (y2 : Sz m wf (.slice q2 l2 e2) b.den) (hm : m ≤ 100000) :
  Calls Tryz.prog 50 #[.agg #[.bool s1, .slice p1 k1 c1, .slice q1 l1 e1], .agg #[.bool s2, .slice p2 k2 c2, .slice q2 l2 e2]] w fun e w' => ∃ s p n c q l d, e = .returned (.agg #[.bool s, .slice p n c, .slice q l d]) ∧ Sg s (a + b).num ∧ Sz (3 * m + 1) w' (.slice p n c) (a + b).num.natAbs ∧ Sz (3 * m + 1) w' (.slice q l d) (a + b).den ∧ Below w.heap.size w w' := by
 replace z1 := z1.ext hx
 replace z2 := z2.ext hx
 replace y1 := y1.ext hx
 replace y2 := y2.ext hx
 have hG := den_gcd_pos a b
 have hGe := gcdZ_den a b
 clear hx
 go_enter Tryz.func50, Tryz.ntmps50
 go_wp2_with fail
 refine boxes3c fun W hB hs b0 b1 b2 => ?_
 have x0 := Ext.of_below hB
 refine (common_sz m W w x0 q1 q2 l1 l2 e1 e2 _ _ y1 y2 (by omega)).mono ?_
 rintro e W1 ⟨pg, kg, cg, rfl, zg, hb⟩
 rw [hGe] at zg
 have x1 := x0.below hb
 replace hB := belowCall hB hb
 replace z1 := z1.ext x0
 replace z2 := z2.ext x0
 replace y1 := y1.ext x0
 replace y2 := y2.ext x0
 replace z1 := z1.ext (.of_below hb)
 replace z2 := z2.ext (.of_below hb)
 replace y1 := y1.ext (.of_below hb)
 replace y2 := y2.ext (.of_below hb)
 replace b0 := b0.below hb
 try clear cb0 lb0 fb0
 have cb0 := b0.cell
 have lb0 := b0.lt
 have fb0 := b0.frozen
 replace b1 := b1.below hb
 try clear cb1 lb1 fb1
 have cb1 := b1.cell
 have lb1 := b1.lt
 have fb1 := b1.frozen
 replace b2 := b2.below hb
 try clear cb2 lb2 fb2
 have cb2 := b2.cell
 have lb2 := b2.lt
 have fb2 := b2.frozen
 clear x0 x1 hb hGe
 go_wp2_with fail
 go_region_held3 (fun w' => (∀ b o, b < W1.heap.size → w'.cell? ⟨b, o, none⟩ = W1.cell? ⟨b, o, none⟩) ∧ Below W1.heap.size W1 w') ((refine belowS ?_; first | exact (Below.refl _ _).drew | (repeat' (first | exact And.right ‹_› | exact belowCall (And.right ‹_›) ‹_› | exact belowAlloc (And.right ‹_›) _ | exact belowAlloc ‹_› _ | refine belowSet ?_ (by omega) _ _)))) (first | (go_at_call 104; (with_reducible refine (without_sz m _ W1 (.of_below (And.right ‹_›)) q1 pg l1 kg e1 cg _ _ y1 zg hG (by omega)).mono ?_); rintro e W2 ⟨px, kx, cx, rfl, zx, hb2⟩) | (go_at_call 104; (with_reducible refine (without_sz m _ W1 (.of_below (And.right ‹_›)) q2 pg l2 kg e2 cg _ _ y2 zg hG (by omega)).mono ?_); rintro e W3 ⟨py, ky, cy, rfl, zy, hb3⟩; replace zx := zx.ext (.of_below hb3)))
 have hb : Below W1.heap.size W1 W3 := And.right ‹_›
 replace hB := belowCall hB hb
 replace z1 := z1.ext (.of_below hb)
 replace z2 := z2.ext (.of_below hb)
 replace y1 := y1.ext (.of_below hb)
 replace y2 := y2.ext (.of_below hb)
 replace zg := zg.ext (.of_below hb)
 replace b0 := b0.below hb
 try clear cb0 lb0 fb0
 have cb0 := b0.cell
 have lb0 := b0.lt
 have fb0 := b0.frozen
 replace b1 := b1.below hb
 try clear cb1 lb1 fb1
 have cb1 := b1.cell
 have lb1 := b1.lt
 have fb1 := b1.frozen
 replace b2 := b2.below hb
 try clear cb2 lb2 fb2
 have cb2 := b2.cell
 have lb2 := b2.lt
 have fb2 := b2.frozen
 clear hb hb2 hb3
 have Y0 : 0 ≤ (b.den : Int) / ((a.den.gcd b.den : Nat) : Int) := Int.ediv_nonneg (by omega) (by omega)
 have X0 : 0 ≤ (a.den : Int) / ((a.den.gcd b.den : Nat) : Int) := Int.ediv_nonneg (by omega) (by omega)
 have E4 := natAbs_mul_pos (z := a.num) Y0
 have E5 := natAbs_mul_pos (z := b.num) X0
 have G1 := g1.mul Y0
 have G2 := g2.mul X0
 replace E4 := Lib.hid E4
 replace E5 := Lib.hid E5
 go_wp2_with fail
 go_cut [8] (fun s8 wx => ∃ B3 s p n c, s8 = .pointer (some ⟨B3, 0, none⟩) ∧ Box wx B3 125 #[.bool s, .slice p n c] ∧ W3.heap.size ≤ B3 ∧ Below W3.heap.size W3 wx ∧ Sg s (a.num * (((b.den : Int) / (a.den.gcd b.den : Nat))) + b.num * ((a.den : Int) / (a.den.gcd b.den : Nat))) ∧ Sz (2 * m + 1) wx (.slice p n c) (a.num * (((b.den : Int) / (a.den.gcd b.den : Nat))) + b.num * ((a.den : Int) / (a.den.gcd b.den : Nat))).natAbs)
 case first =>
  go_region_held3 (fun w' => (∀ b o, b < W3.heap.size → w'.cell? ⟨b, o, none⟩ = W3.cell? ⟨b, o, none⟩) ∧ Below W3.heap.size W3 w') ((refine belowS ?_; first | exact (Below.refl _ _).drew | (repeat' (first | exact And.right ‹_› | exact belowCall (And.right ‹_›) ‹_› | exact belowAlloc (And.right ‹_›) _ | exact belowAlloc ‹_› _ | refine belowSet ?_ (by omega) _ _)))) (first | (go_at_call 105; (with_reducible refine (wtimes_sz s1 p1 py k1 c1 ky cy m m _ _ _ W3 (.of_below (And.right ‹_›)) z1 zy (by omega) (by omega)).mono ?_); rintro e W4 ⟨p4, k4, c4, rfl, z4, hb4⟩; (have hzhb4 := belowCall (And.right ‹_›) hb4); (have hshb4 := hzhb4.size); (first | (replace bn := bn.below hb4; clear cbn fbn lbn; have cbn := bn.cell; have fbn := bn.frozen; have lbn := bn.lt) | (have bn := (Box.new _ 125 _).below hb4; have cbn := bn.cell; have fbn := bn.frozen; have lbn := bn.lt) | (have bn := (Box.new _ 125 _).drew.below hb4; have cbn := bn.cell; have fbn := bn.frozen; have lbn := bn.lt) | skip)) | (go_at_call 105; (with_reducible refine (wtimes_sz s2 p2 px k2 c2 kx cx m m _ _ _ W3 (.of_below (And.right ‹_›)) z2 zx (by omega) (by omega)).mono ?_); rintro e W5 ⟨p5, k5, c5, rfl, z5, hb5⟩; (have hzhb5 := belowCall (And.right ‹_›) hb5); (have hshb5 := hzhb5.size); (first | (replace bn := bn.below hb5; clear cbn fbn lbn; have cbn := bn.cell; have fbn := bn.frozen; have lbn := bn.lt) | (have bn := (Box.new _ 125 _).below hb5; have cbn := bn.cell; have fbn := bn.frozen; have lbn := bn.lt) | (have bn := (Box.new _ 125 _).drew.below hb5; have cbn := bn.cell; have fbn := bn.frozen; have lbn := bn.lt) | skip); replace z4 := z4.ext (by first | exact .of_below hb5 | exact ((Ext.refl _).alloc _).below hb5 | exact ((Ext.refl _).alloc _).drew.below hb5); rw [← E4.out] at z4; rw [← E5.out] at z5) | (go_at_call 106; refine (wplus_sz s1 s2 p4 p5 k4 c4 k5 c5 (m + m) _ _ _ W5 (by first | exact Ext.refl _ | exact (Ext.refl _).alloc _) z4 z5 G1 G2 (by omega)).mono ?_; rintro e W6 ⟨s6, p6, k6, c6, rfl, g6, z6, hb6⟩; (have hzhb6 := belowCall (And.right ‹_›) hb6); (have hshb6 := hzhb6.size); (first | (replace bn := bn.below hb6; clear cbn fbn lbn; have cbn := bn.cell; have fbn := bn.frozen; have lbn := bn.lt) | (have bn := (Box.new _ 125 _).below hb6; have cbn := bn.cell; have fbn := bn.frozen; have lbn := bn.lt) | (have bn := (Box.new _ 125 _).drew.below hb6; have cbn := bn.cell; have fbn := bn.frozen; have lbn := bn.lt) | skip)))
  all_goals
   go_wp2_with fail
   go_meet
   exact ⟨_, s6, p6, k6, c6, rfl, (by first | exact Box.new _ _ _ | exact (bn.set 0 _).set 1 _), (by omega), And.right ‹_›, g6, (by first | exact (z6.ext ((Ext.refl _).alloc _)).mono (by omega) | exact (z6.ext (((Ext.refl _).set bn (by decide) _ _).set (bn.set _ _) (by decide) _ _)).mono (by omega))⟩
 case rest =>
  obtain ⟨B3, s3, p3, k3, c3, rfl, b3, hB3, hb, gs, zn⟩ := hcut
  have lr3 : w.heap.size + 1 + 1 < W3.heap.size := lb2
  replace hB := belowCall hB hb
  replace zg := zg.ext (.of_below hb)
  replace zx := zx.ext (.of_below hb)
  replace y2 := y2.ext (.of_below hb)
  replace b0 := b0.below hb
  try clear cb0 lb0 fb0
  have cb0 := b0.cell
  have lb0 := b0.lt
  have fb0 := b0.frozen
  replace b1 := b1.below hb
  try clear cb1 lb1 fb1
  have cb1 := b1.cell
  have lb1 := b1.lt
  have fb1 := b1.frozen
  replace b2 := b2.below hb
  try clear cb2 lb2 fb2
  have cb2 := b2.cell
  have lb2 := b2.lt
  have fb2 := b2.frozen
  have cb3 := b3.cell
  have lb3 := b3.lt
  have fb3 := b3.frozen
  generalize hn : a.num * (((b.den : Int) / (a.den.gcd b.den : Nat))) + b.num * ((a.den : Int) / (a.den.gcd b.den : Nat)) = n at gs zn
  clear hb z1 z2 y1 zy E4 E5 G1 G2 X0 Y0
  go_wp2_with fail
  obtain ⟨N1, N2, N3, N4⟩ := rat_sum a b n hn
  have hge2 : gcdZ (n.natAbs : Int) ((a.den.gcd b.den : Nat) : Int) = ((n.natAbs.gcd (a.den.gcd b.den) : Nat) : Int) := by simp [gcdZ]
  have gs' := gs.div N4
  rw [← N1] at gs'
  replace N2 := Lib.hid N2
  replace N3 := Lib.hid N3
  refine (common_sz (2 * m + 1) _ _ (Ext.refl _) p3 pg k3 kg c3 cg _ _ zn (zg.mono (by omega)) (by omega)).mono ?_
  rintro e W7 ⟨ph, kh, ch, rfl, zh, hb⟩
  rw [hge2] at zh
  replace hB := belowCall hB hb
  replace zx := zx.ext (.of_below hb)
  replace y2 := y2.ext (.of_below hb)
  replace zn := zn.ext (.of_below hb)
  replace b0 := b0.below hb
  try clear cb0 lb0 fb0
  have cb0 := b0.cell
  have lb0 := b0.lt
  have fb0 := b0.frozen
  replace b1 := b1.below hb
  try clear cb1 lb1 fb1
  have cb1 := b1.cell
  have lb1 := b1.lt
  have fb1 := b1.frozen
  replace b2 := b2.below hb
  try clear cb2 lb2 fb2
  have cb2 := b2.cell
  have lb2 := b2.lt
  have fb2 := b2.frozen
  replace b3 := b3.below hb
  try clear cb3 lb3 fb3
  have cb3 := b3.cell
  have lb3 := b3.lt
  have fb3 := b3.frozen
  have lR : w.heap.size ≤ w.heap.size + 1 + 1 := by omega
  have nR0 : w.heap.size ≠ w.heap.size + 1 + 1 := by omega
  have nR1 : w.heap.size + 1 ≠ w.heap.size + 1 + 1 := by omega
  have nR3 : B3 ≠ w.heap.size + 1 + 1 := by omega
  have K0 := KeepBut.refl (w.heap.size + 1 + 1) W7
  generalize ((n.natAbs.gcd (a.den.gcd b.den) : Nat) : Int) = H at *
  generalize (a.den : Int) / ((a.den.gcd b.den : Nat) : Int) = X at *
  clear hb hge2 hn N1 gs zg
  go_wp2_with fail
  go_region_held3 (fun w' => (∀ b o, b < W7.heap.size → b ≠ (w.heap.size + 1 + 1) → w'.cell? ⟨b, o, none⟩ = W7.cell? ⟨b, o, none⟩) ∧ KeepBut (w.heap.size + 1 + 1) W7.heap.size W7 w') ((refine KeepBut.S ?_; first | exact K0.drew | (repeat' (first | exact And.right ‹_› | exact KeepBut.call (And.right ‹_›) ‹_› | refine KeepBut.set ?_ _ _ | refine KeepBut.alloc ?_ _)))) (first | (go_at_call 104; (with_reducible refine (without_sz (2 * m + 1) _ W7 (KeepBut.ext (And.right ‹_›) b2 (by decide)) p3 ph k3 kh c3 ch _ _ zn zh N4 (by omega)).mono ?_); rintro e W8 ⟨p8, k8, c8, rfl, z8, hb8⟩; have b28 := b2.drew.below hb8; have cb28 := b28.cell; have fb28 := b28.frozen) | (go_at_call 104; (with_reducible refine (without_sz (2 * m + 1) _ W7 (KeepBut.ext (And.right ‹_›) b2 (by decide)) q2 ph l2 kh e2 ch _ _ (y2.mono (by omega)) zh N4 (by omega)).mono ?_); rintro e W9 ⟨p9, k9, c9, rfl, z9, hb9⟩; replace z8 := z8.ext (.of_below hb9); have b29 := b28.below hb9; have cb29 := b29.cell; have fb29 := b29.frozen) | (go_at_call 102; refine (times_sz m (2 * m + 1) _ W9 (Ext.refl _) px p9 kx k9 cx c9 _ _ (zx.ext (KeepBut.ext (And.right ‹_›) b2 (by decide))) z9 (by omega) (by omega)).mono ?_; rintro e W10 ⟨p10, k10, c10, rfl, z10, hb10⟩; replace z8 := z8.ext (.of_below hb10); have b20 := b29.below hb10; have cb20 := b20.cell; have fb20 := b20.frozen))
  go_wp2
  have b3' := (((b20.set 0 (.bool s3)).set 1 (.slice p8 k8 c8)).set 2 (.slice p10 k10 c10)).cell
  have xE : Ext W10 _ := ((((Ext.refl W10).set b20 (by decide) 0 (.bool s3)).set (b20.set 0 (.bool s3)) (by decide) 1 (.slice p8 k8 c8))).set ((b20.set 0 (.bool s3)).set 1 (.slice p8 k8 c8)) (by decide) 2 (.slice p10 k10 c10)
  refine bodyPost_ret (v := .agg #[.bool s3, .slice p8 k8 c8, .slice p10 k10 c10]) (by simp [results, Tryz.results50, go_sem, b3']) rfl ⟨s3, _, _, _, _, _, _, rfl, gs', ?_, ?_, ?_⟩
  ·rw [N2.out]; exact (z8.ext xE).mono (by omega)
  ·rw [N3.out]; exact (z10.ext xE).mono (by omega)
  ·exact KeepBut.below (And.right ‹_›) hB lR hB.size
end Go.Proofs.YtcgfdibagldafaaGreatDoor
