/- Part 9 of 52 of the proof that the law ParaxialKnown returns true, whatever stands in memory, if the two listed variables hold what the text lays: contracts of the functions that it reaches. No condition beside the row. -/
import Derived.Test.YtepodcocemmejaaGreatDoorA08
set_option linter.unusedVariables false
set_option linter.unusedSimpArgs false
namespace Go.Proofs.YtepodcocemmejaaGreatDoor
open Go.RowKit Go.Mono
set_option maxHeartbeats 400000 in
theorem less_closure (m0 : Nat) (w wf : World) (hx : Ext wf w) (p q : Option Addr) (n m c1 c2 B : Nat) (N M : Int) (h1 : Sz m0 wf (.slice p n c1) N) (h2 : Sz m0 wf (.slice q m c2) M) (hM : 0 < M) (hm0 : m0 ≤ 1000000) (b0 : Box w B 132 #[.slice q m c2]) :
    Calls Tryz.prog 162 #[.slice p n c1, .pointer (some ⟨B, 0, none⟩)] w fun e w' => ∃ p1 k1 c1, e = .returned (.slice p1 k1 c1) ∧ Sz m0 w' (.slice p1 k1 c1) (N / M) ∧ Below w.heap.size w w' := by
  have ho := without_sz m0 w wf hx p q n m c1 c2 N M h1 h2 hM hm0
  have cb := b0.cell
  go_enter Tryz.func162, Tryz.ntmps162
  go_wp2_with (go_at_call 120; refine ho.mono ?_; rintro e w' ⟨p1, k1, c3, rfl, z1, hb2⟩)
  go_ret
  exact ⟨_, _, _, rfl, z1, hb2⟩
set_option maxRecDepth 100000 in
set_option maxHeartbeats 1000000 in
theorem reduced_sz (s : Bool) (p q : Option Addr) (k c l d m : Nat) (N D : Int) (w wf : World) (hx : Ext wf w) (z : Sz m wf (.slice p k c) N) (y : Sz m wf (.slice q l d) D) (hD : 0 < D) (hm : m ≤ 1000000) :
    Calls Tryz.prog 117 #[.agg #[.bool s, .slice p k c, .slice q l d]] w fun e w' => ∃ p n c q l d, e = .returned (.agg #[.bool s, .slice p n c, .slice q l d]) ∧ Sz m w' (.slice p n c) (N / gcdZ N D) ∧ Sz m w' (.slice q l d) (D / gcdZ N D) ∧ Below w.heap.size w w' := by
  replace z := z.ext hx
  replace y := y.ext hx
  have hG : 0 < gcdZ N D := by
    have : 0 < Nat.gcd N.toNat D.toNat := Nat.gcd_pos_of_pos_right _ (by omega)
    unfold gcdZ; omega
  clear hx
  go_enter Tryz.func117, Tryz.ntmps117
  go_wp2_with fail
  refine boxes2c fun W hB hs b0 b1 => ?_
  have x0 := Ext.of_below hB
  refine (common_sz m W w x0 p q k l c d _ _ z y hm).mono ?_
  rintro e W1 ⟨pg, kg, cg, rfl, zg, hb⟩
  replace z := z.ext x0
  replace y := y.ext x0
  replace hB := belowCall hB hb
  replace z := z.ext (.of_below hb)
  replace y := y.ext (.of_below hb)
  replace b0 := b0.below hb
  try clear cb0 lb0 fb0
  have cb0 := b0.cell
  have lb0 := b0.lt
  have fb0 := b0.frozen
  replace b1 := b1.below hb
  try clear cb1 lb1 fb1
  have cb1 := b1.cell
  have lb1 := b1.lt
  have fb1 := b1.frozen
  generalize hGe : gcdZ N D = G at zg hG
  replace hGe := Lib.hid hGe
  clear x0 hb
  have hmf : ∀ (fn : Fn) (first cap : Array Value) (w : World), (Instr.makeFunc fn first cap).run Tryz.prog w = .ok (.func fn first cap) w := fun _ _ _ _ => rfl
  go_wp2_with fail
  refine boxes1 fun W2 hb2 hs2 bg => ?_
  have ng : W1.heap.size ≠ w.heap.size + 1 := by omega
  replace hB := belowCall hB hb2
  replace z := z.ext (.of_below hb2)
  replace y := y.ext (.of_below hb2)
  replace zg := zg.ext (.of_below hb2)
  replace b0 := b0.below hb2
  try clear cb0 lb0 fb0
  have cb0 := b0.cell
  have lb0 := b0.lt
  have fb0 := b0.frozen
  replace b1 := b1.below hb2
  try clear cb1 lb1 fb1
  have cb1 := b1.cell
  have lb1 := b1.lt
  have fb1 := b1.frozen
  have cbg := bg.cell
  have lbg := bg.lt
  have fbg := bg.frozen
  have K0 := KeepBut.refl (w.heap.size + 1) W2
  have n0 : w.heap.size ≠ w.heap.size + 1 := by omega
  clear hb2
  go_region_held3 (fun w' => (∀ b o, b < W2.heap.size → b ≠ (w.heap.size + 1) → w'.cell? ⟨b, o, none⟩ = W2.cell? ⟨b, o, none⟩) ∧ KeepBut (w.heap.size + 1) W2.heap.size W2 w') ((refine KeepBut.S ?_; first | exact K0.drew | (repeat' (first | exact And.right ‹_› | exact KeepBut.call (And.right ‹_›) ‹_› | refine KeepBut.set ?_ _ _ | refine KeepBut.alloc ?_ _)))) (first | (go_at_call 162; (with_reducible refine (less_closure m _ W2 (KeepBut.ext (And.right ‹_›) b1 (by decide)) p pg k kg c cg W1.heap.size _ _ z zg hG hm (KeepBut.box (And.right ‹_›) bg (by assumption) (by assumption))).mono ?_); rintro e W3 ⟨p3, k3, c3, rfl, z3, hb3⟩; have b13 := b1.drew.below hb3; have cb13 := b13.cell; have fb13 := b13.frozen) | (go_at_call 162; (with_reducible refine (less_closure m _ W2 (KeepBut.ext (And.right ‹_›) b1 (by decide)) q pg l kg d cg W1.heap.size _ _ y zg hG hm (KeepBut.box (And.right ‹_›) bg (by assumption) (by assumption))).mono ?_); rintro e W4 ⟨p4, k4, c4, rfl, z4, hb4⟩; replace z3 := z3.ext (.of_below hb4); have b14 := b13.below hb4; have cb14 := b14.cell; have fb14 := b14.frozen))
  go_wp2
  have b3' := ((((b14.set 0 (.bool s)).set 1 (.slice p3 k3 c3)).set 2 (.slice p4 k4 c4))).cell
  have xE : Ext W4 _ := ((((Ext.refl W4).set b14 (by decide) 0 (.bool s)).set (b14.set 0 (.bool s)) (by decide) 1 (.slice p3 k3 c3))).set ((b14.set 0 (.bool s)).set 1 (.slice p3 k3 c3)) (by decide) 2 (.slice p4 k4 c4)
  refine bodyPost_ret (v := .agg #[.bool s, .slice p3 k3 c3, .slice p4 k4 c4]) (by simp [results, Tryz.results117, go_sem, b3']) rfl ⟨_, _, _, _, _, _, rfl, ?_, ?_, ?_⟩
  · rw [hGe.out]; exact z3.ext xE
  · rw [hGe.out]; exact z4.ext xE
  · exact KeepBut.below (And.right ‹_›) hB (by omega) hB.size
end Go.Proofs.YtepodcocemmejaaGreatDoor
namespace Go.Mono
theorem Sg.prod {s t : Bool} {x y : Int} (h : Sg s x) (g : Sg t y) : Sg (s != t) (x * y) := by
  obtain ⟨h1, h2⟩ := h
  obtain ⟨g1, g2⟩ := g
  cases s <;> cases t <;> simp at h1 h2 g1 g2 <;> constructor <;> simp
  · exact Int.mul_nonneg h2 g2
  · exact Int.mul_nonpos_of_nonneg_of_nonpos h2 g1
  · exact Int.mul_nonpos_of_nonpos_of_nonneg h1 g2
  · exact Int.mul_nonneg_of_nonpos_of_nonpos h1 g1
theorem rat_prod (a b : Rat) :
    ((a * b).num.natAbs : Int) = ((a.num.natAbs : Int) / gcdZ a.num.natAbs b.den) * ((b.num.natAbs : Int) / gcdZ b.num.natAbs a.den) ∧
    ((a * b).den : Int) = ((b.den : Int) / gcdZ a.num.natAbs b.den) * ((a.den : Int) / gcdZ b.num.natAbs a.den) := by
  obtain ⟨h1, h2⟩ := rat_mul_parts a b
  have e1 : gcdZ (a.num.natAbs : Int) b.den = ((a.num.natAbs.gcd b.den : Nat) : Int) := by simp [gcdZ]
  have e2 : gcdZ (b.num.natAbs : Int) a.den = ((b.num.natAbs.gcd a.den : Nat) : Int) := by simp [gcdZ]
  rw [e1, e2]
  constructor
  · rw [h1, Int.natAbs_mul, Int.natCast_mul, natAbs_div (Nat.gcd_dvd_left _ _), natAbs_div (Nat.gcd_dvd_left _ _)]
  · rw [h2, Int.natCast_mul, Int.mul_comm]
    simp only [Int.natCast_ediv]
theorem rat_prod_sg {s t : Bool} {a b : Rat} (h : Sg s a.num) (g : Sg t b.num) : Sg (s != t) (a * b).num := by
  rw [(rat_mul_parts a b).1]
  refine Sg.prod (h.div ?_) (g.div ?_)
  · have := Nat.gcd_pos_of_pos_right a.num.natAbs (Nat.pos_of_ne_zero b.den_nz); omega
  · have := Nat.gcd_pos_of_pos_right b.num.natAbs (Nat.pos_of_ne_zero a.den_nz); omega
end Go.Mono
