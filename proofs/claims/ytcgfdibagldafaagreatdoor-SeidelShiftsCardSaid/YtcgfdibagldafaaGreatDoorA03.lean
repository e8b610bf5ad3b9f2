/- Contracts of the program's fractions, lenses and rays, and a verified evaluator of the model. Part 3 of 30. No condition beside the row. -/
import Derived.Test.YtcgfdibagldafaaGreatDoorA02
set_option linter.unusedVariables false
set_option linter.unusedSimpArgs false
set_option maxRecDepth 100000
set_option maxHeartbeats 4000000
namespace Go.Proofs.YtcgfdibagldafaaGreatDoor
open Go.RowKit Go.Mono
theorem over_one (m1 : Nat) (w wf : World) (hx : Ext wf w) (p q : Option Addr) (n c1 c2 : Nat) (N M : Int) (h1 : Sz m1 wf (.slice p n c1) N) (h2 : Sz 1 wf (.slice q 1 c2) M) (hM : 0 < M) (hle : M ≤ N) (hm1 : m1 ≤ 1000000) :
  Calls Tryz.prog 164 #[.slice p n c1, .slice q 1 c2] w fun e w' => ∃ p1 k1 c1 p2 k2 c2, e = .returned (.tuple #[.slice p1 k1 c1, .slice p2 k2 c2]) ∧ Sz m1 w' (.slice p1 k1 c1) (N / M) ∧ Sz 1 w' (.slice p2 k2 c2) (N % M) ∧ Below w.heap.size w w' := by
 have hc := cmp_sz m1 1 w wf hx p q n 1 c1 c2 N M h1 h2
 obtain ⟨n', g, s2, d2, hv2, l2, rfl⟩ := (h2.ext hx).sl
 obtain ⟨_, _, hx2⟩ := s2.opens
 obtain ⟨b, off, rfl, hb2, hcell⟩ := hx2 (by omega)
 have a1 := hcell 0 (by omega)
 rw [Nat.add_zero] at a1
 have eM : g 0 = M := by rw [← hv2]; simp [vf, pw]
 rw [eM] at a1
 have M1 : M < 1000000000 := by rw [← eM]; exact d2.hi 0 (by omega)
 have h1' := h1.ext hx
 clear hcell hx2 h1 h2 s2 d2 hv2 eM hx
 go_enter Tryz.func164, Tryz.ntmps164
 go_wp2_with (go_at_call 124; refine hc.mono ?_; rintro e w' ⟨c, ⟨rfl, k, rfl⟩, hc1, hc2⟩; have hc0 : ¬ c < 0 := fun h => by have := hc1.1 h; omega)
 have hp := part_sz m1 (w.drewN k) w ((Ext.refl w).below (below_drewN (Below.refl _ _) k)) p n c1 N M h1' hm1 hM M1
 go_wp2_with (go_at_call 210; refine hp.mono ?_; rintro e w1 ⟨p1, k1, c3, rfl, hs1, hb1⟩)
 have hB : Below w.heap.size w w1 := (below_drewN (Below.refl _ _) k).trans hb1
 have hr0 : RowF (w1.alloc (.cells #[.int .i64 (N % M)] 3)) w1.heap.size 1 (fun _ => N % M) := ⟨#[.int .i64 (N % M)], by show (w1.heap.push _)[w1.heap.size]? = _; simp, by simp, fun i hi => by obtain rfl : i = 0 := by omega
                                                                                                                                                                                                 simp⟩
 have hs2 := hr0.slice (by omega) 1 (Nat.le_refl _) 1 (Nat.le_refl _)
 have r0 := Int.emod_nonneg N (show M ≠ 0 by omega)
 have r1 := Int.emod_lt_of_pos N hM
 obtain ⟨q1, q2⟩ := trimN_can (f := fun _ => N % M) (k := 1) (fun _ _ => r0) (fun _ _ => by omega)
 have q3 := trimN_le (fun _ => N % M) 1
 have q4 : vf (fun _ => N % M) 1 = N % M := by simp [vf, pw]
 have q5 := Lib.hid (q2.trans q4)
 clear q2 q4
 go_wp2_with (go_at_call 163; refine (trim_any _ _ _ _ _ hs2).mono ?_; rintro e w2 ⟨rfl, rfl⟩)
 go_ret2
 exact ⟨_, _, _, _, _, _, rfl, hs1.ext ((Ext.refl _).alloc _), ⟨_, _, hs2.take _ q3, q1, q5.out, q3⟩, hB.alloc hB.size _⟩
end Go.Proofs.YtcgfdibagldafaaGreatDoor
