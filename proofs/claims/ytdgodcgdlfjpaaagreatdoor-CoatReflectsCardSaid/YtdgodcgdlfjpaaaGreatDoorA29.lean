/- Contracts of package coat and of the examples of its law, for the laws of layer 40. Part 29 of 40. No condition beside the row. -/
import Derived.Test.YtdgodcgdlfjpaaaGreatDoorA27
set_option linter.unusedVariables false
set_option linter.unusedSimpArgs false
set_option maxRecDepth 100000
set_option maxHeartbeats 4000000
namespace Go.Proofs.YtdgodcgdlfjpaaaGreatDoor
open Go.RowKit Go.Mono


theorem vquad_ok (v : Value) (hv : v.oneCell' = true) (w : World) :
  Calls Tryz.prog 55 #[v] w fun e w' => ∃ A, e = .returned (.func (.func 131) #[] #[.pointer (some ⟨A, 0, none⟩)]) ∧ Box w' A 192 #[v] ∧ Below w.heap.size w w' := by
 have hmf : ∀ (fn : Fn) (first cap : Array Value) (w : World), (Instr.makeFunc fn first cap).run Tryz.prog w = .ok (.func fn first cap) w := fun _ _ _ _ => rfl
 go_enter Tryz.func55, Tryz.ntmps55
 go_wp2
 go_ret
 exact ⟨_, rfl, Box.new _ _ _, (Below.refl _ _).alloc (Nat.le_refl _) _⟩
theorem vsame_true (u v : Value) (a b : Rat) (heq : a = b) (w : World) (h1 : QV w u a) (h2 : QV w v b) :
  Calls Tryz.prog 21 #[u, v] w fun e w' => e = .returned (.bool true) ∧ Below w.heap.size w w' := by
 have h := qsame_ok u v a b w w (Ext.refl _) h1 h2
 rw [decide_eq_true heq] at h
 exact h
theorem vquad1_ok (C : Array Value) (x : Mat) (n0 d0 n1 d1 n2 d2 n3 d3 : Int) (w : World) (hC : MV w C x) (b c A : Nat) (hs : ∀ z, (z = n0 ∨ z = d0 ∨ z = n1 ∨ z = d1 ∨ z = n2 ∨ z = d2 ∨ z = n3 ∨ z = d3) → -1000000000000 ≤ z ∧ z ≤ 1000000000000) (z0 : d0 ≠ 0) (z1 : d1 ≠ 0) (z2 : d2 ≠ 0) (z3 : d3 ≠ 0)
  (T : TypeId) (bw : Box w b T #[.int .i64 n0, .int .i64 d0, .int .i64 n1, .int .i64 d1, .int .i64 n2, .int .i64 d2, .int .i64 n3, .int .i64 d3]) (bA : Box w A 192 #[.slice (some ⟨b, 0, none⟩) 4 c])
  (e0 : x.a = Rat.divInt n0 d0) (e1 : x.b = Rat.divInt n1 d1) (e2 : x.c = Rat.divInt n2 d2) (e3 : x.d = Rat.divInt n3 d3) :
  Calls Tryz.prog 131 #[.agg C, .int .i64 0, .pointer (some ⟨A, 0, none⟩)] w fun e w' => e = .returned (.bool true) ∧ Below w.heap.size w w' := by
 have wr0 : IntKind.i64.wrap 0 = 0 := by decide
 have wr1 : IntKind.i64.wrap 1 = 1 := by decide
 obtain ⟨m0, m1, m2, m3, p0, p1, p2, p3, q0, q1, q2, q3, r0, r1, r2, r3, rfl, Ra, Rb, Rc, Rd⟩ := hC.parts
 have hof0 := fun W => vof_ok n0 d0 z0 W (by have := hs n0 (by simp); omega) (by have := hs n0 (by simp); omega) (by have := hs d0 (by simp); omega) (by have := hs d0 (by simp); omega)
 have hof1 := fun W => vof_ok n1 d1 z1 W (by have := hs n1 (by simp); omega) (by have := hs n1 (by simp); omega) (by have := hs d1 (by simp); omega) (by have := hs d1 (by simp); omega)
 have hof2 := fun W => vof_ok n2 d2 z2 W (by have := hs n2 (by simp); omega) (by have := hs n2 (by simp); omega) (by have := hs d2 (by simp); omega) (by have := hs d2 (by simp); omega)
 have hof3 := fun W => vof_ok n3 d3 z3 W (by have := hs n3 (by simp); omega) (by have := hs n3 (by simp); omega) (by have := hs d3 (by simp); omega) (by have := hs d3 (by simp); omega)
 rw [← e0] at hof0
 rw [← e1] at hof1
 rw [← e2] at hof2
 rw [← e3] at hof3
 have hsm := fun (u v : Value) (a : Rat) (W : World) (h1 : QV W u a) (h2 : QV W v a) => vsame_true u v a a rfl W h1 h2
 clear hs z0 z1 z2 z3 e0 e1 e2 e3 hC
 have cA := bA.cell
 have lA := bA.lt
 go_enter Tryz.func131, Tryz.ntmps131
 go_wp2_with fail
 refine boxes1 fun W hB hsz bQ => ?_
 replace bw := bw.below hB
 replace bA := bA.below hB
 replace Ra := Ra.ext (.of_below hB)
 replace Rb := Rb.ext (.of_below hB)
 replace Rc := Rc.ext (.of_below hB)
 replace Rd := Rd.ext (.of_below hB)
 generalize hBQ : w.heap.size = BQ at *
 clear cA lA
 have cA := bA.cell
 have lA := bA.lt
 go_loopw [10] (fun x wr => ∃ i : Nat, i ≤ 4 ∧ x = .int .i64 (i : Int) ∧ Below W.heap.size W wr) (fun x _ => (4 - intOf x).toNat)
 case atStart => exact ⟨0, by omega, rfl, Below.refl _ _⟩
 case round =>
  obtain ⟨i, hi, rfl, hBr⟩ := hrel
  replace bw := bw.below hBr
  replace bQ := bQ.below hBr
  replace Ra := Ra.ext (.of_below hBr)
  replace Rb := Rb.ext (.of_below hBr)
  replace Rc := Rc.ext (.of_below hBr)
  replace Rd := Rd.ext (.of_below hBr)
  clear cA lA bA
  rcases (by omega : i = 0 ∨ i = 1 ∨ i = 2 ∨ i = 3 ∨ i = 4) with rfl | rfl | rfl | rfl | rfl
  ·have g0 := bw.cell 0
   have g1 := bw.cell 1
   have lw := bw.lt
   clear hof1 hof2 hof3 Rb Rc Rd
   go_wp2_with fail
   refine boxes1 fun W5 hB5 hs5 bX => ?_
   have hB5' := belowCall hBr hB5
   have cX := bX.cell
   have lX := bX.lt
   replace bQ := bQ.below hB5
   replace Ra := Ra.ext (.of_below hB5)
   clear g0 g1 bw lw
   refine wp_region_held_drew (S := fun w' => (∀ b o, b < W5.heap.size → w'.cell? ⟨b, o, none⟩ = W5.cell? ⟨b, o, none⟩) ∧ Below W5.heap.size W5 w') (by kernel_rfl) (belowS (Below.refl _ _).drew) (fun hHeld => ?_)
   refine tk 0 (some 15) ?_
   refine tk 1 (some 16) ?_
   refine tk 2 (some 17) ?_
   refine tk 3 (some 18) ?_
   refine tk 4 (some 19) ?_
   refine tk 5 (some 20) ?_
   refine tl 6 (some 21) rfl (.agg #[m0, m1, m2, m3]) (exec_load 37 _ rfl BQ 0 rfl #[m0, m1, m2, m3] (fun w hS => (bQ.below hS.2).part 0 #[m0, m1, m2, m3] rfl) _ Tryz.underlying37 rfl sizeQuot) ?_
   refine tk 7 (some 22) ?_
   refine tk 8 (some 23) ?_
   refine tk 9 (some 24) ?_
   refine tk 10 (some 25) ?_
   refine Mono.st 11 ?_
   intro K hK
   go_simp
   (refine (hof0 _).mono ?_; rintro e W6 ⟨C6, rfl, R6, hb6⟩)
   refine kp hK (belowS (belowCall hHeld.2 hb6)) (fun hHeld => ?_)
   clear hK K
   have hr6 := Ra.ext (.of_below hHeld.2)
   refine Mono.st 12 ?_
   intro K hK
   go_simp
   (refine (hsm _ _ _ _ hr6 R6).mono ?_; rintro e W7 ⟨rfl, hb7⟩)
   refine kp hK (belowS (belowCall hHeld.2 hb7)) (fun hHeld => ?_)
   clear hK K
   refine tk 13 (some 28) ?_
   refine wpAnyH_done (by kernel_rfl) ?_ _
   go_wp2
   go_roundw
   case rel => exact ⟨1, by omega, by simp, belowCall hB5' hHeld.2⟩
   case measure => simp [intOf]
  ·have g0 := bw.cell 2
   have g1 := bw.cell 3
   have lw := bw.lt
   clear hof0 hof2 hof3 Ra Rc Rd
   go_wp2_with fail
   refine boxes1 fun W5 hB5 hs5 bX => ?_
   have hB5' := belowCall hBr hB5
   have cX := bX.cell
   have lX := bX.lt
   replace bQ := bQ.below hB5
   replace Rb := Rb.ext (.of_below hB5)
   clear g0 g1 bw lw
   refine wp_region_held_drew (S := fun w' => (∀ b o, b < W5.heap.size → w'.cell? ⟨b, o, none⟩ = W5.cell? ⟨b, o, none⟩) ∧ Below W5.heap.size W5 w') (by kernel_rfl) (belowS (Below.refl _ _).drew) (fun hHeld => ?_)
   refine tk 0 (some 15) ?_
   refine tk 1 (some 16) ?_
   refine tk 2 (some 17) ?_
   refine tk 3 (some 18) ?_
   refine tk 4 (some 19) ?_
   refine tk 5 (some 20) ?_
   refine tl 6 (some 21) rfl (.agg #[p0, p1, p2, p3]) (exec_load 37 _ rfl BQ 4 rfl #[p0, p1, p2, p3] (fun w hS => (bQ.below hS.2).part 4 #[p0, p1, p2, p3] rfl) _ Tryz.underlying37 rfl sizeQuot) ?_
   refine tk 7 (some 22) ?_
   refine tk 8 (some 23) ?_
   refine tk 9 (some 24) ?_
   refine tk 10 (some 25) ?_
   refine Mono.st 11 ?_
   intro K hK
   go_simp
   (refine (hof1 _).mono ?_; rintro e W6 ⟨C6, rfl, R6, hb6⟩)
   refine kp hK (belowS (belowCall hHeld.2 hb6)) (fun hHeld => ?_)
   clear hK K
   have hr6 := Rb.ext (.of_below hHeld.2)
   refine Mono.st 12 ?_
   intro K hK
   go_simp
   (refine (hsm _ _ _ _ hr6 R6).mono ?_; rintro e W7 ⟨rfl, hb7⟩)
   refine kp hK (belowS (belowCall hHeld.2 hb7)) (fun hHeld => ?_)
   clear hK K
   refine tk 13 (some 28) ?_
   refine wpAnyH_done (by kernel_rfl) ?_ _
   go_wp2
   go_roundw
   case rel => exact ⟨2, by omega, by simp, belowCall hB5' hHeld.2⟩
   case measure => simp [intOf]
  ·have g0 := bw.cell 4
   have g1 := bw.cell 5
   have lw := bw.lt
   clear hof0 hof1 hof3 Ra Rb Rd
   go_wp2_with fail
   refine boxes1 fun W5 hB5 hs5 bX => ?_
   have hB5' := belowCall hBr hB5
   have cX := bX.cell
   have lX := bX.lt
   replace bQ := bQ.below hB5
   replace Rc := Rc.ext (.of_below hB5)
   clear g0 g1 bw lw
   refine wp_region_held_drew (S := fun w' => (∀ b o, b < W5.heap.size → w'.cell? ⟨b, o, none⟩ = W5.cell? ⟨b, o, none⟩) ∧ Below W5.heap.size W5 w') (by kernel_rfl) (belowS (Below.refl _ _).drew) (fun hHeld => ?_)
   refine tk 0 (some 15) ?_
   refine tk 1 (some 16) ?_
   refine tk 2 (some 17) ?_
   refine tk 3 (some 18) ?_
   refine tk 4 (some 19) ?_
   refine tk 5 (some 20) ?_
   refine tl 6 (some 21) rfl (.agg #[q0, q1, q2, q3]) (exec_load 37 _ rfl BQ 8 rfl #[q0, q1, q2, q3] (fun w hS => (bQ.below hS.2).part 8 #[q0, q1, q2, q3] rfl) _ Tryz.underlying37 rfl sizeQuot) ?_
   refine tk 7 (some 22) ?_
   refine tk 8 (some 23) ?_
   refine tk 9 (some 24) ?_
   refine tk 10 (some 25) ?_
   refine Mono.st 11 ?_
   intro K hK
   go_simp
   (refine (hof2 _).mono ?_; rintro e W6 ⟨C6, rfl, R6, hb6⟩)
   refine kp hK (belowS (belowCall hHeld.2 hb6)) (fun hHeld => ?_)
   clear hK K
   have hr6 := Rc.ext (.of_below hHeld.2)
   refine Mono.st 12 ?_
   intro K hK
   go_simp
   (refine (hsm _ _ _ _ hr6 R6).mono ?_; rintro e W7 ⟨rfl, hb7⟩)
   refine kp hK (belowS (belowCall hHeld.2 hb7)) (fun hHeld => ?_)
   clear hK K
   refine tk 13 (some 28) ?_
   refine wpAnyH_done (by kernel_rfl) ?_ _
   go_wp2
   go_roundw
   case rel => exact ⟨3, by omega, by simp, belowCall hB5' hHeld.2⟩
   case measure => simp [intOf]
  ·have g0 := bw.cell 6
   have g1 := bw.cell 7
   have lw := bw.lt
   clear hof0 hof1 hof2 Ra Rb Rc
   go_wp2_with fail
   refine boxes1 fun W5 hB5 hs5 bX => ?_
   have hB5' := belowCall hBr hB5
   have cX := bX.cell
   have lX := bX.lt
   replace bQ := bQ.below hB5
   replace Rd := Rd.ext (.of_below hB5)
   clear g0 g1 bw lw
   refine wp_region_held_drew (S := fun w' => (∀ b o, b < W5.heap.size → w'.cell? ⟨b, o, none⟩ = W5.cell? ⟨b, o, none⟩) ∧ Below W5.heap.size W5 w') (by kernel_rfl) (belowS (Below.refl _ _).drew) (fun hHeld => ?_)
   refine tk 0 (some 15) ?_
   refine tk 1 (some 16) ?_
   refine tk 2 (some 17) ?_
   refine tk 3 (some 18) ?_
   refine tk 4 (some 19) ?_
   refine tk 5 (some 20) ?_
   refine tl 6 (some 21) rfl (.agg #[r0, r1, r2, r3]) (exec_load 37 _ rfl BQ 12 rfl #[r0, r1, r2, r3] (fun w hS => (bQ.below hS.2).part 12 #[r0, r1, r2, r3] rfl) _ Tryz.underlying37 rfl sizeQuot) ?_
   refine tk 7 (some 22) ?_
   refine tk 8 (some 23) ?_
   refine tk 9 (some 24) ?_
   refine tk 10 (some 25) ?_
   refine Mono.st 11 ?_
   intro K hK
   go_simp
   (refine (hof3 _).mono ?_; rintro e W6 ⟨C6, rfl, R6, hb6⟩)
   refine kp hK (belowS (belowCall hHeld.2 hb6)) (fun hHeld => ?_)
   clear hK K
   have hr6 := Rd.ext (.of_below hHeld.2)
   refine Mono.st 12 ?_
   intro K hK
   go_simp
   (refine (hsm _ _ _ _ hr6 R6).mono ?_; rintro e W7 ⟨rfl, hb7⟩)
   refine kp hK (belowS (belowCall hHeld.2 hb7)) (fun hHeld => ?_)
   clear hK K
   refine tk 13 (some 28) ?_
   refine wpAnyH_done (by kernel_rfl) ?_ _
   go_wp2
   go_roundw
   case rel => exact ⟨4, by omega, by simp, belowCall hB5' hHeld.2⟩
   case measure => simp [intOf]
  ·go_wp2
   go_ret
   subst hBQ
   exact ⟨rfl, belowCall hB hBr⟩
end Go.Proofs.YtdgodcgdlfjpaaaGreatDoor
