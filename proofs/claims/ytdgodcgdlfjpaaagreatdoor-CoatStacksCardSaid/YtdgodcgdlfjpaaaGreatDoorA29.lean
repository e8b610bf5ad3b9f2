/- Contracts of package coat and of the examples of its law, for the laws of layer 40. Part 29 of 40. No condition beside the row. -/
import Derived.Test.YtdgodcgdlfjpaaaGreatDoorA27
set_option linter.unusedVariables false
set_option linter.unusedSimpArgs false
namespace Go.Proofs.YtdgodcgdlfjpaaaGreatDoor
open Go.RowKit Go.Mono
theorem qsame_zero (w : World) : Calls Tryz.prog 21 #[.agg quot0, .agg quot0] w fun e w' => e = .returned (.bool true) ∧ Below w.heap.size w w' := by
 have := qsame_parts false false false false 600 none none none none 0 0 0 0 0 0 0 0 0 0 0 0 w w (Ext.refl _) (Sz.zero _ _) (Sz.zero _ _) (Sz.zero _ _) (Sz.zero _ _)
 refine this.mono ?_
 rintro e W ⟨he, hb⟩
 exact ⟨by simpa using he, hb⟩
set_option maxRecDepth 100000 in
theorem vfails1_ok (n : Int) (w : World) (A : Nat) (ba : Box w A 38 #[.int .i64 n]) :
  Calls Tryz.prog 92 #[.agg quot0, .agg quot0, .int .i64 n, .pointer (some ⟨A, 0, none⟩)] w fun e w' => e = .returned (.bool true) ∧ Below w.heap.size w w' := by
 have hi : (Tryz.prog.info? 37).map (·.size) = some quot0.size := sizeQuot
 have hB : Below w.heap.size w ((w.alloc (.cells quot0 37)).alloc (.cells quot0 37)) := ((Below.refl _ _).alloc (Nat.le_refl _) _).alloc (by simp) _
 have bC : Box ((w.alloc (.cells quot0 37)).alloc (.cells quot0 37)) w.heap.size 37 quot0 := (Box.new _ _ _).alloc _
 have bD : Box ((w.alloc (.cells quot0 37)).alloc (.cells quot0 37)) (w.heap.size + 1) 37 quot0 := by
  have := Box.new (w.alloc (.cells quot0 37)) 37 quot0
  rwa [World.size_alloc] at this
 have ca := (ba.below hB).cell
 have la := (ba.below hB).lt
 generalize hW : (w.alloc (.cells quot0 37)).alloc (.cells quot0 37) = W at hB bC bD ca la
 have hs := fun W => qsame_zero W
 go_enter Tryz.func92, Tryz.ntmps92
 go_wp2_with first | (rw [hW]) | (refine wpList_load_midG (by rfl) 37 (.tmp 4) rfl w.heap.size 0 rfl quot0.toList _ bC.range Tryz.underlying37 rfl hi ?_)
 refine (hs _).mono ?_
 rintro e W1 ⟨rfl, hb1⟩
 have rD := (bD.below hb1).range
 go_wp2_with first | (refine wpList_load_midG (by rfl) 37 (.tmp 5) rfl (w.heap.size + 1) 0 rfl quot0.toList _ rD Tryz.underlying37 rfl hi ?_)
 refine (hs _).mono ?_
 rintro e W2 ⟨rfl, hb2⟩
 go_wp2
 go_ret
 exact ⟨rfl, belowCall (belowCall hB hb1) hb2⟩
end Go.Proofs.YtdgodcgdlfjpaaaGreatDoor
namespace Go.Proofs.YtdgodcgdlfjpaaaGreatDoor
open Go.RowKit Go.Mono
set_option maxRecDepth 100000 in
set_option maxHeartbeats 1000000 in
theorem valike_of (ap0 ap1 ap2 ap3 aq0 aq1 aq2 aq3 ar0 ar1 ar2 ar3 as0 as1 as2 as3 bp0 bp1 bp2 bp3 bq0 bq1 bq2 bq3 br0 br1 br2 br3 bs0 bs1 bs2 bs3 : Value) (w : World)
  (h1 : ∀ W, Below w.heap.size w W → Calls Tryz.prog 21 #[.agg #[ap0, ap1, ap2, ap3], .agg #[bp0, bp1, bp2, bp3]] W fun e w' => e = .returned (.bool true) ∧ Below W.heap.size W w')
  (h2 : ∀ W, Below w.heap.size w W → Calls Tryz.prog 21 #[.agg #[aq0, aq1, aq2, aq3], .agg #[bq0, bq1, bq2, bq3]] W fun e w' => e = .returned (.bool true) ∧ Below W.heap.size W w')
  (h3 : ∀ W, Below w.heap.size w W → Calls Tryz.prog 21 #[.agg #[ar0, ar1, ar2, ar3], .agg #[br0, br1, br2, br3]] W fun e w' => e = .returned (.bool true) ∧ Below W.heap.size W w')
  (h4 : ∀ W, Below w.heap.size w W → Calls Tryz.prog 21 #[.agg #[as0, as1, as2, as3], .agg #[bs0, bs1, bs2, bs3]] W fun e w' => e = .returned (.bool true) ∧ Below W.heap.size W w')
  : Calls Tryz.prog 29 #[.agg #[ap0, ap1, ap2, ap3, aq0, aq1, aq2, aq3, ar0, ar1, ar2, ar3, as0, as1, as2, as3], .agg #[bp0, bp1, bp2, bp3, bq0, bq1, bq2, bq3, br0, br1, br2, br3, bs0, bs1, bs2, bs3]] w fun e w' => e = .returned (.bool true) ∧ Below w.heap.size w w' := by
 have hi : (Tryz.prog.info? 37).map (·.size) = some 4 := sizeQuot
 have hB : Below w.heap.size w ((w.alloc (.cells #[ap0, ap1, ap2, ap3, aq0, aq1, aq2, aq3, ar0, ar1, ar2, ar3, as0, as1, as2, as3] 57)).alloc (.cells #[bp0, bp1, bp2, bp3, bq0, bq1, bq2, bq3, br0, br1, br2, br3, bs0, bs1, bs2, bs3] 57)) := ((Below.refl _ _).alloc (Nat.le_refl _) _).alloc (by simp) _
 have bC : Box ((w.alloc (.cells #[ap0, ap1, ap2, ap3, aq0, aq1, aq2, aq3, ar0, ar1, ar2, ar3, as0, as1, as2, as3] 57)).alloc (.cells #[bp0, bp1, bp2, bp3, bq0, bq1, bq2, bq3, br0, br1, br2, br3, bs0, bs1, bs2, bs3] 57)) w.heap.size 57 #[ap0, ap1, ap2, ap3, aq0, aq1, aq2, aq3, ar0, ar1, ar2, ar3, as0, as1, as2, as3] := (Box.new _ _ _).alloc _
 have bD : Box ((w.alloc (.cells #[ap0, ap1, ap2, ap3, aq0, aq1, aq2, aq3, ar0, ar1, ar2, ar3, as0, as1, as2, as3] 57)).alloc (.cells #[bp0, bp1, bp2, bp3, bq0, bq1, bq2, bq3, br0, br1, br2, br3, bs0, bs1, bs2, bs3] 57)) (w.heap.size + 1) 57 #[bp0, bp1, bp2, bp3, bq0, bq1, bq2, bq3, br0, br1, br2, br3, bs0, bs1, bs2, bs3] := by
  have := Box.new (w.alloc (.cells #[ap0, ap1, ap2, ap3, aq0, aq1, aq2, aq3, ar0, ar1, ar2, ar3, as0, as1, as2, as3] 57)) 57 #[bp0, bp1, bp2, bp3, bq0, bq1, bq2, bq3, br0, br1, br2, br3, bs0, bs1, bs2, bs3]
  rwa [World.size_alloc] at this
 generalize hW : (w.alloc (.cells #[ap0, ap1, ap2, ap3, aq0, aq1, aq2, aq3, ar0, ar1, ar2, ar3, as0, as1, as2, as3] 57)).alloc (.cells #[bp0, bp1, bp2, bp3, bq0, bq1, bq2, bq3, br0, br1, br2, br3, bs0, bs1, bs2, bs3] 57) = W at hB bC bD
 go_enter Tryz.func29, Tryz.ntmps29
 have ra0 := bC.part 0 #[ap0, ap1, ap2, ap3] rfl
 have rb0 := bD.part 0 #[bp0, bp1, bp2, bp3] rfl
 go_wp2_with first | (rw [hW]) | (refine wpList_load_mid rfl 37 (.tmp 6) rfl w.heap.size 0 rfl #[ap0, ap1, ap2, ap3].toList _ ra0 Tryz.underlying37 rfl hi ?_) | (refine wpList_load_mid rfl 37 (.tmp 9) rfl (w.heap.size + 1) 0 rfl #[bp0, bp1, bp2, bp3].toList _ rb0 Tryz.underlying37 rfl hi ?_)
 refine (h1 _ hB).mono ?_
 rintro e W1 ⟨rfl, hb⟩
 replace bC := bC.below hb
 replace bD := bD.below hb
 replace hB := belowCall hB hb
 clear hb ra0 rb0
 have ra1 := bC.part 4 #[aq0, aq1, aq2, aq3] rfl
 have rb1 := bD.part 4 #[bq0, bq1, bq2, bq3] rfl
 go_wp2_with first | (rw [hW]) | (refine wpList_load_midG (by rfl) 37 (.tmp 14) rfl w.heap.size 4 rfl #[aq0, aq1, aq2, aq3].toList _ ra1 Tryz.underlying37 rfl hi ?_) | (refine wpList_load_midG (by rfl) 37 (.tmp 17) rfl (w.heap.size + 1) 4 rfl #[bq0, bq1, bq2, bq3].toList _ rb1 Tryz.underlying37 rfl hi ?_)
 refine (h2 _ hB).mono ?_
 rintro e W2 ⟨rfl, hb⟩
 replace bC := bC.below hb
 replace bD := bD.below hb
 replace hB := belowCall hB hb
 clear hb ra1 rb1
 have ra2 := bC.part 8 #[ar0, ar1, ar2, ar3] rfl
 have rb2 := bD.part 8 #[br0, br1, br2, br3] rfl
 go_wp2_with first | (rw [hW]) | (refine wpList_load_midG (by rfl) 37 (.tmp 23) rfl w.heap.size 8 rfl #[ar0, ar1, ar2, ar3].toList _ ra2 Tryz.underlying37 rfl hi ?_) | (refine wpList_load_midG (by rfl) 37 (.tmp 26) rfl (w.heap.size + 1) 8 rfl #[br0, br1, br2, br3].toList _ rb2 Tryz.underlying37 rfl hi ?_)
 refine (h3 _ hB).mono ?_
 rintro e W3 ⟨rfl, hb⟩
 replace bC := bC.below hb
 replace bD := bD.below hb
 replace hB := belowCall hB hb
 clear hb ra2 rb2
 have ra3 := bC.part 12 #[as0, as1, as2, as3] rfl
 have rb3 := bD.part 12 #[bs0, bs1, bs2, bs3] rfl
 go_wp2_with first | (rw [hW]) | (refine wpList_load_midG (by rfl) 37 (.tmp 32) rfl w.heap.size 12 rfl #[as0, as1, as2, as3].toList _ ra3 Tryz.underlying37 rfl hi ?_) | (refine wpList_load_midG (by rfl) 37 (.tmp 35) rfl (w.heap.size + 1) 12 rfl #[bs0, bs1, bs2, bs3].toList _ rb3 Tryz.underlying37 rfl hi ?_)
 refine (h4 _ hB).mono ?_
 rintro e W4 ⟨rfl, hb⟩
 replace bC := bC.below hb
 replace bD := bD.below hb
 replace hB := belowCall hB hb
 clear hb ra3 rb3
 go_wp2
 go_ret
 exact ⟨rfl, hB⟩
end Go.Proofs.YtdgodcgdlfjpaaaGreatDoor
namespace Go.Proofs.YtdgodcgdlfjpaaaGreatDoor
open Go.RowKit Go.Mono
theorem vquad_ok (v : Value) (hv : v.oneCell' = true) (w : World) :
  Calls Tryz.prog 55 #[v] w fun e w' => ∃ A, e = .returned (.func (.func 131) #[] #[.pointer (some ⟨A, 0, none⟩)]) ∧ Box w' A 192 #[v] ∧ Below w.heap.size w w' := by
 have hmf : ∀ (fn : Fn) (first cap : Array Value) (w : World), (Instr.makeFunc fn first cap).run Tryz.prog w = .ok (.func fn first cap) w := fun _ _ _ _ => rfl
 go_enter Tryz.func55, Tryz.ntmps55
 go_wp2
 go_ret
 exact ⟨_, rfl, Box.new _ _ _, (Below.refl _ _).alloc (Nat.le_refl _) _⟩
theorem vsame_true (u v : Value) (a b : Rat) (heq : a = b) (w : World) (h1 : QV w u a) (h2 : QV w v b) :
  Calls Tryz.prog 21 #[u, v] w fun e w' => e = .returned (.bool true) ∧ Below w.heap.size w w' := by
 have h := qsame_ok u v a b w w (Ext.refl _) h1 h2
 rw [decide_eq_true heq] at h
 exact h
set_option maxRecDepth 100000 in
set_option maxHeartbeats 2000000 in
theorem vquad1_ok (C : Array Value) (x : Mat) (n0 d0 n1 d1 n2 d2 n3 d3 : Int) (w : World) (hC : MV w C x) (b c A : Nat) (hs : ∀ z, (z = n0 ∨ z = d0 ∨ z = n1 ∨ z = d1 ∨ z = n2 ∨ z = d2 ∨ z = n3 ∨ z = d3) → -1000000000000 ≤ z ∧ z ≤ 1000000000000) (z0 : d0 ≠ 0) (z1 : d1 ≠ 0) (z2 : d2 ≠ 0) (z3 : d3 ≠ 0)
  (T : TypeId) (bw : Box w b T #[.int .i64 n0, .int .i64 d0, .int .i64 n1, .int .i64 d1, .int .i64 n2, .int .i64 d2, .int .i64 n3, .int .i64 d3]) (bA : Box w A 192 #[.slice (some ⟨b, 0, none⟩) 4 c])
  (e0 : x.a = Rat.divInt n0 d0) (e1 : x.b = Rat.divInt n1 d1) (e2 : x.c = Rat.divInt n2 d2) (e3 : x.d = Rat.divInt n3 d3) :
  Calls Tryz.prog 131 #[.agg C, .int .i64 0, .pointer (some ⟨A, 0, none⟩)] w fun e w' => e = .returned (.bool true) ∧ Below w.heap.size w w' := by
 have wr0 : IntKind.i64.wrap 0 = 0 := by decide
 have wr1 : IntKind.i64.wrap 1 = 1 := by decide
 obtain ⟨m0, m1, m2, m3, p0, p1, p2, p3, q0, q1, q2, q3, r0, r1, r2, r3, rfl, Ra, Rb, Rc, Rd⟩ := hC.parts
 have hof0 := fun W => vof_ok n0 d0 z0 W (by have := hs n0 (by simp); omega) (by have := hs n0 (by simp); omega) (by have := hs d0 (by simp); omega) (by have := hs d0 (by simp); omega)
 have hof1 := fun W => vof_ok n1 d1 z1 W (by have := hs n1 (by simp); omega) (by have := hs n1 (by simp); omega) (by have := hs d1 (by simp); omega) (by have := hs d1 (by simp); omega)
 have hof2 := fun W => vof_ok n2 d2 z2 W (by have := hs n2 (by simp); omega) (by have := hs n2 (by simp); omega) (by have := hs d2 (by simp); omega) (by have := hs d2 (by simp); omega)
 have hof3 := fun W => vof_ok n3 d3 z3 W (by have := hs n3 (by simp); omega) (by have := hs n3 (by simp); omega) (by have := hs d3 (by simp); omega) (by have := hs d3 (by simp); omega)
 rw [← e0] at hof0
 rw [← e1] at hof1
 rw [← e2] at hof2
 rw [← e3] at hof3
 have hsm := fun (u v : Value) (a : Rat) (W : World) (h1 : QV W u a) (h2 : QV W v a) => vsame_true u v a a rfl W h1 h2
 clear hs z0 z1 z2 z3 e0 e1 e2 e3 hC
 have cA := bA.cell
 have lA := bA.lt
 go_enter Tryz.func131, Tryz.ntmps131
 go_wp2_with fail
 refine boxes1 fun W hB hsz bQ => ?_
 replace bw := bw.below hB
 replace bA := bA.below hB
 replace Ra := Ra.ext (.of_below hB)
 replace Rb := Rb.ext (.of_below hB)
 replace Rc := Rc.ext (.of_below hB)
 replace Rd := Rd.ext (.of_below hB)
 generalize hBQ : w.heap.size = BQ at *
 clear cA lA
 have cA := bA.cell
 have lA := bA.lt
 go_loopw [10] (fun x wr => ∃ i : Nat, i ≤ 4 ∧ x = .int .i64 (i : Int) ∧ Below W.heap.size W wr) (fun x _ => (4 - intOf x).toNat)
 case atStart => exact ⟨0, by omega, rfl, Below.refl _ _⟩
 case round =>
  obtain ⟨i, hi, rfl, hBr⟩ := hrel
  replace bw := bw.below hBr
  replace bQ := bQ.below hBr
  replace Ra := Ra.ext (.of_below hBr)
  replace Rb := Rb.ext (.of_below hBr)
  replace Rc := Rc.ext (.of_below hBr)
  replace Rd := Rd.ext (.of_below hBr)
  clear cA lA bA
  rcases (by omega : i = 0 ∨ i = 1 ∨ i = 2 ∨ i = 3 ∨ i = 4) with rfl | rfl | rfl | rfl | rfl
  ·have g0 := bw.cell 0
   have g1 := bw.cell 1
   have lw := bw.lt
   clear hof1 hof2 hof3 Rb Rc Rd
   go_wp2_with fail
   refine boxes1 fun W5 hB5 hs5 bX => ?_
   have hB5' := belowCall hBr hB5
   have cX := bX.cell
   have lX := bX.lt
   replace bQ := bQ.below hB5
   replace Ra := Ra.ext (.of_below hB5)
   clear g0 g1 bw lw
   refine wp_region_held_drew (S := fun w' => (∀ b o, b < W5.heap.size → w'.cell? ⟨b, o, none⟩ = W5.cell? ⟨b, o, none⟩) ∧ Below W5.heap.size W5 w') (by kernel_rfl) (belowS (Below.refl _ _).drew) (fun hHeld => ?_)
   refine tk 0 (some 15) ?_
   refine tk 1 (some 16) ?_
   refine tk 2 (some 17) ?_
   refine tk 3 (some 18) ?_
   refine tk 4 (some 19) ?_
   refine tk 5 (some 20) ?_
   refine tl 6 (some 21) rfl (.agg #[m0, m1, m2, m3]) (exec_load 37 _ rfl BQ 0 rfl #[m0, m1, m2, m3] (fun w hS => (bQ.below hS.2).part 0 #[m0, m1, m2, m3] rfl) _ Tryz.underlying37 rfl sizeQuot) ?_
   refine tk 7 (some 22) ?_
   refine tk 8 (some 23) ?_
   refine tk 9 (some 24) ?_
   refine tk 10 (some 25) ?_
   refine Mono.st 11 ?_
   intro K hK
   go_simp
   (refine (hof0 _).mono ?_; rintro e W6 ⟨C6, rfl, R6, hb6⟩)
   refine kp hK (belowS (belowCall hHeld.2 hb6)) (fun hHeld => ?_)
   clear hK K
   have hr6 := Ra.ext (.of_below hHeld.2)
   refine Mono.st 12 ?_
   intro K hK
   go_simp
   (refine (hsm _ _ _ _ hr6 R6).mono ?_; rintro e W7 ⟨rfl, hb7⟩)
   refine kp hK (belowS (belowCall hHeld.2 hb7)) (fun hHeld => ?_)
   clear hK K
   refine tk 13 (some 28) ?_
   refine wpAnyH_done (by kernel_rfl) ?_ _
   go_wp2
   go_roundw
   case rel => exact ⟨1, by omega, by simp, belowCall hB5' hHeld.2⟩
   case measure => simp [intOf]
  ·have g0 := bw.cell 2
   have g1 := bw.cell 3
   have lw := bw.lt
   clear hof0 hof2 hof3 Ra Rc Rd
   go_wp2_with fail
   refine boxes1 fun W5 hB5 hs5 bX => ?_
   have hB5' := belowCall hBr hB5
   have cX := bX.cell
   have lX := bX.lt
   replace bQ := bQ.below hB5
   replace Rb := Rb.ext (.of_below hB5)
   clear g0 g1 bw lw
   refine wp_region_held_drew (S := fun w' => (∀ b o, b < W5.heap.size → w'.cell? ⟨b, o, none⟩ = W5.cell? ⟨b, o, none⟩) ∧ Below W5.heap.size W5 w') (by kernel_rfl) (belowS (Below.refl _ _).drew) (fun hHeld => ?_)
   refine tk 0 (some 15) ?_
   refine tk 1 (some 16) ?_
   refine tk 2 (some 17) ?_
   refine tk 3 (some 18) ?_
   refine tk 4 (some 19) ?_
   refine tk 5 (some 20) ?_
   refine tl 6 (some 21) rfl (.agg #[p0, p1, p2, p3]) (exec_load 37 _ rfl BQ 4 rfl #[p0, p1, p2, p3] (fun w hS => (bQ.below hS.2).part 4 #[p0, p1, p2, p3] rfl) _ Tryz.underlying37 rfl sizeQuot) ?_
   refine tk 7 (some 22) ?_
   refine tk 8 (some 23) ?_
   refine tk 9 (some 24) ?_
   refine tk 10 (some 25) ?_
   refine Mono.st 11 ?_
   intro K hK
   go_simp
   (refine (hof1 _).mono ?_; rintro e W6 ⟨C6, rfl, R6, hb6⟩)
   refine kp hK (belowS (belowCall hHeld.2 hb6)) (fun hHeld => ?_)
   clear hK K
   have hr6 := Rb.ext (.of_below hHeld.2)
   refine Mono.st 12 ?_
   intro K hK
   go_simp
   (refine (hsm _ _ _ _ hr6 R6).mono ?_; rintro e W7 ⟨rfl, hb7⟩)
   refine kp hK (belowS (belowCall hHeld.2 hb7)) (fun hHeld => ?_)
   clear hK K
   refine tk 13 (some 28) ?_
   refine wpAnyH_done (by kernel_rfl) ?_ _
   go_wp2
   go_roundw
   case rel => exact ⟨2, by omega, by simp, belowCall hB5' hHeld.2⟩
   case measure => simp [intOf]
  ·have g0 := bw.cell 4
   have g1 := bw.cell 5
   have lw := bw.lt
   clear hof0 hof1 hof3 Ra Rb Rd
   go_wp2_with fail
   refine boxes1 fun W5 hB5 hs5 bX => ?_
   have hB5' := belowCall hBr hB5
   have cX := bX.cell
   have lX := bX.lt
   replace bQ := bQ.below hB5
   replace Rc := Rc.ext (.of_below hB5)
   clear g0 g1 bw lw
   refine wp_region_held_drew (S := fun w' => (∀ b o, b < W5.heap.size → w'.cell? ⟨b, o, none⟩ = W5.cell? ⟨b, o, none⟩) ∧ Below W5.heap.size W5 w') (by kernel_rfl) (belowS (Below.refl _ _).drew) (fun hHeld => ?_)
   refine tk 0 (some 15) ?_
   refine tk 1 (some 16) ?_
   refine tk 2 (some 17) ?_
   refine tk 3 (some 18) ?_
   refine tk 4 (some 19) ?_
   refine tk 5 (some 20) ?_
   refine tl 6 (some 21) rfl (.agg #[q0, q1, q2, q3]) (exec_load 37 _ rfl BQ 8 rfl #[q0, q1, q2, q3] (fun w hS => (bQ.below hS.2).part 8 #[q0, q1, q2, q3] rfl) _ Tryz.underlying37 rfl sizeQuot) ?_
   refine tk 7 (some 22) ?_
   refine tk 8 (some 23) ?_
   refine tk 9 (some 24) ?_
   refine tk 10 (some 25) ?_
   refine Mono.st 11 ?_
   intro K hK
   go_simp
   (refine (hof2 _).mono ?_; rintro e W6 ⟨C6, rfl, R6, hb6⟩)
   refine kp hK (belowS (belowCall hHeld.2 hb6)) (fun hHeld => ?_)
   clear hK K
   have hr6 := Rc.ext (.of_below hHeld.2)
   refine Mono.st 12 ?_
   intro K hK
   go_simp
   (refine (hsm _ _ _ _ hr6 R6).mono ?_; rintro e W7 ⟨rfl, hb7⟩)
   refine kp hK (belowS (belowCall hHeld.2 hb7)) (fun hHeld => ?_)
   clear hK K
   refine tk 13 (some 28) ?_
   refine wpAnyH_done (by kernel_rfl) ?_ _
   go_wp2
   go_roundw
   case rel => exact ⟨3, by omega, by simp, belowCall hB5' hHeld.2⟩
   case measure => simp [intOf]
  ·have g0 := bw.cell 6
   have g1 := bw.cell 7
   have lw := bw.lt
   clear hof0 hof1 hof2 Ra Rb Rc
   go_wp2_with fail
   refine boxes1 fun W5 hB5 hs5 bX => ?_
   have hB5' := belowCall hBr hB5
   have cX := bX.cell
   have lX := bX.lt
   replace bQ := bQ.below hB5
   replace Rd := Rd.ext (.of_below hB5)
   clear g0 g1 bw lw
   refine wp_region_held_drew (S := fun w' => (∀ b o, b < W5.heap.size → w'.cell? ⟨b, o, none⟩ = W5.cell? ⟨b, o, none⟩) ∧ Below W5.heap.size W5 w') (by kernel_rfl) (belowS (Below.refl _ _).drew) (fun hHeld => ?_)
   refine tk 0 (some 15) ?_
   refine tk 1 (some 16) ?_
   refine tk 2 (some 17) ?_
   refine tk 3 (some 18) ?_
   refine tk 4 (some 19) ?_
   refine tk 5 (some 20) ?_
   refine tl 6 (some 21) rfl (.agg #[r0, r1, r2, r3]) (exec_load 37 _ rfl BQ 12 rfl #[r0, r1, r2, r3] (fun w hS => (bQ.below hS.2).part 12 #[r0, r1, r2, r3] rfl) _ Tryz.underlying37 rfl sizeQuot) ?_
   refine tk 7 (some 22) ?_
   refine tk 8 (some 23) ?_
   refine tk 9 (some 24) ?_
   refine tk 10 (some 25) ?_
   refine Mono.st 11 ?_
   intro K hK
   go_simp
   (refine (hof3 _).mono ?_; rintro e W6 ⟨C6, rfl, R6, hb6⟩)
   refine kp hK (belowS (belowCall hHeld.2 hb6)) (fun hHeld => ?_)
   clear hK K
   have hr6 := Rd.ext (.of_below hHeld.2)
   refine Mono.st 12 ?_
   intro K hK
   go_simp
   (refine (hsm _ _ _ _ hr6 R6).mono ?_; rintro e W7 ⟨rfl, hb7⟩)
   refine kp hK (belowS (belowCall hHeld.2 hb7)) (fun hHeld => ?_)
   clear hK K
   refine tk 13 (some 28) ?_
   refine wpAnyH_done (by kernel_rfl) ?_ _
   go_wp2
   go_roundw
   case rel => exact ⟨4, by omega, by simp, belowCall hB5' hHeld.2⟩
   case measure => simp [intOf]
  ·go_wp2
   go_ret
   subst hBQ
   exact ⟨rfl, belowCall hB hBr⟩
end Go.Proofs.YtdgodcgdlfjpaaaGreatDoor
