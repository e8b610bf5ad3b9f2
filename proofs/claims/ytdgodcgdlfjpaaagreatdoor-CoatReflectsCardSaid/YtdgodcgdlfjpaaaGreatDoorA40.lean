/- Contracts of package coat and of the examples of its law, for the laws of layer 40. Part 40 of 40. No condition beside the row. -/
import Derived.Test.YtdgodcgdlfjpaaaGreatDoorA39
set_option linter.unusedVariables false
set_option linter.unusedSimpArgs false
set_option maxRecDepth 100000
set_option maxHeartbeats 4000000
namespace Go.Proofs.YtdgodcgdlfjpaaaGreatDoor
open Go.RowKit Go.Mono
structure WInv (q : Plc) (BO BQ BD : Nat) (pl : Option Addr) (cl : Nat) (GG : Nat → Flm) (D : Array Value) (X : World) : Prop where
 O : OptAt X cmL q
 o : Box X BO 96 (cmL.ovals q)
 Q : Box X BQ 24 #[.int .i64 15000000, .int .i64 1, .int .i64 1]
 H : Box X (BQ + 1) 24 #[.int .i64 20000000, .int .i64 1, .int .i64 1]
 d : Box X BD 37 D
 F : FilmsAt X pl 1 cl GG
 R : QV X (.agg D) (Rat.divInt 0 1)
theorem WInv.below {q : Plc} {BO BQ BD : Nat} {pl : Option Addr} {cl : Nat} {GG : Nat → Flm} {D : Array Value} {X Y : World} (h : WInv q BO BQ BD pl cl GG D X) (hB : Below X.heap.size X Y) : WInv q BO BQ BD pl cl GG D Y :=
 ⟨h.O.below hB, h.o.below hB, h.Q.below hB, h.H.below hB, h.d.below hB, h.F.below hB, h.R.ext (.of_below hB)⟩
theorem vworks_ok (w : World) : Calls Tryz.prog 12 #[] w fun e w' => e = .returned (.bool true) ∧ Below w.heap.size w w' := by
 have hio : (Tryz.prog.info? 96).map (·.size) = some 10 := by kernel_rfl
 have hil : (Tryz.prog.info? 93).map (·.size) = some 9 := by kernel_rfl
 have hif : (Tryz.prog.info? 24).map (·.size) = some 3 := by kernel_rfl
 go_enter Tryz.func12, Tryz.ntmps12
 go_wp2_with first | (refine boxes2l (T0 := 24) fun W1 hB1 hs1 bQ0 bH0 => ?_; refine wpList_store_box rfl 24 (.tmp 1) _ rfl w.heap.size 0 24 _ #[.int .i64 15000000, .int .i64 1, .int .i64 1] #[.int .i64 15000000, .int .i64 1, .int .i64 1] rfl rfl bQ0 hif (Nat.le_of_ble_eq_true rfl) (film_ones fQ) (whole_new rfl) ?_; intro W2 hk2 bQ2; have bH2 := hk2.box bH0 bH0.lt (by omega)) | (refine wpList_store_box rfl 24 (.tmp 2) _ rfl (w.heap.size + 1) 0 24 _ #[.int .i64 20000000, .int .i64 1, .int .i64 1] #[.int .i64 20000000, .int .i64 1, .int .i64 1] rfl rfl bH2 hif (Nat.le_of_ble_eq_true rfl) (film_ones fH) (whole_new rfl) ?_; intro W3 hk3 bH3; have bQ3 := hk3.box bQ2 bQ2.lt (by omega)) | (refine boxes4l (T0 := 3) fun W4 hB4 hs4 bA bB bI bO => ?_; refine wpList_store_box rfl 96 (.tmp 3) _ rfl (W3.heap.size + 1 + 1 + 1) 0 96 _ #[.string { data := #[] }, .int .i64 0, .int .i64 0, .int .i64 0, .int .i64 0, .slice none 0 0, .slice none 0 0, .slice none 0 0, .slice none 0 0, .slice (some ⟨W3.heap.size + 1 + 1, 0, none⟩) 2 2] #[.string { data := #[] }, .int .i64 0, .int .i64 0, .int .i64 0, .int .i64 0, .slice none 0 0, .slice none 0 0, .slice none 0 0, .slice none 0 0, .slice (some ⟨W3.heap.size + 1 + 1, 0, none⟩) 2 2] rfl rfl bO hio (Nat.le_of_ble_eq_true rfl) (by simp [Value.oneCell']) (whole_new rfl) ?_; intro W5 hk5 bO5) | (refine boxes3l (T0 := 117) fun W6 hB6 hs6 bf bw bs => ?_; refine wpList_store_box rfl 93 _ _ rfl (W3.heap.size + 1 + 1 + 1) 0 96 _ #[.string { data := #[65] }, .int .i64 0, .int .i64 1000000, .int .i64 0, .int .i64 0, .slice (some ⟨W5.heap.size, 0, none⟩) 1 1, .slice (some ⟨W5.heap.size + 1, 0, none⟩) 1 1, .slice (some ⟨W5.heap.size + 1 + 1, 0, none⟩) 2 2, .slice none 0 0] #[.string { data := #[65] }, .int .i64 0, .int .i64 1000000, .int .i64 0, .int .i64 0, .slice (some ⟨W5.heap.size, 0, none⟩) 1 1, .slice (some ⟨W5.heap.size + 1, 0, none⟩) 1 1, .slice (some ⟨W5.heap.size + 1 + 1, 0, none⟩) 2 2, .slice none 0 0, .slice (some ⟨W3.heap.size + 1 + 1, 0, none⟩) 2 2] rfl rfl (bO5.below hB6) hil (Nat.le_of_ble_eq_true rfl) (by simp [Value.oneCell']) rfl ?_; intro W7 hk7 bO7; have bQ7 := hk7.box ((hk5.box (bQ3.below hB4) (bQ3.below hB4).lt (by have := bQ3.lt; omega)).below hB6) (((hk5.box (bQ3.below hB4) (bQ3.below hB4).lt (by have := bQ3.lt; omega)).below hB6).lt) (by have := bQ3.lt; omega); have bH7 := hk7.box ((hk5.box (bH3.below hB4) (bH3.below hB4).lt (by have := bH3.lt; omega)).below hB6) (((hk5.box (bH3.below hB4) (bH3.below hB4).lt (by have := bH3.lt; omega)).below hB6).lt) (by have := bH3.lt; omega)) | (refine wpList_load_box rfl 24 (.tmp 1) rfl w.heap.size rfl 24 #[.int .i64 15000000, .int .i64 1, .int .i64 1] bQ7 _ Tryz.underlying24 rfl hif ?_) | (refine wpList_load_box rfl 24 (.tmp 2) rfl (w.heap.size + 1) rfl 24 #[.int .i64 20000000, .int .i64 1, .int .i64 1] bH7 _ Tryz.underlying24 rfl hif ?_)
 have hw2 := hk2.below hB1 (Nat.le_refl _) hB1.size
 have hw3 := hk3.below hw2 (by omega) hw2.size
 have hw4 := belowCall hw3 hB4
 have z3 := hw3.size
 have z34 : W3.heap.size ≤ W4.heap.size := hB4.size
 have z5 := hk5.size
 have hw5 := hk5.below hw4 (by omega) hw4.size
 have hw6 := belowCall hw5 hB6
 have hw7 := hk7.below hw6 (by omega) hw6.size
 have mv : ∀ {B T cs}, Box W4 B T cs → B ≠ W3.heap.size + 1 + 1 + 1 → Box W7 B T cs := fun b h => hk7.box ((hk5.box b b.lt h).below hB6) ((hk5.box b b.lt h).below hB6).lt h
 have mw : ∀ {B T cs}, Box W6 B T cs → B ≠ W3.heap.size + 1 + 1 + 1 → Box W7 B T cs := fun b h => hk7.box b b.lt h
 have O7 : OptAt W7 cmL (plcOf cmL W5.heap.size (W5.heap.size + 1) (W5.heap.size + 1 + 1) (W3.heap.size + 1 + 1) (fun i => if i = 0 then W3.heap.size else W3.heap.size + 1)) := by
  refine optAt_mk (TI := fun _ => 3) cmL rfl rfl (by decide) _ _ _ _ _ _ _ (mw bf (by omega)) (mw bw (by omega)) (mw bs (by omega)) rfl (mv bI (by omega)) (fun i hi => ?_) (fun i hi => ?_)
  ·have hi2 : i < 2 := hi
   rcases (by omega : i = 0 ∨ i = 1) with rfl | rfl <;> rfl
  ·have hi2 : i < 2 := hi
   rcases (by omega : i = 0 ∨ i = 1) with rfl | rfl
   ·show Box W7 W3.heap.size 3 _
    exact mv bA (by omega)
   ·show Box W7 (W3.heap.size + 1) 3 _
    exact mv bB (by omega)
 have bo7 : Box W7 (W3.heap.size + 1 + 1 + 1) 96 (cmL.ovals (plcOf cmL W5.heap.size (W5.heap.size + 1) (W5.heap.size + 1 + 1) (W3.heap.size + 1 + 1) (fun i => if i = 0 then W3.heap.size else W3.heap.size + 1))) := bO7
 generalize (plcOf cmL W5.heap.size (W5.heap.size + 1) (W5.heap.size + 1 + 1) (W3.heap.size + 1 + 1) (fun i => if i = 0 then W3.heap.size else W3.heap.size + 1)) = q at *
 generalize W3.heap.size + 1 + 1 + 1 = BO at *
 clear mv mw z3 z34 z5 hw2 hw3 hw4 hw5 hw6 bO7 hk7 bO5 hB6 hs6 bf bw bs hk5 bO bI bB bA hs4 hB4 bQ3 bH3 hk3 bH2 bQ2 hk2 bH0 bQ0 hs1 hB1
 refine boxes1c fun W8 hB8 hs8 bl => ?_
 have hbst := best_ok 10000000 22500000 (by decide) (by decide) (by decide) (by decide) QH 2 (by decide) (fun i _ => QH_ok i) 2 (by decide) _ 2 W8 (films_box bl 2 (by decide) QH fun i j hi hj => by
  rcases (by omega : i = 0 ∨ i = 1) with rfl | rfl <;> rcases (by omega : j = 0 ∨ j = 1 ∨ j = 2) with rfl | rfl | rfl <;> rfl)
 rw [best_ex.1, best_ex.2.2] at hbst
 refine hbst.mono ?_
 rintro e W9 ⟨pl, cl, D, rfl, F9, R9, hb9⟩
 have G0 := best_ex.2.1
 generalize (bestTo (idx 10000000) (idx 22500000) QH 2 2).G = GG at *
 have hw9 := belowCall (belowCall hw7 hB8) hb9
 have O9 := (O7.below hB8).below hb9
 have bo9 := (bo7.below hB8).below hb9
 have bQ9 := (bQ7.below hB8).below hb9
 have bH9 := (bH7.below hB8).below hb9
 clear hbst O7 bo7 bQ7 bH7 bl hB8 hs8 hb9 hw7
 obtain ⟨D', hD', hDs, hD1⟩ := R9.cells
 cases hD'
 have hiD : (Tryz.prog.info? 37).map (·.size) = some D.size := by rw [hDs]; exact sizeQuot
 go_wp2_with first | (refine wpList_new rfl 37 rfl _ alloc_quot ?_; intro Wa BD hleD hba bDa) | (refine wpList_store_box rfl 37 (.tmp 5) _ rfl BD 0 37 _ D D rfl rfl bDa hiD (Nat.le_of_eq (by rw [hDs]; rfl)) hD1 (whole_new (by rw [hDs]; rfl)) ?_; intro Wb hkb bDb)
 have hb9b := hkb.below hba hleD hba.size
 have hwb := belowCall hw9 hb9b
 have Rb := (R9.ext (.of_below hba)).ext (hkb.ext bDa (by decide))
 have Ib : WInv q BO w.heap.size BD pl cl GG D Wb := ⟨O9.below hb9b, bo9.below hb9b, bQ9.below hb9b, bH9.below hb9b, bDb, F9.below hb9b, Rb⟩
 clear O9 bo9 bQ9 bH9 bDb F9 Rb R9 hba bDa hkb hleD hb9b hw9
 generalize hBQ : w.heap.size = BQ at *
 refine wp_region_held_drew (S := fun w' => Below Wb.heap.size Wb w') (by as_aux_lemma => kernel_rfl) ((Below.refl _ _).drew) (fun hHeld => ?_)
 generalize Wb.drew = X0 at *
 refine tk 0 (some 30) ?_
 refine tk 1 (some 31) ?_
 refine tk 2 (some 32) ?_
 refine tk 3 (some 33) ?_
 refine tl 6 (some 36) rfl (.agg #[.int .i64 20000000, .int .i64 1, .int .i64 1]) (exec_load 24 _ rfl (BQ + 1) 0 rfl #[.int .i64 20000000, .int .i64 1, .int .i64 1] (fun w hS => (Ib.below hS).H.range) _ Tryz.underlying24 rfl hif) ?_
 refine Mono.st 4 ?_
 intro K hK
 go_simp
 refine kp hK (belowAlloc hHeld _) (fun hHeld => ?_)
 clear hK K
 have bX1 : Box (X0.alloc (.cells #[.int .i64 0, .int .i64 1, .int .i64 1, .int .i64 2, .int .i64 2, .int .i64 1, .int .i64 0, .int .i64 1] 29)) X0.heap.size 29 #[.int .i64 0, .int .i64 1, .int .i64 1, .int .i64 2, .int .i64 2, .int .i64 1, .int .i64 0, .int .i64 1] := Box.new _ _ _
 have hX1 : Below X0.heap.size X0 (X0.alloc (.cells #[.int .i64 0, .int .i64 1, .int .i64 1, .int .i64 2, .int .i64 2, .int .i64 1, .int .i64 0, .int .i64 1] 29)) := belowAlloc (Below.refl _ _) _
 generalize X0.alloc (.cells #[.int .i64 0, .int .i64 1, .int .i64 1, .int .i64 2, .int .i64 2, .int .i64 1, .int .i64 0, .int .i64 1] 29) = X1 at *
 refine Mono.st 5 ?_
 intro K hK
 go_simp
 (refine (vquad_ok _ rfl _).mono ?_; rintro e X2 ⟨A0, rfl, ba0, hbX2⟩)
 refine kp hK (belowCall hHeld hbX2) (fun hHeld => ?_)
 clear hK K
 refine Mono.st 7 ?_
 intro K hK
 go_simp
 (refine (film_ex fH (by decide) _).mono ?_; rintro e X3 ⟨C0, rfl, M0, hbX3⟩)
 refine kp hK (belowCall hHeld hbX3) (fun hHeld => ?_)
 clear hK K
 refine tk 8 (some 38) ?_
 refine tk 9 (some 39) ?_
 have hq := vquad1_ok C0 _ (0) (1) (1) (2) (2) (1) (0) (1) X3 M0 _ 4 A0 (by intro z hz; rcases hz with rfl | rfl | rfl | rfl | rfl | rfl | rfl | rfl <;> decide) (by decide) (by decide) (by decide) (by decide) _ ((bX1.below hbX2).below hbX3) (ba0.below hbX3) fH_mat.1 fH_mat.2.1 fH_mat.2.2.1 fH_mat.2.2.2
 refine Mono.st 10 ?_
 intro K hK
 go_simp
 (refine (hq).mono ?_; rintro e X4 ⟨rfl, hbX4⟩)
 refine kp hK (belowCall hHeld hbX4) (fun hHeld => ?_)
 clear hK K
 clear hq bX1 hX1 ba0 M0 hbX2 hbX3
 refine tk 11 (some 41) ?_
 refine tk 12 (some 42) ?_
 refine tk 13 (some 43) ?_
 refine tk 14 (some 44) ?_
 refine tk 15 (some 45) ?_
 refine tk 18 (some 48) ?_
 refine Mono.st 16 ?_
 intro K hK
 go_simp
 refine kp hK (belowAlloc hHeld _) (fun hHeld => ?_)
 clear hK K
 have bX5 : Box (X4.alloc (.cells #[.int .i64 3, .int .i64 5, .int .i64 2, .int .i64 5, .int .i64 8, .int .i64 5, .int .i64 3, .int .i64 5] 29)) X4.heap.size 29 #[.int .i64 3, .int .i64 5, .int .i64 2, .int .i64 5, .int .i64 8, .int .i64 5, .int .i64 3, .int .i64 5] := Box.new _ _ _
 have hX5 : Below X4.heap.size X4 (X4.alloc (.cells #[.int .i64 3, .int .i64 5, .int .i64 2, .int .i64 5, .int .i64 8, .int .i64 5, .int .i64 3, .int .i64 5] 29)) := belowAlloc (Below.refl _ _) _
 generalize X4.alloc (.cells #[.int .i64 3, .int .i64 5, .int .i64 2, .int .i64 5, .int .i64 8, .int .i64 5, .int .i64 3, .int .i64 5] 29) = X5 at *
 refine Mono.st 17 ?_
 intro K hK
 go_simp
 (refine (vquad_ok _ rfl _).mono ?_; rintro e X6 ⟨A12, rfl, ba12, hbX6⟩)
 refine kp hK (belowCall hHeld hbX6) (fun hHeld => ?_)
 clear hK K
 refine Mono.st 19 ?_
 intro K hK
 go_simp
 (refine (film_ex fH2 (by decide) _).mono ?_; rintro e X7 ⟨C12, rfl, M12, hbX7⟩)
 refine kp hK (belowCall hHeld hbX7) (fun hHeld => ?_)
 clear hK K
 refine tk 20 (some 50) ?_
 refine tk 21 (some 51) ?_
 have hq := vquad1_ok C12 _ (3) (5) (2) (5) (8) (5) (3) (5) X7 M12 _ 4 A12 (by intro z hz; rcases hz with rfl | rfl | rfl | rfl | rfl | rfl | rfl | rfl <;> decide) (by decide) (by decide) (by decide) (by decide) _ ((bX5.below hbX6).below hbX7) (ba12.below hbX7) fH2_mat.1 fH2_mat.2.1 fH2_mat.2.2.1 fH2_mat.2.2.2
 refine Mono.st 22 ?_
 intro K hK
 go_simp
 (refine (hq).mono ?_; rintro e X8 ⟨rfl, hbX8⟩)
 refine kp hK (belowCall hHeld hbX8) (fun hHeld => ?_)
 clear hK K
 clear hq bX5 hX5 ba12 M12 hbX6 hbX7
 refine tk 23 (some 53) ?_
 refine tk 24 (some 54) ?_
 refine Mono.st 25 ?_
 intro K hK
 go_simp
 (refine (vpair_ok (1) (25) (24) (25) _).mono ?_; rintro e X9 ⟨A25, B25, E25, F25, rfl, ba25, bb25, be25, bf25, hbX9⟩)
 refine kp hK (belowCall hHeld hbX9) (fun hHeld => ?_)
 clear hK K
 refine Mono.st 26 ?_
 intro K hK
 go_simp
 (refine (refl_ex 10000000 15000000 (by decide) (by decide) (by decide) (by decide) QH 0 (by decide) (fun i _ => QH_ok i) none 0 _ (films_nil _ _ _)).mono ?_; rintro e X10 ⟨C25, D25, rfl, R25, T25, hbX10⟩)
 refine kp hK (belowCall hHeld hbX10) (fun hHeld => ?_)
 clear hK K
 refine tk 27 (some 57) ?_
 refine tk 28 (some 58) ?_
 refine tk 29 (some 59) ?_
 rw [bare_rt.1] at R25
 rw [bare_rt.2] at T25
 have hq := vpair1_ok (1) (25) (24) (25) (by decide) (by decide) (by decide) (by decide) (by decide) (by decide) (by decide) (by decide) (by decide) (by decide) C25 D25 X10 R25 T25 A25 B25 E25 F25 (ba25.below hbX10) (bb25.below hbX10) (be25.below hbX10) (bf25.below hbX10)
 refine Mono.st 30 ?_
 intro K hK
 go_simp
 (refine (hq).mono ?_; rintro e X11 ⟨rfl, hbX11⟩)
 refine kp hK (belowCall hHeld hbX11) (fun hHeld => ?_)
 clear hK K
 clear hq ba25 bb25 be25 bf25 R25 T25 hbX9 hbX10
 refine tk 31 (some 61) ?_
 refine tk 32 (some 62) ?_
 refine tl 34 (some 64) rfl (.agg #[.int .i64 15000000, .int .i64 1, .int .i64 1]) (exec_load 24 _ rfl BQ 0 rfl #[.int .i64 15000000, .int .i64 1, .int .i64 1] (fun w hS => (Ib.below hS).Q.range) _ Tryz.underlying24 rfl hif) ?_
 refine wpAnyH_ready (rs := [33, 35]) (by as_aux_lemma => kernel_rfl) (by simp) ?_
 refine AllReadyH.cons rfl (fun K hK => ?_) (AllReadyH.cons rfl (fun K hK => ?_) AllReadyH.nil)
 ·skip
  go_simp
  (refine (vpair_ok (0) (1) (1) (1) _).mono ?_; rintro e X12 ⟨A33, B33, E33, F33, rfl, ba33, bb33, be33, bf33, hbX12⟩)
  refine kp hK (belowCall hHeld hbX12) (fun hHeld => ?_)
  clear hK K
  refine Mono.st 35 ?_
  intro K hK
  go_simp
  refine kp hK (belowAlloc hHeld _) (fun hHeld => ?_)
  clear hK K
  have bX13 : Box (X12.alloc (.cells #[.int .i64 15000000, .int .i64 1, .int .i64 1] 24)) X12.heap.size 24 #[.int .i64 15000000, .int .i64 1, .int .i64 1] := Box.new _ _ _
  have hX13 : Below X12.heap.size X12 (X12.alloc (.cells #[.int .i64 15000000, .int .i64 1, .int .i64 1] 24)) := belowAlloc (Below.refl _ _) _
  generalize X12.alloc (.cells #[.int .i64 15000000, .int .i64 1, .int .i64 1] 24) = X13 at *
  refine Mono.st 36 ?_
  intro K hK
  go_simp
  (refine (refl_ex 10000000 22500000 (by decide) (by decide) (by decide) (by decide) QH 1 (by decide) (fun i _ => QH_ok i) _ 1 _ (films_box bX13 1 (by decide) QH fun i j hi hj => by obtain rfl : i = 0 := (by omega); rcases (by omega : j = 0 ∨ j = 1 ∨ j = 2) with rfl | rfl | rfl <;> rfl)).mono ?_; rintro e X14 ⟨C33, D33, rfl, R33, T33, hbX14⟩)
  refine kp hK (belowCall hHeld hbX14) (fun hHeld => ?_)
  clear hK K
  refine tk 37 (some 67) ?_
  refine tk 38 (some 68) ?_
  refine tk 39 (some 69) ?_
  rw [quarter_rt.1] at R33
  rw [quarter_rt.2] at T33
  have hq := vpair1_ok (0) (1) (1) (1) (by decide) (by decide) (by decide) (by decide) (by decide) (by decide) (by decide) (by decide) (by decide) (by decide) C33 D33 X14 R33 T33 A33 B33 E33 F33 ((ba33.below hX13).below hbX14) ((bb33.below hX13).below hbX14) ((be33.below hX13).below hbX14) ((bf33.below hX13).below hbX14)
  refine Mono.st 40 ?_
  intro K hK
  go_simp
  (refine (hq).mono ?_; rintro e X15 ⟨rfl, hbX15⟩)
  refine kp hK (belowCall hHeld hbX15) (fun hHeld => ?_)
  clear hK K
  clear hq ba33 bb33 be33 bf33 R33 T33
  refine tk 41 (some 71) ?_
  refine tk 42 (some 72) ?_
  refine tl 44 (some 74) rfl (.agg (cmL.ovals q)) (exec_load 96 _ rfl BO 0 rfl (cmL.ovals q) (fun w hS => (Ib.below hS).o.range) _ Tryz.underlying96 rfl hio) ?_
  refine Mono.st 43 ?_
  intro K hK
  go_simp
  (refine (vpair_ok (1) (1) (0) (1) _).mono ?_; rintro e X16 ⟨A43, B43, E43, F43, rfl, ba43, bb43, be43, bf43, hbX16⟩)
  refine kp hK (belowCall hHeld hbX16) (fun hHeld => ?_)
  clear hK K
  refine Mono.st 45 ?_
  intro K hK
  go_simp
  (refine (surf_ex q _ (Ib.below hHeld).O).mono ?_; rintro e X17 ⟨C43, D43, rfl, R43, T43, hbX17⟩)
  refine kp hK (belowCall hHeld hbX17) (fun hHeld => ?_)
  clear hK K
  refine tk 46 (some 76) ?_
  refine tk 47 (some 77) ?_
  refine tk 48 (some 78) ?_
  have hq := vpair1_ok (1) (1) (0) (1) (by decide) (by decide) (by decide) (by decide) (by decide) (by decide) (by decide) (by decide) (by decide) (by decide) C43 D43 X17 R43 T43 A43 B43 E43 F43 (ba43.below hbX17) (bb43.below hbX17) (be43.below hbX17) (bf43.below hbX17)
  refine Mono.st 49 ?_
  intro K hK
  go_simp
  (refine (hq).mono ?_; rintro e X18 ⟨rfl, hbX18⟩)
  refine kp hK (belowCall hHeld hbX18) (fun hHeld => ?_)
  clear hK K
  clear hq ba43 bb43 be43 bf43 R43 T43 hbX16 hbX17
  refine tk 50 (some 80) ?_
  refine tk 51 (some 81) ?_
  refine tk 52 (some 82) ?_
  refine tk 53 (some 83) ?_
  refine tk 54 (some 84) ?_
  refine tk 55 (some 85) ?_
  refine tk 56 (some 86) ?_
  refine tl 57 (some 87) rfl (.agg #[.int .i64 15000000, .int .i64 1, .int .i64 1]) (exec_load 24 _ rfl BQ 0 rfl #[.int .i64 15000000, .int .i64 1, .int .i64 1] (fun w hS => (Ib.below hS).Q.range) _ Tryz.underlying24 rfl hif) ?_
  refine Mono.st 58 ?_
  intro K hK
  go_simp
  refine kp hK (belowAlloc hHeld _) (fun hHeld => ?_)
  clear hK K
  have bX19 : Box (X18.alloc (.cells #[.int .i64 15000000, .int .i64 1, .int .i64 1] 24)) X18.heap.size 24 #[.int .i64 15000000, .int .i64 1, .int .i64 1] := Box.new _ _ _
  have hX19 : Below X18.heap.size X18 (X18.alloc (.cells #[.int .i64 15000000, .int .i64 1, .int .i64 1] 24)) := belowAlloc (Below.refl _ _) _
  generalize X18.alloc (.cells #[.int .i64 15000000, .int .i64 1, .int .i64 1] 24) = X19 at *
  have hq := eqfilm_b pl _ 1 cl 1 GG (fun _ => fQ) X19 (Ib.below hHeld).F (films_box bX19 1 (by decide) (fun _ => fQ) fun i j hi hj => by obtain rfl : i = 0 := (by omega); rcases (by omega : j = 0 ∨ j = 1 ∨ j = 2) with rfl | rfl | rfl <;> rfl) (fun i hi => by obtain rfl : i = 0 := (by omega); exact G0)
  refine Mono.st 59 ?_
  intro K hK
  go_simp
  (refine (hq).mono ?_; rintro e X20 ⟨rfl, hbX20⟩)
  refine kp hK (belowCall hHeld hbX20) (fun hHeld => ?_)
  clear hK K
  refine tk 60 (some 90) ?_
  refine tk 61 (some 91) ?_
  refine tl 62 (some 92) rfl (.agg D) (exec_load 37 _ rfl BD 0 rfl D (fun w hS => (Ib.below hS).d.range) _ Tryz.underlying37 rfl hiD) ?_
  refine Mono.st 63 ?_
  intro K hK
  go_simp
  (refine (vof_ok (0) 1 (by decide) _ (by decide) (by decide) (by decide) (by decide)).mono ?_; rintro e X21 ⟨C63, rfl, R63, hbX21⟩)
  refine kp hK (belowCall hHeld hbX21) (fun hHeld => ?_)
  clear hK K
  have RD := (Ib.below hHeld).R
  refine Mono.st 64 ?_
  intro K hK
  go_simp
  (refine (vsame_true _ _ _ _ rfl _ RD R63).mono ?_; rintro e X22 ⟨rfl, hbX22⟩)
  refine kp hK (belowCall hHeld hbX22) (fun hHeld => ?_)
  clear hK K
  refine tk 65 (some 95) ?_
  refine tk 66 (some 0) ?_
  refine wpAnyH_done (by as_aux_lemma => kernel_rfl) ?_ _
  go_wp2
  go_ret
  subst hBQ
  exact ⟨rfl, belowCall hwb hHeld⟩
 ·skip
  go_simp
  refine kp hK (belowAlloc hHeld _) (fun hHeld => ?_)
  clear hK K
  have bX23 : Box (X11.alloc (.cells #[.int .i64 15000000, .int .i64 1, .int .i64 1] 24)) X11.heap.size 24 #[.int .i64 15000000, .int .i64 1, .int .i64 1] := Box.new _ _ _
  generalize X11.alloc (.cells #[.int .i64 15000000, .int .i64 1, .int .i64 1] 24) = X23 at *
  refine Mono.st 33 ?_
  intro K hK
  go_simp
  (refine (vpair_ok (0) (1) (1) (1) _).mono ?_; rintro e X24 ⟨A33, B33, E33, F33, rfl, ba33, bb33, be33, bf33, hbX24⟩)
  refine kp hK (belowCall hHeld hbX24) (fun hHeld => ?_)
  clear hK K
  refine Mono.st 36 ?_
  intro K hK
  go_simp
  (refine (refl_ex 10000000 22500000 (by decide) (by decide) (by decide) (by decide) QH 1 (by decide) (fun i _ => QH_ok i) _ 1 _ (films_box (bX23.below hbX24) 1 (by decide) QH fun i j hi hj => by obtain rfl : i = 0 := (by omega); rcases (by omega : j = 0 ∨ j = 1 ∨ j = 2) with rfl | rfl | rfl <;> rfl)).mono ?_; rintro e X25 ⟨C33, D33, rfl, R33, T33, hbX25⟩)
  refine kp hK (belowCall hHeld hbX25) (fun hHeld => ?_)
  clear hK K
  refine tk 37 (some 67) ?_
  refine tk 38 (some 68) ?_
  refine tk 39 (some 69) ?_
  rw [quarter_rt.1] at R33
  rw [quarter_rt.2] at T33
  have hq := vpair1_ok (0) (1) (1) (1) (by decide) (by decide) (by decide) (by decide) (by decide) (by decide) (by decide) (by decide) (by decide) (by decide) C33 D33 X25 R33 T33 A33 B33 E33 F33 (ba33.below hbX25) (bb33.below hbX25) (be33.below hbX25) (bf33.below hbX25)
  refine Mono.st 40 ?_
  intro K hK
  go_simp
  (refine (hq).mono ?_; rintro e X26 ⟨rfl, hbX26⟩)
  refine kp hK (belowCall hHeld hbX26) (fun hHeld => ?_)
  clear hK K
  clear hq ba33 bb33 be33 bf33 R33 T33
  refine tk 41 (some 71) ?_
  refine tk 42 (some 72) ?_
  refine tl 44 (some 74) rfl (.agg (cmL.ovals q)) (exec_load 96 _ rfl BO 0 rfl (cmL.ovals q) (fun w hS => (Ib.below hS).o.range) _ Tryz.underlying96 rfl hio) ?_
  refine Mono.st 43 ?_
  intro K hK
  go_simp
  (refine (vpair_ok (1) (1) (0) (1) _).mono ?_; rintro e X27 ⟨A43, B43, E43, F43, rfl, ba43, bb43, be43, bf43, hbX27⟩)
  refine kp hK (belowCall hHeld hbX27) (fun hHeld => ?_)
  clear hK K
  refine Mono.st 45 ?_
  intro K hK
  go_simp
  (refine (surf_ex q _ (Ib.below hHeld).O).mono ?_; rintro e X28 ⟨C43, D43, rfl, R43, T43, hbX28⟩)
  refine kp hK (belowCall hHeld hbX28) (fun hHeld => ?_)
  clear hK K
  refine tk 46 (some 76) ?_
  refine tk 47 (some 77) ?_
  refine tk 48 (some 78) ?_
  have hq := vpair1_ok (1) (1) (0) (1) (by decide) (by decide) (by decide) (by decide) (by decide) (by decide) (by decide) (by decide) (by decide) (by decide) C43 D43 X28 R43 T43 A43 B43 E43 F43 (ba43.below hbX28) (bb43.below hbX28) (be43.below hbX28) (bf43.below hbX28)
  refine Mono.st 49 ?_
  intro K hK
  go_simp
  (refine (hq).mono ?_; rintro e X29 ⟨rfl, hbX29⟩)
  refine kp hK (belowCall hHeld hbX29) (fun hHeld => ?_)
  clear hK K
  clear hq ba43 bb43 be43 bf43 R43 T43 hbX27 hbX28
  refine tk 50 (some 80) ?_
  refine tk 51 (some 81) ?_
  refine tk 52 (some 82) ?_
  refine tk 53 (some 83) ?_
  refine tk 54 (some 84) ?_
  refine tk 55 (some 85) ?_
  refine tk 56 (some 86) ?_
  refine tl 57 (some 87) rfl (.agg #[.int .i64 15000000, .int .i64 1, .int .i64 1]) (exec_load 24 _ rfl BQ 0 rfl #[.int .i64 15000000, .int .i64 1, .int .i64 1] (fun w hS => (Ib.below hS).Q.range) _ Tryz.underlying24 rfl hif) ?_
  refine Mono.st 58 ?_
  intro K hK
  go_simp
  refine kp hK (belowAlloc hHeld _) (fun hHeld => ?_)
  clear hK K
  have bX30 : Box (X29.alloc (.cells #[.int .i64 15000000, .int .i64 1, .int .i64 1] 24)) X29.heap.size 24 #[.int .i64 15000000, .int .i64 1, .int .i64 1] := Box.new _ _ _
  have hX30 : Below X29.heap.size X29 (X29.alloc (.cells #[.int .i64 15000000, .int .i64 1, .int .i64 1] 24)) := belowAlloc (Below.refl _ _) _
  generalize X29.alloc (.cells #[.int .i64 15000000, .int .i64 1, .int .i64 1] 24) = X30 at *
  have hq := eqfilm_b pl _ 1 cl 1 GG (fun _ => fQ) X30 (Ib.below hHeld).F (films_box bX30 1 (by decide) (fun _ => fQ) fun i j hi hj => by obtain rfl : i = 0 := (by omega); rcases (by omega : j = 0 ∨ j = 1 ∨ j = 2) with rfl | rfl | rfl <;> rfl) (fun i hi => by obtain rfl : i = 0 := (by omega); exact G0)
  refine Mono.st 59 ?_
  intro K hK
  go_simp
  (refine (hq).mono ?_; rintro e X31 ⟨rfl, hbX31⟩)
  refine kp hK (belowCall hHeld hbX31) (fun hHeld => ?_)
  clear hK K
  refine tk 60 (some 90) ?_
  refine tk 61 (some 91) ?_
  refine tl 62 (some 92) rfl (.agg D) (exec_load 37 _ rfl BD 0 rfl D (fun w hS => (Ib.below hS).d.range) _ Tryz.underlying37 rfl hiD) ?_
  refine Mono.st 63 ?_
  intro K hK
  go_simp
  (refine (vof_ok (0) 1 (by decide) _ (by decide) (by decide) (by decide) (by decide)).mono ?_; rintro e X32 ⟨C63, rfl, R63, hbX32⟩)
  refine kp hK (belowCall hHeld hbX32) (fun hHeld => ?_)
  clear hK K
  have RD := (Ib.below hHeld).R
  refine Mono.st 64 ?_
  intro K hK
  go_simp
  (refine (vsame_true _ _ _ _ rfl _ RD R63).mono ?_; rintro e X33 ⟨rfl, hbX33⟩)
  refine kp hK (belowCall hHeld hbX33) (fun hHeld => ?_)
  clear hK K
  refine tk 65 (some 95) ?_
  refine tk 66 (some 0) ?_
  refine wpAnyH_done (by as_aux_lemma => kernel_rfl) ?_ _
  go_wp2
  go_ret
  subst hBQ
  exact ⟨rfl, belowCall hwb hHeld⟩
end Go.Proofs.YtdgodcgdlfjpaaaGreatDoor
