/- CoatSums returns true for every list of thin films and every two small numbers. Part 4 of 6. No condition beside the row. -/
import Derived.Test.YtdgodcgdlfjpaaaGreatDoorS01
import Derived.Test.YtdgodcgdlfjpaaaGreatDoorS03
set_option linter.unusedVariables false
set_option linter.unusedSimpArgs false
namespace Go.Proofs.YtdgodcgdlfjpaaaGreatDoor
open Go.RowKit Go.Mono
set_option maxRecDepth 100000 in
set_option maxHeartbeats 8000000 in
theorem vsums_of (hwk : Hid (∀ w : World, Calls Tryz.prog 12 #[] w fun e w' => e = .returned (.bool true) ∧ Below w.heap.size w w')) (p : Option Addr) (n c : Nat) (G : Nat → Thn) (hG : ∀ i, i < n → (G i).ok) (s0 s1 : Int) (hs0 : 0 ≤ s0 ∧ s0 ≤ 255) (hs1 : 0 ≤ s1 ∧ s1 ≤ 255) (w : World) (h : ThinsAt w p n c G) :
    Calls Tryz.prog 8 #[.slice p n c, .agg #[.int .u8 s0, .int .u8 s1]] w fun e w' => e = .returned (.bool true) ∧ Below w.heap.size w w' := by
  go_enter Tryz.func8, Tryz.ntmps8
  go_wp2_with fail
  refine boxes1c (T0 := 25) fun Wa hBa hsa bS => ?_
  have lw := hBa.size
  refine (hwk.out Wa).mono ?_
  rintro e W0 ⟨rfl, hb0⟩
  have B0 := belowCall hBa hb0
  replace bS := bS.below hb0
  replace h := h.below B0
  clear hBa hsa lw hb0 hwk
  go_wp2_with fail
  refine (films_ok p n c G hG 6 (by decide) W0 h).mono ?_
  rintro e W1 ⟨p', c', rfl, hown, hb1⟩
  replace B0 := belowCall B0 hb1
  replace bS := bS.below hb1
  have hk6 : min n 6 ≤ 6 := Nat.min_le_right _ _
  have hF : ∀ i, i < min n 6 → (G i).film.ok := fun i hi => Thn.film_ok (hG i (by omega))
  generalize min n 6 = k at *
  generalize hFF : (fun i => (G i).film) = F at *
  replace hF : ∀ i, i < k → (F i).ok := fun i hi => by rw [← hFF]; exact hF i hi
  have hfm := ownsRow_films hown (by omega)
  have hnil := owns_nil hown
  clear h hG hFF hown hb1
  go_wp2_with fail
  have hcS := bS.cell
  refine wp_region_held_drew (S := fun w' => w'.cell? ⟨w.heap.size, 0, none⟩ = some (.int .u8 s0) ∧ w'.cell? ⟨w.heap.size, 1, none⟩ = some (.int .u8 s1) ∧ Below W1.heap.size W1 w') (by as_aux_lemma => kernel_rfl) ⟨hcS 0, hcS 1, (Below.refl _ _).drew⟩ (fun hHeld => ?_)
  have BX := hHeld.2.2
  generalize W1.drew = X0 at *
  refine tkf 0 (some 29) ?_
  refine tkf 1 (some 30) ?_
  refine tkf 2 (some 31) ?_
  refine tkf 3 (some 32) ?_
  refine tkf 4 (some 33) ?_
  refine tkf 5 (some 34) ?_
  refine tkf 6 (some 35) ?_
  refine tkf 7 (some 36) ?_
  refine tkf 8 (some 37) ?_
  refine tkf 9 (some 38) ?_
  refine tkf 10 (some 6) ?_
  refine tkf 11 (some 7) ?_
  refine wpAnyH_done (by as_aux_lemma => kernel_rfl) ?_ _
  have e0 := small_wrap s0 hs0
  have e1 := small_wrap s1 hs1
  rw [e0, e1]
  have a1 : 10000000 ≤ 10000000 + 100000 * s0 := by omega
  have a2 : 10000000 + 100000 * s0 ≤ 40000000 := by omega
  have b1 : 10000000 ≤ 10000000 + 100000 * s1 := by omega
  have b2 : 10000000 + 100000 * s1 ≤ 40000000 := by omega
  clear e0 e1
  generalize 10000000 + 100000 * s0 = na at *
  generalize 10000000 + 100000 * s1 = nb at *
  replace B0 := belowCall B0 BX
  replace hfm := hfm.below BX
  clear hcS bS BX hHeld hs0 hs1
  obtain ⟨pl1, pl2, pl3, pl4, pl5⟩ := sums_plain hF na nb a1 b1
  have hfit := (rfits (idx_hs a1 a2) (idx_hs b1 b2) (stack_hs _ (filmsN_ok hF) (by rw [filmsN_length]; omega)) : RFits (idx na) (idx nb) (stackN F k))
  obtain ⟨df1, df2, df3⟩ := det_fits hF (by omega : k ≤ 8)
  have hr1 := fun W h => refl_ex na nb a1 a2 b1 b2 F k (by omega) hF p' c' W h
  have hr2 := fun p c W h => refl_ex nb na b1 b2 a1 a2 (fun i => F (k - 1 - i)) k (by omega) (fun i hi => hF _ (by omega)) p c W h
  have hr3 := fun W h => stack_ex F k (by omega) hF p' c' W h
  rw [pl4, pl5] at hr2
  generalize back (idx na) (idx nb) (stackN F k) = r at *
  generalize through (idx na) (idx nb) (stackN F k) = t at *
  generalize stackN F k = m at *
  clear hF pl4 pl5 hfit a1 a2 b1 b2
  go_wp2_with fail
  refine (hr1 _ hfm).mono ?_
  rintro e U2 ⟨C8, C9, rfl, q8, q9, hbA⟩
  replace B0 := belowCall B0 hbA
  replace hfm := hfm.below hbA
  clear hbA
  go_wp2_with first | (refine wpList_put2 37 8 9 _ _ C8 C9 _ rfl rfl rfl rfl rfl rfl rfl rfl rfl rfl rfl rfl alloc_quot (by as_aux_lemma => (intro _ _; kernel_rfl)) (by as_aux_lemma => (intro _ _; kernel_rfl)) (by as_aux_lemma => (intro _ _; kernel_rfl)) (by as_aux_lemma => (intro _ _; kernel_rfl)) sizeQuot (by rw [q8.size]; rfl) (by rw [q9.size]; rfl) q8.one q9.one ?_; intro V3 B8 B9 _ _ _ hv3 x8 x9; have y8 := QB.mk x8 (q8.ext (.of_below hv3)); have y9 := QB.mk x9 (q9.ext (.of_below hv3)); replace B0 := belowCall B0 hv3; replace hfm := hfm.below hv3; clear x8 x9 q8 q9 hv3)
  refine (clone_ok p' k c' (by omega) F _ hfm hnil).mono ?_
  rintro e Uc ⟨p2, c2, rfl, hown, hbB⟩
  obtain ⟨g, hg, hrow⟩ := row_some hown
  have hkc := (ownsRow_films hown (by omega)).1
  go_wp2_with fail
  refine (reverse_ok p2 g k c2 (by omega) F Uc hrow).mono ?_
  rintro e Ur ⟨rfl, hrow2, hkb⟩
  have hbR := hkb.below hbB hg hbB.size
  have hfm2 : FilmsAt Ur p2 k c2 (fun i => F (k - 1 - i)) := by
    by_cases hk0 : 0 < k
    · obtain ⟨rfl, _⟩ := hrow hk0
      exact (hrow2 hk0).films (by omega)
    · exact ⟨hkc, by omega, fun h => absurd h hk0⟩
  replace B0 := belowCall B0 hbR
  replace hfm := hfm.below hbR
  replace y8 := y8.below hbR
  replace y9 := y9.below hbR
  clear hbR hkb hrow2 hrow hkc hg hown hbB
  go_wp2_with fail
  refine (hr2 _ _ _ hfm2).mono ?_
  rintro e U4 ⟨C12, C13, rfl, q12, q13, hbC⟩
  replace B0 := belowCall B0 hbC
  replace hfm := hfm.below hbC
  replace y8 := y8.below hbC
  replace y9 := y9.below hbC
  clear hbC
  go_wp2_with first | (refine wpList_put2 37 12 13 _ _ C12 C13 _ rfl rfl rfl rfl rfl rfl rfl rfl rfl rfl rfl rfl alloc_quot (by as_aux_lemma => (intro _ _; kernel_rfl)) (by as_aux_lemma => (intro _ _; kernel_rfl)) (by as_aux_lemma => (intro _ _; kernel_rfl)) (by as_aux_lemma => (intro _ _; kernel_rfl)) sizeQuot (by rw [q12.size]; rfl) (by rw [q13.size]; rfl) q12.one q13.one ?_; intro V5 B12 B13 _ _ _ hv5 x12 x13; have y12 := QB.mk x12 (q12.ext (.of_below hv5)); have y13 := QB.mk x13 (q13.ext (.of_below hv5)); replace B0 := belowCall B0 hv5; replace hfm := hfm.below hv5; replace y8 := y8.below hv5; replace y9 := y9.below hv5; clear x12 x13 q12 q13 hv5) | (refine wpList_load_box rfl 37 (.tmp 8) rfl B8 (by as_aux_lemma => kernel_rfl) 37 C8 y8.box _ Tryz.underlying37 rfl (by rw [y8.qv.size]; exact sizeQuot) ?_) | (refine wpList_load_box rfl 37 (.tmp 9) rfl B9 (by as_aux_lemma => kernel_rfl) 37 C9 y9.box _ Tryz.underlying37 rfl (by rw [y9.qv.size]; exact sizeQuot) ?_)
  refine (add_ok r t _ _ _ _ (Ext.refl _) y8.qv y9.qv (by rw [pl1]; exact fits_one)).mono ?_
  rintro e U6 ⟨vS, rfl, q15, hbD⟩
  replace B0 := belowCall B0 hbD
  replace hfm := hfm.below hbD
  replace y8 := y8.below hbD
  replace y9 := y9.below hbD
  replace y12 := y12.below hbD
  replace y13 := y13.below hbD
  clear hbD
  obtain ⟨C15, rfl, q15⟩ := q15.agg
  rw [pl1] at q15
  go_wp2_with first | (refine wpList_put1 37 15 _ C15 _ rfl rfl rfl rfl rfl rfl alloc_quot (by as_aux_lemma => (intro _; kernel_rfl)) (by as_aux_lemma => (intro _; kernel_rfl)) (by rw [q15.size]; exact sizeQuot) (by rw [q15.size]; rfl) q15.one ?_; intro V7 B15 _ hv7 x15; have y15 := QB.mk x15 (q15.ext (.of_below hv7)); replace B0 := belowCall B0 hv7; replace hfm := hfm.below hv7; replace y8 := y8.below hv7; replace y9 := y9.below hv7; replace y12 := y12.below hv7; replace y13 := y13.below hv7; clear x15 q15 hv7) | (refine wpList_load_box rfl 37 (.tmp 8) rfl B8 (by as_aux_lemma => kernel_rfl) 37 C8 y8.box _ Tryz.underlying37 rfl (by rw [y8.qv.size]; exact sizeQuot) ?_)
  refine (qsign_ok r _ _ y8.qv).mono ?_
  rintro e U8 ⟨rfl, hbE⟩
  replace B0 := belowCall B0 hbE
  replace hfm := hfm.below hbE
  replace y8 := y8.below hbE
  replace y9 := y9.below hbE
  replace y12 := y12.below hbE
  replace y13 := y13.below hbE
  replace y15 := y15.below hbE
  clear hbE
  go_wp2_with first | (refine wpList_load_box rfl 37 (.tmp 9) rfl B9 (by as_aux_lemma => kernel_rfl) 37 C9 y9.box _ Tryz.underlying37 rfl (by rw [y9.qv.size]; exact sizeQuot) ?_)
  refine (qsign_ok t _ _ y9.qv).mono ?_
  rintro e U9 ⟨rfl, hbF⟩
  replace B0 := belowCall B0 hbF
  replace hfm := hfm.below hbF
  replace y8 := y8.below hbF
  replace y9 := y9.below hbF
  replace y12 := y12.below hbF
  replace y13 := y13.below hbF
  replace y15 := y15.below hbF
  clear hbF
  have hz1 : decide (r.num.sign < 0) = false := decide_eq_false (by omega)
  have hz2 : decide (t.num.sign ≤ 0) = false := decide_eq_false (by omega)
  generalize r.num.sign = zr at *
  generalize t.num.sign = zt at *
  clear pl2 pl3 hr1 hr2 hfm2
  go_wp2_with fail
  refine wp_region_held_drew (S := fun w' => Below U9.heap.size U9 w') (by as_aux_lemma => kernel_rfl) ((Below.refl _ _).drew) (fun hHeld => ?_)
  generalize U9.drew = X1 at *
  refine tkf 0 (some 75) ?_
  refine tkf 1 (some 76) ?_
  refine tkf 2 (some 77) ?_
  refine tkf 3 (some 78) ?_
  refine tkf 4 (some 79) ?_
  refine tkf 5 (some 80) ?_
  refine tkf 6 (some 81) ?_
  refine tkf 7 (some 82) ?_
  refine tkf 8 (some 83) ?_
  refine tkf 9 (some 84) ?_
  refine tkf 10 (some 85) ?_
  refine tkf 11 (some 86) ?_
  refine tkf 12 (some 87) ?_
  refine tkf 13 (some 88) ?_
  refine tkf 14 (some 89) ?_
  refine tkf 15 (some 90) ?_
  refine tkf 16 (some 91) ?_
  refine tkf 17 (some 92) ?_
  refine tkf 18 (some 93) ?_
  refine tlf 19 (some 94) rfl (.agg C15) (exec_load 37 _ rfl B15 0 (by as_aux_lemma => kernel_rfl) C15 (fun w hS => (y15.below hS).box.range) _ Tryz.underlying37 rfl (by rw [y15.qv.size]; exact sizeQuot)) ?_
  refine Mono.stc 20 (some 95) (vof_ok (1) 1 (by decide) _ (by decide) (by decide) (by decide) (by decide)) (fun e X2 hR => ?_)
  obtain ⟨D1, rfl, qd1, hbG⟩ := hR
  refine ⟨(belowCall hHeld hbG), fun hHeld => Mono.pt ?_⟩
  refine Mono.stc 21 (some 96) (vsame_true _ _ 1 _ one_div1 _ (y15.below hHeld).qv qd1) (fun e X3 hR => ?_)
  obtain ⟨rfl, hbH⟩ := hR
  refine ⟨(belowCall hHeld hbH), fun hHeld => Mono.pt ?_⟩
  refine tkf 22 (some 97) ?_
  refine tkf 23 (some 98) ?_
  refine tkf 24 (some 99) ?_
  refine tkf 25 (some 100) ?_
  refine tlf 26 (some 101) rfl (.bool false) (fun w hS => by go_simp) ?_
  refine tkf 27 (some 102) ?_
  refine tkf 28 (some 103) ?_
  refine tkf 29 (some 104) ?_
  refine tlf 30 (some 105) rfl (.bool false) (fun w hS => by go_simp) ?_
  refine tkf 31 (some 106) ?_
  refine tkf 32 (some 107) ?_
  refine tlf 33 (some 108) rfl (.agg C8) (exec_load 37 _ rfl B8 0 (by as_aux_lemma => kernel_rfl) C8 (fun w hS => (y8.below hS).box.range) _ Tryz.underlying37 rfl (by rw [y8.qv.size]; exact sizeQuot)) ?_
  refine tlf 34 (some 109) rfl (.agg C12) (exec_load 37 _ rfl B12 0 (by as_aux_lemma => kernel_rfl) C12 (fun w hS => (y12.below hS).box.range) _ Tryz.underlying37 rfl (by rw [y12.qv.size]; exact sizeQuot)) ?_
  refine Mono.stc 35 (some 110) (vsame_true _ _ r r rfl _ (y8.below hHeld).qv (y12.below hHeld).qv) (fun e X4 hR => ?_)
  obtain ⟨rfl, hbI⟩ := hR
  refine ⟨(belowCall hHeld hbI), fun hHeld => Mono.pt ?_⟩
  refine tkf 36 (some 111) ?_
  refine tkf 37 (some 112) ?_
  refine tkf 38 (some 113) ?_
  refine tlf 39 (some 114) rfl (.agg C9) (exec_load 37 _ rfl B9 0 (by as_aux_lemma => kernel_rfl) C9 (fun w hS => (y9.below hS).box.range) _ Tryz.underlying37 rfl (by rw [y9.qv.size]; exact sizeQuot)) ?_
  refine tlf 40 (some 115) rfl (.agg C13) (exec_load 37 _ rfl B13 0 (by as_aux_lemma => kernel_rfl) C13 (fun w hS => (y13.below hS).box.range) _ Tryz.underlying37 rfl (by rw [y13.qv.size]; exact sizeQuot)) ?_
  refine Mono.stc 41 (some 116) (vsame_true _ _ t t rfl _ (y9.below hHeld).qv (y13.below hHeld).qv) (fun e X5 hR => ?_)
  obtain ⟨rfl, hbJ⟩ := hR
  refine ⟨(belowCall hHeld hbJ), fun hHeld => Mono.pt ?_⟩
  refine tkf 42 (some 117) ?_
  refine tkf 43 (some 118) ?_
  refine wpAnyH_done (by as_aux_lemma => kernel_rfl) ?_ _
  replace B0 := belowCall B0 hHeld
  replace hfm := hfm.below hHeld
  clear y8 y9 y12 y13 y15 hHeld hbG hbH hbI hbJ qd1 hz1 hz2
  go_wp2_with fail
  refine (hr3 _ hfm).mono ?_
  rintro e U10 ⟨CM, rfl, mM, hbK⟩
  replace B0 := belowCall B0 hbK
  replace hfm := hfm.below hbK
  clear hbK
  go_wp2_with first | (refine wpList_put1 57 21 _ CM _ rfl rfl rfl rfl rfl rfl alloc_quad (by as_aux_lemma => (intro _; kernel_rfl)) (by as_aux_lemma => (intro _; kernel_rfl)) (by rw [mM.size]; exact sizeQuad) (by rw [mM.size]; rfl) mM.ones ?_; intro V11 B21 _ hv11 x21; obtain ⟨A0, A1, A2, A3, qm⟩ := (mM.ext (.of_below hv11)).row x21; replace B0 := belowCall B0 hv11; clear x21 mM hv11) | (refine wpList_load_mid rfl 37 (.tmp 126) rfl B21 0 (by as_aux_lemma => kernel_rfl) A0.toList _ qm.r0 Tryz.underlying37 rfl (by rw [Array.length_toList, qm.q0.size]; exact sizeQuot) ?_) | (refine wpList_load_mid rfl 37 (.tmp 129) rfl B21 12 (by as_aux_lemma => kernel_rfl) A3.toList _ qm.r3 Tryz.underlying37 rfl (by rw [Array.length_toList, qm.q3.size]; exact sizeQuot) ?_)
  refine (mul_ok m.a m.d _ _ _ _ (Ext.refl _) qm.q0 qm.q3 df1).mono ?_
  rintro e U12 ⟨vM1, rfl, q22, hbL⟩
  replace B0 := belowCall B0 hbL
  replace qm := qm.below hbL
  clear hbL
  obtain ⟨C22, rfl, q22⟩ := q22.agg
  go_wp2_with first | (refine wpList_put1 37 22 _ C22 _ rfl rfl rfl rfl rfl rfl alloc_quot (by as_aux_lemma => (intro _; kernel_rfl)) (by as_aux_lemma => (intro _; kernel_rfl)) (by rw [q22.size]; exact sizeQuot) (by rw [q22.size]; rfl) q22.one ?_; intro V13 B22 _ hv13 x22; have y22 := QB.mk x22 (q22.ext (.of_below hv13)); replace B0 := belowCall B0 hv13; replace qm := qm.below hv13; clear x22 q22 hv13) | (refine wpList_load_mid rfl 37 (.tmp 136) rfl B21 4 (by as_aux_lemma => kernel_rfl) A1.toList _ qm.r1 Tryz.underlying37 rfl (by rw [Array.length_toList, qm.q1.size]; exact sizeQuot) ?_) | (refine wpList_load_mid rfl 37 (.tmp 139) rfl B21 8 (by as_aux_lemma => kernel_rfl) A2.toList _ qm.r2 Tryz.underlying37 rfl (by rw [Array.length_toList, qm.q2.size]; exact sizeQuot) ?_)
  refine (mul_ok m.b m.c _ _ _ _ (Ext.refl _) qm.q1 qm.q2 df2).mono ?_
  rintro e U14 ⟨vM2, rfl, q23, hbM⟩
  replace B0 := belowCall B0 hbM
  replace qm := qm.below hbM
  replace y22 := y22.below hbM
  clear hbM
  obtain ⟨C23, rfl, q23⟩ := q23.agg
  go_wp2_with first | (refine wpList_put1 37 23 _ C23 _ rfl rfl rfl rfl rfl rfl alloc_quot (by as_aux_lemma => (intro _; kernel_rfl)) (by as_aux_lemma => (intro _; kernel_rfl)) (by rw [q23.size]; exact sizeQuot) (by rw [q23.size]; rfl) q23.one ?_; intro V15 B23 _ hv15 x23; have y23 := QB.mk x23 (q23.ext (.of_below hv15)); replace B0 := belowCall B0 hv15; replace qm := qm.below hv15; replace y22 := y22.below hv15; clear x23 q23 hv15) | (refine wpList_load_box rfl 37 (.tmp 22) rfl B22 (by as_aux_lemma => kernel_rfl) 37 C22 y22.box _ Tryz.underlying37 rfl (by rw [y22.qv.size]; exact sizeQuot) ?_) | (refine wpList_load_box rfl 37 (.tmp 23) rfl B23 (by as_aux_lemma => kernel_rfl) 37 C23 y23.box _ Tryz.underlying37 rfl (by rw [y23.qv.size]; exact sizeQuot) ?_)
  refine (add_ok (m.a * m.d) (m.b * m.c) _ _ _ _ (Ext.refl _) y22.qv y23.qv (by rw [df3]; exact fits_one)).mono ?_
  rintro e U16 ⟨vM3, rfl, q24, hbN⟩
  replace B0 := belowCall B0 hbN
  replace qm := qm.below hbN
  replace y22 := y22.below hbN
  replace y23 := y23.below hbN
  clear hbN
  obtain ⟨C24, rfl, q24⟩ := q24.agg
  rw [df3] at q24
  go_wp2_with first | (refine wpList_put1 37 24 _ C24 _ rfl rfl rfl rfl rfl rfl alloc_quot (by as_aux_lemma => (intro _; kernel_rfl)) (by as_aux_lemma => (intro _; kernel_rfl)) (by rw [q24.size]; exact sizeQuot) (by rw [q24.size]; rfl) q24.one ?_; intro V17 B24 _ hv17 x24; have y24 := QB.mk x24 (q24.ext (.of_below hv17)); replace B0 := belowCall B0 hv17; replace qm := qm.below hv17; replace y22 := y22.below hv17; replace y23 := y23.below hv17; clear x24 q24 hv17)
  refine wp_region_held_drew (S := fun w' => Below V17.heap.size V17 w') (by as_aux_lemma => kernel_rfl) ((Below.refl _ _).drew) (fun hHeld => ?_)
  generalize V17.drew = Z1 at *
  refine tkf 0 (some 150) ?_
  refine tkf 1 (some 151) ?_
  refine tkf 2 (some 152) ?_
  refine tkf 3 (some 153) ?_
  refine tkf 4 (some 154) ?_
  refine tkf 5 (some 155) ?_
  refine tkf 6 (some 156) ?_
  refine tkf 7 (some 157) ?_
  refine tkf 8 (some 158) ?_
  refine tkf 9 (some 159) ?_
  refine tkf 10 (some 160) ?_
  refine tkf 11 (some 161) ?_
  refine tkf 12 (some 162) ?_
  refine tkf 13 (some 163) ?_
  refine tkf 14 (some 164) ?_
  refine tlf 15 (some 165) rfl (.agg C24) (exec_load 37 _ rfl B24 0 (by as_aux_lemma => kernel_rfl) C24 (fun w hS => (y24.below hS).box.range) _ Tryz.underlying37 rfl (by rw [y24.qv.size]; exact sizeQuot)) ?_
  refine Mono.stc 16 (some 166) (vof_ok (1) 1 (by decide) _ (by decide) (by decide) (by decide) (by decide)) (fun e Z2 hR => ?_)
  obtain ⟨D2, rfl, qd2, hbO⟩ := hR
  refine ⟨(belowCall hHeld hbO), fun hHeld => Mono.pt ?_⟩
  refine Mono.stc 17 (some 167) (vsame_true _ _ 1 _ one_div1 _ (y24.below hHeld).qv qd2) (fun e Z3 hR => ?_)
  obtain ⟨rfl, hbP⟩ := hR
  refine ⟨(belowCall hHeld hbP), fun hHeld => Mono.pt ?_⟩
  refine tkf 18 (some 168) ?_
  refine tkf 19 (some 4) ?_
  refine wpAnyH_done (by as_aux_lemma => kernel_rfl) ?_ _
  go_wp2
  go_ret
  exact ⟨rfl, belowCall B0 hHeld⟩
end Go.Proofs.YtdgodcgdlfjpaaaGreatDoor
