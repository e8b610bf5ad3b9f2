/- Part 36 of 52 of the proof that the law ParaxialKnown returns true, whatever stands in memory, if the two listed variables hold what the text lays: contracts of the functions that it reaches. No condition beside the row. -/
import Derived.Test.YtepodcocemmejaaGreatDoorA33
set_option linter.unusedVariables false
set_option linter.unusedSimpArgs false
namespace Go.Proofs.YtepodcocemmejaaGreatDoor
open Go.RowKit Go.Mono
set_option maxRecDepth 100000 in
set_option maxHeartbeats 4000000 in
theorem bend_ok (R : Nat) (y u p : Rat) (P : Value) (g : Int) (g1 : -1 ≤ g) (g2 : g ≤ 1) (w : World) (hR : RayAt w R 108 y u) (hP : QV w P p)
    (hf1 : Fits (y * p)) (hf2 : Fits (Rat.divInt g 1 * (y * p))) (hf3 : Fits (u - Rat.divInt g 1 * (y * p))) :
    Calls Tryz.prog 51 #[.pointer (some ⟨R, 0, none⟩), P, .int .i64 g] w fun e w' => e = .returned (.tuple #[]) ∧ KeepBut R w.heap.size w w' ∧ RayAt w' R 108 y (u - Rat.divInt g 1 * (y * p)) := by
  obtain ⟨p1, k1, c1, p1', k1', c1', p2, k2, c2, p2', k2', c2', bR, Ry, Ru⟩ := hR
  have hP' := hP
  obtain ⟨p3, k3, c3, p3', k3', c3', rfl, _, _⟩ := hP
  have hO := fun W => pof_ok g 1 (by decide) W (by omega) (by omega) (by decide) (by decide)
  clear g1 g2
  have hRw := bR.lt
  go_enter Tryz.func51, Tryz.ntmps51
  go_wp2_with fail
  refine boxes1 fun W hB hs bP => ?_
  have bR0 := bR.below hB
  have cR := bR0.cell
  have lR := bR0.lt
  have cP := bP.cell
  have lP := bP.lt
  have nP : w.heap.size ≠ R := by omega
  replace Ry := Ry.ext (.of_below hB)
  replace Ru := Ru.ext (.of_below hB)
  have Rp := hP'.ext (.of_below hB)
  clear hP' bR
  have bR := bR0.drew
  clear cR cP lP hRw
  refine wp_region_held_drew (S := fun w' => KR R W w') (by kernel_rfl) (KR.refl R W).drew (fun hHeld => ?_)
  refine take_want 0 (some 6) rfl (by kernel_rfl) (by kernel_rfl) (by kernel_rfl) rfl (fun _ _ _ h => h) (by rfl) (v := ?_) ?_ (by assumption) ?_
  rotate_left
  · intro w hSw; (try dsimp only at hSw); go_simp; all_goals with_reducible rfl
  simp only [Act.put, List.setIfInBounds_toArray, List.set_cons_zero, List.set_cons_succ]
  refine take_want 1 (some 7) rfl (by kernel_rfl) (by kernel_rfl) (by kernel_rfl) rfl (fun _ _ _ h => h) (by rfl) (v := ?_) ?_ (by assumption) ?_
  rotate_left
  · intro w hSw; (try dsimp only at hSw); go_simp; all_goals with_reducible rfl
  simp only [Act.put, List.setIfInBounds_toArray, List.set_cons_zero, List.set_cons_succ]
  refine take_want 2 (some 8) rfl (by kernel_rfl) (by kernel_rfl) (by kernel_rfl) rfl (fun _ _ _ h => h) (by rfl) (v := ?_) ?_ (by assumption) ?_
  rotate_left
  · intro w hSw; (try dsimp only at hSw); go_simp; all_goals with_reducible rfl
  simp only [Act.put, List.setIfInBounds_toArray, List.set_cons_zero, List.set_cons_succ]
  refine take_want 3 (some 9) rfl (by kernel_rfl) (by kernel_rfl) (by kernel_rfl) rfl (fun _ _ _ h => h) (by rfl) (v := ?_) ?_ (by assumption) ?_
  rotate_left
  · intro w hSw; (try dsimp only at hSw); go_simp; all_goals with_reducible rfl
  simp only [Act.put, List.setIfInBounds_toArray, List.set_cons_zero, List.set_cons_succ]
  refine take_want 4 (some 10) rfl (by kernel_rfl) (by kernel_rfl) (by kernel_rfl) rfl (fun _ _ _ h => h) (by rfl) (v := ?_) ?_ (by assumption) ?_
  rotate_left
  · intro w hSw; (try dsimp only at hSw); go_simp; all_goals with_reducible rfl
  simp only [Act.put, List.setIfInBounds_toArray, List.set_cons_zero, List.set_cons_succ]
  refine take_want 6 (some 12) rfl (by kernel_rfl) (by kernel_rfl) (by kernel_rfl) rfl (fun _ _ _ h => h) (by rfl) (v := ?_) ?_ (by assumption) ?_
  rotate_left
  · intro w hSw; (try dsimp only at hSw); go_simp; all_goals with_reducible rfl
  simp only [Act.put, List.setIfInBounds_toArray, List.set_cons_zero, List.set_cons_succ]
  refine take_want 8 (some 14) rfl (by kernel_rfl) (by kernel_rfl) (by kernel_rfl) rfl (fun _ _ _ h => h) (by rfl) (v := ?_) ?_ (by assumption) ?_
  rotate_left
  · intro w hSw; (try dsimp only at hSw); go_simp; all_goals with_reducible rfl
  simp only [Act.put, List.setIfInBounds_toArray, List.set_cons_zero, List.set_cons_succ]
  refine take_want 9 (some 15) rfl (by kernel_rfl) (by kernel_rfl) (by kernel_rfl) rfl (fun _ _ _ h => h) (by rfl) (v := ?_) ?_ (by assumption) ?_
  rotate_left
  · intro w hSw; (try dsimp only at hSw); go_simp; all_goals with_reducible rfl
  simp only [Act.put, List.setIfInBounds_toArray, List.set_cons_zero, List.set_cons_succ]
  refine take_want 10 (some 16) rfl (by kernel_rfl) (by kernel_rfl) (by kernel_rfl) rfl (fun _ _ _ h => h) (by rfl) (v := ?_) ?_ (by assumption) ?_
  rotate_left
  · intro w hSw; (try dsimp only at hSw); go_simp; all_goals with_reducible rfl
  simp only [Act.put, List.setIfInBounds_toArray, List.set_cons_zero, List.set_cons_succ]
  refine take_want 11 (some 17) rfl (by kernel_rfl) (by kernel_rfl) (by kernel_rfl) rfl (fun _ _ _ h => h) (by rfl) (v := ?_) ?_ (by assumption) ?_
  rotate_left
  · intro w hSw; (try dsimp only at hSw); go_simp; all_goals with_reducible rfl
  simp only [Act.put, List.setIfInBounds_toArray, List.set_cons_zero, List.set_cons_succ]
  refine take_want 12 (some 18) rfl (by as_aux_lemma => kernel_rfl) (by as_aux_lemma => kernel_rfl) (by as_aux_lemma => kernel_rfl) rfl (fun _ _ _ h => h) (by rfl) (v := (.agg #[.bool (decide (y.num < 0)), .slice p1 k1 c1, .bool false, .slice p1' k1' c1'])) (exec_load 54 _ rfl R 0 rfl #[.bool (decide (y.num < 0)), .slice p1 k1 c1, .bool false, .slice p1' k1' c1'] (fun w hS => kr_range0 hS bR0) _ Tryz.underlying54 rfl sizeQuot) (by assumption) ?_
  simp only [Act.put, List.setIfInBounds_toArray, List.set_cons_zero, List.set_cons_succ]
  refine take_want 13 (some 19) rfl (by as_aux_lemma => kernel_rfl) (by as_aux_lemma => kernel_rfl) (by as_aux_lemma => kernel_rfl) rfl (fun _ _ _ h => h) (by rfl) (v := (.agg #[.bool (decide (p.num < 0)), .slice p3 k3 c3, .bool false, .slice p3' k3' c3'])) (exec_load 54 _ rfl w.heap.size 0 rfl #[.bool (decide (p.num < 0)), .slice p3 k3 c3, .bool false, .slice p3' k3' c3'] (fun w' hS => (hS.1.box bP bP.lt nP).range) _ Tryz.underlying54 rfl sizeQuot) (by assumption) ?_
  simp only [Act.put, List.setIfInBounds_toArray, List.set_cons_zero, List.set_cons_succ]
  refine wpAnyH_ready (rs := [5, 7]) (by kernel_rfl) (by simp) ?_
  refine AllReadyH.cons rfl (fun K hK => ?_) (AllReadyH.cons rfl (fun K hK => ?_) AllReadyH.nil)
  · rw [if_pos (by rfl)]
    refine wp_load_mid 54 _ rfl R 4 rfl [.bool (decide (u.num < 0)), .slice p2 k2 c2, .bool false, .slice p2' k2' c2'] _ (hi_range bR) Tryz.underlying54 rfl sizeQuot ?_
    refine hK.out _ _ hHeld (fun hHeld => ?_)
    clear hK K
    try simp only [Act.put, List.setIfInBounds_toArray, List.set_cons_zero, List.set_cons_succ]
    refine wpAnyH_ready (rs := [7]) (by kernel_rfl) (by simp) ?_
    refine AllReadyH.cons rfl (fun K hK => ?_) AllReadyH.nil
    go_simp
    refine (hO _).mono ?_
    rintro e W5 ⟨C5, rfl, R5, hb5⟩
    refine hK.out _ _ (hHeld.call lR hb5) (fun hHeld => ?_)
    clear hK K
    replace bR := bR.below hb5
    try simp only [Act.put, List.setIfInBounds_toArray, List.set_cons_zero, List.set_cons_succ]
    refine wpAnyH_ready (rs := [14]) (by kernel_rfl) (by simp) ?_
    refine AllReadyH.cons rfl (fun K hK => ?_) AllReadyH.nil
    go_simp
    refine (mul_ok y p _ _ _ W (KR.ext hHeld bR0 (by decide)) Ry Rp hf1).mono ?_
    rintro e W6 ⟨r6, rfl, R6, hb6⟩
    refine hK.out _ _ (hHeld.call lR hb6) (fun hHeld => ?_)
    clear hK K
    replace bR := bR.below hb6
    replace R5 := R5.ext (.of_below hb6)
    try simp only [Act.put, List.setIfInBounds_toArray, List.set_cons_zero, List.set_cons_succ]
    obtain ⟨C6, rfl, z6, o6⟩ := R6.cells
    refine take_want 15 (some 21) rfl (by kernel_rfl) (by kernel_rfl) (by kernel_rfl) rfl (fun _ _ _ h => h) (by rfl) (v := ?_) ?_ (by assumption) ?_
    rotate_left
    · intro w hSw; (try dsimp only at hSw); go_simp; all_goals with_reducible rfl
    simp only [Act.put, List.setIfInBounds_toArray, List.set_cons_zero, List.set_cons_succ]
    refine take_want 16 (some 22) rfl (by kernel_rfl) (by kernel_rfl) (by kernel_rfl) rfl (fun _ _ _ h => h) (by rfl) (v := ?_) ?_ (by assumption) ?_
    rotate_left
    · intro w hSw; (try dsimp only at hSw); go_simp; all_goals with_reducible rfl
    simp only [Act.put, List.setIfInBounds_toArray, List.set_cons_zero, List.set_cons_succ]
    refine wpAnyH_ready (rs := [17]) (by kernel_rfl) (by simp) ?_
    refine AllReadyH.cons rfl (fun K hK => ?_) AllReadyH.nil
    go_simp
    refine (mustq_ok C6 z6 o6 _).mono ?_
    rintro e W7 ⟨rfl, hb7⟩
    refine hK.out _ _ (hHeld.call lR hb7) (fun hHeld => ?_)
    clear hK K
    replace bR := bR.below hb7
    replace R5 := R5.ext (.of_below hb7)
    replace R6 := R6.ext (.of_below hb7)
    try simp only [Act.put, List.setIfInBounds_toArray, List.set_cons_zero, List.set_cons_succ]
    refine wpAnyH_ready (rs := [18]) (by kernel_rfl) (by simp) ?_
    refine AllReadyH.cons rfl (fun K hK => ?_) AllReadyH.nil
    go_simp
    refine (mul_ok (Rat.divInt g 1) (y * p) _ _ _ W7 (Ext.refl _) R5 R6 hf2).mono ?_
    rintro e W8 ⟨r8, rfl, R8, hb8⟩
    refine hK.out _ _ (hHeld.call lR hb8) (fun hHeld => ?_)
    clear hK K
    replace bR := bR.below hb8
    replace R5 := R5.ext (.of_below hb8)
    replace R6 := R6.ext (.of_below hb8)
    try simp only [Act.put, List.setIfInBounds_toArray, List.set_cons_zero, List.set_cons_succ]
    obtain ⟨C8, rfl, z8, o8⟩ := R8.cells
    refine take_want 19 (some 25) rfl (by kernel_rfl) (by kernel_rfl) (by kernel_rfl) rfl (fun _ _ _ h => h) (by rfl) (v := ?_) ?_ (by assumption) ?_
    rotate_left
    · intro w hSw; (try dsimp only at hSw); go_simp; all_goals with_reducible rfl
    simp only [Act.put, List.setIfInBounds_toArray, List.set_cons_zero, List.set_cons_succ]
    refine take_want 20 (some 26) rfl (by kernel_rfl) (by kernel_rfl) (by kernel_rfl) rfl (fun _ _ _ h => h) (by rfl) (v := ?_) ?_ (by assumption) ?_
    rotate_left
    · intro w hSw; (try dsimp only at hSw); go_simp; all_goals with_reducible rfl
    simp only [Act.put, List.setIfInBounds_toArray, List.set_cons_zero, List.set_cons_succ]
    refine wpAnyH_ready (rs := [21]) (by kernel_rfl) (by simp) ?_
    refine AllReadyH.cons rfl (fun K hK => ?_) AllReadyH.nil
    go_simp
    refine (mustq_ok C8 z8 o8 _).mono ?_
    rintro e W9 ⟨rfl, hb9⟩
    refine hK.out _ _ (hHeld.call lR hb9) (fun hHeld => ?_)
    clear hK K
    replace bR := bR.below hb9
    replace R5 := R5.ext (.of_below hb9)
    replace R6 := R6.ext (.of_below hb9)
    replace R8 := R8.ext (.of_below hb9)
    try simp only [Act.put, List.setIfInBounds_toArray, List.set_cons_zero, List.set_cons_succ]
    refine wpAnyH_ready (rs := [22]) (by kernel_rfl) (by simp) ?_
    refine AllReadyH.cons rfl (fun K hK => ?_) AllReadyH.nil
    go_simp
    refine (sub_ok u _ _ _ _ _ (Ext.refl _) (Ru.ext (KR.ext hHeld bR0 (by decide))) R8 hf3).mono ?_
    rintro e W10 ⟨r10, rfl, R10, hb10⟩
    refine hK.out _ _ (hHeld.call lR hb10) (fun hHeld => ?_)
    clear hK K
    replace bR := bR.below hb10
    replace R5 := R5.ext (.of_below hb10)
    replace R6 := R6.ext (.of_below hb10)
    replace R8 := R8.ext (.of_below hb10)
    try simp only [Act.put, List.setIfInBounds_toArray, List.set_cons_zero, List.set_cons_succ]
    obtain ⟨p10, k10, c10, p10', k10', c10', hC10, z10, y10⟩ := id R10
    cases hC10
    clear z10 y10
    refine take_want 23 (some 29) rfl (by kernel_rfl) (by kernel_rfl) (by kernel_rfl) rfl (fun _ _ _ h => h) (by rfl) (v := ?_) ?_ (by assumption) ?_
    rotate_left
    · intro w hSw; (try dsimp only at hSw); go_simp; all_goals with_reducible rfl
    simp only [Act.put, List.setIfInBounds_toArray, List.set_cons_zero, List.set_cons_succ]
    refine take_want 24 (some 30) rfl (by kernel_rfl) (by kernel_rfl) (by kernel_rfl) rfl (fun _ _ _ h => h) (by rfl) (v := ?_) ?_ (by assumption) ?_
    rotate_left
    · intro w hSw; (try dsimp only at hSw); go_simp; all_goals with_reducible rfl
    simp only [Act.put, List.setIfInBounds_toArray, List.set_cons_zero, List.set_cons_succ]
    refine wpAnyH_ready (rs := [25]) (by kernel_rfl) (by simp) ?_
    refine AllReadyH.cons rfl (fun K hK => ?_) AllReadyH.nil
    go_simp
    refine (mustq_ok _ rfl (by simp [Value.oneCell']) _).mono ?_
    rintro e W11 ⟨rfl, hb11⟩
    refine hK.out _ _ (hHeld.call lR hb11) (fun hHeld => ?_)
    clear hK K
    replace bR := bR.below hb11
    replace R5 := R5.ext (.of_below hb11)
    replace R6 := R6.ext (.of_below hb11)
    replace R8 := R8.ext (.of_below hb11)
    replace R10 := R10.ext (.of_below hb11)
    try simp only [Act.put, List.setIfInBounds_toArray, List.set_cons_zero, List.set_cons_succ]
    have cR := bR.cell
    have lRR := bR.lt
    have fR := bR.frozen
    refine take_want 26 (some 32) rfl (by kernel_rfl) (by kernel_rfl) (by kernel_rfl) rfl (fun _ _ _ h => h) (by rfl) (v := ?_) ?_ (by assumption) ?_
    rotate_left
    · intro w hSw; (try dsimp only at hSw); go_simp; all_goals with_reducible rfl
    simp only [Act.put, List.setIfInBounds_toArray, List.set_cons_zero, List.set_cons_succ]
    refine take_want 27 (some 33) rfl (by kernel_rfl) (by kernel_rfl) (by kernel_rfl) rfl (fun _ _ _ h => h) (by rfl) (v := ?_) ?_ (by assumption) ?_
    rotate_left
    · intro w hSw; (try dsimp only at hSw); go_simp; all_goals with_reducible rfl
    simp only [Act.put, List.setIfInBounds_toArray, List.set_cons_zero, List.set_cons_succ]
    refine take_want 28 (some 34) rfl (by kernel_rfl) (by kernel_rfl) (by kernel_rfl) rfl (fun _ _ _ h => h) (by rfl) (v := ?_) ?_ (by assumption) ?_
    rotate_left
    · intro w hSw; (try dsimp only at hSw); go_simp; all_goals with_reducible rfl
    simp only [Act.put, List.setIfInBounds_toArray, List.set_cons_zero, List.set_cons_succ]
    refine wpAnyH_ready (rs := [29]) (by kernel_rfl) (by simp) ?_
    refine AllReadyH.cons rfl (fun K hK => ?_) AllReadyH.nil
    go_simp
    skip
    refine hK.out _ _ ?_ (fun hHeld => ?_)
    · first | exact ((hHeld.set 4 (by decide) _).set 5 (by decide) _ |>.set 6 (by decide) _ |>.set 7 (by decide) _) | fail "keep"
    clear hK K
    try simp only [Act.put, List.setIfInBounds_toArray, List.set_cons_zero, List.set_cons_succ]
    refine wpAnyH_done (by kernel_rfl) ?_ _
    go_wp2
    go_end0
    exact ⟨rfl, KeepBut.of_below hB hHeld.1, rayW_set (by decide) bR (Ry.ext (KR.ext hHeld bR0 (by decide))) R10⟩
  · go_simp
    refine (hO _).mono ?_
    rintro e W5 ⟨C5, rfl, R5, hb5⟩
    refine hK.out _ _ (hHeld.call lR hb5) (fun hHeld => ?_)
    clear hK K
    replace bR := bR.below hb5
    try simp only [Act.put, List.setIfInBounds_toArray, List.set_cons_zero, List.set_cons_succ]
    refine wpAnyH_ready (rs := [5, 14]) (by kernel_rfl) (by simp) ?_
    refine AllReadyH.cons rfl (fun K hK => ?_) (AllReadyH.cons rfl (fun K hK => ?_) AllReadyH.nil)
    · rw [if_pos (by rfl)]
      refine wp_load_mid 54 _ rfl R 4 rfl [.bool (decide (u.num < 0)), .slice p2 k2 c2, .bool false, .slice p2' k2' c2'] _ (hi_range bR) Tryz.underlying54 rfl sizeQuot ?_
      refine hK.out _ _ hHeld (fun hHeld => ?_)
      clear hK K
      try simp only [Act.put, List.setIfInBounds_toArray, List.set_cons_zero, List.set_cons_succ]
      refine wpAnyH_ready (rs := [14]) (by kernel_rfl) (by simp) ?_
      refine AllReadyH.cons rfl (fun K hK => ?_) AllReadyH.nil
      go_simp
      refine (mul_ok y p _ _ _ W (KR.ext hHeld bR0 (by decide)) Ry Rp hf1).mono ?_
      rintro e W6 ⟨r6, rfl, R6, hb6⟩
      refine hK.out _ _ (hHeld.call lR hb6) (fun hHeld => ?_)
      clear hK K
      replace bR := bR.below hb6
      replace R5 := R5.ext (.of_below hb6)
      try simp only [Act.put, List.setIfInBounds_toArray, List.set_cons_zero, List.set_cons_succ]
      obtain ⟨C6, rfl, z6, o6⟩ := R6.cells
      refine take_want 15 (some 21) rfl (by kernel_rfl) (by kernel_rfl) (by kernel_rfl) rfl (fun _ _ _ h => h) (by rfl) (v := ?_) ?_ (by assumption) ?_
      rotate_left
      · intro w hSw; (try dsimp only at hSw); go_simp; all_goals with_reducible rfl
      simp only [Act.put, List.setIfInBounds_toArray, List.set_cons_zero, List.set_cons_succ]
      refine take_want 16 (some 22) rfl (by kernel_rfl) (by kernel_rfl) (by kernel_rfl) rfl (fun _ _ _ h => h) (by rfl) (v := ?_) ?_ (by assumption) ?_
      rotate_left
      · intro w hSw; (try dsimp only at hSw); go_simp; all_goals with_reducible rfl
      simp only [Act.put, List.setIfInBounds_toArray, List.set_cons_zero, List.set_cons_succ]
      refine wpAnyH_ready (rs := [17]) (by kernel_rfl) (by simp) ?_
      refine AllReadyH.cons rfl (fun K hK => ?_) AllReadyH.nil
      go_simp
      refine (mustq_ok C6 z6 o6 _).mono ?_
      rintro e W7 ⟨rfl, hb7⟩
      refine hK.out _ _ (hHeld.call lR hb7) (fun hHeld => ?_)
      clear hK K
      replace bR := bR.below hb7
      replace R5 := R5.ext (.of_below hb7)
      replace R6 := R6.ext (.of_below hb7)
      try simp only [Act.put, List.setIfInBounds_toArray, List.set_cons_zero, List.set_cons_succ]
      refine wpAnyH_ready (rs := [18]) (by kernel_rfl) (by simp) ?_
      refine AllReadyH.cons rfl (fun K hK => ?_) AllReadyH.nil
      go_simp
      refine (mul_ok (Rat.divInt g 1) (y * p) _ _ _ W7 (Ext.refl _) R5 R6 hf2).mono ?_
      rintro e W8 ⟨r8, rfl, R8, hb8⟩
      refine hK.out _ _ (hHeld.call lR hb8) (fun hHeld => ?_)
      clear hK K
      replace bR := bR.below hb8
      replace R5 := R5.ext (.of_below hb8)
      replace R6 := R6.ext (.of_below hb8)
      try simp only [Act.put, List.setIfInBounds_toArray, List.set_cons_zero, List.set_cons_succ]
      obtain ⟨C8, rfl, z8, o8⟩ := R8.cells
      refine take_want 19 (some 25) rfl (by kernel_rfl) (by kernel_rfl) (by kernel_rfl) rfl (fun _ _ _ h => h) (by rfl) (v := ?_) ?_ (by assumption) ?_
      rotate_left
      · intro w hSw; (try dsimp only at hSw); go_simp; all_goals with_reducible rfl
      simp only [Act.put, List.setIfInBounds_toArray, List.set_cons_zero, List.set_cons_succ]
      refine take_want 20 (some 26) rfl (by kernel_rfl) (by kernel_rfl) (by kernel_rfl) rfl (fun _ _ _ h => h) (by rfl) (v := ?_) ?_ (by assumption) ?_
      rotate_left
      · intro w hSw; (try dsimp only at hSw); go_simp; all_goals with_reducible rfl
      simp only [Act.put, List.setIfInBounds_toArray, List.set_cons_zero, List.set_cons_succ]
      refine wpAnyH_ready (rs := [21]) (by kernel_rfl) (by simp) ?_
      refine AllReadyH.cons rfl (fun K hK => ?_) AllReadyH.nil
      go_simp
      refine (mustq_ok C8 z8 o8 _).mono ?_
      rintro e W9 ⟨rfl, hb9⟩
      refine hK.out _ _ (hHeld.call lR hb9) (fun hHeld => ?_)
      clear hK K
      replace bR := bR.below hb9
      replace R5 := R5.ext (.of_below hb9)
      replace R6 := R6.ext (.of_below hb9)
      replace R8 := R8.ext (.of_below hb9)
      try simp only [Act.put, List.setIfInBounds_toArray, List.set_cons_zero, List.set_cons_succ]
      refine wpAnyH_ready (rs := [22]) (by kernel_rfl) (by simp) ?_
      refine AllReadyH.cons rfl (fun K hK => ?_) AllReadyH.nil
      go_simp
      refine (sub_ok u _ _ _ _ _ (Ext.refl _) (Ru.ext (KR.ext hHeld bR0 (by decide))) R8 hf3).mono ?_
      rintro e W10 ⟨r10, rfl, R10, hb10⟩
      refine hK.out _ _ (hHeld.call lR hb10) (fun hHeld => ?_)
      clear hK K
      replace bR := bR.below hb10
      replace R5 := R5.ext (.of_below hb10)
      replace R6 := R6.ext (.of_below hb10)
      replace R8 := R8.ext (.of_below hb10)
      try simp only [Act.put, List.setIfInBounds_toArray, List.set_cons_zero, List.set_cons_succ]
      obtain ⟨p10, k10, c10, p10', k10', c10', hC10, z10, y10⟩ := id R10
      cases hC10
      clear z10 y10
      refine take_want 23 (some 29) rfl (by kernel_rfl) (by kernel_rfl) (by kernel_rfl) rfl (fun _ _ _ h => h) (by rfl) (v := ?_) ?_ (by assumption) ?_
      rotate_left
      · intro w hSw; (try dsimp only at hSw); go_simp; all_goals with_reducible rfl
      simp only [Act.put, List.setIfInBounds_toArray, List.set_cons_zero, List.set_cons_succ]
      refine take_want 24 (some 30) rfl (by kernel_rfl) (by kernel_rfl) (by kernel_rfl) rfl (fun _ _ _ h => h) (by rfl) (v := ?_) ?_ (by assumption) ?_
      rotate_left
      · intro w hSw; (try dsimp only at hSw); go_simp; all_goals with_reducible rfl
      simp only [Act.put, List.setIfInBounds_toArray, List.set_cons_zero, List.set_cons_succ]
      refine wpAnyH_ready (rs := [25]) (by kernel_rfl) (by simp) ?_
      refine AllReadyH.cons rfl (fun K hK => ?_) AllReadyH.nil
      go_simp
      refine (mustq_ok _ rfl (by simp [Value.oneCell']) _).mono ?_
      rintro e W11 ⟨rfl, hb11⟩
      refine hK.out _ _ (hHeld.call lR hb11) (fun hHeld => ?_)
      clear hK K
      replace bR := bR.below hb11
      replace R5 := R5.ext (.of_below hb11)
      replace R6 := R6.ext (.of_below hb11)
      replace R8 := R8.ext (.of_below hb11)
      replace R10 := R10.ext (.of_below hb11)
      try simp only [Act.put, List.setIfInBounds_toArray, List.set_cons_zero, List.set_cons_succ]
      have cR := bR.cell
      have lRR := bR.lt
      have fR := bR.frozen
      refine take_want 26 (some 32) rfl (by kernel_rfl) (by kernel_rfl) (by kernel_rfl) rfl (fun _ _ _ h => h) (by rfl) (v := ?_) ?_ (by assumption) ?_
      rotate_left
      · intro w hSw; (try dsimp only at hSw); go_simp; all_goals with_reducible rfl
      simp only [Act.put, List.setIfInBounds_toArray, List.set_cons_zero, List.set_cons_succ]
      refine take_want 27 (some 33) rfl (by kernel_rfl) (by kernel_rfl) (by kernel_rfl) rfl (fun _ _ _ h => h) (by rfl) (v := ?_) ?_ (by assumption) ?_
      rotate_left
      · intro w hSw; (try dsimp only at hSw); go_simp; all_goals with_reducible rfl
      simp only [Act.put, List.setIfInBounds_toArray, List.set_cons_zero, List.set_cons_succ]
      refine take_want 28 (some 34) rfl (by kernel_rfl) (by kernel_rfl) (by kernel_rfl) rfl (fun _ _ _ h => h) (by rfl) (v := ?_) ?_ (by assumption) ?_
      rotate_left
      · intro w hSw; (try dsimp only at hSw); go_simp; all_goals with_reducible rfl
      simp only [Act.put, List.setIfInBounds_toArray, List.set_cons_zero, List.set_cons_succ]
      refine wpAnyH_ready (rs := [29]) (by kernel_rfl) (by simp) ?_
      refine AllReadyH.cons rfl (fun K hK => ?_) AllReadyH.nil
      go_simp
      skip
      refine hK.out _ _ ?_ (fun hHeld => ?_)
      · first | exact ((hHeld.set 4 (by decide) _).set 5 (by decide) _ |>.set 6 (by decide) _ |>.set 7 (by decide) _) | fail "keep"
      clear hK K
      try simp only [Act.put, List.setIfInBounds_toArray, List.set_cons_zero, List.set_cons_succ]
      refine wpAnyH_done (by kernel_rfl) ?_ _
      go_wp2
      go_end0
      exact ⟨rfl, KeepBut.of_below hB hHeld.1, rayW_set (by decide) bR (Ry.ext (KR.ext hHeld bR0 (by decide))) R10⟩
    · go_simp
      refine (mul_ok y p _ _ _ W (KR.ext hHeld bR0 (by decide)) Ry Rp hf1).mono ?_
      rintro e W6 ⟨r6, rfl, R6, hb6⟩
      refine hK.out _ _ (hHeld.call lR hb6) (fun hHeld => ?_)
      clear hK K
      replace bR := bR.below hb6
      replace R5 := R5.ext (.of_below hb6)
      try simp only [Act.put, List.setIfInBounds_toArray, List.set_cons_zero, List.set_cons_succ]
      obtain ⟨C6, rfl, z6, o6⟩ := R6.cells
      refine take_want 15 (some 21) rfl (by kernel_rfl) (by kernel_rfl) (by kernel_rfl) rfl (fun _ _ _ h => h) (by rfl) (v := ?_) ?_ (by assumption) ?_
      rotate_left
      · intro w hSw; (try dsimp only at hSw); go_simp; all_goals with_reducible rfl
      simp only [Act.put, List.setIfInBounds_toArray, List.set_cons_zero, List.set_cons_succ]
      refine take_want 16 (some 22) rfl (by kernel_rfl) (by kernel_rfl) (by kernel_rfl) rfl (fun _ _ _ h => h) (by rfl) (v := ?_) ?_ (by assumption) ?_
      rotate_left
      · intro w hSw; (try dsimp only at hSw); go_simp; all_goals with_reducible rfl
      simp only [Act.put, List.setIfInBounds_toArray, List.set_cons_zero, List.set_cons_succ]
      refine wpAnyH_ready (rs := [5, 17]) (by kernel_rfl) (by simp) ?_
      refine AllReadyH.cons rfl (fun K hK => ?_) (AllReadyH.cons rfl (fun K hK => ?_) AllReadyH.nil)
      · rw [if_pos (by rfl)]
        refine wp_load_mid 54 _ rfl R 4 rfl [.bool (decide (u.num < 0)), .slice p2 k2 c2, .bool false, .slice p2' k2' c2'] _ (hi_range bR) Tryz.underlying54 rfl sizeQuot ?_
        refine hK.out _ _ hHeld (fun hHeld => ?_)
        clear hK K
        try simp only [Act.put, List.setIfInBounds_toArray, List.set_cons_zero, List.set_cons_succ]
        refine wpAnyH_ready (rs := [17]) (by kernel_rfl) (by simp) ?_
        refine AllReadyH.cons rfl (fun K hK => ?_) AllReadyH.nil
        go_simp
        refine (mustq_ok C6 z6 o6 _).mono ?_
        rintro e W7 ⟨rfl, hb7⟩
        refine hK.out _ _ (hHeld.call lR hb7) (fun hHeld => ?_)
        clear hK K
        replace bR := bR.below hb7
        replace R5 := R5.ext (.of_below hb7)
        replace R6 := R6.ext (.of_below hb7)
        try simp only [Act.put, List.setIfInBounds_toArray, List.set_cons_zero, List.set_cons_succ]
        refine wpAnyH_ready (rs := [18]) (by kernel_rfl) (by simp) ?_
        refine AllReadyH.cons rfl (fun K hK => ?_) AllReadyH.nil
        go_simp
        refine (mul_ok (Rat.divInt g 1) (y * p) _ _ _ W7 (Ext.refl _) R5 R6 hf2).mono ?_
        rintro e W8 ⟨r8, rfl, R8, hb8⟩
        refine hK.out _ _ (hHeld.call lR hb8) (fun hHeld => ?_)
        clear hK K
        replace bR := bR.below hb8
        replace R5 := R5.ext (.of_below hb8)
        replace R6 := R6.ext (.of_below hb8)
        try simp only [Act.put, List.setIfInBounds_toArray, List.set_cons_zero, List.set_cons_succ]
        obtain ⟨C8, rfl, z8, o8⟩ := R8.cells
        refine take_want 19 (some 25) rfl (by kernel_rfl) (by kernel_rfl) (by kernel_rfl) rfl (fun _ _ _ h => h) (by rfl) (v := ?_) ?_ (by assumption) ?_
        rotate_left
        · intro w hSw; (try dsimp only at hSw); go_simp; all_goals with_reducible rfl
        simp only [Act.put, List.setIfInBounds_toArray, List.set_cons_zero, List.set_cons_succ]
        refine take_want 20 (some 26) rfl (by kernel_rfl) (by kernel_rfl) (by kernel_rfl) rfl (fun _ _ _ h => h) (by rfl) (v := ?_) ?_ (by assumption) ?_
        rotate_left
        · intro w hSw; (try dsimp only at hSw); go_simp; all_goals with_reducible rfl
        simp only [Act.put, List.setIfInBounds_toArray, List.set_cons_zero, List.set_cons_succ]
        refine wpAnyH_ready (rs := [21]) (by kernel_rfl) (by simp) ?_
        refine AllReadyH.cons rfl (fun K hK => ?_) AllReadyH.nil
        go_simp
        refine (mustq_ok C8 z8 o8 _).mono ?_
        rintro e W9 ⟨rfl, hb9⟩
        refine hK.out _ _ (hHeld.call lR hb9) (fun hHeld => ?_)
        clear hK K
        replace bR := bR.below hb9
        replace R5 := R5.ext (.of_below hb9)
        replace R6 := R6.ext (.of_below hb9)
        replace R8 := R8.ext (.of_below hb9)
        try simp only [Act.put, List.setIfInBounds_toArray, List.set_cons_zero, List.set_cons_succ]
        refine wpAnyH_ready (rs := [22]) (by kernel_rfl) (by simp) ?_
        refine AllReadyH.cons rfl (fun K hK => ?_) AllReadyH.nil
        go_simp
        refine (sub_ok u _ _ _ _ _ (Ext.refl _) (Ru.ext (KR.ext hHeld bR0 (by decide))) R8 hf3).mono ?_
        rintro e W10 ⟨r10, rfl, R10, hb10⟩
        refine hK.out _ _ (hHeld.call lR hb10) (fun hHeld => ?_)
        clear hK K
        replace bR := bR.below hb10
        replace R5 := R5.ext (.of_below hb10)
        replace R6 := R6.ext (.of_below hb10)
        replace R8 := R8.ext (.of_below hb10)
        try simp only [Act.put, List.setIfInBounds_toArray, List.set_cons_zero, List.set_cons_succ]
        obtain ⟨p10, k10, c10, p10', k10', c10', hC10, z10, y10⟩ := id R10
        cases hC10
        clear z10 y10
        refine take_want 23 (some 29) rfl (by kernel_rfl) (by kernel_rfl) (by kernel_rfl) rfl (fun _ _ _ h => h) (by rfl) (v := ?_) ?_ (by assumption) ?_
        rotate_left
        · intro w hSw; (try dsimp only at hSw); go_simp; all_goals with_reducible rfl
        simp only [Act.put, List.setIfInBounds_toArray, List.set_cons_zero, List.set_cons_succ]
        refine take_want 24 (some 30) rfl (by kernel_rfl) (by kernel_rfl) (by kernel_rfl) rfl (fun _ _ _ h => h) (by rfl) (v := ?_) ?_ (by assumption) ?_
        rotate_left
        · intro w hSw; (try dsimp only at hSw); go_simp; all_goals with_reducible rfl
        simp only [Act.put, List.setIfInBounds_toArray, List.set_cons_zero, List.set_cons_succ]
        refine wpAnyH_ready (rs := [25]) (by kernel_rfl) (by simp) ?_
        refine AllReadyH.cons rfl (fun K hK => ?_) AllReadyH.nil
        go_simp
        refine (mustq_ok _ rfl (by simp [Value.oneCell']) _).mono ?_
        rintro e W11 ⟨rfl, hb11⟩
        refine hK.out _ _ (hHeld.call lR hb11) (fun hHeld => ?_)
        clear hK K
        replace bR := bR.below hb11
        replace R5 := R5.ext (.of_below hb11)
        replace R6 := R6.ext (.of_below hb11)
        replace R8 := R8.ext (.of_below hb11)
        replace R10 := R10.ext (.of_below hb11)
        try simp only [Act.put, List.setIfInBounds_toArray, List.set_cons_zero, List.set_cons_succ]
        have cR := bR.cell
        have lRR := bR.lt
        have fR := bR.frozen
        refine take_want 26 (some 32) rfl (by kernel_rfl) (by kernel_rfl) (by kernel_rfl) rfl (fun _ _ _ h => h) (by rfl) (v := ?_) ?_ (by assumption) ?_
        rotate_left
        · intro w hSw; (try dsimp only at hSw); go_simp; all_goals with_reducible rfl
        simp only [Act.put, List.setIfInBounds_toArray, List.set_cons_zero, List.set_cons_succ]
        refine take_want 27 (some 33) rfl (by kernel_rfl) (by kernel_rfl) (by kernel_rfl) rfl (fun _ _ _ h => h) (by rfl) (v := ?_) ?_ (by assumption) ?_
        rotate_left
        · intro w hSw; (try dsimp only at hSw); go_simp; all_goals with_reducible rfl
        simp only [Act.put, List.setIfInBounds_toArray, List.set_cons_zero, List.set_cons_succ]
        refine take_want 28 (some 34) rfl (by kernel_rfl) (by kernel_rfl) (by kernel_rfl) rfl (fun _ _ _ h => h) (by rfl) (v := ?_) ?_ (by assumption) ?_
        rotate_left
        · intro w hSw; (try dsimp only at hSw); go_simp; all_goals with_reducible rfl
        simp only [Act.put, List.setIfInBounds_toArray, List.set_cons_zero, List.set_cons_succ]
        refine wpAnyH_ready (rs := [29]) (by kernel_rfl) (by simp) ?_
        refine AllReadyH.cons rfl (fun K hK => ?_) AllReadyH.nil
        go_simp
        skip
        refine hK.out _ _ ?_ (fun hHeld => ?_)
        · first | exact ((hHeld.set 4 (by decide) _).set 5 (by decide) _ |>.set 6 (by decide) _ |>.set 7 (by decide) _) | fail "keep"
        clear hK K
        try simp only [Act.put, List.setIfInBounds_toArray, List.set_cons_zero, List.set_cons_succ]
        refine wpAnyH_done (by kernel_rfl) ?_ _
        go_wp2
        go_end0
        exact ⟨rfl, KeepBut.of_below hB hHeld.1, rayW_set (by decide) bR (Ry.ext (KR.ext hHeld bR0 (by decide))) R10⟩
      · go_simp
        refine (mustq_ok C6 z6 o6 _).mono ?_
        rintro e W7 ⟨rfl, hb7⟩
        refine hK.out _ _ (hHeld.call lR hb7) (fun hHeld => ?_)
        clear hK K
        replace bR := bR.below hb7
        replace R5 := R5.ext (.of_below hb7)
        replace R6 := R6.ext (.of_below hb7)
        try simp only [Act.put, List.setIfInBounds_toArray, List.set_cons_zero, List.set_cons_succ]
        refine wpAnyH_ready (rs := [5, 18]) (by kernel_rfl) (by simp) ?_
        refine AllReadyH.cons rfl (fun K hK => ?_) (AllReadyH.cons rfl (fun K hK => ?_) AllReadyH.nil)
        · rw [if_pos (by rfl)]
          refine wp_load_mid 54 _ rfl R 4 rfl [.bool (decide (u.num < 0)), .slice p2 k2 c2, .bool false, .slice p2' k2' c2'] _ (hi_range bR) Tryz.underlying54 rfl sizeQuot ?_
          refine hK.out _ _ hHeld (fun hHeld => ?_)
          clear hK K
          try simp only [Act.put, List.setIfInBounds_toArray, List.set_cons_zero, List.set_cons_succ]
          refine wpAnyH_ready (rs := [18]) (by kernel_rfl) (by simp) ?_
          refine AllReadyH.cons rfl (fun K hK => ?_) AllReadyH.nil
          go_simp
          refine (mul_ok (Rat.divInt g 1) (y * p) _ _ _ W7 (Ext.refl _) R5 R6 hf2).mono ?_
          rintro e W8 ⟨r8, rfl, R8, hb8⟩
          refine hK.out _ _ (hHeld.call lR hb8) (fun hHeld => ?_)
          clear hK K
          replace bR := bR.below hb8
          replace R5 := R5.ext (.of_below hb8)
          replace R6 := R6.ext (.of_below hb8)
          try simp only [Act.put, List.setIfInBounds_toArray, List.set_cons_zero, List.set_cons_succ]
          obtain ⟨C8, rfl, z8, o8⟩ := R8.cells
          refine take_want 19 (some 25) rfl (by kernel_rfl) (by kernel_rfl) (by kernel_rfl) rfl (fun _ _ _ h => h) (by rfl) (v := ?_) ?_ (by assumption) ?_
          rotate_left
          · intro w hSw; (try dsimp only at hSw); go_simp; all_goals with_reducible rfl
          simp only [Act.put, List.setIfInBounds_toArray, List.set_cons_zero, List.set_cons_succ]
          refine take_want 20 (some 26) rfl (by kernel_rfl) (by kernel_rfl) (by kernel_rfl) rfl (fun _ _ _ h => h) (by rfl) (v := ?_) ?_ (by assumption) ?_
          rotate_left
          · intro w hSw; (try dsimp only at hSw); go_simp; all_goals with_reducible rfl
          simp only [Act.put, List.setIfInBounds_toArray, List.set_cons_zero, List.set_cons_succ]
          refine wpAnyH_ready (rs := [21]) (by kernel_rfl) (by simp) ?_
          refine AllReadyH.cons rfl (fun K hK => ?_) AllReadyH.nil
          go_simp
          refine (mustq_ok C8 z8 o8 _).mono ?_
          rintro e W9 ⟨rfl, hb9⟩
          refine hK.out _ _ (hHeld.call lR hb9) (fun hHeld => ?_)
          clear hK K
          replace bR := bR.below hb9
          replace R5 := R5.ext (.of_below hb9)
          replace R6 := R6.ext (.of_below hb9)
          replace R8 := R8.ext (.of_below hb9)
          try simp only [Act.put, List.setIfInBounds_toArray, List.set_cons_zero, List.set_cons_succ]
          refine wpAnyH_ready (rs := [22]) (by kernel_rfl) (by simp) ?_
          refine AllReadyH.cons rfl (fun K hK => ?_) AllReadyH.nil
          go_simp
          refine (sub_ok u _ _ _ _ _ (Ext.refl _) (Ru.ext (KR.ext hHeld bR0 (by decide))) R8 hf3).mono ?_
          rintro e W10 ⟨r10, rfl, R10, hb10⟩
          refine hK.out _ _ (hHeld.call lR hb10) (fun hHeld => ?_)
          clear hK K
          replace bR := bR.below hb10
          replace R5 := R5.ext (.of_below hb10)
          replace R6 := R6.ext (.of_below hb10)
          replace R8 := R8.ext (.of_below hb10)
          try simp only [Act.put, List.setIfInBounds_toArray, List.set_cons_zero, List.set_cons_succ]
          obtain ⟨p10, k10, c10, p10', k10', c10', hC10, z10, y10⟩ := id R10
          cases hC10
          clear z10 y10
          refine take_want 23 (some 29) rfl (by kernel_rfl) (by kernel_rfl) (by kernel_rfl) rfl (fun _ _ _ h => h) (by rfl) (v := ?_) ?_ (by assumption) ?_
          rotate_left
          · intro w hSw; (try dsimp only at hSw); go_simp; all_goals with_reducible rfl
          simp only [Act.put, List.setIfInBounds_toArray, List.set_cons_zero, List.set_cons_succ]
          refine take_want 24 (some 30) rfl (by kernel_rfl) (by kernel_rfl) (by kernel_rfl) rfl (fun _ _ _ h => h) (by rfl) (v := ?_) ?_ (by assumption) ?_
          rotate_left
          · intro w hSw; (try dsimp only at hSw); go_simp; all_goals with_reducible rfl
          simp only [Act.put, List.setIfInBounds_toArray, List.set_cons_zero, List.set_cons_succ]
          refine wpAnyH_ready (rs := [25]) (by kernel_rfl) (by simp) ?_
          refine AllReadyH.cons rfl (fun K hK => ?_) AllReadyH.nil
          go_simp
          refine (mustq_ok _ rfl (by simp [Value.oneCell']) _).mono ?_
          rintro e W11 ⟨rfl, hb11⟩
          refine hK.out _ _ (hHeld.call lR hb11) (fun hHeld => ?_)
          clear hK K
          replace bR := bR.below hb11
          replace R5 := R5.ext (.of_below hb11)
          replace R6 := R6.ext (.of_below hb11)
          replace R8 := R8.ext (.of_below hb11)
          replace R10 := R10.ext (.of_below hb11)
          try simp only [Act.put, List.setIfInBounds_toArray, List.set_cons_zero, List.set_cons_succ]
          have cR := bR.cell
          have lRR := bR.lt
          have fR := bR.frozen
          refine take_want 26 (some 32) rfl (by kernel_rfl) (by kernel_rfl) (by kernel_rfl) rfl (fun _ _ _ h => h) (by rfl) (v := ?_) ?_ (by assumption) ?_
          rotate_left
          · intro w hSw; (try dsimp only at hSw); go_simp; all_goals with_reducible rfl
          simp only [Act.put, List.setIfInBounds_toArray, List.set_cons_zero, List.set_cons_succ]
          refine take_want 27 (some 33) rfl (by kernel_rfl) (by kernel_rfl) (by kernel_rfl) rfl (fun _ _ _ h => h) (by rfl) (v := ?_) ?_ (by assumption) ?_
          rotate_left
          · intro w hSw; (try dsimp only at hSw); go_simp; all_goals with_reducible rfl
          simp only [Act.put, List.setIfInBounds_toArray, List.set_cons_zero, List.set_cons_succ]
          refine take_want 28 (some 34) rfl (by kernel_rfl) (by kernel_rfl) (by kernel_rfl) rfl (fun _ _ _ h => h) (by rfl) (v := ?_) ?_ (by assumption) ?_
          rotate_left
          · intro w hSw; (try dsimp only at hSw); go_simp; all_goals with_reducible rfl
          simp only [Act.put, List.setIfInBounds_toArray, List.set_cons_zero, List.set_cons_succ]
          refine wpAnyH_ready (rs := [29]) (by kernel_rfl) (by simp) ?_
          refine AllReadyH.cons rfl (fun K hK => ?_) AllReadyH.nil
          go_simp
          skip
          refine hK.out _ _ ?_ (fun hHeld => ?_)
          · first | exact ((hHeld.set 4 (by decide) _).set 5 (by decide) _ |>.set 6 (by decide) _ |>.set 7 (by decide) _) | fail "keep"
          clear hK K
          try simp only [Act.put, List.setIfInBounds_toArray, List.set_cons_zero, List.set_cons_succ]
          refine wpAnyH_done (by kernel_rfl) ?_ _
          go_wp2
          go_end0
          exact ⟨rfl, KeepBut.of_below hB hHeld.1, rayW_set (by decide) bR (Ry.ext (KR.ext hHeld bR0 (by decide))) R10⟩
        · go_simp
          refine (mul_ok (Rat.divInt g 1) (y * p) _ _ _ W7 (Ext.refl _) R5 R6 hf2).mono ?_
          rintro e W8 ⟨r8, rfl, R8, hb8⟩
          refine hK.out _ _ (hHeld.call lR hb8) (fun hHeld => ?_)
          clear hK K
          replace bR := bR.below hb8
          replace R5 := R5.ext (.of_below hb8)
          replace R6 := R6.ext (.of_below hb8)
          try simp only [Act.put, List.setIfInBounds_toArray, List.set_cons_zero, List.set_cons_succ]
          obtain ⟨C8, rfl, z8, o8⟩ := R8.cells
          refine take_want 19 (some 25) rfl (by kernel_rfl) (by kernel_rfl) (by kernel_rfl) rfl (fun _ _ _ h => h) (by rfl) (v := ?_) ?_ (by assumption) ?_
          rotate_left
          · intro w hSw; (try dsimp only at hSw); go_simp; all_goals with_reducible rfl
          simp only [Act.put, List.setIfInBounds_toArray, List.set_cons_zero, List.set_cons_succ]
          refine take_want 20 (some 26) rfl (by kernel_rfl) (by kernel_rfl) (by kernel_rfl) rfl (fun _ _ _ h => h) (by rfl) (v := ?_) ?_ (by assumption) ?_
          rotate_left
          · intro w hSw; (try dsimp only at hSw); go_simp; all_goals with_reducible rfl
          simp only [Act.put, List.setIfInBounds_toArray, List.set_cons_zero, List.set_cons_succ]
          refine wpAnyH_ready (rs := [5, 21]) (by kernel_rfl) (by simp) ?_
          refine AllReadyH.cons rfl (fun K hK => ?_) (AllReadyH.cons rfl (fun K hK => ?_) AllReadyH.nil)
          · rw [if_pos (by rfl)]
            refine wp_load_mid 54 _ rfl R 4 rfl [.bool (decide (u.num < 0)), .slice p2 k2 c2, .bool false, .slice p2' k2' c2'] _ (hi_range bR) Tryz.underlying54 rfl sizeQuot ?_
            refine hK.out _ _ hHeld (fun hHeld => ?_)
            clear hK K
            try simp only [Act.put, List.setIfInBounds_toArray, List.set_cons_zero, List.set_cons_succ]
            refine wpAnyH_ready (rs := [21]) (by kernel_rfl) (by simp) ?_
            refine AllReadyH.cons rfl (fun K hK => ?_) AllReadyH.nil
            go_simp
            refine (mustq_ok C8 z8 o8 _).mono ?_
            rintro e W9 ⟨rfl, hb9⟩
            refine hK.out _ _ (hHeld.call lR hb9) (fun hHeld => ?_)
            clear hK K
            replace bR := bR.below hb9
            replace R5 := R5.ext (.of_below hb9)
            replace R6 := R6.ext (.of_below hb9)
            replace R8 := R8.ext (.of_below hb9)
            try simp only [Act.put, List.setIfInBounds_toArray, List.set_cons_zero, List.set_cons_succ]
            refine wpAnyH_ready (rs := [22]) (by kernel_rfl) (by simp) ?_
            refine AllReadyH.cons rfl (fun K hK => ?_) AllReadyH.nil
            go_simp
            refine (sub_ok u _ _ _ _ _ (Ext.refl _) (Ru.ext (KR.ext hHeld bR0 (by decide))) R8 hf3).mono ?_
            rintro e W10 ⟨r10, rfl, R10, hb10⟩
            refine hK.out _ _ (hHeld.call lR hb10) (fun hHeld => ?_)
            clear hK K
            replace bR := bR.below hb10
            replace R5 := R5.ext (.of_below hb10)
            replace R6 := R6.ext (.of_below hb10)
            replace R8 := R8.ext (.of_below hb10)
            try simp only [Act.put, List.setIfInBounds_toArray, List.set_cons_zero, List.set_cons_succ]
            obtain ⟨p10, k10, c10, p10', k10', c10', hC10, z10, y10⟩ := id R10
            cases hC10
            clear z10 y10
            refine take_want 23 (some 29) rfl (by kernel_rfl) (by kernel_rfl) (by kernel_rfl) rfl (fun _ _ _ h => h) (by rfl) (v := ?_) ?_ (by assumption) ?_
            rotate_left
            · intro w hSw; (try dsimp only at hSw); go_simp; all_goals with_reducible rfl
            simp only [Act.put, List.setIfInBounds_toArray, List.set_cons_zero, List.set_cons_succ]
            refine take_want 24 (some 30) rfl (by kernel_rfl) (by kernel_rfl) (by kernel_rfl) rfl (fun _ _ _ h => h) (by rfl) (v := ?_) ?_ (by assumption) ?_
            rotate_left
            · intro w hSw; (try dsimp only at hSw); go_simp; all_goals with_reducible rfl
            simp only [Act.put, List.setIfInBounds_toArray, List.set_cons_zero, List.set_cons_succ]
            refine wpAnyH_ready (rs := [25]) (by kernel_rfl) (by simp) ?_
            refine AllReadyH.cons rfl (fun K hK => ?_) AllReadyH.nil
            go_simp
            refine (mustq_ok _ rfl (by simp [Value.oneCell']) _).mono ?_
            rintro e W11 ⟨rfl, hb11⟩
            refine hK.out _ _ (hHeld.call lR hb11) (fun hHeld => ?_)
            clear hK K
            replace bR := bR.below hb11
            replace R5 := R5.ext (.of_below hb11)
            replace R6 := R6.ext (.of_below hb11)
            replace R8 := R8.ext (.of_below hb11)
            replace R10 := R10.ext (.of_below hb11)
            try simp only [Act.put, List.setIfInBounds_toArray, List.set_cons_zero, List.set_cons_succ]
            have cR := bR.cell
            have lRR := bR.lt
            have fR := bR.frozen
            refine take_want 26 (some 32) rfl (by kernel_rfl) (by kernel_rfl) (by kernel_rfl) rfl (fun _ _ _ h => h) (by rfl) (v := ?_) ?_ (by assumption) ?_
            rotate_left
            · intro w hSw; (try dsimp only at hSw); go_simp; all_goals with_reducible rfl
            simp only [Act.put, List.setIfInBounds_toArray, List.set_cons_zero, List.set_cons_succ]
            refine take_want 27 (some 33) rfl (by kernel_rfl) (by kernel_rfl) (by kernel_rfl) rfl (fun _ _ _ h => h) (by rfl) (v := ?_) ?_ (by assumption) ?_
            rotate_left
            · intro w hSw; (try dsimp only at hSw); go_simp; all_goals with_reducible rfl
            simp only [Act.put, List.setIfInBounds_toArray, List.set_cons_zero, List.set_cons_succ]
            refine take_want 28 (some 34) rfl (by kernel_rfl) (by kernel_rfl) (by kernel_rfl) rfl (fun _ _ _ h => h) (by rfl) (v := ?_) ?_ (by assumption) ?_
            rotate_left
            · intro w hSw; (try dsimp only at hSw); go_simp; all_goals with_reducible rfl
            simp only [Act.put, List.setIfInBounds_toArray, List.set_cons_zero, List.set_cons_succ]
            refine wpAnyH_ready (rs := [29]) (by kernel_rfl) (by simp) ?_
            refine AllReadyH.cons rfl (fun K hK => ?_) AllReadyH.nil
            go_simp
            skip
            refine hK.out _ _ ?_ (fun hHeld => ?_)
            · first | exact ((hHeld.set 4 (by decide) _).set 5 (by decide) _ |>.set 6 (by decide) _ |>.set 7 (by decide) _) | fail "keep"
            clear hK K
            try simp only [Act.put, List.setIfInBounds_toArray, List.set_cons_zero, List.set_cons_succ]
            refine wpAnyH_done (by kernel_rfl) ?_ _
            go_wp2
            go_end0
            exact ⟨rfl, KeepBut.of_below hB hHeld.1, rayW_set (by decide) bR (Ry.ext (KR.ext hHeld bR0 (by decide))) R10⟩
          · go_simp
            refine (mustq_ok C8 z8 o8 _).mono ?_
            rintro e W9 ⟨rfl, hb9⟩
            refine hK.out _ _ (hHeld.call lR hb9) (fun hHeld => ?_)
            clear hK K
            replace bR := bR.below hb9
            replace R5 := R5.ext (.of_below hb9)
            replace R6 := R6.ext (.of_below hb9)
            replace R8 := R8.ext (.of_below hb9)
            try simp only [Act.put, List.setIfInBounds_toArray, List.set_cons_zero, List.set_cons_succ]
            refine wpAnyH_ready (rs := [5]) (by kernel_rfl) (by simp) ?_
            refine AllReadyH.cons rfl (fun K hK => ?_) AllReadyH.nil
            rw [if_pos (by rfl)]
            refine wp_load_mid 54 _ rfl R 4 rfl [.bool (decide (u.num < 0)), .slice p2 k2 c2, .bool false, .slice p2' k2' c2'] _ (hi_range bR) Tryz.underlying54 rfl sizeQuot ?_
            refine hK.out _ _ hHeld (fun hHeld => ?_)
            clear hK K
            try simp only [Act.put, List.setIfInBounds_toArray, List.set_cons_zero, List.set_cons_succ]
            refine wpAnyH_ready (rs := [22]) (by kernel_rfl) (by simp) ?_
            refine AllReadyH.cons rfl (fun K hK => ?_) AllReadyH.nil
            go_simp
            refine (sub_ok u _ _ _ _ _ (Ext.refl _) (Ru.ext (KR.ext hHeld bR0 (by decide))) R8 hf3).mono ?_
            rintro e W10 ⟨r10, rfl, R10, hb10⟩
            refine hK.out _ _ (hHeld.call lR hb10) (fun hHeld => ?_)
            clear hK K
            replace bR := bR.below hb10
            replace R5 := R5.ext (.of_below hb10)
            replace R6 := R6.ext (.of_below hb10)
            replace R8 := R8.ext (.of_below hb10)
            try simp only [Act.put, List.setIfInBounds_toArray, List.set_cons_zero, List.set_cons_succ]
            obtain ⟨p10, k10, c10, p10', k10', c10', hC10, z10, y10⟩ := id R10
            cases hC10
            clear z10 y10
            refine take_want 23 (some 29) rfl (by kernel_rfl) (by kernel_rfl) (by kernel_rfl) rfl (fun _ _ _ h => h) (by rfl) (v := ?_) ?_ (by assumption) ?_
            rotate_left
            · intro w hSw; (try dsimp only at hSw); go_simp; all_goals with_reducible rfl
            simp only [Act.put, List.setIfInBounds_toArray, List.set_cons_zero, List.set_cons_succ]
            refine take_want 24 (some 30) rfl (by kernel_rfl) (by kernel_rfl) (by kernel_rfl) rfl (fun _ _ _ h => h) (by rfl) (v := ?_) ?_ (by assumption) ?_
            rotate_left
            · intro w hSw; (try dsimp only at hSw); go_simp; all_goals with_reducible rfl
            simp only [Act.put, List.setIfInBounds_toArray, List.set_cons_zero, List.set_cons_succ]
            refine wpAnyH_ready (rs := [25]) (by kernel_rfl) (by simp) ?_
            refine AllReadyH.cons rfl (fun K hK => ?_) AllReadyH.nil
            go_simp
            refine (mustq_ok _ rfl (by simp [Value.oneCell']) _).mono ?_
            rintro e W11 ⟨rfl, hb11⟩
            refine hK.out _ _ (hHeld.call lR hb11) (fun hHeld => ?_)
            clear hK K
            replace bR := bR.below hb11
            replace R5 := R5.ext (.of_below hb11)
            replace R6 := R6.ext (.of_below hb11)
            replace R8 := R8.ext (.of_below hb11)
            replace R10 := R10.ext (.of_below hb11)
            try simp only [Act.put, List.setIfInBounds_toArray, List.set_cons_zero, List.set_cons_succ]
            have cR := bR.cell
            have lRR := bR.lt
            have fR := bR.frozen
            refine take_want 26 (some 32) rfl (by kernel_rfl) (by kernel_rfl) (by kernel_rfl) rfl (fun _ _ _ h => h) (by rfl) (v := ?_) ?_ (by assumption) ?_
            rotate_left
            · intro w hSw; (try dsimp only at hSw); go_simp; all_goals with_reducible rfl
            simp only [Act.put, List.setIfInBounds_toArray, List.set_cons_zero, List.set_cons_succ]
            refine take_want 27 (some 33) rfl (by kernel_rfl) (by kernel_rfl) (by kernel_rfl) rfl (fun _ _ _ h => h) (by rfl) (v := ?_) ?_ (by assumption) ?_
            rotate_left
            · intro w hSw; (try dsimp only at hSw); go_simp; all_goals with_reducible rfl
            simp only [Act.put, List.setIfInBounds_toArray, List.set_cons_zero, List.set_cons_succ]
            refine take_want 28 (some 34) rfl (by kernel_rfl) (by kernel_rfl) (by kernel_rfl) rfl (fun _ _ _ h => h) (by rfl) (v := ?_) ?_ (by assumption) ?_
            rotate_left
            · intro w hSw; (try dsimp only at hSw); go_simp; all_goals with_reducible rfl
            simp only [Act.put, List.setIfInBounds_toArray, List.set_cons_zero, List.set_cons_succ]
            refine wpAnyH_ready (rs := [29]) (by kernel_rfl) (by simp) ?_
            refine AllReadyH.cons rfl (fun K hK => ?_) AllReadyH.nil
            go_simp
            skip
            refine hK.out _ _ ?_ (fun hHeld => ?_)
            · first | exact ((hHeld.set 4 (by decide) _).set 5 (by decide) _ |>.set 6 (by decide) _ |>.set 7 (by decide) _) | fail "keep"
            clear hK K
            try simp only [Act.put, List.setIfInBounds_toArray, List.set_cons_zero, List.set_cons_succ]
            refine wpAnyH_done (by kernel_rfl) ?_ _
            go_wp2
            go_end0
            exact ⟨rfl, KeepBut.of_below hB hHeld.1, rayW_set (by decide) bR (Ry.ext (KR.ext hHeld bR0 (by decide))) R10⟩
end Go.Proofs.YtepodcocemmejaaGreatDoor
