/- Part 51 of 52 of the proof that the law ParaxialKnown returns true, whatever stands in memory, if the two listed variables hold what the text lays: contracts of the functions that it reaches. No condition beside the row. -/
import Derived.Test.YtepodcocemmejaaGreatDoorA50
set_option linter.unusedVariables false
set_option linter.unusedSimpArgs false
namespace Go.Proofs.YtepodcocemmejaaGreatDoor
open Go.RowKit Go.Mono
set_option maxRecDepth 100000 in
set_option maxHeartbeats 4000000 in
theorem works_ok (w : World) (m : Nat) (hp : PowsAt w m) : Calls Tryz.prog 12 #[] w fun e w' => e = .returned (.bool true) ∧ Below w.heap.size w w' := by
  have hio : (Tryz.prog.info? 45).map (·.size) = some 10 := by kernel_rfl
  have hcf := fun q => chk1 (chL false) (chL_opt false) rfl q
  have hcm := fun q => chk1 (chL true) (chL_opt true) rfl q
  go_enter Tryz.func12, Tryz.ntmps12
  go_wp2_with fail
  refine (chapter_f w).mono ?_
  rintro e W1 ⟨q, rfl, O1, hb1⟩
  go_wp2_with fail
  refine (chapter_m W1).mono ?_
  rintro e W2 ⟨q2, rfl, M2, hb2⟩
  have hB2 := belowCall hb1 hb2
  have O2 := O1.below hb2
  have hp2 := hp.below hB2
  clear O1 hb1 hb2 hp
  have f10 : ((chL false).ovals q).size = 10 := rfl
  have m10 : ((chL true).ovals q2).size = 10 := rfl
  have f1 : ((chL false).ovals q).all (·.oneCell') = true := by simp [Lns.ovals, Value.oneCell']
  have m1 : ((chL true).ovals q2).all (·.oneCell') = true := by simp [Lns.ovals, Value.oneCell']
  have hif : (Tryz.prog.info? 45).map (·.size) = some ((chL false).ovals q).size := hio
  have him : (Tryz.prog.info? 45).map (·.size) = some ((chL true).ovals q2).size := hio
  go_wp2_with first | (refine boxes2l fun W3 hB3 hs3 b1 b2 => ?_; refine wpList_store_box rfl 45 (.tmp 1) _ rfl W2.heap.size 0 45 _ ((chL false).ovals q) ((chL false).ovals q) rfl rfl b1 hif (Nat.le_of_ble_eq_true rfl) f1 (whole_new rfl) ?_; intro W4 hk4 b14; have b24 := hk4.box b2 b2.lt (by omega)) | (refine wpList_store_box rfl 45 (.tmp 2) _ rfl (W2.heap.size + 1) 0 45 _ ((chL true).ovals q2) ((chL true).ovals q2) rfl rfl b24 him (Nat.le_of_ble_eq_true rfl) m1 (whole_new rfl) ?_; intro W5 hk5 b25; have b15 := hk5.box b14 b14.lt (by omega))
  have hB4 := hk4.below hB3 (Nat.le_refl _) hB3.size
  have hB5 := hk5.below hB4 (by omega) hB4.size
  have I5 : WkInv m q q2 W2.heap.size (W2.heap.size + 1) W5 := ⟨O2.below hB5, M2.below hB5, hp2.below hB5, b15, b25⟩
  have hw5 := belowCall hB2 hB5
  generalize W2.heap.size = B1 at *
  clear hB2 O2 M2 hp2 hB3 hk4 b14 b24 hB4 hB5 hk5 b15 b25 b1 b2 hs3
  refine wp_region_held_drew (S := fun w' => Below W5.heap.size W5 w') (by as_aux_lemma => kernel_rfl) ((Below.refl _ _).drew) (fun hHeld => ?_)
  refine take_want 0 (some 17) rfl (by as_aux_lemma => kernel_rfl) (by as_aux_lemma => kernel_rfl) (by as_aux_lemma => kernel_rfl) rfl (fun _ _ _ h => h) (by rfl) (v := (.agg ((chL false).ovals q))) (exec_load 45 _ rfl B1 0 rfl ((chL false).ovals q) (fun w hS => (I5.b1.below hS).range) _ Tryz.underlying45 rfl hif) (by assumption) ?_
  simp only [Act.put, List.setIfInBounds_toArray, List.set_cons_zero, List.set_cons_succ]
  refine wpAnyH_ready (rs := [1]) (by kernel_rfl) (by simp) ?_
  refine AllReadyH.cons rfl (fun K hK => ?_) AllReadyH.nil
  go_simp
  (refine (lwof_ok (10) 1 (by decide) _ (by decide) (by decide) (by decide) (by decide)).mono ?_; rintro e W6 ⟨C6, rfl, R6, hb6⟩)
  refine hK.out _ _ ?_ (fun hHeld => ?_)
  · first | exact (belowCall hHeld hb6) | fail "keep"
  clear hK K
  try simp only [Act.put, List.setIfInBounds_toArray, List.set_cons_zero, List.set_cons_succ]
  refine wpAnyH_ready (rs := [2]) (by kernel_rfl) (by simp) ?_
  refine AllReadyH.cons rfl (fun K hK => ?_) AllReadyH.nil
  go_simp
  (refine (lwof_ok (0) 1 (by decide) _ (by decide) (by decide) (by decide) (by decide)).mono ?_; rintro e W7 ⟨C7, rfl, R7, hb7⟩)
  refine hK.out _ _ ?_ (fun hHeld => ?_)
  · first | exact (belowCall hHeld hb7) | fail "keep"
  clear hK K
  try simp only [Act.put, List.setIfInBounds_toArray, List.set_cons_zero, List.set_cons_succ]
  have R67 := R6.ext (.of_below hb7)
  have I7 := I5.below hHeld
  have ht := trace_ok (chL false) (chL_opt false) q (hcf q) 0 (by decide) _ _ (ch_fits false) W7 I7.O m I7.pows C6 C7 R67 R7
  simp only [show (chL false).ns = 2 from rfl] at ht
  refine wpAnyH_ready (rs := [3]) (by kernel_rfl) (by simp) ?_
  refine AllReadyH.cons rfl (fun K hK => ?_) AllReadyH.nil
  go_simp
  (refine ht.mono ?_; rintro e W8 ⟨p8, c8, base8, rfl, hbs8, P8, hb8⟩)
  refine hK.out _ _ ?_ (fun hHeld => ?_)
  · first | exact (belowCall hHeld hb8) | fail "keep"
  clear hK K
  try simp only [Act.put, List.setIfInBounds_toArray, List.set_cons_zero, List.set_cons_succ]
  refine take_want 4 (some 16) rfl (by as_aux_lemma => kernel_rfl) (by as_aux_lemma => kernel_rfl) (by as_aux_lemma => kernel_rfl) rfl (fun _ _ _ h => h) (by rfl) (v := ?_) ?_ (by assumption) ?_
  rotate_left
  · intro w hSw; (try dsimp only at hSw); go_simp; all_goals with_reducible rfl
  simp only [Act.put, List.setIfInBounds_toArray, List.set_cons_zero, List.set_cons_succ]
  refine take_want 5 (some 21) rfl (by as_aux_lemma => kernel_rfl) (by as_aux_lemma => kernel_rfl) (by as_aux_lemma => kernel_rfl) rfl (fun _ _ _ h => h) (by rfl) (v := ?_) ?_ (by assumption) ?_
  rotate_left
  · intro w hSw; (try dsimp only at hSw); go_simp; all_goals with_reducible rfl
  simp only [Act.put, List.setIfInBounds_toArray, List.set_cons_zero, List.set_cons_succ]
  refine take_want 6 (some 22) rfl (by as_aux_lemma => kernel_rfl) (by as_aux_lemma => kernel_rfl) (by as_aux_lemma => kernel_rfl) rfl (fun _ _ _ h => h) (by rfl) (v := ?_) ?_ (by assumption) ?_
  rotate_left
  · intro w hSw; (try dsimp only at hSw); go_simp; all_goals with_reducible rfl
  simp only [Act.put, List.setIfInBounds_toArray, List.set_cons_zero, List.set_cons_succ]
  refine take_want 7 (some 3) rfl (by as_aux_lemma => kernel_rfl) (by as_aux_lemma => kernel_rfl) (by as_aux_lemma => kernel_rfl) rfl (fun _ _ _ h => h) (by rfl) (v := ?_) ?_ (by assumption) ?_
  rotate_left
  · intro w hSw; (try dsimp only at hSw); go_simp; all_goals with_reducible rfl
  simp only [Act.put, List.setIfInBounds_toArray, List.set_cons_zero, List.set_cons_succ]
  refine take_want 8 (some 4) rfl (by as_aux_lemma => kernel_rfl) (by as_aux_lemma => kernel_rfl) (by as_aux_lemma => kernel_rfl) rfl (fun _ _ _ h => h) (by rfl) (v := ?_) ?_ (by assumption) ?_
  rotate_left
  · intro w hSw; (try dsimp only at hSw); go_simp; all_goals with_reducible rfl
  simp only [Act.put, List.setIfInBounds_toArray, List.set_cons_zero, List.set_cons_succ]
  refine wpAnyH_done (by as_aux_lemma => kernel_rfl) ?_ _
  have I8 := I5.below hHeld
  have hw8 := belowCall hw5 hHeld
  clear ht I7 R67 R6 R7 hb6 hb7 hb8 I5 hw5 hHeld
  go_wp2_with fail
  refine wp_region_held_drew (S := fun w' => Below W8.heap.size W8 w') (by as_aux_lemma => kernel_rfl) ((Below.refl _ _).drew) (fun hHeld => ?_)
  refine take_want 0 (some 23) rfl (by as_aux_lemma => kernel_rfl) (by as_aux_lemma => kernel_rfl) (by as_aux_lemma => kernel_rfl) rfl (fun _ _ _ h => h) (by rfl) (v := ?_) ?_ (by assumption) ?_
  rotate_left
  · intro w hSw; (try dsimp only at hSw); go_simp; all_goals with_reducible rfl
  simp only [Act.put, List.setIfInBounds_toArray, List.set_cons_zero, List.set_cons_succ]
  refine take_want 1 (some 24) rfl (by as_aux_lemma => kernel_rfl) (by as_aux_lemma => kernel_rfl) (by as_aux_lemma => kernel_rfl) rfl (fun _ _ _ h => h) (by rfl) (v := ?_) ?_ (by assumption) ?_
  rotate_left
  · intro w hSw; (try dsimp only at hSw); go_simp; all_goals with_reducible rfl
  simp only [Act.put, List.setIfInBounds_toArray, List.set_cons_zero, List.set_cons_succ]
  refine take_want 2 (some 25) rfl (by as_aux_lemma => kernel_rfl) (by as_aux_lemma => kernel_rfl) (by as_aux_lemma => kernel_rfl) rfl (fun _ _ _ h => h) (by rfl) (v := ?_) ?_ (by assumption) ?_
  rotate_left
  · intro w hSw; (try dsimp only at hSw); go_simp; all_goals with_reducible rfl
  simp only [Act.put, List.setIfInBounds_toArray, List.set_cons_zero, List.set_cons_succ]
  refine take_want 3 (some 26) rfl (by as_aux_lemma => kernel_rfl) (by as_aux_lemma => kernel_rfl) (by as_aux_lemma => kernel_rfl) rfl (fun _ _ _ h => h) (by rfl) (v := ?_) ?_ (by assumption) ?_
  rotate_left
  · intro w hSw; (try dsimp only at hSw); go_simp; all_goals with_reducible rfl
  simp only [Act.put, List.setIfInBounds_toArray, List.set_cons_zero, List.set_cons_succ]
  refine wpAnyH_ready (rs := [4]) (by kernel_rfl) (by simp) ?_
  refine AllReadyH.cons rfl (fun K hK => ?_) AllReadyH.nil
  go_simp
  skip
  refine hK.out _ _ ?_ (fun hHeld => ?_)
  · first | exact ((belowAlloc (Below.refl _ _) _).drew) | fail "keep"
  clear hK K
  try simp only [Act.put, List.setIfInBounds_toArray, List.set_cons_zero, List.set_cons_succ]
  have bx : Box (W8.alloc (.cells #[.int .i64 10, .int .i64 1, .int .i64 (-1), .int .i64 10, .int .i64 8, .int .i64 1, .int .i64 (-1), .int .i64 10] 92)).drew W8.heap.size 92 #[.int .i64 10, .int .i64 1, .int .i64 (-1), .int .i64 10, .int .i64 8, .int .i64 1, .int .i64 (-1), .int .i64 10] := (Box.new _ _ _).drew
  generalize (W8.alloc (.cells #[.int .i64 10, .int .i64 1, .int .i64 (-1), .int .i64 10, .int .i64 8, .int .i64 1, .int .i64 (-1), .int .i64 10] 92)).drew = W9 at *
  have P9 := P8.below hHeld
  have ht := pencils2 base8 p8 c8 _ [10, 1, -1, 10, 8, 1, -1, 10] rfl (by decide) (by decide) W9 P9 bx rfl ch_tr0 ch_tr1
  refine wpAnyH_ready (rs := [5]) (by kernel_rfl) (by simp) ?_
  refine AllReadyH.cons rfl (fun K hK => ?_) AllReadyH.nil
  go_simp
  (refine ht.mono ?_; rintro e W10 ⟨rfl, hb10⟩)
  refine hK.out _ _ ?_ (fun hHeld => ?_)
  · first | exact (belowCall hHeld hb10) | fail "keep"
  clear hK K
  try simp only [Act.put, List.setIfInBounds_toArray, List.set_cons_zero, List.set_cons_succ]
  clear ht bx P9
  refine take_want 6 (some 29) rfl (by as_aux_lemma => kernel_rfl) (by as_aux_lemma => kernel_rfl) (by as_aux_lemma => kernel_rfl) rfl (fun _ _ _ h => h) (by rfl) (v := ?_) ?_ (by assumption) ?_
  rotate_left
  · intro w hSw; (try dsimp only at hSw); go_simp; all_goals with_reducible rfl
  simp only [Act.put, List.setIfInBounds_toArray, List.set_cons_zero, List.set_cons_succ]
  refine take_want 7 (some 30) rfl (by as_aux_lemma => kernel_rfl) (by as_aux_lemma => kernel_rfl) (by as_aux_lemma => kernel_rfl) rfl (fun _ _ _ h => h) (by rfl) (v := ?_) ?_ (by assumption) ?_
  rotate_left
  · intro w hSw; (try dsimp only at hSw); go_simp; all_goals with_reducible rfl
  simp only [Act.put, List.setIfInBounds_toArray, List.set_cons_zero, List.set_cons_succ]
  refine take_want 9 (some 32) rfl (by as_aux_lemma => kernel_rfl) (by as_aux_lemma => kernel_rfl) (by as_aux_lemma => kernel_rfl) rfl (fun _ _ _ h => h) (by rfl) (v := (.agg ((chL false).ovals q))) (exec_load 45 _ rfl B1 0 rfl ((chL false).ovals q) (fun w hS => (I8.b1.below hS).range) _ Tryz.underlying45 rfl hif) (by assumption) ?_
  simp only [Act.put, List.setIfInBounds_toArray, List.set_cons_zero, List.set_cons_succ]
  refine wpAnyH_ready (rs := [8]) (by kernel_rfl) (by simp) ?_
  refine AllReadyH.cons rfl (fun K hK => ?_) AllReadyH.nil
  go_simp
  (refine (lis_ok (1) 100 _).mono ?_; rintro e W11 ⟨A11, D11, rfl, ba11, bd11, hb11⟩)
  refine hK.out _ _ ?_ (fun hHeld => ?_)
  · first | exact (belowCall hHeld hb11) | fail "keep"
  clear hK K
  try simp only [Act.put, List.setIfInBounds_toArray, List.set_cons_zero, List.set_cons_succ]
  have hq := powX (chL false) (chL_opt false) q (hcf q) 0 0 W11 (I8.below hHeld).O (by decide) (by decide) (ch_pf false 0 (by decide)) m (I8.below hHeld).pows
  refine wpAnyH_ready (rs := [10]) (by kernel_rfl) (by simp) ?_
  refine AllReadyH.cons rfl (fun K hK => ?_) AllReadyH.nil
  go_simp
  (refine hq.mono ?_; rintro e W12 ⟨C12, rfl, R12, hb12⟩)
  refine hK.out _ _ ?_ (fun hHeld => ?_)
  · first | exact (belowCall hHeld hb12) | fail "keep"
  clear hK K
  try simp only [Act.put, List.setIfInBounds_toArray, List.set_cons_zero, List.set_cons_succ]
  refine take_want 11 (some 34) rfl (by as_aux_lemma => kernel_rfl) (by as_aux_lemma => kernel_rfl) (by as_aux_lemma => kernel_rfl) rfl (fun _ _ _ h => h) (by rfl) (v := ?_) ?_ (by assumption) ?_
  rotate_left
  · intro w hSw; (try dsimp only at hSw); go_simp; all_goals with_reducible rfl
  simp only [Act.put, List.setIfInBounds_toArray, List.set_cons_zero, List.set_cons_succ]
  refine take_want 12 (some 35) rfl (by as_aux_lemma => kernel_rfl) (by as_aux_lemma => kernel_rfl) (by as_aux_lemma => kernel_rfl) rfl (fun _ _ _ h => h) (by rfl) (v := ?_) ?_ (by assumption) ?_
  rotate_left
  · intro w hSw; (try dsimp only at hSw); go_simp; all_goals with_reducible rfl
  simp only [Act.put, List.setIfInBounds_toArray, List.set_cons_zero, List.set_cons_succ]
  have hq := lis1_true (1) 100 (by decide) (by decide) (by decide) (by decide) (by decide) C12 _ ch_pow0 W12 R12 A11 D11 (ba11.below hb12) (bd11.below hb12)
  refine wpAnyH_ready (rs := [13]) (by kernel_rfl) (by simp) ?_
  refine AllReadyH.cons rfl (fun K hK => ?_) AllReadyH.nil
  go_simp
  (refine hq.mono ?_; rintro e W13 ⟨rfl, hb13⟩)
  refine hK.out _ _ ?_ (fun hHeld => ?_)
  · first | exact (belowCall hHeld hb13) | fail "keep"
  clear hK K
  try simp only [Act.put, List.setIfInBounds_toArray, List.set_cons_zero, List.set_cons_succ]
  clear hq hb11 hb12 hb13 ba11 bd11 R12
  refine take_want 14 (some 37) rfl (by as_aux_lemma => kernel_rfl) (by as_aux_lemma => kernel_rfl) (by as_aux_lemma => kernel_rfl) rfl (fun _ _ _ h => h) (by rfl) (v := ?_) ?_ (by assumption) ?_
  rotate_left
  · intro w hSw; (try dsimp only at hSw); go_simp; all_goals with_reducible rfl
  simp only [Act.put, List.setIfInBounds_toArray, List.set_cons_zero, List.set_cons_succ]
  refine take_want 15 (some 38) rfl (by as_aux_lemma => kernel_rfl) (by as_aux_lemma => kernel_rfl) (by as_aux_lemma => kernel_rfl) rfl (fun _ _ _ h => h) (by rfl) (v := ?_) ?_ (by assumption) ?_
  rotate_left
  · intro w hSw; (try dsimp only at hSw); go_simp; all_goals with_reducible rfl
  simp only [Act.put, List.setIfInBounds_toArray, List.set_cons_zero, List.set_cons_succ]
  refine take_want 16 (some 39) rfl (by as_aux_lemma => kernel_rfl) (by as_aux_lemma => kernel_rfl) (by as_aux_lemma => kernel_rfl) rfl (fun _ _ _ h => h) (by rfl) (v := ?_) ?_ (by assumption) ?_
  rotate_left
  · intro w hSw; (try dsimp only at hSw); go_simp; all_goals with_reducible rfl
  simp only [Act.put, List.setIfInBounds_toArray, List.set_cons_zero, List.set_cons_succ]
  refine take_want 18 (some 41) rfl (by as_aux_lemma => kernel_rfl) (by as_aux_lemma => kernel_rfl) (by as_aux_lemma => kernel_rfl) rfl (fun _ _ _ h => h) (by rfl) (v := (.agg ((chL false).ovals q))) (exec_load 45 _ rfl B1 0 rfl ((chL false).ovals q) (fun w hS => (I8.b1.below hS).range) _ Tryz.underlying45 rfl hif) (by assumption) ?_
  simp only [Act.put, List.setIfInBounds_toArray, List.set_cons_zero, List.set_cons_succ]
  refine wpAnyH_ready (rs := [17]) (by kernel_rfl) (by simp) ?_
  refine AllReadyH.cons rfl (fun K hK => ?_) AllReadyH.nil
  go_simp
  (refine (lis_ok (0) 1 _).mono ?_; rintro e W14 ⟨A14, D14, rfl, ba14, bd14, hb14⟩)
  refine hK.out _ _ ?_ (fun hHeld => ?_)
  · first | exact (belowCall hHeld hb14) | fail "keep"
  clear hK K
  try simp only [Act.put, List.setIfInBounds_toArray, List.set_cons_zero, List.set_cons_succ]
  have hq := powX (chL false) (chL_opt false) q (hcf q) 1 0 W14 (I8.below hHeld).O (by decide) (by decide) (ch_pf false 1 (by decide)) m (I8.below hHeld).pows
  refine wpAnyH_ready (rs := [19]) (by kernel_rfl) (by simp) ?_
  refine AllReadyH.cons rfl (fun K hK => ?_) AllReadyH.nil
  go_simp
  (refine hq.mono ?_; rintro e W15 ⟨C15, rfl, R15, hb15⟩)
  refine hK.out _ _ ?_ (fun hHeld => ?_)
  · first | exact (belowCall hHeld hb15) | fail "keep"
  clear hK K
  try simp only [Act.put, List.setIfInBounds_toArray, List.set_cons_zero, List.set_cons_succ]
  refine take_want 20 (some 43) rfl (by as_aux_lemma => kernel_rfl) (by as_aux_lemma => kernel_rfl) (by as_aux_lemma => kernel_rfl) rfl (fun _ _ _ h => h) (by rfl) (v := ?_) ?_ (by assumption) ?_
  rotate_left
  · intro w hSw; (try dsimp only at hSw); go_simp; all_goals with_reducible rfl
  simp only [Act.put, List.setIfInBounds_toArray, List.set_cons_zero, List.set_cons_succ]
  refine take_want 21 (some 44) rfl (by as_aux_lemma => kernel_rfl) (by as_aux_lemma => kernel_rfl) (by as_aux_lemma => kernel_rfl) rfl (fun _ _ _ h => h) (by rfl) (v := ?_) ?_ (by assumption) ?_
  rotate_left
  · intro w hSw; (try dsimp only at hSw); go_simp; all_goals with_reducible rfl
  simp only [Act.put, List.setIfInBounds_toArray, List.set_cons_zero, List.set_cons_succ]
  have hq := lis1_true (0) 1 (by decide) (by decide) (by decide) (by decide) (by decide) C15 _ ch_pow1 W15 R15 A14 D14 (ba14.below hb15) (bd14.below hb15)
  refine wpAnyH_ready (rs := [22]) (by kernel_rfl) (by simp) ?_
  refine AllReadyH.cons rfl (fun K hK => ?_) AllReadyH.nil
  go_simp
  (refine hq.mono ?_; rintro e W16 ⟨rfl, hb16⟩)
  refine hK.out _ _ ?_ (fun hHeld => ?_)
  · first | exact (belowCall hHeld hb16) | fail "keep"
  clear hK K
  try simp only [Act.put, List.setIfInBounds_toArray, List.set_cons_zero, List.set_cons_succ]
  clear hq hb14 hb15 hb16 ba14 bd14 R15
  refine take_want 23 (some 46) rfl (by as_aux_lemma => kernel_rfl) (by as_aux_lemma => kernel_rfl) (by as_aux_lemma => kernel_rfl) rfl (fun _ _ _ h => h) (by rfl) (v := ?_) ?_ (by assumption) ?_
  rotate_left
  · intro w hSw; (try dsimp only at hSw); go_simp; all_goals with_reducible rfl
  simp only [Act.put, List.setIfInBounds_toArray, List.set_cons_zero, List.set_cons_succ]
  refine take_want 24 (some 47) rfl (by as_aux_lemma => kernel_rfl) (by as_aux_lemma => kernel_rfl) (by as_aux_lemma => kernel_rfl) rfl (fun _ _ _ h => h) (by rfl) (v := ?_) ?_ (by assumption) ?_
  rotate_left
  · intro w hSw; (try dsimp only at hSw); go_simp; all_goals with_reducible rfl
  simp only [Act.put, List.setIfInBounds_toArray, List.set_cons_zero, List.set_cons_succ]
  refine wpAnyH_done (by as_aux_lemma => kernel_rfl) ?_ _
  have I17 := I8.below hHeld
  have hw17 := belowCall hw8 hHeld
  have P17 := P8.below hHeld
  clear hHeld I8 hw8 P8 hb10
  go_wp2_with (refine wpList_load_box rfl 45 _ rfl B1 rfl 45 ((chL false).ovals q) I17.b1 _ Tryz.underlying45 rfl hif ?_)
  have ht := slopes_ok (chL false) (chL_opt false) q (hcf q) 0 (by decide) base8 p8 c8 _ (ch_fits false).num ch_slope W16 I17.O P17
  simp only [show (chL false).ns = 2 from rfl] at ht
  refine ht.mono ?_
  rintro e W18 ⟨p18, c18, base18, rfl, hbs18, Q18, hb18⟩
  have I18 := I17.below hb18
  have hw18 := belowCall hw17 hb18
  have P18 := P17.below hb18
  clear ht I17 hw17 P17 hb18
  go_wp2_with fail
  obtain ⟨Cp, hRp, hQp⟩ := P18.rd (by decide) (by decide)
  obtain ⟨hc1, hn1, hxx⟩ := hRp
  obtain ⟨b, off, rfl, hbl, hcell⟩ := hxx (by decide)
  have z1 := (hQp 1 (by decide)).1
  have Q1 : PenQ W18 (Cp 1) ((chL false).tr 0 (Rat.divInt 10 1) (Rat.divInt 0 1) 2) := (hQp 1 (by decide)).2
  rw [ch_tr1] at Q1
  have rg := fun W' (hW : Below W18.heap.size W18 W') => row_range hbl hcell hW 1 (by decide) z1
  simp only [Nat.one_mul] at rg
  have hi8 : (Tryz.prog.info? 65).map (·.size) = some (Cp 1).size := by rw [z1]; kernel_rfl
  clear hxx hcell hQp hn1 z1
  generalize Cp 1 = C1 at *
  generalize ha : Act.mk _ [] = a0
  refine wp_mono (Q := fun e a' V => match e with | .normal => ∃ (B7 B8 : Nat) (c0 c1 c2 c3 c4 c5 c6 c7 : Value), a' = ((((((((((((a0.put (some 55) (.agg ((chL false).ovals q))).put (some 56) (.slice (some ⟨b, off, none⟩) 2 c8)).put (some 57) (.pointer (some ⟨b, off + 8, none⟩))).put (some 58) (.agg C1)).put (some 59) (.tuple #[.agg #[c0, c1, c2, c3], .agg #[c4, c5, c6, c7], .int .i64 0])).put (some 54) (.tuple #[.agg #[c0, c1, c2, c3], .agg #[c4, c5, c6, c7], .int .i64 0])).put (some 60) (.agg #[c0, c1, c2, c3])).put (some 61) (.agg #[c4, c5, c6, c7])).put (some 62) (.int .i64 0)).put (some 7) (.pointer (some ⟨B7, 0, none⟩))).put (some 8) (.pointer (some ⟨B8, 0, none⟩))).put (some 9) (.int .i64 0)) ∧ Below W18.heap.size W18 V ∧ Box V B7 54 #[c0, c1, c2, c3] ∧ Box V B8 54 #[c4, c5, c6, c7] ∧ QV V (.agg #[c0, c1, c2, c3]) (Rat.divInt 10 1) ∧ QV V (.agg #[c4, c5, c6, c7]) (Rat.divInt 0 1) | _ => False) ?_ ?_
  · subst ha
    refine wp_region_held_drew (S := fun w' => Below W18.heap.size W18 w') (by as_aux_lemma => kernel_rfl) ((Below.refl _ _).drew) (fun hHeld => ?_)
    refine take_want 0 (some 55) rfl (by as_aux_lemma => kernel_rfl) (by as_aux_lemma => kernel_rfl) (by as_aux_lemma => kernel_rfl) rfl (fun _ _ _ h => h) (by rfl) (v := (.agg ((chL false).ovals q))) (exec_load 45 _ rfl B1 0 rfl ((chL false).ovals q) (fun w hS => (I18.b1.below hS).range) _ Tryz.underlying45 rfl hif) (by assumption) ?_
    simp only [Act.put, List.setIfInBounds_toArray, List.set_cons_zero, List.set_cons_succ]
    refine take_want 1 (some 56) rfl (by as_aux_lemma => kernel_rfl) (by as_aux_lemma => kernel_rfl) (by as_aux_lemma => kernel_rfl) rfl (fun _ _ _ h => h) (by rfl) (v := ?_) ?_ (by assumption) ?_
    rotate_left
    · intro w hSw; (try dsimp only at hSw); go_simp; all_goals with_reducible rfl
    simp only [Act.put, List.setIfInBounds_toArray, List.set_cons_zero, List.set_cons_succ]
    refine take_want 2 (some 57) rfl (by as_aux_lemma => kernel_rfl) (by as_aux_lemma => kernel_rfl) (by as_aux_lemma => kernel_rfl) rfl (fun _ _ _ h => h) (by rfl) (v := ?_) ?_ (by assumption) ?_
    rotate_left
    · intro w hSw; (try dsimp only at hSw); go_simp; all_goals with_reducible rfl
    simp only [Act.put, List.setIfInBounds_toArray, List.set_cons_zero, List.set_cons_succ]
    refine take_want 3 (some 58) rfl (by as_aux_lemma => kernel_rfl) (by as_aux_lemma => kernel_rfl) (by as_aux_lemma => kernel_rfl) rfl (fun _ _ _ h => h) (by rfl) (v := (.agg C1)) (exec_load 65 _ rfl b (off + 8) rfl C1 (fun w hS => rg w hS) _ Tryz.underlying65 rfl hi8) (by assumption) ?_
    simp only [Act.put, List.setIfInBounds_toArray, List.set_cons_zero, List.set_cons_succ]
    have hbk := fun V (hV : Below W18.heap.size W18 V) => back_ok (chL false) (chL_opt false) q (hcf q) 0 (by decide) _ _ ch_bkfits V (I18.O.below hV) m (I18.pows.below hV) C1 (Q1.ext (.of_below hV))
    simp only [show (chL false).ns = 2 from rfl, ch_bk] at hbk
    refine wpAnyH_ready (rs := [4, 9, 10]) (by as_aux_lemma => kernel_rfl) (by simp) ?_
    refine (AllReadyH.cons rfl (fun K hK => ?_) (AllReadyH.cons rfl (fun K hK => ?_) (AllReadyH.cons rfl (fun K hK => ?_) AllReadyH.nil)))
    · go_simp
      refine (hbk _ hHeld).mono ?_
      rintro e Wc ⟨c0, c1, c2, c3, c4, c5, c6, c7, rfl, RB, hbc⟩
      refine hK.out _ _ (belowCall hHeld hbc) (fun hHeld => ?_)
      clear hK K
      try simp only [Act.put, List.setIfInBounds_toArray, List.set_cons_zero, List.set_cons_succ]
      refine take_want 5 (some 54) rfl (by as_aux_lemma => kernel_rfl) (by as_aux_lemma => kernel_rfl) (by as_aux_lemma => kernel_rfl) rfl (fun _ _ _ h => h) (by rfl) (v := ?_) ?_ (by assumption) ?_
      rotate_left
      · intro w hSw; (try dsimp only at hSw); go_simp; all_goals with_reducible rfl
      simp only [Act.put, List.setIfInBounds_toArray, List.set_cons_zero, List.set_cons_succ]
      refine take_want 6 (some 60) rfl (by as_aux_lemma => kernel_rfl) (by as_aux_lemma => kernel_rfl) (by as_aux_lemma => kernel_rfl) rfl (fun _ _ _ h => h) (by rfl) (v := ?_) ?_ (by assumption) ?_
      rotate_left
      · intro w hSw; (try dsimp only at hSw); go_simp; all_goals with_reducible rfl
      simp only [Act.put, List.setIfInBounds_toArray, List.set_cons_zero, List.set_cons_succ]
      refine take_want 7 (some 61) rfl (by as_aux_lemma => kernel_rfl) (by as_aux_lemma => kernel_rfl) (by as_aux_lemma => kernel_rfl) rfl (fun _ _ _ h => h) (by rfl) (v := ?_) ?_ (by assumption) ?_
      rotate_left
      · intro w hSw; (try dsimp only at hSw); go_simp; all_goals with_reducible rfl
      simp only [Act.put, List.setIfInBounds_toArray, List.set_cons_zero, List.set_cons_succ]
      refine take_want 8 (some 62) rfl (by as_aux_lemma => kernel_rfl) (by as_aux_lemma => kernel_rfl) (by as_aux_lemma => kernel_rfl) rfl (fun _ _ _ h => h) (by rfl) (v := ?_) ?_ (by assumption) ?_
      rotate_left
      · intro w hSw; (try dsimp only at hSw); go_simp; all_goals with_reducible rfl
      simp only [Act.put, List.setIfInBounds_toArray, List.set_cons_zero, List.set_cons_succ]
      refine wpAnyH_ready (rs := [9, 10]) (by as_aux_lemma => kernel_rfl) (by simp) ?_
      refine (AllReadyH.cons rfl (fun K hK => ?_) (AllReadyH.cons rfl (fun K hK => ?_) AllReadyH.nil))
      · rw [if_pos (by rfl)]
        refine wp_new 54 rfl _ alloc_quot ?_
        intro V7 B7 hle7 hb7 b7
        have hg7 : W18.heap.size ≤ B7 := Nat.le_trans hHeld.size hle7
        refine hK.out _ _ (belowCall hHeld hb7) (fun hHeld => ?_)
        clear hK K
        replace RB := RB.ext (.of_below hb7)
        try simp only [Act.put, List.setIfInBounds_toArray, List.set_cons_zero, List.set_cons_succ]
        refine wpAnyH_ready (rs := [10]) (by as_aux_lemma => kernel_rfl) (by simp) ?_
        refine (AllReadyH.cons rfl (fun K hK => ?_) AllReadyH.nil)
        rw [if_pos (by rfl)]
        refine wp_new 54 rfl _ alloc_quot ?_
        intro V8 B8 hle8 hb8 b8
        have hg8 : W18.heap.size ≤ B8 := Nat.le_trans hHeld.size hle8
        refine hK.out _ _ (belowCall hHeld hb8) (fun hHeld => ?_)
        clear hK K
        have hne : B7 ≠ B8 := by have := b7.lt; omega
        replace RB := RB.ext (.of_below hb8)
        replace b7 := b7.below hb8
        try simp only [Act.put, List.setIfInBounds_toArray, List.set_cons_zero, List.set_cons_succ]
        obtain ⟨R7, R8⟩ := penq_halves RB
        obtain ⟨_, e7, z7, o7⟩ := R7.cells
        cases e7
        obtain ⟨_, e8, z8, o8⟩ := R8.cells
        cases e8
        refine wpAnyH_storeK B7 54 11 rfl rfl rfl rfl 0 #[c0, c1, c2, c3] _ #[c0, c1, c2, c3] (by as_aux_lemma => kernel_rfl) (fun w' i u hS => hS.setCell (p := ⟨B7, i, none⟩) hg7 u) rfl rfl b7 hHeld sizeQuot (Nat.le_of_eq rfl) o7 (whole_new rfl) (fun Wx hkx bx hHeld => ?_)
        have b8x := hkx.box b8 b8.lt (Ne.symm hne)
        refine wpAnyH_storeK B8 54 12 rfl rfl rfl rfl 0 #[c4, c5, c6, c7] _ #[c4, c5, c6, c7] (by as_aux_lemma => kernel_rfl) (fun w' i u hS => hS.setCell (p := ⟨B8, i, none⟩) hg8 u) rfl rfl b8x hHeld sizeQuot (Nat.le_of_eq rfl) o8 (whole_new rfl) (fun Wy hky by_ hHeld => ?_)
        have b7y := hky.box bx bx.lt hne
        have hxx := (hkx.ext b7 (by decide)).trans (hky.ext b8x (by decide))
        refine take_want 13 (some 9) rfl (by as_aux_lemma => kernel_rfl) (by as_aux_lemma => kernel_rfl) (by as_aux_lemma => kernel_rfl) rfl (fun _ _ _ h => h) (by rfl) (v := ?_) ?_ (by assumption) ?_
        rotate_left
        · intro w hSw; (try dsimp only at hSw); go_simp; all_goals with_reducible rfl
        simp only [Act.put, List.setIfInBounds_toArray, List.set_cons_zero, List.set_cons_succ]
        refine wpAnyH_done (by as_aux_lemma => kernel_rfl) ?_ _
        exact ⟨B7, B8, c0, c1, c2, c3, c4, c5, c6, c7, by first | rfl | simp only [Act.put, List.setIfInBounds_toArray, List.set_cons_zero, List.set_cons_succ], hHeld, b7y, by_, R7.ext hxx, R8.ext hxx⟩
      · rw [if_pos (by rfl)]
        refine wp_new 54 rfl _ alloc_quot ?_
        intro V8 B8 hle8 hb8 b8
        have hg8 : W18.heap.size ≤ B8 := Nat.le_trans hHeld.size hle8
        refine hK.out _ _ (belowCall hHeld hb8) (fun hHeld => ?_)
        clear hK K
        replace RB := RB.ext (.of_below hb8)
        try simp only [Act.put, List.setIfInBounds_toArray, List.set_cons_zero, List.set_cons_succ]
        refine wpAnyH_ready (rs := [9]) (by as_aux_lemma => kernel_rfl) (by simp) ?_
        refine (AllReadyH.cons rfl (fun K hK => ?_) AllReadyH.nil)
        rw [if_pos (by rfl)]
        refine wp_new 54 rfl _ alloc_quot ?_
        intro V7 B7 hle7 hb7 b7
        have hg7 : W18.heap.size ≤ B7 := Nat.le_trans hHeld.size hle7
        refine hK.out _ _ (belowCall hHeld hb7) (fun hHeld => ?_)
        clear hK K
        have hne : B7 ≠ B8 := by have := b8.lt; omega
        replace RB := RB.ext (.of_below hb7)
        replace b8 := b8.below hb7
        try simp only [Act.put, List.setIfInBounds_toArray, List.set_cons_zero, List.set_cons_succ]
        obtain ⟨R7, R8⟩ := penq_halves RB
        obtain ⟨_, e7, z7, o7⟩ := R7.cells
        cases e7
        obtain ⟨_, e8, z8, o8⟩ := R8.cells
        cases e8
        refine wpAnyH_storeK B7 54 11 rfl rfl rfl rfl 0 #[c0, c1, c2, c3] _ #[c0, c1, c2, c3] (by as_aux_lemma => kernel_rfl) (fun w' i u hS => hS.setCell (p := ⟨B7, i, none⟩) hg7 u) rfl rfl b7 hHeld sizeQuot (Nat.le_of_eq rfl) o7 (whole_new rfl) (fun Wx hkx bx hHeld => ?_)
        have b8x := hkx.box b8 b8.lt (Ne.symm hne)
        refine wpAnyH_storeK B8 54 12 rfl rfl rfl rfl 0 #[c4, c5, c6, c7] _ #[c4, c5, c6, c7] (by as_aux_lemma => kernel_rfl) (fun w' i u hS => hS.setCell (p := ⟨B8, i, none⟩) hg8 u) rfl rfl b8x hHeld sizeQuot (Nat.le_of_eq rfl) o8 (whole_new rfl) (fun Wy hky by_ hHeld => ?_)
        have b7y := hky.box bx bx.lt hne
        have hxx := (hkx.ext b7 (by decide)).trans (hky.ext b8x (by decide))
        refine take_want 13 (some 9) rfl (by as_aux_lemma => kernel_rfl) (by as_aux_lemma => kernel_rfl) (by as_aux_lemma => kernel_rfl) rfl (fun _ _ _ h => h) (by rfl) (v := ?_) ?_ (by assumption) ?_
        rotate_left
        · intro w hSw; (try dsimp only at hSw); go_simp; all_goals with_reducible rfl
        simp only [Act.put, List.setIfInBounds_toArray, List.set_cons_zero, List.set_cons_succ]
        refine wpAnyH_done (by as_aux_lemma => kernel_rfl) ?_ _
        exact ⟨B7, B8, c0, c1, c2, c3, c4, c5, c6, c7, by first | rfl | simp only [Act.put, List.setIfInBounds_toArray, List.set_cons_zero, List.set_cons_succ], hHeld, b7y, by_, R7.ext hxx, R8.ext hxx⟩
    · rw [if_pos (by rfl)]
      refine wp_new 54 rfl _ alloc_quot ?_
      intro V7 B7 hle7 hb7 b7
      have hg7 : W18.heap.size ≤ B7 := Nat.le_trans hHeld.size hle7
      refine hK.out _ _ (belowCall hHeld hb7) (fun hHeld => ?_)
      clear hK K
      try simp only [Act.put, List.setIfInBounds_toArray, List.set_cons_zero, List.set_cons_succ]
      refine wpAnyH_ready (rs := [4, 10]) (by as_aux_lemma => kernel_rfl) (by simp) ?_
      refine (AllReadyH.cons rfl (fun K hK => ?_) (AllReadyH.cons rfl (fun K hK => ?_) AllReadyH.nil))
      · go_simp
        refine (hbk _ hHeld).mono ?_
        rintro e Wc ⟨c0, c1, c2, c3, c4, c5, c6, c7, rfl, RB, hbc⟩
        refine hK.out _ _ (belowCall hHeld hbc) (fun hHeld => ?_)
        clear hK K
        replace b7 := b7.below hbc
        try simp only [Act.put, List.setIfInBounds_toArray, List.set_cons_zero, List.set_cons_succ]
        refine take_want 5 (some 54) rfl (by as_aux_lemma => kernel_rfl) (by as_aux_lemma => kernel_rfl) (by as_aux_lemma => kernel_rfl) rfl (fun _ _ _ h => h) (by rfl) (v := ?_) ?_ (by assumption) ?_
        rotate_left
        · intro w hSw; (try dsimp only at hSw); go_simp; all_goals with_reducible rfl
        simp only [Act.put, List.setIfInBounds_toArray, List.set_cons_zero, List.set_cons_succ]
        refine take_want 6 (some 60) rfl (by as_aux_lemma => kernel_rfl) (by as_aux_lemma => kernel_rfl) (by as_aux_lemma => kernel_rfl) rfl (fun _ _ _ h => h) (by rfl) (v := ?_) ?_ (by assumption) ?_
        rotate_left
        · intro w hSw; (try dsimp only at hSw); go_simp; all_goals with_reducible rfl
        simp only [Act.put, List.setIfInBounds_toArray, List.set_cons_zero, List.set_cons_succ]
        refine take_want 7 (some 61) rfl (by as_aux_lemma => kernel_rfl) (by as_aux_lemma => kernel_rfl) (by as_aux_lemma => kernel_rfl) rfl (fun _ _ _ h => h) (by rfl) (v := ?_) ?_ (by assumption) ?_
        rotate_left
        · intro w hSw; (try dsimp only at hSw); go_simp; all_goals with_reducible rfl
        simp only [Act.put, List.setIfInBounds_toArray, List.set_cons_zero, List.set_cons_succ]
        refine take_want 8 (some 62) rfl (by as_aux_lemma => kernel_rfl) (by as_aux_lemma => kernel_rfl) (by as_aux_lemma => kernel_rfl) rfl (fun _ _ _ h => h) (by rfl) (v := ?_) ?_ (by assumption) ?_
        rotate_left
        · intro w hSw; (try dsimp only at hSw); go_simp; all_goals with_reducible rfl
        simp only [Act.put, List.setIfInBounds_toArray, List.set_cons_zero, List.set_cons_succ]
        refine wpAnyH_ready (rs := [10]) (by as_aux_lemma => kernel_rfl) (by simp) ?_
        refine (AllReadyH.cons rfl (fun K hK => ?_) AllReadyH.nil)
        rw [if_pos (by rfl)]
        refine wp_new 54 rfl _ alloc_quot ?_
        intro V8 B8 hle8 hb8 b8
        have hg8 : W18.heap.size ≤ B8 := Nat.le_trans hHeld.size hle8
        refine hK.out _ _ (belowCall hHeld hb8) (fun hHeld => ?_)
        clear hK K
        have hne : B7 ≠ B8 := by have := b7.lt; omega
        replace b7 := b7.below hb8
        replace RB := RB.ext (.of_below hb8)
        try simp only [Act.put, List.setIfInBounds_toArray, List.set_cons_zero, List.set_cons_succ]
        obtain ⟨R7, R8⟩ := penq_halves RB
        obtain ⟨_, e7, z7, o7⟩ := R7.cells
        cases e7
        obtain ⟨_, e8, z8, o8⟩ := R8.cells
        cases e8
        refine wpAnyH_storeK B7 54 11 rfl rfl rfl rfl 0 #[c0, c1, c2, c3] _ #[c0, c1, c2, c3] (by as_aux_lemma => kernel_rfl) (fun w' i u hS => hS.setCell (p := ⟨B7, i, none⟩) hg7 u) rfl rfl b7 hHeld sizeQuot (Nat.le_of_eq rfl) o7 (whole_new rfl) (fun Wx hkx bx hHeld => ?_)
        have b8x := hkx.box b8 b8.lt (Ne.symm hne)
        refine wpAnyH_storeK B8 54 12 rfl rfl rfl rfl 0 #[c4, c5, c6, c7] _ #[c4, c5, c6, c7] (by as_aux_lemma => kernel_rfl) (fun w' i u hS => hS.setCell (p := ⟨B8, i, none⟩) hg8 u) rfl rfl b8x hHeld sizeQuot (Nat.le_of_eq rfl) o8 (whole_new rfl) (fun Wy hky by_ hHeld => ?_)
        have b7y := hky.box bx bx.lt hne
        have hxx := (hkx.ext b7 (by decide)).trans (hky.ext b8x (by decide))
        refine take_want 13 (some 9) rfl (by as_aux_lemma => kernel_rfl) (by as_aux_lemma => kernel_rfl) (by as_aux_lemma => kernel_rfl) rfl (fun _ _ _ h => h) (by rfl) (v := ?_) ?_ (by assumption) ?_
        rotate_left
        · intro w hSw; (try dsimp only at hSw); go_simp; all_goals with_reducible rfl
        simp only [Act.put, List.setIfInBounds_toArray, List.set_cons_zero, List.set_cons_succ]
        refine wpAnyH_done (by as_aux_lemma => kernel_rfl) ?_ _
        exact ⟨B7, B8, c0, c1, c2, c3, c4, c5, c6, c7, by first | rfl | simp only [Act.put, List.setIfInBounds_toArray, List.set_cons_zero, List.set_cons_succ], hHeld, b7y, by_, R7.ext hxx, R8.ext hxx⟩
      · rw [if_pos (by rfl)]
        refine wp_new 54 rfl _ alloc_quot ?_
        intro V8 B8 hle8 hb8 b8
        have hg8 : W18.heap.size ≤ B8 := Nat.le_trans hHeld.size hle8
        refine hK.out _ _ (belowCall hHeld hb8) (fun hHeld => ?_)
        clear hK K
        have hne : B7 ≠ B8 := by have := b7.lt; omega
        replace b7 := b7.below hb8
        try simp only [Act.put, List.setIfInBounds_toArray, List.set_cons_zero, List.set_cons_succ]
        refine wpAnyH_ready (rs := [4]) (by as_aux_lemma => kernel_rfl) (by simp) ?_
        refine (AllReadyH.cons rfl (fun K hK => ?_) AllReadyH.nil)
        go_simp
        refine (hbk _ hHeld).mono ?_
        rintro e Wc ⟨c0, c1, c2, c3, c4, c5, c6, c7, rfl, RB, hbc⟩
        refine hK.out _ _ (belowCall hHeld hbc) (fun hHeld => ?_)
        clear hK K
        replace b7 := b7.below hbc
        replace b8 := b8.below hbc
        try simp only [Act.put, List.setIfInBounds_toArray, List.set_cons_zero, List.set_cons_succ]
        refine take_want 5 (some 54) rfl (by as_aux_lemma => kernel_rfl) (by as_aux_lemma => kernel_rfl) (by as_aux_lemma => kernel_rfl) rfl (fun _ _ _ h => h) (by rfl) (v := ?_) ?_ (by assumption) ?_
        rotate_left
        · intro w hSw; (try dsimp only at hSw); go_simp; all_goals with_reducible rfl
        simp only [Act.put, List.setIfInBounds_toArray, List.set_cons_zero, List.set_cons_succ]
        refine take_want 6 (some 60) rfl (by as_aux_lemma => kernel_rfl) (by as_aux_lemma => kernel_rfl) (by as_aux_lemma => kernel_rfl) rfl (fun _ _ _ h => h) (by rfl) (v := ?_) ?_ (by assumption) ?_
        rotate_left
        · intro w hSw; (try dsimp only at hSw); go_simp; all_goals with_reducible rfl
        simp only [Act.put, List.setIfInBounds_toArray, List.set_cons_zero, List.set_cons_succ]
        refine take_want 7 (some 61) rfl (by as_aux_lemma => kernel_rfl) (by as_aux_lemma => kernel_rfl) (by as_aux_lemma => kernel_rfl) rfl (fun _ _ _ h => h) (by rfl) (v := ?_) ?_ (by assumption) ?_
        rotate_left
        · intro w hSw; (try dsimp only at hSw); go_simp; all_goals with_reducible rfl
        simp only [Act.put, List.setIfInBounds_toArray, List.set_cons_zero, List.set_cons_succ]
        refine take_want 8 (some 62) rfl (by as_aux_lemma => kernel_rfl) (by as_aux_lemma => kernel_rfl) (by as_aux_lemma => kernel_rfl) rfl (fun _ _ _ h => h) (by rfl) (v := ?_) ?_ (by assumption) ?_
        rotate_left
        · intro w hSw; (try dsimp only at hSw); go_simp; all_goals with_reducible rfl
        simp only [Act.put, List.setIfInBounds_toArray, List.set_cons_zero, List.set_cons_succ]
        obtain ⟨R7, R8⟩ := penq_halves RB
        obtain ⟨_, e7, z7, o7⟩ := R7.cells
        cases e7
        obtain ⟨_, e8, z8, o8⟩ := R8.cells
        cases e8
        refine wpAnyH_storeK B7 54 11 rfl rfl rfl rfl 0 #[c0, c1, c2, c3] _ #[c0, c1, c2, c3] (by as_aux_lemma => kernel_rfl) (fun w' i u hS => hS.setCell (p := ⟨B7, i, none⟩) hg7 u) rfl rfl b7 hHeld sizeQuot (Nat.le_of_eq rfl) o7 (whole_new rfl) (fun Wx hkx bx hHeld => ?_)
        have b8x := hkx.box b8 b8.lt (Ne.symm hne)
        refine wpAnyH_storeK B8 54 12 rfl rfl rfl rfl 0 #[c4, c5, c6, c7] _ #[c4, c5, c6, c7] (by as_aux_lemma => kernel_rfl) (fun w' i u hS => hS.setCell (p := ⟨B8, i, none⟩) hg8 u) rfl rfl b8x hHeld sizeQuot (Nat.le_of_eq rfl) o8 (whole_new rfl) (fun Wy hky by_ hHeld => ?_)
        have b7y := hky.box bx bx.lt hne
        have hxx := (hkx.ext b7 (by decide)).trans (hky.ext b8x (by decide))
        refine take_want 13 (some 9) rfl (by as_aux_lemma => kernel_rfl) (by as_aux_lemma => kernel_rfl) (by as_aux_lemma => kernel_rfl) rfl (fun _ _ _ h => h) (by rfl) (v := ?_) ?_ (by assumption) ?_
        rotate_left
        · intro w hSw; (try dsimp only at hSw); go_simp; all_goals with_reducible rfl
        simp only [Act.put, List.setIfInBounds_toArray, List.set_cons_zero, List.set_cons_succ]
        refine wpAnyH_done (by as_aux_lemma => kernel_rfl) ?_ _
        exact ⟨B7, B8, c0, c1, c2, c3, c4, c5, c6, c7, by first | rfl | simp only [Act.put, List.setIfInBounds_toArray, List.set_cons_zero, List.set_cons_succ], hHeld, b7y, by_, R7.ext hxx, R8.ext hxx⟩
    · rw [if_pos (by rfl)]
      refine wp_new 54 rfl _ alloc_quot ?_
      intro V8 B8 hle8 hb8 b8
      have hg8 : W18.heap.size ≤ B8 := Nat.le_trans hHeld.size hle8
      refine hK.out _ _ (belowCall hHeld hb8) (fun hHeld => ?_)
      clear hK K
      try simp only [Act.put, List.setIfInBounds_toArray, List.set_cons_zero, List.set_cons_succ]
      refine wpAnyH_ready (rs := [4, 9]) (by as_aux_lemma => kernel_rfl) (by simp) ?_
      refine (AllReadyH.cons rfl (fun K hK => ?_) (AllReadyH.cons rfl (fun K hK => ?_) AllReadyH.nil))
      · go_simp
        refine (hbk _ hHeld).mono ?_
        rintro e Wc ⟨c0, c1, c2, c3, c4, c5, c6, c7, rfl, RB, hbc⟩
        refine hK.out _ _ (belowCall hHeld hbc) (fun hHeld => ?_)
        clear hK K
        replace b8 := b8.below hbc
        try simp only [Act.put, List.setIfInBounds_toArray, List.set_cons_zero, List.set_cons_succ]
        refine take_want 5 (some 54) rfl (by as_aux_lemma => kernel_rfl) (by as_aux_lemma => kernel_rfl) (by as_aux_lemma => kernel_rfl) rfl (fun _ _ _ h => h) (by rfl) (v := ?_) ?_ (by assumption) ?_
        rotate_left
        · intro w hSw; (try dsimp only at hSw); go_simp; all_goals with_reducible rfl
        simp only [Act.put, List.setIfInBounds_toArray, List.set_cons_zero, List.set_cons_succ]
        refine take_want 6 (some 60) rfl (by as_aux_lemma => kernel_rfl) (by as_aux_lemma => kernel_rfl) (by as_aux_lemma => kernel_rfl) rfl (fun _ _ _ h => h) (by rfl) (v := ?_) ?_ (by assumption) ?_
        rotate_left
        · intro w hSw; (try dsimp only at hSw); go_simp; all_goals with_reducible rfl
        simp only [Act.put, List.setIfInBounds_toArray, List.set_cons_zero, List.set_cons_succ]
        refine take_want 7 (some 61) rfl (by as_aux_lemma => kernel_rfl) (by as_aux_lemma => kernel_rfl) (by as_aux_lemma => kernel_rfl) rfl (fun _ _ _ h => h) (by rfl) (v := ?_) ?_ (by assumption) ?_
        rotate_left
        · intro w hSw; (try dsimp only at hSw); go_simp; all_goals with_reducible rfl
        simp only [Act.put, List.setIfInBounds_toArray, List.set_cons_zero, List.set_cons_succ]
        refine take_want 8 (some 62) rfl (by as_aux_lemma => kernel_rfl) (by as_aux_lemma => kernel_rfl) (by as_aux_lemma => kernel_rfl) rfl (fun _ _ _ h => h) (by rfl) (v := ?_) ?_ (by assumption) ?_
        rotate_left
        · intro w hSw; (try dsimp only at hSw); go_simp; all_goals with_reducible rfl
        simp only [Act.put, List.setIfInBounds_toArray, List.set_cons_zero, List.set_cons_succ]
        refine wpAnyH_ready (rs := [9]) (by as_aux_lemma => kernel_rfl) (by simp) ?_
        refine (AllReadyH.cons rfl (fun K hK => ?_) AllReadyH.nil)
        rw [if_pos (by rfl)]
        refine wp_new 54 rfl _ alloc_quot ?_
        intro V7 B7 hle7 hb7 b7
        have hg7 : W18.heap.size ≤ B7 := Nat.le_trans hHeld.size hle7
        refine hK.out _ _ (belowCall hHeld hb7) (fun hHeld => ?_)
        clear hK K
        have hne : B7 ≠ B8 := by have := b8.lt; omega
        replace b8 := b8.below hb7
        replace RB := RB.ext (.of_below hb7)
        try simp only [Act.put, List.setIfInBounds_toArray, List.set_cons_zero, List.set_cons_succ]
        obtain ⟨R7, R8⟩ := penq_halves RB
        obtain ⟨_, e7, z7, o7⟩ := R7.cells
        cases e7
        obtain ⟨_, e8, z8, o8⟩ := R8.cells
        cases e8
        refine wpAnyH_storeK B7 54 11 rfl rfl rfl rfl 0 #[c0, c1, c2, c3] _ #[c0, c1, c2, c3] (by as_aux_lemma => kernel_rfl) (fun w' i u hS => hS.setCell (p := ⟨B7, i, none⟩) hg7 u) rfl rfl b7 hHeld sizeQuot (Nat.le_of_eq rfl) o7 (whole_new rfl) (fun Wx hkx bx hHeld => ?_)
        have b8x := hkx.box b8 b8.lt (Ne.symm hne)
        refine wpAnyH_storeK B8 54 12 rfl rfl rfl rfl 0 #[c4, c5, c6, c7] _ #[c4, c5, c6, c7] (by as_aux_lemma => kernel_rfl) (fun w' i u hS => hS.setCell (p := ⟨B8, i, none⟩) hg8 u) rfl rfl b8x hHeld sizeQuot (Nat.le_of_eq rfl) o8 (whole_new rfl) (fun Wy hky by_ hHeld => ?_)
        have b7y := hky.box bx bx.lt hne
        have hxx := (hkx.ext b7 (by decide)).trans (hky.ext b8x (by decide))
        refine take_want 13 (some 9) rfl (by as_aux_lemma => kernel_rfl) (by as_aux_lemma => kernel_rfl) (by as_aux_lemma => kernel_rfl) rfl (fun _ _ _ h => h) (by rfl) (v := ?_) ?_ (by assumption) ?_
        rotate_left
        · intro w hSw; (try dsimp only at hSw); go_simp; all_goals with_reducible rfl
        simp only [Act.put, List.setIfInBounds_toArray, List.set_cons_zero, List.set_cons_succ]
        refine wpAnyH_done (by as_aux_lemma => kernel_rfl) ?_ _
        exact ⟨B7, B8, c0, c1, c2, c3, c4, c5, c6, c7, by first | rfl | simp only [Act.put, List.setIfInBounds_toArray, List.set_cons_zero, List.set_cons_succ], hHeld, b7y, by_, R7.ext hxx, R8.ext hxx⟩
      · rw [if_pos (by rfl)]
        refine wp_new 54 rfl _ alloc_quot ?_
        intro V7 B7 hle7 hb7 b7
        have hg7 : W18.heap.size ≤ B7 := Nat.le_trans hHeld.size hle7
        refine hK.out _ _ (belowCall hHeld hb7) (fun hHeld => ?_)
        clear hK K
        have hne : B7 ≠ B8 := by have := b8.lt; omega
        replace b8 := b8.below hb7
        try simp only [Act.put, List.setIfInBounds_toArray, List.set_cons_zero, List.set_cons_succ]
        refine wpAnyH_ready (rs := [4]) (by as_aux_lemma => kernel_rfl) (by simp) ?_
        refine (AllReadyH.cons rfl (fun K hK => ?_) AllReadyH.nil)
        go_simp
        refine (hbk _ hHeld).mono ?_
        rintro e Wc ⟨c0, c1, c2, c3, c4, c5, c6, c7, rfl, RB, hbc⟩
        refine hK.out _ _ (belowCall hHeld hbc) (fun hHeld => ?_)
        clear hK K
        replace b8 := b8.below hbc
        replace b7 := b7.below hbc
        try simp only [Act.put, List.setIfInBounds_toArray, List.set_cons_zero, List.set_cons_succ]
        refine take_want 5 (some 54) rfl (by as_aux_lemma => kernel_rfl) (by as_aux_lemma => kernel_rfl) (by as_aux_lemma => kernel_rfl) rfl (fun _ _ _ h => h) (by rfl) (v := ?_) ?_ (by assumption) ?_
        rotate_left
        · intro w hSw; (try dsimp only at hSw); go_simp; all_goals with_reducible rfl
        simp only [Act.put, List.setIfInBounds_toArray, List.set_cons_zero, List.set_cons_succ]
        refine take_want 6 (some 60) rfl (by as_aux_lemma => kernel_rfl) (by as_aux_lemma => kernel_rfl) (by as_aux_lemma => kernel_rfl) rfl (fun _ _ _ h => h) (by rfl) (v := ?_) ?_ (by assumption) ?_
        rotate_left
        · intro w hSw; (try dsimp only at hSw); go_simp; all_goals with_reducible rfl
        simp only [Act.put, List.setIfInBounds_toArray, List.set_cons_zero, List.set_cons_succ]
        refine take_want 7 (some 61) rfl (by as_aux_lemma => kernel_rfl) (by as_aux_lemma => kernel_rfl) (by as_aux_lemma => kernel_rfl) rfl (fun _ _ _ h => h) (by rfl) (v := ?_) ?_ (by assumption) ?_
        rotate_left
        · intro w hSw; (try dsimp only at hSw); go_simp; all_goals with_reducible rfl
        simp only [Act.put, List.setIfInBounds_toArray, List.set_cons_zero, List.set_cons_succ]
        refine take_want 8 (some 62) rfl (by as_aux_lemma => kernel_rfl) (by as_aux_lemma => kernel_rfl) (by as_aux_lemma => kernel_rfl) rfl (fun _ _ _ h => h) (by rfl) (v := ?_) ?_ (by assumption) ?_
        rotate_left
        · intro w hSw; (try dsimp only at hSw); go_simp; all_goals with_reducible rfl
        simp only [Act.put, List.setIfInBounds_toArray, List.set_cons_zero, List.set_cons_succ]
        obtain ⟨R7, R8⟩ := penq_halves RB
        obtain ⟨_, e7, z7, o7⟩ := R7.cells
        cases e7
        obtain ⟨_, e8, z8, o8⟩ := R8.cells
        cases e8
        refine wpAnyH_storeK B7 54 11 rfl rfl rfl rfl 0 #[c0, c1, c2, c3] _ #[c0, c1, c2, c3] (by as_aux_lemma => kernel_rfl) (fun w' i u hS => hS.setCell (p := ⟨B7, i, none⟩) hg7 u) rfl rfl b7 hHeld sizeQuot (Nat.le_of_eq rfl) o7 (whole_new rfl) (fun Wx hkx bx hHeld => ?_)
        have b8x := hkx.box b8 b8.lt (Ne.symm hne)
        refine wpAnyH_storeK B8 54 12 rfl rfl rfl rfl 0 #[c4, c5, c6, c7] _ #[c4, c5, c6, c7] (by as_aux_lemma => kernel_rfl) (fun w' i u hS => hS.setCell (p := ⟨B8, i, none⟩) hg8 u) rfl rfl b8x hHeld sizeQuot (Nat.le_of_eq rfl) o8 (whole_new rfl) (fun Wy hky by_ hHeld => ?_)
        have b7y := hky.box bx bx.lt hne
        have hxx := (hkx.ext b7 (by decide)).trans (hky.ext b8x (by decide))
        refine take_want 13 (some 9) rfl (by as_aux_lemma => kernel_rfl) (by as_aux_lemma => kernel_rfl) (by as_aux_lemma => kernel_rfl) rfl (fun _ _ _ h => h) (by rfl) (v := ?_) ?_ (by assumption) ?_
        rotate_left
        · intro w hSw; (try dsimp only at hSw); go_simp; all_goals with_reducible rfl
        simp only [Act.put, List.setIfInBounds_toArray, List.set_cons_zero, List.set_cons_succ]
        refine wpAnyH_done (by as_aux_lemma => kernel_rfl) ?_ _
        exact ⟨B7, B8, c0, c1, c2, c3, c4, c5, c6, c7, by first | rfl | simp only [Act.put, List.setIfInBounds_toArray, List.set_cons_zero, List.set_cons_succ], hHeld, b7y, by_, R7.ext hxx, R8.ext hxx⟩
  · rintro e a' V hmid
    cases e with
    | normal => ?_
    | _ => exact hmid.elim
    obtain ⟨B7, B8, c0, c1, c2, c3, c4, c5, c6, c7, rfl, hb19, b7, b8, R7, R8⟩ := hmid
    subst ha
    simp only [Act.put, List.setIfInBounds_toArray, List.set_cons_zero, List.set_cons_succ]
    have I19 := I18.below hb19
    have hw19 := belowCall hw18 hb19
    have Q19 := Q18.below hb19
    clear I18 hw18 Q18 hb19 rg Q1 hi8 P18
    go_wp2_with fail
    refine wp_region_held_drew (S := fun w' => Below V.heap.size V w') (by as_aux_lemma => kernel_rfl) ((Below.refl _ _).drew) (fun hHeld => ?_)
    refine take_want 0 (some 64) rfl (by as_aux_lemma => kernel_rfl) (by as_aux_lemma => kernel_rfl) (by as_aux_lemma => kernel_rfl) rfl (fun _ _ _ h => h) (by rfl) (v := (.agg ((chL true).ovals q2))) (exec_load 45 _ rfl (B1 + 1) 0 rfl ((chL true).ovals q2) (fun w hS => (I19.b2.below hS).range) _ Tryz.underlying45 rfl him) (by assumption) ?_
    simp only [Act.put, List.setIfInBounds_toArray, List.set_cons_zero, List.set_cons_succ]
    refine wpAnyH_ready (rs := [1]) (by kernel_rfl) (by simp) ?_
    refine AllReadyH.cons rfl (fun K hK => ?_) AllReadyH.nil
    go_simp
    (refine (lwof_ok (10) 1 (by decide) _ (by decide) (by decide) (by decide) (by decide)).mono ?_; rintro e W20 ⟨C20, rfl, R20, hb20⟩)
    refine hK.out _ _ ?_ (fun hHeld => ?_)
    · first | exact (belowCall hHeld hb20) | fail "keep"
    clear hK K
    try simp only [Act.put, List.setIfInBounds_toArray, List.set_cons_zero, List.set_cons_succ]
    refine wpAnyH_ready (rs := [2]) (by kernel_rfl) (by simp) ?_
    refine AllReadyH.cons rfl (fun K hK => ?_) AllReadyH.nil
    go_simp
    (refine (lwof_ok (0) 1 (by decide) _ (by decide) (by decide) (by decide) (by decide)).mono ?_; rintro e W21 ⟨C21, rfl, R21, hb21⟩)
    refine hK.out _ _ ?_ (fun hHeld => ?_)
    · first | exact (belowCall hHeld hb21) | fail "keep"
    clear hK K
    try simp only [Act.put, List.setIfInBounds_toArray, List.set_cons_zero, List.set_cons_succ]
    have R20' := R20.ext (.of_below hb21)
    have I21 := I19.below hHeld
    have ht := trace_ok (chL true) (chL_opt true) q2 (hcm q2) 0 (by decide) _ _ (ch_fits true) W21 I21.M m I21.pows C20 C21 R20' R21
    simp only [show (chL true).ns = 2 from rfl] at ht
    refine wpAnyH_ready (rs := [3]) (by kernel_rfl) (by simp) ?_
    refine AllReadyH.cons rfl (fun K hK => ?_) AllReadyH.nil
    go_simp
    (refine ht.mono ?_; rintro e W22 ⟨p22, c22, base22, rfl, hbs22, P22, hb22⟩)
    refine hK.out _ _ ?_ (fun hHeld => ?_)
    · first | exact (belowCall hHeld hb22) | fail "keep"
    clear hK K
    try simp only [Act.put, List.setIfInBounds_toArray, List.set_cons_zero, List.set_cons_succ]
    refine take_want 4 (some 63) rfl (by as_aux_lemma => kernel_rfl) (by as_aux_lemma => kernel_rfl) (by as_aux_lemma => kernel_rfl) rfl (fun _ _ _ h => h) (by rfl) (v := ?_) ?_ (by assumption) ?_
    rotate_left
    · intro w hSw; (try dsimp only at hSw); go_simp; all_goals with_reducible rfl
    simp only [Act.put, List.setIfInBounds_toArray, List.set_cons_zero, List.set_cons_succ]
    refine take_want 5 (some 68) rfl (by as_aux_lemma => kernel_rfl) (by as_aux_lemma => kernel_rfl) (by as_aux_lemma => kernel_rfl) rfl (fun _ _ _ h => h) (by rfl) (v := ?_) ?_ (by assumption) ?_
    rotate_left
    · intro w hSw; (try dsimp only at hSw); go_simp; all_goals with_reducible rfl
    simp only [Act.put, List.setIfInBounds_toArray, List.set_cons_zero, List.set_cons_succ]
    refine take_want 6 (some 69) rfl (by as_aux_lemma => kernel_rfl) (by as_aux_lemma => kernel_rfl) (by as_aux_lemma => kernel_rfl) rfl (fun _ _ _ h => h) (by rfl) (v := ?_) ?_ (by assumption) ?_
    rotate_left
    · intro w hSw; (try dsimp only at hSw); go_simp; all_goals with_reducible rfl
    simp only [Act.put, List.setIfInBounds_toArray, List.set_cons_zero, List.set_cons_succ]
    refine take_want 7 (some 10) rfl (by as_aux_lemma => kernel_rfl) (by as_aux_lemma => kernel_rfl) (by as_aux_lemma => kernel_rfl) rfl (fun _ _ _ h => h) (by rfl) (v := ?_) ?_ (by assumption) ?_
    rotate_left
    · intro w hSw; (try dsimp only at hSw); go_simp; all_goals with_reducible rfl
    simp only [Act.put, List.setIfInBounds_toArray, List.set_cons_zero, List.set_cons_succ]
    refine take_want 8 (some 11) rfl (by as_aux_lemma => kernel_rfl) (by as_aux_lemma => kernel_rfl) (by as_aux_lemma => kernel_rfl) rfl (fun _ _ _ h => h) (by rfl) (v := ?_) ?_ (by assumption) ?_
    rotate_left
    · intro w hSw; (try dsimp only at hSw); go_simp; all_goals with_reducible rfl
    simp only [Act.put, List.setIfInBounds_toArray, List.set_cons_zero, List.set_cons_succ]
    refine wpAnyH_done (by as_aux_lemma => kernel_rfl) ?_ _
    have I22 := I19.below hHeld
    have hw22 := belowCall hw19 hHeld
    have Q22 := Q19.below hHeld
    have b7 := b7.below hHeld
    have b8 := b8.below hHeld
    have R7 := R7.ext (.of_below hHeld)
    have R8 := R8.ext (.of_below hHeld)
    clear ht I21 R20 R20' R21 hb20 hb21 hb22 I19 hw19 hHeld Q19
    go_wp2_with (refine wpList_load_box rfl 45 _ rfl B1 rfl 45 ((chL false).ovals q) I22.b1 _ Tryz.underlying45 rfl hif ?_)
    refine (powX_at (chL false) q (hcf q) 0 2 W22 I22.O (.inr (by decide)) (by decide)).mono ?_
    rintro e W23 ⟨rfl, hb23⟩
    have I23 := I22.below hb23
    have hw23 := belowCall hw22 hb23
    have Q23 := Q22.below hb23
    have P23 := P22.below hb23
    have b73 := b7.below hb23
    have b83 := b8.below hb23
    have R73 := R7.ext (.of_below hb23)
    have R83 := R8.ext (.of_below hb23)
    clear I22 hw22 Q22 P22 b7 b8 R7 R8 hb23
    have hz0 : (Tryz.prog.info? 54).map (·.size) = some quot0.size := sizeQuot
    have h10 : quot0.all (·.oneCell') = true := by simp [quot0, Value.oneCell']
    go_wp2_with first | (refine wpList_new rfl 54 rfl _ alloc_quot ?_; intro W24 BN hle24 hb24 bn) | (refine wpList_store_box rfl 54 _ _ rfl BN 0 54 _ quot0 quot0 rfl rfl bn hz0 (Nat.le_of_eq rfl) h10 (whole_new rfl) ?_; intro W25 hk25 b25)
    have hB25 : Below W23.heap.size W23 W25 := hk25.below hb24 hle24 hb24.size
    have I25 := I23.below hB25
    have hw25 := belowCall hw23 hB25
    have Q25 := Q23.below hB25
    have P25 := P23.below hB25
    have b75 := b73.below hB25
    have b85 := b83.below hB25
    have R75 := R73.ext (.of_below hB25)
    have R85 := R83.ext (.of_below hB25)
    clear I23 hw23 Q23 P23 b73 b83 R73 R83 hB25 hk25 b25 bn hb24
    obtain ⟨Cq, hRq, hQq⟩ := Q25.rd (by decide) (by decide)
    obtain ⟨hcq1, hnq1, hxq⟩ := hRq
    obtain ⟨bq, offq, rfl, hblq, hcellq⟩ := hxq (by decide)
    have zq0 := (hQq 0 (by decide)).1
    have zq1 := (hQq 1 (by decide)).1
    have Qq0 := (hQq 0 (by decide)).2
    have Qq1 := (hQq 1 (by decide)).2
    have rgq0 := fun W' (hW : Below W25.heap.size W25 W') => row_range hblq hcellq hW 0 (by decide) zq0
    have rgq1 := fun W' (hW : Below W25.heap.size W25 W') => row_range hblq hcellq hW 1 (by decide) zq1
    simp only [Nat.one_mul, Nat.zero_mul, Nat.add_zero] at rgq0 rgq1
    have iq0 : (Tryz.prog.info? 54).map (·.size) = some (Cq 0).size := by rw [zq0]; exact sizeQuot
    have iq1 : (Tryz.prog.info? 54).map (·.size) = some (Cq 1).size := by rw [zq1]; exact sizeQuot
    try dsimp only at Qq0 Qq1
    clear hxq hcellq hQq hnq1 zq0 zq1 Q25
    generalize Cq 0 = Cq0 at *
    generalize Cq 1 = Cq1 at *
    have e0 := Lib.hid ch_slope0
    have e1 := Lib.hid ch_slope1
    have i7 : (Tryz.prog.info? 54).map (·.size) = some (#[c0, c1, c2, c3] : Array Value).size := sizeQuot
    refine wp_region_held_drew (S := fun w' => Below W25.heap.size W25 w') (by as_aux_lemma => kernel_rfl) ((Below.refl _ _).drew) (fun hHeld => ?_)
    refine take_want 0 (some 75) rfl (by as_aux_lemma => kernel_rfl) (by as_aux_lemma => kernel_rfl) (by as_aux_lemma => kernel_rfl) rfl (fun _ _ _ h => h) (by rfl) (v := ?_) ?_ (by assumption) ?_
    rotate_left
    · intro w hSw; (try dsimp only at hSw); go_simp; all_goals with_reducible rfl
    simp only [Act.put, List.setIfInBounds_toArray, List.set_cons_zero, List.set_cons_succ]
    refine take_want 1 (some 76) rfl (by as_aux_lemma => kernel_rfl) (by as_aux_lemma => kernel_rfl) (by as_aux_lemma => kernel_rfl) rfl (fun _ _ _ h => h) (by rfl) (v := ?_) ?_ (by assumption) ?_
    rotate_left
    · intro w hSw; (try dsimp only at hSw); go_simp; all_goals with_reducible rfl
    simp only [Act.put, List.setIfInBounds_toArray, List.set_cons_zero, List.set_cons_succ]
    refine take_want 2 (some 77) rfl (by as_aux_lemma => kernel_rfl) (by as_aux_lemma => kernel_rfl) (by as_aux_lemma => kernel_rfl) rfl (fun _ _ _ h => h) (by rfl) (v := ?_) ?_ (by assumption) ?_
    rotate_left
    · intro w hSw; (try dsimp only at hSw); go_simp; all_goals with_reducible rfl
    simp only [Act.put, List.setIfInBounds_toArray, List.set_cons_zero, List.set_cons_succ]
    refine take_want 3 (some 78) rfl (by as_aux_lemma => kernel_rfl) (by as_aux_lemma => kernel_rfl) (by as_aux_lemma => kernel_rfl) rfl (fun _ _ _ h => h) (by rfl) (v := ?_) ?_ (by assumption) ?_
    rotate_left
    · intro w hSw; (try dsimp only at hSw); go_simp; all_goals with_reducible rfl
    simp only [Act.put, List.setIfInBounds_toArray, List.set_cons_zero, List.set_cons_succ]
    refine take_want 4 (some 79) rfl (by as_aux_lemma => kernel_rfl) (by as_aux_lemma => kernel_rfl) (by as_aux_lemma => kernel_rfl) rfl (fun _ _ _ h => h) (by rfl) (v := ?_) ?_ (by assumption) ?_
    rotate_left
    · intro w hSw; (try dsimp only at hSw); go_simp; all_goals with_reducible rfl
    simp only [Act.put, List.setIfInBounds_toArray, List.set_cons_zero, List.set_cons_succ]
    refine take_want 5 (some 80) rfl (by as_aux_lemma => kernel_rfl) (by as_aux_lemma => kernel_rfl) (by as_aux_lemma => kernel_rfl) rfl (fun _ _ _ h => h) (by rfl) (v := ?_) ?_ (by assumption) ?_
    rotate_left
    · intro w hSw; (try dsimp only at hSw); go_simp; all_goals with_reducible rfl
    simp only [Act.put, List.setIfInBounds_toArray, List.set_cons_zero, List.set_cons_succ]
    refine take_want 6 (some 81) rfl (by as_aux_lemma => kernel_rfl) (by as_aux_lemma => kernel_rfl) (by as_aux_lemma => kernel_rfl) rfl (fun _ _ _ h => h) (by rfl) (v := ?_) ?_ (by assumption) ?_
    rotate_left
    · intro w hSw; (try dsimp only at hSw); go_simp; all_goals with_reducible rfl
    simp only [Act.put, List.setIfInBounds_toArray, List.set_cons_zero, List.set_cons_succ]
    refine take_want 7 (some 82) rfl (by as_aux_lemma => kernel_rfl) (by as_aux_lemma => kernel_rfl) (by as_aux_lemma => kernel_rfl) rfl (fun _ _ _ h => h) (by rfl) (v := ?_) ?_ (by assumption) ?_
    rotate_left
    · intro w hSw; (try dsimp only at hSw); go_simp; all_goals with_reducible rfl
    simp only [Act.put, List.setIfInBounds_toArray, List.set_cons_zero, List.set_cons_succ]
    refine take_want 8 (some 83) rfl (by as_aux_lemma => kernel_rfl) (by as_aux_lemma => kernel_rfl) (by as_aux_lemma => kernel_rfl) rfl (fun _ _ _ h => h) (by rfl) (v := ?_) ?_ (by assumption) ?_
    rotate_left
    · intro w hSw; (try dsimp only at hSw); go_simp; all_goals with_reducible rfl
    simp only [Act.put, List.setIfInBounds_toArray, List.set_cons_zero, List.set_cons_succ]
    refine take_want 9 (some 84) rfl (by as_aux_lemma => kernel_rfl) (by as_aux_lemma => kernel_rfl) (by as_aux_lemma => kernel_rfl) rfl (fun _ _ _ h => h) (by rfl) (v := ?_) ?_ (by assumption) ?_
    rotate_left
    · intro w hSw; (try dsimp only at hSw); go_simp; all_goals with_reducible rfl
    simp only [Act.put, List.setIfInBounds_toArray, List.set_cons_zero, List.set_cons_succ]
    refine take_want 10 (some 85) rfl (by as_aux_lemma => kernel_rfl) (by as_aux_lemma => kernel_rfl) (by as_aux_lemma => kernel_rfl) rfl (fun _ _ _ h => h) (by rfl) (v := (.agg Cq0)) (exec_load 54 _ rfl bq (offq) rfl Cq0 (fun w hS => rgq0 w hS) _ Tryz.underlying54 rfl iq0) (by assumption) ?_
    simp only [Act.put, List.setIfInBounds_toArray, List.set_cons_zero, List.set_cons_succ]
    refine wpAnyH_ready (rs := [11]) (by kernel_rfl) (by simp) ?_
    refine AllReadyH.cons rfl (fun K hK => ?_) AllReadyH.nil
    go_simp
    (refine (lwof_ok (-1) 15 (by decide) _ (by decide) (by decide) (by decide) (by decide)).mono ?_; rintro e W30 ⟨C30, rfl, R30, hb30⟩)
    refine hK.out _ _ ?_ (fun hHeld => ?_)
    · first | exact (belowCall hHeld hb30) | fail "keep"
    clear hK K
    try simp only [Act.put, List.setIfInBounds_toArray, List.set_cons_zero, List.set_cons_succ]
    have hq := qsame_true _ _ _ _ (e0.out) _ (Qq0.ext (.of_below hHeld)) R30
    refine wpAnyH_ready (rs := [12]) (by kernel_rfl) (by simp) ?_
    refine AllReadyH.cons rfl (fun K hK => ?_) AllReadyH.nil
    go_simp
    (refine hq.mono ?_; rintro e W31 ⟨rfl, hb31⟩)
    refine hK.out _ _ ?_ (fun hHeld => ?_)
    · first | exact (belowCall hHeld hb31) | fail "keep"
    clear hK K
    try simp only [Act.put, List.setIfInBounds_toArray, List.set_cons_zero, List.set_cons_succ]
    clear hq R30 hb30 hb31
    refine take_want 13 (some 88) rfl (by as_aux_lemma => kernel_rfl) (by as_aux_lemma => kernel_rfl) (by as_aux_lemma => kernel_rfl) rfl (fun _ _ _ h => h) (by rfl) (v := ?_) ?_ (by assumption) ?_
    rotate_left
    · intro w hSw; (try dsimp only at hSw); go_simp; all_goals with_reducible rfl
    simp only [Act.put, List.setIfInBounds_toArray, List.set_cons_zero, List.set_cons_succ]
    refine take_want 14 (some 89) rfl (by as_aux_lemma => kernel_rfl) (by as_aux_lemma => kernel_rfl) (by as_aux_lemma => kernel_rfl) rfl (fun _ _ _ h => h) (by rfl) (v := ?_) ?_ (by assumption) ?_
    rotate_left
    · intro w hSw; (try dsimp only at hSw); go_simp; all_goals with_reducible rfl
    simp only [Act.put, List.setIfInBounds_toArray, List.set_cons_zero, List.set_cons_succ]
    refine take_want 15 (some 90) rfl (by as_aux_lemma => kernel_rfl) (by as_aux_lemma => kernel_rfl) (by as_aux_lemma => kernel_rfl) rfl (fun _ _ _ h => h) (by rfl) (v := ?_) ?_ (by assumption) ?_
    rotate_left
    · intro w hSw; (try dsimp only at hSw); go_simp; all_goals with_reducible rfl
    simp only [Act.put, List.setIfInBounds_toArray, List.set_cons_zero, List.set_cons_succ]
    refine take_want 16 (some 91) rfl (by as_aux_lemma => kernel_rfl) (by as_aux_lemma => kernel_rfl) (by as_aux_lemma => kernel_rfl) rfl (fun _ _ _ h => h) (by rfl) (v := ?_) ?_ (by assumption) ?_
    rotate_left
    · intro w hSw; (try dsimp only at hSw); go_simp; all_goals with_reducible rfl
    simp only [Act.put, List.setIfInBounds_toArray, List.set_cons_zero, List.set_cons_succ]
    refine take_want 17 (some 92) rfl (by as_aux_lemma => kernel_rfl) (by as_aux_lemma => kernel_rfl) (by as_aux_lemma => kernel_rfl) rfl (fun _ _ _ h => h) (by rfl) (v := (.agg Cq1)) (exec_load 54 _ rfl bq (offq + 4) rfl Cq1 (fun w hS => rgq1 w hS) _ Tryz.underlying54 rfl iq1) (by assumption) ?_
    simp only [Act.put, List.setIfInBounds_toArray, List.set_cons_zero, List.set_cons_succ]
    refine wpAnyH_ready (rs := [18]) (by kernel_rfl) (by simp) ?_
    refine AllReadyH.cons rfl (fun K hK => ?_) AllReadyH.nil
    go_simp
    (refine (lwof_ok (-1) 15 (by decide) _ (by decide) (by decide) (by decide) (by decide)).mono ?_; rintro e W32 ⟨C32, rfl, R32, hb32⟩)
    refine hK.out _ _ ?_ (fun hHeld => ?_)
    · first | exact (belowCall hHeld hb32) | fail "keep"
    clear hK K
    try simp only [Act.put, List.setIfInBounds_toArray, List.set_cons_zero, List.set_cons_succ]
    have hq := qsame_true _ _ _ _ (e1.out) _ (Qq1.ext (.of_below hHeld)) R32
    refine wpAnyH_ready (rs := [19]) (by kernel_rfl) (by simp) ?_
    refine AllReadyH.cons rfl (fun K hK => ?_) AllReadyH.nil
    go_simp
    (refine hq.mono ?_; rintro e W33 ⟨rfl, hb33⟩)
    refine hK.out _ _ ?_ (fun hHeld => ?_)
    · first | exact (belowCall hHeld hb33) | fail "keep"
    clear hK K
    try simp only [Act.put, List.setIfInBounds_toArray, List.set_cons_zero, List.set_cons_succ]
    clear hq R32 hb32 hb33
    refine take_want 20 (some 95) rfl (by as_aux_lemma => kernel_rfl) (by as_aux_lemma => kernel_rfl) (by as_aux_lemma => kernel_rfl) rfl (fun _ _ _ h => h) (by rfl) (v := ?_) ?_ (by assumption) ?_
    rotate_left
    · intro w hSw; (try dsimp only at hSw); go_simp; all_goals with_reducible rfl
    simp only [Act.put, List.setIfInBounds_toArray, List.set_cons_zero, List.set_cons_succ]
    refine take_want 21 (some 96) rfl (by as_aux_lemma => kernel_rfl) (by as_aux_lemma => kernel_rfl) (by as_aux_lemma => kernel_rfl) rfl (fun _ _ _ h => h) (by rfl) (v := ?_) ?_ (by assumption) ?_
    rotate_left
    · intro w hSw; (try dsimp only at hSw); go_simp; all_goals with_reducible rfl
    simp only [Act.put, List.setIfInBounds_toArray, List.set_cons_zero, List.set_cons_succ]
    refine take_want 22 (some 97) rfl (by as_aux_lemma => kernel_rfl) (by as_aux_lemma => kernel_rfl) (by as_aux_lemma => kernel_rfl) rfl (fun _ _ _ h => h) (by rfl) (v := ?_) ?_ (by assumption) ?_
    rotate_left
    · intro w hSw; (try dsimp only at hSw); go_simp; all_goals with_reducible rfl
    simp only [Act.put, List.setIfInBounds_toArray, List.set_cons_zero, List.set_cons_succ]
    refine take_want 23 (some 98) rfl (by as_aux_lemma => kernel_rfl) (by as_aux_lemma => kernel_rfl) (by as_aux_lemma => kernel_rfl) rfl (fun _ _ _ h => h) (by rfl) (v := ?_) ?_ (by assumption) ?_
    rotate_left
    · intro w hSw; (try dsimp only at hSw); go_simp; all_goals with_reducible rfl
    simp only [Act.put, List.setIfInBounds_toArray, List.set_cons_zero, List.set_cons_succ]
    refine take_want 24 (some 99) rfl (by as_aux_lemma => kernel_rfl) (by as_aux_lemma => kernel_rfl) (by as_aux_lemma => kernel_rfl) rfl (fun _ _ _ h => h) (by rfl) (v := ?_) ?_ (by assumption) ?_
    rotate_left
    · intro w hSw; (try dsimp only at hSw); go_simp; all_goals with_reducible rfl
    simp only [Act.put, List.setIfInBounds_toArray, List.set_cons_zero, List.set_cons_succ]
    refine take_want 25 (some 100) rfl (by as_aux_lemma => kernel_rfl) (by as_aux_lemma => kernel_rfl) (by as_aux_lemma => kernel_rfl) rfl (fun _ _ _ h => h) (by rfl) (v := ?_) ?_ (by assumption) ?_
    rotate_left
    · intro w hSw; (try dsimp only at hSw); go_simp; all_goals with_reducible rfl
    simp only [Act.put, List.setIfInBounds_toArray, List.set_cons_zero, List.set_cons_succ]
    refine take_want 26 (some 101) rfl (by as_aux_lemma => kernel_rfl) (by as_aux_lemma => kernel_rfl) (by as_aux_lemma => kernel_rfl) rfl (fun _ _ _ h => h) (by rfl) (v := (.agg #[c0, c1, c2, c3])) (exec_load 54 _ rfl B7 0 rfl #[c0, c1, c2, c3] (fun w hS => (b75.below hS).range) _ Tryz.underlying54 rfl i7) (by assumption) ?_
    simp only [Act.put, List.setIfInBounds_toArray, List.set_cons_zero, List.set_cons_succ]
    refine wpAnyH_ready (rs := [27]) (by kernel_rfl) (by simp) ?_
    refine AllReadyH.cons rfl (fun K hK => ?_) AllReadyH.nil
    go_simp
    (refine (lwof_ok (10) 1 (by decide) _ (by decide) (by decide) (by decide) (by decide)).mono ?_; rintro e W34 ⟨C34, rfl, R34, hb34⟩)
    refine hK.out _ _ ?_ (fun hHeld => ?_)
    · first | exact (belowCall hHeld hb34) | fail "keep"
    clear hK K
    try simp only [Act.put, List.setIfInBounds_toArray, List.set_cons_zero, List.set_cons_succ]
    have hq := qsame_true _ _ _ _ (rfl) _ (R75.ext (.of_below hHeld)) R34
    refine wpAnyH_ready (rs := [28]) (by kernel_rfl) (by simp) ?_
    refine AllReadyH.cons rfl (fun K hK => ?_) AllReadyH.nil
    go_simp
    (refine hq.mono ?_; rintro e W35 ⟨rfl, hb35⟩)
    refine hK.out _ _ ?_ (fun hHeld => ?_)
    · first | exact (belowCall hHeld hb35) | fail "keep"
    clear hK K
    try simp only [Act.put, List.setIfInBounds_toArray, List.set_cons_zero, List.set_cons_succ]
    clear hq R34 hb34 hb35
    refine take_want 29 (some 104) rfl (by as_aux_lemma => kernel_rfl) (by as_aux_lemma => kernel_rfl) (by as_aux_lemma => kernel_rfl) rfl (fun _ _ _ h => h) (by rfl) (v := ?_) ?_ (by assumption) ?_
    rotate_left
    · intro w hSw; (try dsimp only at hSw); go_simp; all_goals with_reducible rfl
    simp only [Act.put, List.setIfInBounds_toArray, List.set_cons_zero, List.set_cons_succ]
    refine take_want 30 (some 105) rfl (by as_aux_lemma => kernel_rfl) (by as_aux_lemma => kernel_rfl) (by as_aux_lemma => kernel_rfl) rfl (fun _ _ _ h => h) (by rfl) (v := ?_) ?_ (by assumption) ?_
    rotate_left
    · intro w hSw; (try dsimp only at hSw); go_simp; all_goals with_reducible rfl
    simp only [Act.put, List.setIfInBounds_toArray, List.set_cons_zero, List.set_cons_succ]
    refine take_want 31 (some 106) rfl (by as_aux_lemma => kernel_rfl) (by as_aux_lemma => kernel_rfl) (by as_aux_lemma => kernel_rfl) rfl (fun _ _ _ h => h) (by rfl) (v := (.agg #[c4, c5, c6, c7])) (exec_load 54 _ rfl B8 0 rfl #[c4, c5, c6, c7] (fun w hS => (b85.below hS).range) _ Tryz.underlying54 rfl i7) (by assumption) ?_
    simp only [Act.put, List.setIfInBounds_toArray, List.set_cons_zero, List.set_cons_succ]
    refine wpAnyH_ready (rs := [32]) (by kernel_rfl) (by simp) ?_
    refine AllReadyH.cons rfl (fun K hK => ?_) AllReadyH.nil
    go_simp
    (refine (lwof_ok (0) 1 (by decide) _ (by decide) (by decide) (by decide) (by decide)).mono ?_; rintro e W36 ⟨C36, rfl, R36, hb36⟩)
    refine hK.out _ _ ?_ (fun hHeld => ?_)
    · first | exact (belowCall hHeld hb36) | fail "keep"
    clear hK K
    try simp only [Act.put, List.setIfInBounds_toArray, List.set_cons_zero, List.set_cons_succ]
    have hq := qsame_true _ _ _ _ (rfl) _ (R85.ext (.of_below hHeld)) R36
    refine wpAnyH_ready (rs := [33]) (by kernel_rfl) (by simp) ?_
    refine AllReadyH.cons rfl (fun K hK => ?_) AllReadyH.nil
    go_simp
    (refine hq.mono ?_; rintro e W37 ⟨rfl, hb37⟩)
    refine hK.out _ _ ?_ (fun hHeld => ?_)
    · first | exact (belowCall hHeld hb37) | fail "keep"
    clear hK K
    try simp only [Act.put, List.setIfInBounds_toArray, List.set_cons_zero, List.set_cons_succ]
    clear hq R36 hb36 hb37
    refine take_want 34 (some 109) rfl (by as_aux_lemma => kernel_rfl) (by as_aux_lemma => kernel_rfl) (by as_aux_lemma => kernel_rfl) rfl (fun _ _ _ h => h) (by rfl) (v := ?_) ?_ (by assumption) ?_
    rotate_left
    · intro w hSw; (try dsimp only at hSw); go_simp; all_goals with_reducible rfl
    simp only [Act.put, List.setIfInBounds_toArray, List.set_cons_zero, List.set_cons_succ]
    refine take_want 35 (some 110) rfl (by as_aux_lemma => kernel_rfl) (by as_aux_lemma => kernel_rfl) (by as_aux_lemma => kernel_rfl) rfl (fun _ _ _ h => h) (by rfl) (v := ?_) ?_ (by assumption) ?_
    rotate_left
    · intro w hSw; (try dsimp only at hSw); go_simp; all_goals with_reducible rfl
    simp only [Act.put, List.setIfInBounds_toArray, List.set_cons_zero, List.set_cons_succ]
    refine take_want 37 (some 112) rfl (by as_aux_lemma => kernel_rfl) (by as_aux_lemma => kernel_rfl) (by as_aux_lemma => kernel_rfl) rfl (fun _ _ _ h => h) (by rfl) (v := (.agg ((chL true).ovals q2))) (exec_load 45 _ rfl (B1 + 1) 0 rfl ((chL true).ovals q2) (fun w hS => (I25.b2.below hS).range) _ Tryz.underlying45 rfl him) (by assumption) ?_
    simp only [Act.put, List.setIfInBounds_toArray, List.set_cons_zero, List.set_cons_succ]
    refine wpAnyH_ready (rs := [36]) (by kernel_rfl) (by simp) ?_
    refine AllReadyH.cons rfl (fun K hK => ?_) AllReadyH.nil
    go_simp
    (refine (lis_ok (-1) 25 _).mono ?_; rintro e W38 ⟨A38, D38, rfl, ba38, bd38, hb38⟩)
    refine hK.out _ _ ?_ (fun hHeld => ?_)
    · first | exact (belowCall hHeld hb38) | fail "keep"
    clear hK K
    try simp only [Act.put, List.setIfInBounds_toArray, List.set_cons_zero, List.set_cons_succ]
    have hq := powX (chL true) (chL_opt true) q2 (hcm q2) 0 0 W38 (I25.below hHeld).M (by decide) (by decide) (ch_pf true 0 (by decide)) m (I25.below hHeld).pows
    refine wpAnyH_ready (rs := [38]) (by kernel_rfl) (by simp) ?_
    refine AllReadyH.cons rfl (fun K hK => ?_) AllReadyH.nil
    go_simp
    (refine hq.mono ?_; rintro e W39 ⟨C39, rfl, R39, hb39⟩)
    refine hK.out _ _ ?_ (fun hHeld => ?_)
    · first | exact (belowCall hHeld hb39) | fail "keep"
    clear hK K
    try simp only [Act.put, List.setIfInBounds_toArray, List.set_cons_zero, List.set_cons_succ]
    refine take_want 39 (some 114) rfl (by as_aux_lemma => kernel_rfl) (by as_aux_lemma => kernel_rfl) (by as_aux_lemma => kernel_rfl) rfl (fun _ _ _ h => h) (by rfl) (v := ?_) ?_ (by assumption) ?_
    rotate_left
    · intro w hSw; (try dsimp only at hSw); go_simp; all_goals with_reducible rfl
    simp only [Act.put, List.setIfInBounds_toArray, List.set_cons_zero, List.set_cons_succ]
    refine take_want 40 (some 115) rfl (by as_aux_lemma => kernel_rfl) (by as_aux_lemma => kernel_rfl) (by as_aux_lemma => kernel_rfl) rfl (fun _ _ _ h => h) (by rfl) (v := ?_) ?_ (by assumption) ?_
    rotate_left
    · intro w hSw; (try dsimp only at hSw); go_simp; all_goals with_reducible rfl
    simp only [Act.put, List.setIfInBounds_toArray, List.set_cons_zero, List.set_cons_succ]
    have hq := lis1_true (-1) 25 (by decide) (by decide) (by decide) (by decide) (by decide) C39 _ cm_pow0 W39 R39 A38 D38 (ba38.below hb39) (bd38.below hb39)
    refine wpAnyH_ready (rs := [41]) (by kernel_rfl) (by simp) ?_
    refine AllReadyH.cons rfl (fun K hK => ?_) AllReadyH.nil
    go_simp
    (refine hq.mono ?_; rintro e W40 ⟨rfl, hb40⟩)
    refine hK.out _ _ ?_ (fun hHeld => ?_)
    · first | exact (belowCall hHeld hb40) | fail "keep"
    clear hK K
    try simp only [Act.put, List.setIfInBounds_toArray, List.set_cons_zero, List.set_cons_succ]
    clear hq hb38 hb39 hb40 ba38 bd38 R39
    refine take_want 42 (some 117) rfl (by as_aux_lemma => kernel_rfl) (by as_aux_lemma => kernel_rfl) (by as_aux_lemma => kernel_rfl) rfl (fun _ _ _ h => h) (by rfl) (v := ?_) ?_ (by assumption) ?_
    rotate_left
    · intro w hSw; (try dsimp only at hSw); go_simp; all_goals with_reducible rfl
    simp only [Act.put, List.setIfInBounds_toArray, List.set_cons_zero, List.set_cons_succ]
    refine take_want 43 (some 118) rfl (by as_aux_lemma => kernel_rfl) (by as_aux_lemma => kernel_rfl) (by as_aux_lemma => kernel_rfl) rfl (fun _ _ _ h => h) (by rfl) (v := ?_) ?_ (by assumption) ?_
    rotate_left
    · intro w hSw; (try dsimp only at hSw); go_simp; all_goals with_reducible rfl
    simp only [Act.put, List.setIfInBounds_toArray, List.set_cons_zero, List.set_cons_succ]
    refine take_want 44 (some 119) rfl (by as_aux_lemma => kernel_rfl) (by as_aux_lemma => kernel_rfl) (by as_aux_lemma => kernel_rfl) rfl (fun _ _ _ h => h) (by rfl) (v := ?_) ?_ (by assumption) ?_
    rotate_left
    · intro w hSw; (try dsimp only at hSw); go_simp; all_goals with_reducible rfl
    simp only [Act.put, List.setIfInBounds_toArray, List.set_cons_zero, List.set_cons_succ]
    refine take_want 45 (some 120) rfl (by as_aux_lemma => kernel_rfl) (by as_aux_lemma => kernel_rfl) (by as_aux_lemma => kernel_rfl) rfl (fun _ _ _ h => h) (by rfl) (v := ?_) ?_ (by assumption) ?_
    rotate_left
    · intro w hSw; (try dsimp only at hSw); go_simp; all_goals with_reducible rfl
    simp only [Act.put, List.setIfInBounds_toArray, List.set_cons_zero, List.set_cons_succ]
    refine take_want 46 (some 121) rfl (by as_aux_lemma => kernel_rfl) (by as_aux_lemma => kernel_rfl) (by as_aux_lemma => kernel_rfl) rfl (fun _ _ _ h => h) (by rfl) (v := ?_) ?_ (by assumption) ?_
    rotate_left
    · intro w hSw; (try dsimp only at hSw); go_simp; all_goals with_reducible rfl
    simp only [Act.put, List.setIfInBounds_toArray, List.set_cons_zero, List.set_cons_succ]
    refine take_want 47 (some 122) rfl (by as_aux_lemma => kernel_rfl) (by as_aux_lemma => kernel_rfl) (by as_aux_lemma => kernel_rfl) rfl (fun _ _ _ h => h) (by rfl) (v := ?_) ?_ (by assumption) ?_
    rotate_left
    · intro w hSw; (try dsimp only at hSw); go_simp; all_goals with_reducible rfl
    simp only [Act.put, List.setIfInBounds_toArray, List.set_cons_zero, List.set_cons_succ]
    have P47 := P25.below hHeld
    refine wpAnyH_ready (rs := [48]) (by as_aux_lemma => kernel_rfl) (by simp) ?_
    refine AllReadyH.cons rfl (fun K hK => ?_) AllReadyH.nil
    go_simp
    refine hK.out _ _ (belowAlloc hHeld _) (fun hHeld => ?_)
    clear hK K
    try simp only [Act.put, List.setIfInBounds_toArray, List.set_cons_zero, List.set_cons_succ]
    have bx : Box (W40.alloc (.cells #[.int .i64 10, .int .i64 1, .int .i64 2, .int .i64 5, .int .i64 22, .int .i64 1, .int .i64 2, .int .i64 5] 92)) W40.heap.size 92 #[.int .i64 10, .int .i64 1, .int .i64 2, .int .i64 5, .int .i64 22, .int .i64 1, .int .i64 2, .int .i64 5] := Box.new _ _ _
    have P48 := P47.below ((Below.refl W40.heap.size W40).alloc (Nat.le_refl _) (.cells #[.int .i64 10, .int .i64 1, .int .i64 2, .int .i64 5, .int .i64 22, .int .i64 1, .int .i64 2, .int .i64 5] 92))
    generalize W40.alloc (.cells #[.int .i64 10, .int .i64 1, .int .i64 2, .int .i64 5, .int .i64 22, .int .i64 1, .int .i64 2, .int .i64 5] 92) = W41 at *
    have hq := pencils2 base22 p22 c22 _ [10, 1, 2, 5, 22, 1, 2, 5] rfl (by decide) (by decide) W41 P48 bx rfl cm_tr0 cm_tr1
    refine wpAnyH_ready (rs := [49]) (by kernel_rfl) (by simp) ?_
    refine AllReadyH.cons rfl (fun K hK => ?_) AllReadyH.nil
    go_simp
    (refine hq.mono ?_; rintro e W42 ⟨rfl, hb42⟩)
    refine hK.out _ _ ?_ (fun hHeld => ?_)
    · first | exact (belowCall hHeld hb42) | fail "keep"
    clear hK K
    try simp only [Act.put, List.setIfInBounds_toArray, List.set_cons_zero, List.set_cons_succ]
    refine take_want 50 (some 125) rfl (by as_aux_lemma => kernel_rfl) (by as_aux_lemma => kernel_rfl) (by as_aux_lemma => kernel_rfl) rfl (fun _ _ _ h => h) (by rfl) (v := ?_) ?_ (by assumption) ?_
    rotate_left
    · intro w hSw; (try dsimp only at hSw); go_simp; all_goals with_reducible rfl
    simp only [Act.put, List.setIfInBounds_toArray, List.set_cons_zero, List.set_cons_succ]
    refine take_want 51 (some 126) rfl (by as_aux_lemma => kernel_rfl) (by as_aux_lemma => kernel_rfl) (by as_aux_lemma => kernel_rfl) rfl (fun _ _ _ h => h) (by rfl) (v := ?_) ?_ (by assumption) ?_
    rotate_left
    · intro w hSw; (try dsimp only at hSw); go_simp; all_goals with_reducible rfl
    simp only [Act.put, List.setIfInBounds_toArray, List.set_cons_zero, List.set_cons_succ]
    refine take_want 52 (some 127) rfl (by as_aux_lemma => kernel_rfl) (by as_aux_lemma => kernel_rfl) (by as_aux_lemma => kernel_rfl) rfl (fun _ _ _ h => h) (by rfl) (v := ?_) ?_ (by assumption) ?_
    rotate_left
    · intro w hSw; (try dsimp only at hSw); go_simp; all_goals with_reducible rfl
    simp only [Act.put, List.setIfInBounds_toArray, List.set_cons_zero, List.set_cons_succ]
    refine take_want 53 (some 128) rfl (by as_aux_lemma => kernel_rfl) (by as_aux_lemma => kernel_rfl) (by as_aux_lemma => kernel_rfl) rfl (fun _ _ _ h => h) (by rfl) (v := ?_) ?_ (by assumption) ?_
    rotate_left
    · intro w hSw; (try dsimp only at hSw); go_simp; all_goals with_reducible rfl
    simp only [Act.put, List.setIfInBounds_toArray, List.set_cons_zero, List.set_cons_succ]
    refine take_want 54 (some 129) rfl (by as_aux_lemma => kernel_rfl) (by as_aux_lemma => kernel_rfl) (by as_aux_lemma => kernel_rfl) rfl (fun _ _ _ h => h) (by rfl) (v := ?_) ?_ (by assumption) ?_
    rotate_left
    · intro w hSw; (try dsimp only at hSw); go_simp; all_goals with_reducible rfl
    simp only [Act.put, List.setIfInBounds_toArray, List.set_cons_zero, List.set_cons_succ]
    refine take_want 55 (some 0) rfl (by as_aux_lemma => kernel_rfl) (by as_aux_lemma => kernel_rfl) (by as_aux_lemma => kernel_rfl) rfl (fun _ _ _ h => h) (by rfl) (v := ?_) ?_ (by assumption) ?_
    rotate_left
    · intro w hSw; (try dsimp only at hSw); go_simp; all_goals with_reducible rfl
    simp only [Act.put, List.setIfInBounds_toArray, List.set_cons_zero, List.set_cons_succ]
    refine wpAnyH_done (by as_aux_lemma => kernel_rfl) ?_ _
    go_wp2
    go_ret
    exact ⟨rfl, belowCall hw25 hHeld⟩
end Go.Proofs.YtepodcocemmejaaGreatDoor
