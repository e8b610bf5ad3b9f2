/- The last step of the proof that the law ParaxialKnown returns true, whatever stands in memory, if the two listed variables hold what the text lays: contracts of the functions that it reaches. No condition beside the row. -/
import Derived.Test.YtepodcocemmejaaGreatDoorA52
set_option linter.unusedVariables false
set_option linter.unusedSimpArgs false
namespace Go.Proofs.YtepodcocemmejaaGreatDoor
open Go.RowKit Go.Mono
set_option maxRecDepth 100000 in
set_option maxHeartbeats 4000000 in
theorem known_of (hwk : Hid (∀ (w : World) (m : Nat), PowsAt w m → Calls Tryz.prog 12 #[] w fun e w' => e = .returned (.bool true) ∧ Below w.heap.size w w')) (w : World) (m : Nat) (hp : PowsAt w m) : Calls Tryz.prog 11 #[] w fun e w' => e = .returned (.bool true) ∧ Below w.heap.size w w' := by
  have hio : (Tryz.prog.info? 45).map (·.size) = some 10 := by kernel_rfl
  have hcf := fun q => chk1 (chL false) (chL_opt false) rfl q
  have hz0 : (Tryz.prog.info? 54).map (·.size) = some quot0.size := sizeQuot
  have h10 : quot0.all (·.oneCell') = true := by simp [quot0, Value.oneCell']
  go_enter Tryz.func11, Tryz.ntmps11
  go_wp2_with fail
  refine (hwk.out w m hp).mono ?_
  clear hwk
  rintro e W1 ⟨rfl, hb1⟩
  go_wp2_with fail
  refine (chapter_f W1).mono ?_
  rintro e W2 ⟨q, rfl, O2, hb2⟩
  have hB2 := belowCall hb1 hb2
  have hp2 := hp.below hB2
  clear hb1 hb2 hp
  have f1 : ((chL false).ovals q).all (·.oneCell') = true := by simp [Lns.ovals, Value.oneCell']
  have hif : (Tryz.prog.info? 45).map (·.size) = some ((chL false).ovals q).size := hio
  have hib : (Tryz.prog.info? 45).map (·.size) = some (badV q).size := hio
  go_wp2_with first | (refine boxes1l fun W3 hb3 hs3 b1 => ?_; refine wpList_store_box rfl 45 (.tmp 1) _ rfl W2.heap.size 0 45 _ ((chL false).ovals q) ((chL false).ovals q) rfl rfl b1 hif (Nat.le_of_ble_eq_true rfl) f1 (whole_new rfl) ?_; intro W4 hk4 b14; have hb4 : Below W2.heap.size W2 W4 := hk4.below hb3 (Nat.le_refl _) hb3.size) | (refine wpList_load_box rfl 45 (.tmp 1) rfl W2.heap.size rfl 45 ((chL false).ovals q) b14 _ Tryz.underlying45 rfl hif ?_) | (refine boxes1l fun W5 hb5 hs5 b2 => ?_; refine wpList_store_box rfl 45 (.tmp 2) _ rfl W4.heap.size 0 45 _ ((chL false).ovals q) ((chL false).ovals q) rfl rfl b2 hif (Nat.le_of_ble_eq_true rfl) f1 (whole_new rfl) ?_; intro W6 hk6 b26; have b15 := b14.below hb5; have hb6 : Below W4.heap.size W4 W6 := hk6.below hb5 (Nat.le_refl _) hb5.size; have l14 := b14.lt; have b16 := hk6.box b15 b15.lt (by omega); have c9 : W6.cell? ⟨W4.heap.size, 9, none⟩ = some (.slice q.pi 2 q.ci) := b26.cell 9; have f9 := b26.frozen; have l9 := b26.lt) | (refine boxes1l fun W7 hb7 hs7 bn => ?_; have bn7 : Box W7 W6.heap.size 54 quot0 := (by simpa [quot0] using bn); refine wpList_store_box rfl 54 (.tmp 3) _ rfl W6.heap.size 0 54 _ quot0 quot0 rfl rfl bn7 hz0 (Nat.le_of_eq rfl) h10 (whole_new rfl) ?_; intro W8 hk8 bn8; have hX : Below W4.heap.size W4 W7 := (hb6.setCell (p := ⟨W4.heap.size, 9, none⟩) (Nat.le_refl _) (.slice none 0 0)).trans (hb7.mono (by have := hb6.size; simpa using this)); have bad7 : Box W7 W4.heap.size 45 (badV q) := (b26.set 9 (.slice none 0 0)).below hb7; have b17 := (b16.other ⟨W4.heap.size, 9, none⟩ (.slice none 0 0) (by simp; omega)).below hb7; have q6 := hb6.size; have h48 : Below W4.heap.size W4 W8 := hk8.below hX q6 hX.size; have l16 := b16.lt; have I8 : KnInv m q W2.heap.size W4.heap.size W6.heap.size W8 := ⟨O2.below (belowCall hb4 h48), hp2.below (belowCall hb4 h48), hk8.box b17 b17.lt (by omega), hk8.box bad7 bad7.lt (by omega), bn8⟩; have hw8 := belowCall hB2 (belowCall hb4 h48)) | (refine wpList_load_box rfl 45 (.tmp 2) rfl W4.heap.size rfl 45 (badV q) I8.b2 _ Tryz.underlying45 rfl hib ?_) | (refine wpList_load_box rfl 54 (.tmp 3) rfl W6.heap.size rfl 54 quot0 I8.bn _ Tryz.underlying54 rfl hz0 ?_)
  have I8' := I8
  clear hb3 hs3 b1 hk4 b14 hb4 hb5 hs5 b2 hk6 b26 b15 hb6 l14 b16 c9 f9 l9 hb7 hs7 bn bn7 hk8 bn8 hX bad7 b17 q6 h48 l16 I8 O2 hp2 hB2
  have I8 := I8'
  clear I8'
  generalize W2.heap.size = B1 at *
  generalize W4.heap.size = B2 at *
  generalize W6.heap.size = BN at *
  clear W7 W6 W5 W4 W3 W2
  refine (traceBad q 9 quot0 quot0 W8 I8.O.toLnsAt).mono ?_
  rintro e W9 ⟨rfl, hb9⟩
  have I9 := I8.below hb9
  have hw9 := belowCall hw8 hb9
  clear hb9 I8 hw8
  go_wp2_with first | (refine wpList_load_box rfl 45 (.tmp 1) rfl B1 rfl 45 ((chL false).ovals q) I9.b1 _ Tryz.underlying45 rfl hif ?_) | (refine wpList_load_box rfl 54 (.tmp 3) rfl BN rfl 54 quot0 I9.bn _ Tryz.underlying54 rfl hz0 ?_)
  refine (traceW (chL false) q (hcf q) 1 (.inr (by decide)) quot0 quot0 W9 I9.O).mono ?_
  rintro e W10 ⟨rfl, hb10⟩
  have I10 := I9.below hb10
  have hw10 := belowCall hw9 hb10
  clear hb10 I9 hw9
  go_wp2_with first | (refine wpList_load_box rfl 45 (.tmp 1) rfl B1 rfl 45 ((chL false).ovals q) I10.b1 _ Tryz.underlying45 rfl hif ?_) | (refine wpList_load_box rfl 54 (.tmp 3) rfl BN rfl 54 quot0 I10.bn _ Tryz.underlying54 rfl hz0 ?_)
  refine (traceW (chL false) q (hcf q) (-1) (.inl (by decide)) quot0 quot0 W10 I10.O).mono ?_
  rintro e W11 ⟨rfl, hb11⟩
  have I11 := I10.below hb11
  have hw11 := belowCall hw10 hb11
  clear hb11 I10 hw10
  go_wp2_with fail
  refine wp_region_held_drew (S := fun w' => Below W11.heap.size W11 w') (by as_aux_lemma => kernel_rfl) ((Below.refl _ _).drew) (fun hHeld => ?_)
  refine take_want 0 (some 55) rfl (by as_aux_lemma => kernel_rfl) (by as_aux_lemma => kernel_rfl) (by as_aux_lemma => kernel_rfl) rfl (fun _ _ _ h => h) (by rfl) (v := (.agg ((chL false).ovals q))) (exec_load 45 _ rfl B1 0 rfl ((chL false).ovals q) (fun w hS => (I11.b1.below hS).range) _ Tryz.underlying45 rfl hif) (by assumption) ?_
  simp only [Act.put, List.setIfInBounds_toArray, List.set_cons_zero, List.set_cons_succ]
  refine take_want 1 (some 56) rfl (by as_aux_lemma => kernel_rfl) (by as_aux_lemma => kernel_rfl) (by as_aux_lemma => kernel_rfl) rfl (fun _ _ _ h => h) (by rfl) (v := (.agg quot0)) (exec_load 54 _ rfl BN 0 rfl quot0 (fun w hS => (I11.bn.below hS).range) _ Tryz.underlying54 rfl hz0) (by assumption) ?_
  simp only [Act.put, List.setIfInBounds_toArray, List.set_cons_zero, List.set_cons_succ]
  refine wpAnyH_ready (rs := [2]) (by kernel_rfl) (by simp) ?_
  refine AllReadyH.cons rfl (fun K hK => ?_) AllReadyH.nil
  go_simp
  (refine (lwof_ok (0) 1 (by decide) _ (by decide) (by decide) (by decide) (by decide)).mono ?_; rintro e W12 ⟨C12, rfl, R12, hb12⟩)
  refine hK.out _ _ ?_ (fun hHeld => ?_)
  · first | exact (belowCall hHeld hb12) | fail "keep"
  clear hK K
  try simp only [Act.put, List.setIfInBounds_toArray, List.set_cons_zero, List.set_cons_succ]
  have hq := traceZ1 (chL false) q (hcf q) 0 (by decide) C12 _ W12 (I11.O.below hHeld) R12
  refine wpAnyH_ready (rs := [3]) (by kernel_rfl) (by simp) ?_
  refine AllReadyH.cons rfl (fun K hK => ?_) AllReadyH.nil
  go_simp
  (refine hq.mono ?_; rintro e W13 ⟨rfl, hb13⟩)
  refine hK.out _ _ ?_ (fun hHeld => ?_)
  · first | exact (belowCall hHeld hb13) | fail "keep"
  clear hK K
  try simp only [Act.put, List.setIfInBounds_toArray, List.set_cons_zero, List.set_cons_succ]
  refine take_want 4 (some 54) rfl (by as_aux_lemma => kernel_rfl) (by as_aux_lemma => kernel_rfl) (by as_aux_lemma => kernel_rfl) rfl (fun _ _ _ h => h) (by rfl) (v := ?_) ?_ (by assumption) ?_
  rotate_left
  · intro w hSw; (try dsimp only at hSw); go_simp; all_goals with_reducible rfl
  simp only [Act.put, List.setIfInBounds_toArray, List.set_cons_zero, List.set_cons_succ]
  refine take_want 5 (some 59) rfl (by as_aux_lemma => kernel_rfl) (by as_aux_lemma => kernel_rfl) (by as_aux_lemma => kernel_rfl) rfl (fun _ _ _ h => h) (by rfl) (v := ?_) ?_ (by assumption) ?_
  rotate_left
  · intro w hSw; (try dsimp only at hSw); go_simp; all_goals with_reducible rfl
  simp only [Act.put, List.setIfInBounds_toArray, List.set_cons_zero, List.set_cons_succ]
  refine take_want 6 (some 60) rfl (by as_aux_lemma => kernel_rfl) (by as_aux_lemma => kernel_rfl) (by as_aux_lemma => kernel_rfl) rfl (fun _ _ _ h => h) (by rfl) (v := ?_) ?_ (by assumption) ?_
  rotate_left
  · intro w hSw; (try dsimp only at hSw); go_simp; all_goals with_reducible rfl
  simp only [Act.put, List.setIfInBounds_toArray, List.set_cons_zero, List.set_cons_succ]
  refine take_want 7 (some 10) rfl (by as_aux_lemma => kernel_rfl) (by as_aux_lemma => kernel_rfl) (by as_aux_lemma => kernel_rfl) rfl (fun _ _ _ h => h) (by rfl) (v := ?_) ?_ (by assumption) ?_
  rotate_left
  · intro w hSw; (try dsimp only at hSw); go_simp; all_goals with_reducible rfl
  simp only [Act.put, List.setIfInBounds_toArray, List.set_cons_zero, List.set_cons_succ]
  refine take_want 8 (some 11) rfl (by as_aux_lemma => kernel_rfl) (by as_aux_lemma => kernel_rfl) (by as_aux_lemma => kernel_rfl) rfl (fun _ _ _ h => h) (by rfl) (v := ?_) ?_ (by assumption) ?_
  rotate_left
  · intro w hSw; (try dsimp only at hSw); go_simp; all_goals with_reducible rfl
  simp only [Act.put, List.setIfInBounds_toArray, List.set_cons_zero, List.set_cons_succ]
  refine wpAnyH_done (by as_aux_lemma => kernel_rfl) ?_ _
  have I13 := I11.below hHeld
  have hw13 := belowCall hw11 hHeld
  clear hq hHeld hb12 hb13 R12 I11 hw11
  go_wp2_with fail
  refine wp_region_held_drew (S := fun w' => Below W13.heap.size W13 w') (by as_aux_lemma => kernel_rfl) ((Below.refl _ _).drew) (fun hHeld => ?_)
  refine take_want 0 (some 62) rfl (by as_aux_lemma => kernel_rfl) (by as_aux_lemma => kernel_rfl) (by as_aux_lemma => kernel_rfl) rfl (fun _ _ _ h => h) (by rfl) (v := (.agg ((chL false).ovals q))) (exec_load 45 _ rfl B1 0 rfl ((chL false).ovals q) (fun w hS => (I13.b1.below hS).range) _ Tryz.underlying45 rfl hif) (by assumption) ?_
  simp only [Act.put, List.setIfInBounds_toArray, List.set_cons_zero, List.set_cons_succ]
  refine take_want 2 (some 64) rfl (by as_aux_lemma => kernel_rfl) (by as_aux_lemma => kernel_rfl) (by as_aux_lemma => kernel_rfl) rfl (fun _ _ _ h => h) (by rfl) (v := (.agg quot0)) (exec_load 54 _ rfl BN 0 rfl quot0 (fun w hS => (I13.bn.below hS).range) _ Tryz.underlying54 rfl hz0) (by assumption) ?_
  simp only [Act.put, List.setIfInBounds_toArray, List.set_cons_zero, List.set_cons_succ]
  refine wpAnyH_ready (rs := [1]) (by kernel_rfl) (by simp) ?_
  refine AllReadyH.cons rfl (fun K hK => ?_) AllReadyH.nil
  go_simp
  (refine (lwof_ok (0) 1 (by decide) _ (by decide) (by decide) (by decide) (by decide)).mono ?_; rintro e W14 ⟨C14, rfl, R14, hb14⟩)
  refine hK.out _ _ ?_ (fun hHeld => ?_)
  · first | exact (belowCall hHeld hb14) | fail "keep"
  clear hK K
  try simp only [Act.put, List.setIfInBounds_toArray, List.set_cons_zero, List.set_cons_succ]
  have hq := traceZ2 (chL false) q (hcf q) 0 (by decide) C14 _ W14 (I13.O.below hHeld) R14
  refine wpAnyH_ready (rs := [3]) (by kernel_rfl) (by simp) ?_
  refine AllReadyH.cons rfl (fun K hK => ?_) AllReadyH.nil
  go_simp
  (refine hq.mono ?_; rintro e W15 ⟨rfl, hb15⟩)
  refine hK.out _ _ ?_ (fun hHeld => ?_)
  · first | exact (belowCall hHeld hb15) | fail "keep"
  clear hK K
  try simp only [Act.put, List.setIfInBounds_toArray, List.set_cons_zero, List.set_cons_succ]
  refine take_want 4 (some 61) rfl (by as_aux_lemma => kernel_rfl) (by as_aux_lemma => kernel_rfl) (by as_aux_lemma => kernel_rfl) rfl (fun _ _ _ h => h) (by rfl) (v := ?_) ?_ (by assumption) ?_
  rotate_left
  · intro w hSw; (try dsimp only at hSw); go_simp; all_goals with_reducible rfl
  simp only [Act.put, List.setIfInBounds_toArray, List.set_cons_zero, List.set_cons_succ]
  refine take_want 5 (some 66) rfl (by as_aux_lemma => kernel_rfl) (by as_aux_lemma => kernel_rfl) (by as_aux_lemma => kernel_rfl) rfl (fun _ _ _ h => h) (by rfl) (v := ?_) ?_ (by assumption) ?_
  rotate_left
  · intro w hSw; (try dsimp only at hSw); go_simp; all_goals with_reducible rfl
  simp only [Act.put, List.setIfInBounds_toArray, List.set_cons_zero, List.set_cons_succ]
  refine take_want 6 (some 67) rfl (by as_aux_lemma => kernel_rfl) (by as_aux_lemma => kernel_rfl) (by as_aux_lemma => kernel_rfl) rfl (fun _ _ _ h => h) (by rfl) (v := ?_) ?_ (by assumption) ?_
  rotate_left
  · intro w hSw; (try dsimp only at hSw); go_simp; all_goals with_reducible rfl
  simp only [Act.put, List.setIfInBounds_toArray, List.set_cons_zero, List.set_cons_succ]
  refine take_want 7 (some 12) rfl (by as_aux_lemma => kernel_rfl) (by as_aux_lemma => kernel_rfl) (by as_aux_lemma => kernel_rfl) rfl (fun _ _ _ h => h) (by rfl) (v := ?_) ?_ (by assumption) ?_
  rotate_left
  · intro w hSw; (try dsimp only at hSw); go_simp; all_goals with_reducible rfl
  simp only [Act.put, List.setIfInBounds_toArray, List.set_cons_zero, List.set_cons_succ]
  refine take_want 8 (some 13) rfl (by as_aux_lemma => kernel_rfl) (by as_aux_lemma => kernel_rfl) (by as_aux_lemma => kernel_rfl) rfl (fun _ _ _ h => h) (by rfl) (v := ?_) ?_ (by assumption) ?_
  rotate_left
  · intro w hSw; (try dsimp only at hSw); go_simp; all_goals with_reducible rfl
  simp only [Act.put, List.setIfInBounds_toArray, List.set_cons_zero, List.set_cons_succ]
  refine wpAnyH_done (by as_aux_lemma => kernel_rfl) ?_ _
  have I15 := I13.below hHeld
  have hw15 := belowCall hw13 hHeld
  clear hq hHeld hb14 hb15 R14 I13 hw13
  go_wp2_with first | (refine wpList_load_box rfl 45 (.tmp 1) rfl B1 rfl 45 ((chL false).ovals q) I15.b1 _ Tryz.underlying45 rfl hif ?_) | (refine wpList_load_box rfl 54 (.tmp 3) rfl BN rfl 54 quot0 I15.bn _ Tryz.underlying54 rfl hz0 ?_)
  refine (back_zero (chL false) q (hcf q) 0 (by decide) W15 I15.O).mono ?_
  rintro e W16 ⟨rfl, hb16⟩
  have I16 := I15.below hb16
  have hw16 := belowCall hw15 hb16
  clear hb16 I15 hw15
  go_wp2_with first | (refine boxes2l fun W17 hb17 hs17 by_ bw => ?_; refine wpList_store_box rfl 54 (.tmp 14) _ rfl W16.heap.size 0 54 _ quot0 quot0 rfl rfl by_ hz0 (Nat.le_of_eq rfl) h10 (whole_new rfl) ?_; intro W18 hk18 _; have bw18 := hk18.box bw bw.lt (by omega)) | (refine wpList_store_box rfl 54 (.tmp 15) _ rfl (W16.heap.size + 1) 0 54 _ quot0 quot0 rfl rfl bw18 hz0 (Nat.le_of_eq rfl) h10 (whole_new rfl) ?_; intro W19 hk19 _; have hb18 : Below W16.heap.size W16 W18 := hk18.below hb17 (Nat.le_refl _) hb17.size; have hb19 : Below W16.heap.size W16 W19 := hk19.below hb18 (by omega) hb18.size; have I19 := I16.below hb19; have hw19 := belowCall hw16 hb19) | (refine wpList_load_box rfl 45 (.tmp 1) rfl B1 rfl 45 ((chL false).ovals q) I19.b1 _ Tryz.underlying45 rfl hif ?_)
  clear hb17 hs17 by_ bw hk18 bw18 hk19 hb18 hb19 I16 hw16
  refine (slopesNil q W19 I19.O).mono ?_
  rintro e W20 ⟨rfl, hb20⟩
  have I20 := I19.below hb20
  have hw20 := belowCall hw19 hb20
  clear hb20 I19 hw19
  go_wp2_with fail
  refine wp_region_held_drew (S := fun w' => Below W20.heap.size W20 w') (by as_aux_lemma => kernel_rfl) ((Below.refl _ _).drew) (fun hHeld => ?_)
  refine take_want 0 (some 81) rfl (by as_aux_lemma => kernel_rfl) (by as_aux_lemma => kernel_rfl) (by as_aux_lemma => kernel_rfl) rfl (fun _ _ _ h => h) (by rfl) (v := (.agg ((chL false).ovals q))) (exec_load 45 _ rfl B1 0 rfl ((chL false).ovals q) (fun w hS => (I20.b1.below hS).range) _ Tryz.underlying45 rfl hif) (by assumption) ?_
  simp only [Act.put, List.setIfInBounds_toArray, List.set_cons_zero, List.set_cons_succ]
  refine wpAnyH_ready (rs := [1]) (by as_aux_lemma => kernel_rfl) (by simp) ?_
  refine AllReadyH.cons rfl (fun K hK => ?_) AllReadyH.nil
  rw [if_pos (by rfl)]
  refine wp_make2 _ _ rfl rfl rfl ?_
  intro W21 B21 hb21 b21
  refine hK.out _ _ (belowCall hHeld hb21) (fun hHeld => ?_)
  clear hK K
  simp only [Act.put, List.setIfInBounds_toArray, List.set_cons_zero, List.set_cons_succ]
  have hq := slopesZero q B21 _ pen16 (fun j hj => by rcases (by omega : j = 0 ∨ j = 1 ∨ j = 2 ∨ j = 3 ∨ j = 4 ∨ j = 5 ∨ j = 6 ∨ j = 7) with rfl | rfl | rfl | rfl | rfl | rfl | rfl | rfl <;> rfl) W21 (I20.O.below hHeld) b21
  refine wpAnyH_ready (rs := [2]) (by kernel_rfl) (by simp) ?_
  refine AllReadyH.cons rfl (fun K hK => ?_) AllReadyH.nil
  go_simp
  (refine hq.mono ?_; rintro e W22 ⟨rfl, hb22⟩)
  refine hK.out _ _ ?_ (fun hHeld => ?_)
  · first | exact (belowCall hHeld hb22) | fail "keep"
  clear hK K
  try simp only [Act.put, List.setIfInBounds_toArray, List.set_cons_zero, List.set_cons_succ]
  refine take_want 3 (some 80) rfl (by as_aux_lemma => kernel_rfl) (by as_aux_lemma => kernel_rfl) (by as_aux_lemma => kernel_rfl) rfl (fun _ _ _ h => h) (by rfl) (v := ?_) ?_ (by assumption) ?_
  rotate_left
  · intro w hSw; (try dsimp only at hSw); go_simp; all_goals with_reducible rfl
  simp only [Act.put, List.setIfInBounds_toArray, List.set_cons_zero, List.set_cons_succ]
  refine take_want 4 (some 84) rfl (by as_aux_lemma => kernel_rfl) (by as_aux_lemma => kernel_rfl) (by as_aux_lemma => kernel_rfl) rfl (fun _ _ _ h => h) (by rfl) (v := ?_) ?_ (by assumption) ?_
  rotate_left
  · intro w hSw; (try dsimp only at hSw); go_simp; all_goals with_reducible rfl
  simp only [Act.put, List.setIfInBounds_toArray, List.set_cons_zero, List.set_cons_succ]
  refine take_want 5 (some 85) rfl (by as_aux_lemma => kernel_rfl) (by as_aux_lemma => kernel_rfl) (by as_aux_lemma => kernel_rfl) rfl (fun _ _ _ h => h) (by rfl) (v := ?_) ?_ (by assumption) ?_
  rotate_left
  · intro w hSw; (try dsimp only at hSw); go_simp; all_goals with_reducible rfl
  simp only [Act.put, List.setIfInBounds_toArray, List.set_cons_zero, List.set_cons_succ]
  refine take_want 6 (some 19) rfl (by as_aux_lemma => kernel_rfl) (by as_aux_lemma => kernel_rfl) (by as_aux_lemma => kernel_rfl) rfl (fun _ _ _ h => h) (by rfl) (v := ?_) ?_ (by assumption) ?_
  rotate_left
  · intro w hSw; (try dsimp only at hSw); go_simp; all_goals with_reducible rfl
  simp only [Act.put, List.setIfInBounds_toArray, List.set_cons_zero, List.set_cons_succ]
  refine take_want 7 (some 20) rfl (by as_aux_lemma => kernel_rfl) (by as_aux_lemma => kernel_rfl) (by as_aux_lemma => kernel_rfl) rfl (fun _ _ _ h => h) (by rfl) (v := ?_) ?_ (by assumption) ?_
  rotate_left
  · intro w hSw; (try dsimp only at hSw); go_simp; all_goals with_reducible rfl
  simp only [Act.put, List.setIfInBounds_toArray, List.set_cons_zero, List.set_cons_succ]
  refine wpAnyH_done (by as_aux_lemma => kernel_rfl) ?_ _
  have I22 := I20.below hHeld
  have hw22 := belowCall hw20 hHeld
  clear hq hHeld hb21 hb22 b21 I20 hw20
  go_wp2_with first | (refine wpList_load_box rfl 45 (.tmp 1) rfl B1 rfl 45 ((chL false).ovals q) I22.b1 _ Tryz.underlying45 rfl hif ?_) | (refine wpList_load_box rfl 54 (.tmp 3) rfl BN rfl 54 quot0 I22.bn _ Tryz.underlying54 rfl hz0 ?_)
  refine (indX_at (chL false) q (hcf q) 0 (-1) W22 I22.O (.inl (by decide)) (by decide)).mono ?_
  rintro e W23 ⟨rfl, hb23⟩
  have I23 := I22.below hb23
  have hw23 := belowCall hw22 hb23
  clear hb23 I22 hw22
  go_wp2_with (refine boxes1l fun W24 hb24 hs24 bx => ?_; refine wpList_store_box rfl 54 (.tmp 21) _ rfl W23.heap.size 0 54 _ quot0 quot0 rfl rfl bx hz0 (Nat.le_of_eq rfl) h10 (whole_new rfl) ?_; intro W25 hk25 _; have hb25 : Below W23.heap.size W23 W25 := hk25.below hb24 (Nat.le_refl _) hb24.size)
  clear hb24 hs24 bx hk25
  have I25 := I23.below hb25
  have hw25 := belowCall hw23 hb25
  clear hb25 I23 hw23
  refine wp_region_held_drew (S := fun w' => Below W25.heap.size W25 w') (by as_aux_lemma => kernel_rfl) ((Below.refl _ _).drew) (fun hHeld => ?_)
  refine take_want 0 (some 91) rfl (by as_aux_lemma => kernel_rfl) (by as_aux_lemma => kernel_rfl) (by as_aux_lemma => kernel_rfl) rfl (fun _ _ _ h => h) (by rfl) (v := ?_) ?_ (by assumption) ?_
  rotate_left
  · intro w hSw; (try dsimp only at hSw); go_simp; all_goals with_reducible rfl
  simp only [Act.put, List.setIfInBounds_toArray, List.set_cons_zero, List.set_cons_succ]
  refine take_want 1 (some 92) rfl (by as_aux_lemma => kernel_rfl) (by as_aux_lemma => kernel_rfl) (by as_aux_lemma => kernel_rfl) rfl (fun _ _ _ h => h) (by rfl) (v := (.agg (badV q))) (exec_load 45 _ rfl B2 0 rfl (badV q) (fun w hS => (I25.b2.below hS).range) _ Tryz.underlying45 rfl hib) (by assumption) ?_
  simp only [Act.put, List.setIfInBounds_toArray, List.set_cons_zero, List.set_cons_succ]
  have hq := check13_bad q W25.drew (I25.O.toLnsAt.below hHeld)
  refine wpAnyH_ready (rs := [2]) (by kernel_rfl) (by simp) ?_
  refine AllReadyH.cons rfl (fun K hK => ?_) AllReadyH.nil
  go_simp
  (refine hq.mono ?_; rintro e W26 ⟨rfl, hb26⟩)
  refine hK.out _ _ ?_ (fun hHeld => ?_)
  · first | exact (belowCall hHeld hb26) | fail "keep"
  clear hK K
  try simp only [Act.put, List.setIfInBounds_toArray, List.set_cons_zero, List.set_cons_succ]
  refine take_want 3 (some 94) rfl (by as_aux_lemma => kernel_rfl) (by as_aux_lemma => kernel_rfl) (by as_aux_lemma => kernel_rfl) rfl (fun _ _ _ h => h) (by rfl) (v := ?_) ?_ (by assumption) ?_
  rotate_left
  · intro w hSw; (try dsimp only at hSw); go_simp; all_goals with_reducible rfl
  simp only [Act.put, List.setIfInBounds_toArray, List.set_cons_zero, List.set_cons_succ]
  refine take_want 4 (some 95) rfl (by as_aux_lemma => kernel_rfl) (by as_aux_lemma => kernel_rfl) (by as_aux_lemma => kernel_rfl) rfl (fun _ _ _ h => h) (by rfl) (v := ?_) ?_ (by assumption) ?_
  rotate_left
  · intro w hSw; (try dsimp only at hSw); go_simp; all_goals with_reducible rfl
  simp only [Act.put, List.setIfInBounds_toArray, List.set_cons_zero, List.set_cons_succ]
  refine take_want 5 (some 96) rfl (by as_aux_lemma => kernel_rfl) (by as_aux_lemma => kernel_rfl) (by as_aux_lemma => kernel_rfl) rfl (fun _ _ _ h => h) (by rfl) (v := ?_) ?_ (by assumption) ?_
  rotate_left
  · intro w hSw; (try dsimp only at hSw); go_simp; all_goals with_reducible rfl
  simp only [Act.put, List.setIfInBounds_toArray, List.set_cons_zero, List.set_cons_succ]
  refine take_want 6 (some 97) rfl (by as_aux_lemma => kernel_rfl) (by as_aux_lemma => kernel_rfl) (by as_aux_lemma => kernel_rfl) rfl (fun _ _ _ h => h) (by rfl) (v := ?_) ?_ (by assumption) ?_
  rotate_left
  · intro w hSw; (try dsimp only at hSw); go_simp; all_goals with_reducible rfl
  simp only [Act.put, List.setIfInBounds_toArray, List.set_cons_zero, List.set_cons_succ]
  refine take_want 7 (some 98) rfl (by as_aux_lemma => kernel_rfl) (by as_aux_lemma => kernel_rfl) (by as_aux_lemma => kernel_rfl) rfl (fun _ _ _ h => h) (by rfl) (v := ?_) ?_ (by assumption) ?_
  rotate_left
  · intro w hSw; (try dsimp only at hSw); go_simp; all_goals with_reducible rfl
  simp only [Act.put, List.setIfInBounds_toArray, List.set_cons_zero, List.set_cons_succ]
  refine take_want 8 (some 99) rfl (by as_aux_lemma => kernel_rfl) (by as_aux_lemma => kernel_rfl) (by as_aux_lemma => kernel_rfl) rfl (fun _ _ _ h => h) (by rfl) (v := ?_) ?_ (by assumption) ?_
  rotate_left
  · intro w hSw; (try dsimp only at hSw); go_simp; all_goals with_reducible rfl
  simp only [Act.put, List.setIfInBounds_toArray, List.set_cons_zero, List.set_cons_succ]
  refine take_want 9 (some 100) rfl (by as_aux_lemma => kernel_rfl) (by as_aux_lemma => kernel_rfl) (by as_aux_lemma => kernel_rfl) rfl (fun _ _ _ h => h) (by rfl) (v := ?_) ?_ (by assumption) ?_
  rotate_left
  · intro w hSw; (try dsimp only at hSw); go_simp; all_goals with_reducible rfl
  simp only [Act.put, List.setIfInBounds_toArray, List.set_cons_zero, List.set_cons_succ]
  refine take_want 10 (some 101) rfl (by as_aux_lemma => kernel_rfl) (by as_aux_lemma => kernel_rfl) (by as_aux_lemma => kernel_rfl) rfl (fun _ _ _ h => h) (by rfl) (v := ?_) ?_ (by assumption) ?_
  rotate_left
  · intro w hSw; (try dsimp only at hSw); go_simp; all_goals with_reducible rfl
  simp only [Act.put, List.setIfInBounds_toArray, List.set_cons_zero, List.set_cons_succ]
  refine take_want 11 (some 102) rfl (by as_aux_lemma => kernel_rfl) (by as_aux_lemma => kernel_rfl) (by as_aux_lemma => kernel_rfl) rfl (fun _ _ _ h => h) (by rfl) (v := ?_) ?_ (by assumption) ?_
  rotate_left
  · intro w hSw; (try dsimp only at hSw); go_simp; all_goals with_reducible rfl
  simp only [Act.put, List.setIfInBounds_toArray, List.set_cons_zero, List.set_cons_succ]
  refine take_want 12 (some 103) rfl (by as_aux_lemma => kernel_rfl) (by as_aux_lemma => kernel_rfl) (by as_aux_lemma => kernel_rfl) rfl (fun _ _ _ h => h) (by rfl) (v := ?_) ?_ (by assumption) ?_
  rotate_left
  · intro w hSw; (try dsimp only at hSw); go_simp; all_goals with_reducible rfl
  simp only [Act.put, List.setIfInBounds_toArray, List.set_cons_zero, List.set_cons_succ]
  refine take_want 13 (some 104) rfl (by as_aux_lemma => kernel_rfl) (by as_aux_lemma => kernel_rfl) (by as_aux_lemma => kernel_rfl) rfl (fun _ _ _ h => h) (by rfl) (v := ?_) ?_ (by assumption) ?_
  rotate_left
  · intro w hSw; (try dsimp only at hSw); go_simp; all_goals with_reducible rfl
  simp only [Act.put, List.setIfInBounds_toArray, List.set_cons_zero, List.set_cons_succ]
  refine take_want 14 (some 105) rfl (by as_aux_lemma => kernel_rfl) (by as_aux_lemma => kernel_rfl) (by as_aux_lemma => kernel_rfl) rfl (fun _ _ _ h => h) (by rfl) (v := ?_) ?_ (by assumption) ?_
  rotate_left
  · intro w hSw; (try dsimp only at hSw); go_simp; all_goals with_reducible rfl
  simp only [Act.put, List.setIfInBounds_toArray, List.set_cons_zero, List.set_cons_succ]
  refine take_want 15 (some 106) rfl (by as_aux_lemma => kernel_rfl) (by as_aux_lemma => kernel_rfl) (by as_aux_lemma => kernel_rfl) rfl (fun _ _ _ h => h) (by rfl) (v := ?_) ?_ (by assumption) ?_
  rotate_left
  · intro w hSw; (try dsimp only at hSw); go_simp; all_goals with_reducible rfl
  simp only [Act.put, List.setIfInBounds_toArray, List.set_cons_zero, List.set_cons_succ]
  refine take_want 16 (some 107) rfl (by as_aux_lemma => kernel_rfl) (by as_aux_lemma => kernel_rfl) (by as_aux_lemma => kernel_rfl) rfl (fun _ _ _ h => h) (by rfl) (v := ?_) ?_ (by assumption) ?_
  rotate_left
  · intro w hSw; (try dsimp only at hSw); go_simp; all_goals with_reducible rfl
  simp only [Act.put, List.setIfInBounds_toArray, List.set_cons_zero, List.set_cons_succ]
  refine take_want 17 (some 108) rfl (by as_aux_lemma => kernel_rfl) (by as_aux_lemma => kernel_rfl) (by as_aux_lemma => kernel_rfl) rfl (fun _ _ _ h => h) (by rfl) (v := ?_) ?_ (by assumption) ?_
  rotate_left
  · intro w hSw; (try dsimp only at hSw); go_simp; all_goals with_reducible rfl
  simp only [Act.put, List.setIfInBounds_toArray, List.set_cons_zero, List.set_cons_succ]
  refine take_want 18 (some 109) rfl (by as_aux_lemma => kernel_rfl) (by as_aux_lemma => kernel_rfl) (by as_aux_lemma => kernel_rfl) rfl (fun _ _ _ h => h) (by rfl) (v := ?_) ?_ (by assumption) ?_
  rotate_left
  · intro w hSw; (try dsimp only at hSw); go_simp; all_goals with_reducible rfl
  simp only [Act.put, List.setIfInBounds_toArray, List.set_cons_zero, List.set_cons_succ]
  refine take_want 19 (some 110) rfl (by as_aux_lemma => kernel_rfl) (by as_aux_lemma => kernel_rfl) (by as_aux_lemma => kernel_rfl) rfl (fun _ _ _ h => h) (by rfl) (v := ?_) ?_ (by assumption) ?_
  rotate_left
  · intro w hSw; (try dsimp only at hSw); go_simp; all_goals with_reducible rfl
  simp only [Act.put, List.setIfInBounds_toArray, List.set_cons_zero, List.set_cons_succ]
  refine take_want 20 (some 111) rfl (by as_aux_lemma => kernel_rfl) (by as_aux_lemma => kernel_rfl) (by as_aux_lemma => kernel_rfl) rfl (fun _ _ _ h => h) (by rfl) (v := ?_) ?_ (by assumption) ?_
  rotate_left
  · intro w hSw; (try dsimp only at hSw); go_simp; all_goals with_reducible rfl
  simp only [Act.put, List.setIfInBounds_toArray, List.set_cons_zero, List.set_cons_succ]
  refine take_want 21 (some 112) rfl (by as_aux_lemma => kernel_rfl) (by as_aux_lemma => kernel_rfl) (by as_aux_lemma => kernel_rfl) rfl (fun _ _ _ h => h) (by rfl) (v := ?_) ?_ (by assumption) ?_
  rotate_left
  · intro w hSw; (try dsimp only at hSw); go_simp; all_goals with_reducible rfl
  simp only [Act.put, List.setIfInBounds_toArray, List.set_cons_zero, List.set_cons_succ]
  refine take_want 22 (some 113) rfl (by as_aux_lemma => kernel_rfl) (by as_aux_lemma => kernel_rfl) (by as_aux_lemma => kernel_rfl) rfl (fun _ _ _ h => h) (by rfl) (v := ?_) ?_ (by assumption) ?_
  rotate_left
  · intro w hSw; (try dsimp only at hSw); go_simp; all_goals with_reducible rfl
  simp only [Act.put, List.setIfInBounds_toArray, List.set_cons_zero, List.set_cons_succ]
  refine take_want 23 (some 114) rfl (by as_aux_lemma => kernel_rfl) (by as_aux_lemma => kernel_rfl) (by as_aux_lemma => kernel_rfl) rfl (fun _ _ _ h => h) (by rfl) (v := ?_) ?_ (by assumption) ?_
  rotate_left
  · intro w hSw; (try dsimp only at hSw); go_simp; all_goals with_reducible rfl
  simp only [Act.put, List.setIfInBounds_toArray, List.set_cons_zero, List.set_cons_succ]
  refine take_want 24 (some 115) rfl (by as_aux_lemma => kernel_rfl) (by as_aux_lemma => kernel_rfl) (by as_aux_lemma => kernel_rfl) rfl (fun _ _ _ h => h) (by rfl) (v := ?_) ?_ (by assumption) ?_
  rotate_left
  · intro w hSw; (try dsimp only at hSw); go_simp; all_goals with_reducible rfl
  simp only [Act.put, List.setIfInBounds_toArray, List.set_cons_zero, List.set_cons_succ]
  refine take_want 25 (some 116) rfl (by as_aux_lemma => kernel_rfl) (by as_aux_lemma => kernel_rfl) (by as_aux_lemma => kernel_rfl) rfl (fun _ _ _ h => h) (by rfl) (v := ?_) ?_ (by assumption) ?_
  rotate_left
  · intro w hSw; (try dsimp only at hSw); go_simp; all_goals with_reducible rfl
  simp only [Act.put, List.setIfInBounds_toArray, List.set_cons_zero, List.set_cons_succ]
  refine take_want 26 (some 117) rfl (by as_aux_lemma => kernel_rfl) (by as_aux_lemma => kernel_rfl) (by as_aux_lemma => kernel_rfl) rfl (fun _ _ _ h => h) (by rfl) (v := ?_) ?_ (by assumption) ?_
  rotate_left
  · intro w hSw; (try dsimp only at hSw); go_simp; all_goals with_reducible rfl
  simp only [Act.put, List.setIfInBounds_toArray, List.set_cons_zero, List.set_cons_succ]
  refine take_want 27 (some 118) rfl (by as_aux_lemma => kernel_rfl) (by as_aux_lemma => kernel_rfl) (by as_aux_lemma => kernel_rfl) rfl (fun _ _ _ h => h) (by rfl) (v := ?_) ?_ (by assumption) ?_
  rotate_left
  · intro w hSw; (try dsimp only at hSw); go_simp; all_goals with_reducible rfl
  simp only [Act.put, List.setIfInBounds_toArray, List.set_cons_zero, List.set_cons_succ]
  refine take_want 28 (some 119) rfl (by as_aux_lemma => kernel_rfl) (by as_aux_lemma => kernel_rfl) (by as_aux_lemma => kernel_rfl) rfl (fun _ _ _ h => h) (by rfl) (v := ?_) ?_ (by assumption) ?_
  rotate_left
  · intro w hSw; (try dsimp only at hSw); go_simp; all_goals with_reducible rfl
  simp only [Act.put, List.setIfInBounds_toArray, List.set_cons_zero, List.set_cons_succ]
  refine take_want 29 (some 120) rfl (by as_aux_lemma => kernel_rfl) (by as_aux_lemma => kernel_rfl) (by as_aux_lemma => kernel_rfl) rfl (fun _ _ _ h => h) (by rfl) (v := ?_) ?_ (by assumption) ?_
  rotate_left
  · intro w hSw; (try dsimp only at hSw); go_simp; all_goals with_reducible rfl
  simp only [Act.put, List.setIfInBounds_toArray, List.set_cons_zero, List.set_cons_succ]
  refine take_want 30 (some 121) rfl (by as_aux_lemma => kernel_rfl) (by as_aux_lemma => kernel_rfl) (by as_aux_lemma => kernel_rfl) rfl (fun _ _ _ h => h) (by rfl) (v := ?_) ?_ (by assumption) ?_
  rotate_left
  · intro w hSw; (try dsimp only at hSw); go_simp; all_goals with_reducible rfl
  simp only [Act.put, List.setIfInBounds_toArray, List.set_cons_zero, List.set_cons_succ]
  refine take_want 31 (some 122) rfl (by as_aux_lemma => kernel_rfl) (by as_aux_lemma => kernel_rfl) (by as_aux_lemma => kernel_rfl) rfl (fun _ _ _ h => h) (by rfl) (v := ?_) ?_ (by assumption) ?_
  rotate_left
  · intro w hSw; (try dsimp only at hSw); go_simp; all_goals with_reducible rfl
  simp only [Act.put, List.setIfInBounds_toArray, List.set_cons_zero, List.set_cons_succ]
  refine take_want 32 (some 123) rfl (by as_aux_lemma => kernel_rfl) (by as_aux_lemma => kernel_rfl) (by as_aux_lemma => kernel_rfl) rfl (fun _ _ _ h => h) (by rfl) (v := ?_) ?_ (by assumption) ?_
  rotate_left
  · intro w hSw; (try dsimp only at hSw); go_simp; all_goals with_reducible rfl
  simp only [Act.put, List.setIfInBounds_toArray, List.set_cons_zero, List.set_cons_succ]
  refine take_want 33 (some 124) rfl (by as_aux_lemma => kernel_rfl) (by as_aux_lemma => kernel_rfl) (by as_aux_lemma => kernel_rfl) rfl (fun _ _ _ h => h) (by rfl) (v := ?_) ?_ (by assumption) ?_
  rotate_left
  · intro w hSw; (try dsimp only at hSw); go_simp; all_goals with_reducible rfl
  simp only [Act.put, List.setIfInBounds_toArray, List.set_cons_zero, List.set_cons_succ]
  refine take_want 34 (some 125) rfl (by as_aux_lemma => kernel_rfl) (by as_aux_lemma => kernel_rfl) (by as_aux_lemma => kernel_rfl) rfl (fun _ _ _ h => h) (by rfl) (v := ?_) ?_ (by assumption) ?_
  rotate_left
  · intro w hSw; (try dsimp only at hSw); go_simp; all_goals with_reducible rfl
  simp only [Act.put, List.setIfInBounds_toArray, List.set_cons_zero, List.set_cons_succ]
  refine take_want 35 (some 126) rfl (by as_aux_lemma => kernel_rfl) (by as_aux_lemma => kernel_rfl) (by as_aux_lemma => kernel_rfl) rfl (fun _ _ _ h => h) (by rfl) (v := ?_) ?_ (by assumption) ?_
  rotate_left
  · intro w hSw; (try dsimp only at hSw); go_simp; all_goals with_reducible rfl
  simp only [Act.put, List.setIfInBounds_toArray, List.set_cons_zero, List.set_cons_succ]
  refine take_want 36 (some 127) rfl (by as_aux_lemma => kernel_rfl) (by as_aux_lemma => kernel_rfl) (by as_aux_lemma => kernel_rfl) rfl (fun _ _ _ h => h) (by rfl) (v := ?_) ?_ (by assumption) ?_
  rotate_left
  · intro w hSw; (try dsimp only at hSw); go_simp; all_goals with_reducible rfl
  simp only [Act.put, List.setIfInBounds_toArray, List.set_cons_zero, List.set_cons_succ]
  refine take_want 37 (some 128) rfl (by as_aux_lemma => kernel_rfl) (by as_aux_lemma => kernel_rfl) (by as_aux_lemma => kernel_rfl) rfl (fun _ _ _ h => h) (by rfl) (v := ?_) ?_ (by assumption) ?_
  rotate_left
  · intro w hSw; (try dsimp only at hSw); go_simp; all_goals with_reducible rfl
  simp only [Act.put, List.setIfInBounds_toArray, List.set_cons_zero, List.set_cons_succ]
  refine take_want 38 (some 129) rfl (by as_aux_lemma => kernel_rfl) (by as_aux_lemma => kernel_rfl) (by as_aux_lemma => kernel_rfl) rfl (fun _ _ _ h => h) (by rfl) (v := ?_) ?_ (by assumption) ?_
  rotate_left
  · intro w hSw; (try dsimp only at hSw); go_simp; all_goals with_reducible rfl
  simp only [Act.put, List.setIfInBounds_toArray, List.set_cons_zero, List.set_cons_succ]
  refine take_want 39 (some 130) rfl (by as_aux_lemma => kernel_rfl) (by as_aux_lemma => kernel_rfl) (by as_aux_lemma => kernel_rfl) rfl (fun _ _ _ h => h) (by rfl) (v := ?_) ?_ (by assumption) ?_
  rotate_left
  · intro w hSw; (try dsimp only at hSw); go_simp; all_goals with_reducible rfl
  simp only [Act.put, List.setIfInBounds_toArray, List.set_cons_zero, List.set_cons_succ]
  refine take_want 40 (some 131) rfl (by as_aux_lemma => kernel_rfl) (by as_aux_lemma => kernel_rfl) (by as_aux_lemma => kernel_rfl) rfl (fun _ _ _ h => h) (by rfl) (v := ?_) ?_ (by assumption) ?_
  rotate_left
  · intro w hSw; (try dsimp only at hSw); go_simp; all_goals with_reducible rfl
  simp only [Act.put, List.setIfInBounds_toArray, List.set_cons_zero, List.set_cons_succ]
  refine take_want 42 (some 133) rfl (by as_aux_lemma => kernel_rfl) (by as_aux_lemma => kernel_rfl) (by as_aux_lemma => kernel_rfl) rfl (fun _ _ _ h => h) (by rfl) (v := (.agg ((chL false).ovals q))) (exec_load 45 _ rfl B1 0 rfl ((chL false).ovals q) (fun w hS => (I25.b1.below hS).range) _ Tryz.underlying45 rfl hif) (by assumption) ?_
  simp only [Act.put, List.setIfInBounds_toArray, List.set_cons_zero, List.set_cons_succ]
  refine wpAnyH_ready (rs := [41]) (by kernel_rfl) (by simp) ?_
  refine AllReadyH.cons rfl (fun K hK => ?_) AllReadyH.nil
  go_simp
  (refine (lis_ok (3) 2 _).mono ?_; rintro e W27 ⟨A27, D27, rfl, ba27, bd27, hb27⟩)
  refine hK.out _ _ ?_ (fun hHeld => ?_)
  · first | exact (belowCall hHeld hb27) | fail "keep"
  clear hK K
  try simp only [Act.put, List.setIfInBounds_toArray, List.set_cons_zero, List.set_cons_succ]
  have hq := indX (chL false) (chL_opt false) q (hcf q) 0 0 W27 (I25.below hHeld).O (by decide) (by decide)
  refine wpAnyH_ready (rs := [43]) (by kernel_rfl) (by simp) ?_
  refine AllReadyH.cons rfl (fun K hK => ?_) AllReadyH.nil
  go_simp
  (refine hq.mono ?_; rintro e W28 ⟨C28, rfl, R28, hb28⟩)
  refine hK.out _ _ ?_ (fun hHeld => ?_)
  · first | exact (belowCall hHeld hb28) | fail "keep"
  clear hK K
  try simp only [Act.put, List.setIfInBounds_toArray, List.set_cons_zero, List.set_cons_succ]
  refine take_want 44 (some 135) rfl (by as_aux_lemma => kernel_rfl) (by as_aux_lemma => kernel_rfl) (by as_aux_lemma => kernel_rfl) rfl (fun _ _ _ h => h) (by rfl) (v := ?_) ?_ (by assumption) ?_
  rotate_left
  · intro w hSw; (try dsimp only at hSw); go_simp; all_goals with_reducible rfl
  simp only [Act.put, List.setIfInBounds_toArray, List.set_cons_zero, List.set_cons_succ]
  refine take_want 45 (some 136) rfl (by as_aux_lemma => kernel_rfl) (by as_aux_lemma => kernel_rfl) (by as_aux_lemma => kernel_rfl) rfl (fun _ _ _ h => h) (by rfl) (v := ?_) ?_ (by assumption) ?_
  rotate_left
  · intro w hSw; (try dsimp only at hSw); go_simp; all_goals with_reducible rfl
  simp only [Act.put, List.setIfInBounds_toArray, List.set_cons_zero, List.set_cons_succ]
  have hq := lis1_true (3) 2 (by decide) (by decide) (by decide) (by decide) (by decide) C28 _ ch_nI0 W28 R28 A27 D27 (ba27.below hb28) (bd27.below hb28)
  refine wpAnyH_ready (rs := [46]) (by kernel_rfl) (by simp) ?_
  refine AllReadyH.cons rfl (fun K hK => ?_) AllReadyH.nil
  go_simp
  (refine hq.mono ?_; rintro e W29 ⟨rfl, hb29⟩)
  refine hK.out _ _ ?_ (fun hHeld => ?_)
  · first | exact (belowCall hHeld hb29) | fail "keep"
  clear hK K
  try simp only [Act.put, List.setIfInBounds_toArray, List.set_cons_zero, List.set_cons_succ]
  clear hq hb27 hb28 hb29 ba27 bd27 R28
  refine take_want 47 (some 138) rfl (by as_aux_lemma => kernel_rfl) (by as_aux_lemma => kernel_rfl) (by as_aux_lemma => kernel_rfl) rfl (fun _ _ _ h => h) (by rfl) (v := ?_) ?_ (by assumption) ?_
  rotate_left
  · intro w hSw; (try dsimp only at hSw); go_simp; all_goals with_reducible rfl
  simp only [Act.put, List.setIfInBounds_toArray, List.set_cons_zero, List.set_cons_succ]
  refine take_want 48 (some 23) rfl (by as_aux_lemma => kernel_rfl) (by as_aux_lemma => kernel_rfl) (by as_aux_lemma => kernel_rfl) rfl (fun _ _ _ h => h) (by rfl) (v := ?_) ?_ (by assumption) ?_
  rotate_left
  · intro w hSw; (try dsimp only at hSw); go_simp; all_goals with_reducible rfl
  simp only [Act.put, List.setIfInBounds_toArray, List.set_cons_zero, List.set_cons_succ]
  refine wpAnyH_done (by as_aux_lemma => kernel_rfl) ?_ _
  have hp29 := I25.pows.below hHeld
  have hw29 := belowCall hw25 hHeld
  clear hHeld hb26 I25 hw25
  go_wp2_with fail
  refine (chapter_f W29).mono ?_
  rintro e W30 ⟨q3, rfl, O30, hb30⟩
  have hp30 := hp29.below hb30
  have hw30 := belowCall hw29 hb30
  clear hb30 hp29 hw29
  have f3 : ((chL false).ovals q3).all (·.oneCell') = true := by simp [Lns.ovals, Value.oneCell']
  have hi3 : (Tryz.prog.info? 45).map (·.size) = some ((chL false).ovals q3).size := hio
  go_wp2_with first | (refine boxes1l fun W31 hb31 hs31 b24 => ?_; refine wpList_store_box rfl 45 (.tmp 24) _ rfl W30.heap.size 0 45 _ ((chL false).ovals q3) ((chL false).ovals q3) rfl rfl b24 hi3 (Nat.le_of_ble_eq_true rfl) f3 (whole_new rfl) ?_; intro W32 hk32 b32; have hb32 : Below W30.heap.size W30 W32 := hk32.below hb31 (Nat.le_refl _) hb31.size; have l32 := b32.lt) | (refine boxes5l fun W33 hb33 hs33 ba bb bc bd be => ?_; have b33 := b32.below hb33; have c9 : W33.cell? ⟨W30.heap.size, 9, none⟩ = some (.slice q3.pi 2 q3.ci) := b33.cell 9; have f9 := b33.frozen; have l9 := b33.lt) | (refine boxes1l (T0 := 95) fun W34 hb34 hs34 bs => ?_; have b34 := (b33.set 9 (.slice (some ⟨W32.heap.size + 1 + 1 + 1 + 1, 0, none⟩) 4 4)).below hb34; have c7 : W34.cell? ⟨W30.heap.size, 7, none⟩ = some (.slice q3.ps 2 q3.cs) := b34.cell 7; have f7 := b34.frozen; have l7 := b34.lt; clear c9 f9)
  have hsz : (W33.setCell ⟨W30.heap.size, 9, none⟩ (.slice (some ⟨W32.heap.size + 1 + 1 + 1 + 1, 0, none⟩) 4 4)).heap.size = W33.heap.size := by simp
  have bs' := bs
  rw [hsz] at bs'
  have hb4 : Below W30.heap.size W30 W34 := belowCall ((belowCall hb32 hb33).setCell (p := ⟨W30.heap.size, 9, none⟩) (Nat.le_refl _) (.slice (some ⟨W32.heap.size + 1 + 1 + 1 + 1, 0, none⟩) 4 4)) hb34
  have hb5 := hb4.setCell (p := ⟨W30.heap.size, 7, none⟩) (Nat.le_refl _) (.slice (some ⟨W33.heap.size, 0, none⟩) 4 4)
  have mv : ∀ {B T cs}, Box W33 B T cs → B ≠ W30.heap.size → Box (W34.setCell ⟨W30.heap.size, 7, none⟩ (.slice (some ⟨W33.heap.size, 0, none⟩) 4 4)) B T cs := fun b h => ((b.other ⟨W30.heap.size, 9, none⟩ (.slice (some ⟨W32.heap.size + 1 + 1 + 1 + 1, 0, none⟩) 4 4) h).below hb34).other _ _ h
  have ba5 := mv ba (by omega)
  have bb5 := mv bb (by omega)
  have bc5 := mv bc (by omega)
  have bd5 := mv bd (by omega)
  have be5 := mv be (by omega)
  have bs5 := bs'.other ⟨W30.heap.size, 7, none⟩ (.slice (some ⟨W33.heap.size, 0, none⟩) 4 4) (by simp; omega)
  have b35 : Box (W34.setCell ⟨W30.heap.size, 7, none⟩ (.slice (some ⟨W33.heap.size, 0, none⟩) 4 4)) W30.heap.size 45 (aiL.ovals (plcAir q3 4 W33.heap.size (W32.heap.size + 1 + 1 + 1 + 1) (fun i => if i = 0 then W32.heap.size else if i = 1 then W32.heap.size + 1 else if i = 2 then W32.heap.size + 1 + 1 else W32.heap.size + 1 + 1 + 1))) := b34.set 7 (.slice (some ⟨W33.heap.size, 0, none⟩) 4 4)
  clear mv bs bs' ba bb bc bd be b34 c7 f7 l7 hs34 hs33 hb31 hs31 b24 hk32 b32 b33 l9 f3
  generalize W34.setCell ⟨W30.heap.size, 7, none⟩ (.slice (some ⟨W33.heap.size, 0, none⟩) 4 4) = W35 at *
  have O35 : OptAt W35 aiL (plcAir q3 4 W33.heap.size (W32.heap.size + 1 + 1 + 1 + 1) (fun i => if i = 0 then W32.heap.size else if i = 1 then W32.heap.size + 1 else if i = 2 then W32.heap.size + 1 + 1 else W32.heap.size + 1 + 1 + 1)) := by
    refine optAt_air (TI := fun _ => 3) aiL q3 rfl (by decide) W33.heap.size _ (fun i => if i = 0 then W32.heap.size else if i = 1 then W32.heap.size + 1 else if i = 2 then W32.heap.size + 1 + 1 else W32.heap.size + 1 + 1 + 1) _ _ (O30.fields.below hb5) (O30.waves.below hb5) bs5 rfl be5 (fun i hi => ?_) (fun i hi => ?_)
    · have h4 : i < 4 := hi
      rcases (by omega : i = 0 ∨ i = 1 ∨ i = 2 ∨ i = 3) with rfl | rfl | rfl | rfl <;> rfl
    · have h4 : i < 4 := hi
      rcases (by omega : i = 0 ∨ i = 1 ∨ i = 2 ∨ i = 3) with rfl | rfl | rfl | rfl
      · exact ba5
      · exact bb5
      · exact bc5
      · exact bd5
  have hp35 := hp30.below hb5
  have hw35 := belowCall hw30 hb5
  clear ba5 bb5 bc5 bd5 be5 bs5 hb5 hb4 hb34 hb33 hb32 hp30 hw30 O30 hsz hi3
  generalize plcAir q3 4 W33.heap.size (W32.heap.size + 1 + 1 + 1 + 1) (fun i => if i = 0 then W32.heap.size else if i = 1 then W32.heap.size + 1 else if i = 2 then W32.heap.size + 1 + 1 else W32.heap.size + 1 + 1 + 1) = q4 at *
  generalize W30.heap.size = B24 at *
  have hca := fun q => chk1 aiL aiL_opt rfl q
  have hia : (Tryz.prog.info? 45).map (·.size) = some (aiL.ovals q4).size := hio
  refine wp_region_held_drew (S := fun w' => Below W35.heap.size W35 w') (by as_aux_lemma => kernel_rfl) ((Below.refl _ _).drew) (fun hHeld => ?_)
  refine take_want 0 (some 155) rfl (by as_aux_lemma => kernel_rfl) (by as_aux_lemma => kernel_rfl) (by as_aux_lemma => kernel_rfl) rfl (fun _ _ _ h => h) (by rfl) (v := (.agg (aiL.ovals q4))) (exec_load 45 _ rfl B24 0 rfl (aiL.ovals q4) (fun w hS => (b35.below hS).range) _ Tryz.underlying45 rfl hia) (by assumption) ?_
  simp only [Act.put, List.setIfInBounds_toArray, List.set_cons_zero, List.set_cons_succ]
  refine wpAnyH_ready (rs := [1]) (by kernel_rfl) (by simp) ?_
  refine AllReadyH.cons rfl (fun K hK => ?_) AllReadyH.nil
  go_simp
  (refine (lwof_ok (1) 1 (by decide) _ (by decide) (by decide) (by decide) (by decide)).mono ?_; rintro e W36 ⟨C36, rfl, R36, hb36⟩)
  refine hK.out _ _ ?_ (fun hHeld => ?_)
  · first | exact (belowCall hHeld hb36) | fail "keep"
  clear hK K
  try simp only [Act.put, List.setIfInBounds_toArray, List.set_cons_zero, List.set_cons_succ]
  refine wpAnyH_ready (rs := [2]) (by kernel_rfl) (by simp) ?_
  refine AllReadyH.cons rfl (fun K hK => ?_) AllReadyH.nil
  go_simp
  (refine (lwof_ok (0) 1 (by decide) _ (by decide) (by decide) (by decide) (by decide)).mono ?_; rintro e W37 ⟨C37, rfl, R37, hb37⟩)
  refine hK.out _ _ ?_ (fun hHeld => ?_)
  · first | exact (belowCall hHeld hb37) | fail "keep"
  clear hK K
  try simp only [Act.put, List.setIfInBounds_toArray, List.set_cons_zero, List.set_cons_succ]
  have R36' := R36.ext (.of_below hb37)
  have hq := trace_ok aiL aiL_opt q4 (hca q4) 0 (by decide) _ _ ai_fits W37 (O35.below hHeld) m (hp35.below hHeld) C36 C37 R36' R37
  simp only [show aiL.ns = 4 from rfl] at hq
  refine wpAnyH_ready (rs := [3]) (by kernel_rfl) (by simp) ?_
  refine AllReadyH.cons rfl (fun K hK => ?_) AllReadyH.nil
  go_simp
  (refine hq.mono ?_; rintro e W38 ⟨p38, c38, base38, rfl, hbs38, P38, hb38⟩)
  refine hK.out _ _ ?_ (fun hHeld => ?_)
  · first | exact (belowCall hHeld hb38) | fail "keep"
  clear hK K
  try simp only [Act.put, List.setIfInBounds_toArray, List.set_cons_zero, List.set_cons_succ]
  refine take_want 4 (some 154) rfl (by as_aux_lemma => kernel_rfl) (by as_aux_lemma => kernel_rfl) (by as_aux_lemma => kernel_rfl) rfl (fun _ _ _ h => h) (by rfl) (v := ?_) ?_ (by assumption) ?_
  rotate_left
  · intro w hSw; (try dsimp only at hSw); go_simp; all_goals with_reducible rfl
  simp only [Act.put, List.setIfInBounds_toArray, List.set_cons_zero, List.set_cons_succ]
  refine take_want 5 (some 159) rfl (by as_aux_lemma => kernel_rfl) (by as_aux_lemma => kernel_rfl) (by as_aux_lemma => kernel_rfl) rfl (fun _ _ _ h => h) (by rfl) (v := ?_) ?_ (by assumption) ?_
  rotate_left
  · intro w hSw; (try dsimp only at hSw); go_simp; all_goals with_reducible rfl
  simp only [Act.put, List.setIfInBounds_toArray, List.set_cons_zero, List.set_cons_succ]
  refine take_want 6 (some 160) rfl (by as_aux_lemma => kernel_rfl) (by as_aux_lemma => kernel_rfl) (by as_aux_lemma => kernel_rfl) rfl (fun _ _ _ h => h) (by rfl) (v := ?_) ?_ (by assumption) ?_
  rotate_left
  · intro w hSw; (try dsimp only at hSw); go_simp; all_goals with_reducible rfl
  simp only [Act.put, List.setIfInBounds_toArray, List.set_cons_zero, List.set_cons_succ]
  refine take_want 7 (some 25) rfl (by as_aux_lemma => kernel_rfl) (by as_aux_lemma => kernel_rfl) (by as_aux_lemma => kernel_rfl) rfl (fun _ _ _ h => h) (by rfl) (v := ?_) ?_ (by assumption) ?_
  rotate_left
  · intro w hSw; (try dsimp only at hSw); go_simp; all_goals with_reducible rfl
  simp only [Act.put, List.setIfInBounds_toArray, List.set_cons_zero, List.set_cons_succ]
  refine take_want 8 (some 26) rfl (by as_aux_lemma => kernel_rfl) (by as_aux_lemma => kernel_rfl) (by as_aux_lemma => kernel_rfl) rfl (fun _ _ _ h => h) (by rfl) (v := ?_) ?_ (by assumption) ?_
  rotate_left
  · intro w hSw; (try dsimp only at hSw); go_simp; all_goals with_reducible rfl
  simp only [Act.put, List.setIfInBounds_toArray, List.set_cons_zero, List.set_cons_succ]
  refine wpAnyH_done (by as_aux_lemma => kernel_rfl) ?_ _
  have O38 := O35.below hHeld
  have hp38 := hp35.below hHeld
  have b38 := b35.below hHeld
  have hw38 := belowCall hw35 hHeld
  clear hq R36 R36' R37 hb36 hb37 hb38 O35 hp35 b35 hw35 hHeld
  go_wp2_with fail
  obtain ⟨Cp, hRp, hQp⟩ := P38.rd (by decide) (by decide)
  obtain ⟨hc1, hn1, hxx⟩ := hRp
  obtain ⟨b, off, rfl, hbl, hcell⟩ := hxx (by decide)
  have Q1 : PenQ W38 (Cp 1) (aiL.tr 0 (Rat.divInt 1 1) (Rat.divInt 0 1) 2) := (hQp 1 (by decide)).2
  have Q2 : PenQ W38 (Cp 2) (aiL.tr 0 (Rat.divInt 1 1) (Rat.divInt 0 1) 3) := (hQp 2 (by decide)).2
  rw [ai_tr0] at Q1
  obtain ⟨c0, c1, c2, c3, c4, c5, c6, c7, RA, RB, rgA, rgB⟩ := pen_ranges hbl hcell 1 (by decide) Q1
  obtain ⟨d0, d1, d2, d3, d4, d5, d6, d7, RC, _, rgC, _⟩ := pen_ranges hbl hcell 2 (by decide) Q2
  simp only [Nat.one_mul, show 2 * 8 = 16 from rfl] at rgA rgB rgC
  clear hxx hcell hQp hn1 Q1 Q2 P38
  have eA := Lib.hid ai_tr2
  have i4a : (Tryz.prog.info? 54).map (·.size) = some (#[c0, c1, c2, c3] : Array Value).size := sizeQuot
  have i4b : (Tryz.prog.info? 54).map (·.size) = some (#[c4, c5, c6, c7] : Array Value).size := sizeQuot
  have i4c : (Tryz.prog.info? 54).map (·.size) = some (#[d0, d1, d2, d3] : Array Value).size := sizeQuot
  refine wp_region_held_drew (S := fun w' => Below W38.heap.size W38 w') (by as_aux_lemma => kernel_rfl) ((Below.refl _ _).drew) (fun hHeld => ?_)
  refine take_want 0 (some 161) rfl (by as_aux_lemma => kernel_rfl) (by as_aux_lemma => kernel_rfl) (by as_aux_lemma => kernel_rfl) rfl (fun _ _ _ h => h) (by rfl) (v := ?_) ?_ (by assumption) ?_
  rotate_left
  · intro w hSw; (try dsimp only at hSw); go_simp; all_goals with_reducible rfl
  simp only [Act.put, List.setIfInBounds_toArray, List.set_cons_zero, List.set_cons_succ]
  refine take_want 1 (some 162) rfl (by as_aux_lemma => kernel_rfl) (by as_aux_lemma => kernel_rfl) (by as_aux_lemma => kernel_rfl) rfl (fun _ _ _ h => h) (by rfl) (v := ?_) ?_ (by assumption) ?_
  rotate_left
  · intro w hSw; (try dsimp only at hSw); go_simp; all_goals with_reducible rfl
  simp only [Act.put, List.setIfInBounds_toArray, List.set_cons_zero, List.set_cons_succ]
  refine take_want 2 (some 163) rfl (by as_aux_lemma => kernel_rfl) (by as_aux_lemma => kernel_rfl) (by as_aux_lemma => kernel_rfl) rfl (fun _ _ _ h => h) (by rfl) (v := ?_) ?_ (by assumption) ?_
  rotate_left
  · intro w hSw; (try dsimp only at hSw); go_simp; all_goals with_reducible rfl
  simp only [Act.put, List.setIfInBounds_toArray, List.set_cons_zero, List.set_cons_succ]
  refine take_want 3 (some 164) rfl (by as_aux_lemma => kernel_rfl) (by as_aux_lemma => kernel_rfl) (by as_aux_lemma => kernel_rfl) rfl (fun _ _ _ h => h) (by rfl) (v := ?_) ?_ (by assumption) ?_
  rotate_left
  · intro w hSw; (try dsimp only at hSw); go_simp; all_goals with_reducible rfl
  simp only [Act.put, List.setIfInBounds_toArray, List.set_cons_zero, List.set_cons_succ]
  refine take_want 5 (some 166) rfl (by as_aux_lemma => kernel_rfl) (by as_aux_lemma => kernel_rfl) (by as_aux_lemma => kernel_rfl) rfl (fun _ _ _ h => h) (by rfl) (v := (.agg (aiL.ovals q4))) (exec_load 45 _ rfl B24 0 rfl (aiL.ovals q4) (fun w hS => (b38.below hS).range) _ Tryz.underlying45 rfl hia) (by assumption) ?_
  simp only [Act.put, List.setIfInBounds_toArray, List.set_cons_zero, List.set_cons_succ]
  refine wpAnyH_ready (rs := [4]) (by kernel_rfl) (by simp) ?_
  refine AllReadyH.cons rfl (fun K hK => ?_) AllReadyH.nil
  go_simp
  (refine (lis_ok (1) 20 _).mono ?_; rintro e W39 ⟨A39, D39, rfl, ba39, bd39, hb39⟩)
  refine hK.out _ _ ?_ (fun hHeld => ?_)
  · first | exact (belowCall hHeld hb39) | fail "keep"
  clear hK K
  try simp only [Act.put, List.setIfInBounds_toArray, List.set_cons_zero, List.set_cons_succ]
  have hq := powX aiL aiL_opt q4 (hca q4) 0 0 W39 (O38.below hHeld) (by decide) (by decide) (ai_pf 0 (by decide)) m (hp38.below hHeld)
  refine wpAnyH_ready (rs := [6]) (by kernel_rfl) (by simp) ?_
  refine AllReadyH.cons rfl (fun K hK => ?_) AllReadyH.nil
  go_simp
  (refine hq.mono ?_; rintro e W40 ⟨C40, rfl, R40, hb40⟩)
  refine hK.out _ _ ?_ (fun hHeld => ?_)
  · first | exact (belowCall hHeld hb40) | fail "keep"
  clear hK K
  try simp only [Act.put, List.setIfInBounds_toArray, List.set_cons_zero, List.set_cons_succ]
  refine take_want 7 (some 168) rfl (by as_aux_lemma => kernel_rfl) (by as_aux_lemma => kernel_rfl) (by as_aux_lemma => kernel_rfl) rfl (fun _ _ _ h => h) (by rfl) (v := ?_) ?_ (by assumption) ?_
  rotate_left
  · intro w hSw; (try dsimp only at hSw); go_simp; all_goals with_reducible rfl
  simp only [Act.put, List.setIfInBounds_toArray, List.set_cons_zero, List.set_cons_succ]
  refine take_want 8 (some 169) rfl (by as_aux_lemma => kernel_rfl) (by as_aux_lemma => kernel_rfl) (by as_aux_lemma => kernel_rfl) rfl (fun _ _ _ h => h) (by rfl) (v := ?_) ?_ (by assumption) ?_
  rotate_left
  · intro w hSw; (try dsimp only at hSw); go_simp; all_goals with_reducible rfl
  simp only [Act.put, List.setIfInBounds_toArray, List.set_cons_zero, List.set_cons_succ]
  have hq := lis1_true (1) 20 (by decide) (by decide) (by decide) (by decide) (by decide) C40 _ ai_pow0 W40 R40 A39 D39 (ba39.below hb40) (bd39.below hb40)
  refine wpAnyH_ready (rs := [9]) (by kernel_rfl) (by simp) ?_
  refine AllReadyH.cons rfl (fun K hK => ?_) AllReadyH.nil
  go_simp
  (refine hq.mono ?_; rintro e W41 ⟨rfl, hb41⟩)
  refine hK.out _ _ ?_ (fun hHeld => ?_)
  · first | exact (belowCall hHeld hb41) | fail "keep"
  clear hK K
  try simp only [Act.put, List.setIfInBounds_toArray, List.set_cons_zero, List.set_cons_succ]
  clear hq hb39 hb40 hb41 ba39 bd39 R40
  refine take_want 10 (some 171) rfl (by as_aux_lemma => kernel_rfl) (by as_aux_lemma => kernel_rfl) (by as_aux_lemma => kernel_rfl) rfl (fun _ _ _ h => h) (by rfl) (v := ?_) ?_ (by assumption) ?_
  rotate_left
  · intro w hSw; (try dsimp only at hSw); go_simp; all_goals with_reducible rfl
  simp only [Act.put, List.setIfInBounds_toArray, List.set_cons_zero, List.set_cons_succ]
  refine take_want 11 (some 172) rfl (by as_aux_lemma => kernel_rfl) (by as_aux_lemma => kernel_rfl) (by as_aux_lemma => kernel_rfl) rfl (fun _ _ _ h => h) (by rfl) (v := ?_) ?_ (by assumption) ?_
  rotate_left
  · intro w hSw; (try dsimp only at hSw); go_simp; all_goals with_reducible rfl
  simp only [Act.put, List.setIfInBounds_toArray, List.set_cons_zero, List.set_cons_succ]
  refine take_want 13 (some 174) rfl (by as_aux_lemma => kernel_rfl) (by as_aux_lemma => kernel_rfl) (by as_aux_lemma => kernel_rfl) rfl (fun _ _ _ h => h) (by rfl) (v := (.agg (aiL.ovals q4))) (exec_load 45 _ rfl B24 0 rfl (aiL.ovals q4) (fun w hS => (b38.below hS).range) _ Tryz.underlying45 rfl hia) (by assumption) ?_
  simp only [Act.put, List.setIfInBounds_toArray, List.set_cons_zero, List.set_cons_succ]
  refine wpAnyH_ready (rs := [12]) (by kernel_rfl) (by simp) ?_
  refine AllReadyH.cons rfl (fun K hK => ?_) AllReadyH.nil
  go_simp
  (refine (lis_ok (0) 1 _).mono ?_; rintro e W42 ⟨A42, D42, rfl, ba42, bd42, hb42⟩)
  refine hK.out _ _ ?_ (fun hHeld => ?_)
  · first | exact (belowCall hHeld hb42) | fail "keep"
  clear hK K
  try simp only [Act.put, List.setIfInBounds_toArray, List.set_cons_zero, List.set_cons_succ]
  have hq := powX aiL aiL_opt q4 (hca q4) 1 0 W42 (O38.below hHeld) (by decide) (by decide) (ai_pf 1 (by decide)) m (hp38.below hHeld)
  refine wpAnyH_ready (rs := [14]) (by kernel_rfl) (by simp) ?_
  refine AllReadyH.cons rfl (fun K hK => ?_) AllReadyH.nil
  go_simp
  (refine hq.mono ?_; rintro e W43 ⟨C43, rfl, R43, hb43⟩)
  refine hK.out _ _ ?_ (fun hHeld => ?_)
  · first | exact (belowCall hHeld hb43) | fail "keep"
  clear hK K
  try simp only [Act.put, List.setIfInBounds_toArray, List.set_cons_zero, List.set_cons_succ]
  refine take_want 15 (some 176) rfl (by as_aux_lemma => kernel_rfl) (by as_aux_lemma => kernel_rfl) (by as_aux_lemma => kernel_rfl) rfl (fun _ _ _ h => h) (by rfl) (v := ?_) ?_ (by assumption) ?_
  rotate_left
  · intro w hSw; (try dsimp only at hSw); go_simp; all_goals with_reducible rfl
  simp only [Act.put, List.setIfInBounds_toArray, List.set_cons_zero, List.set_cons_succ]
  refine take_want 16 (some 177) rfl (by as_aux_lemma => kernel_rfl) (by as_aux_lemma => kernel_rfl) (by as_aux_lemma => kernel_rfl) rfl (fun _ _ _ h => h) (by rfl) (v := ?_) ?_ (by assumption) ?_
  rotate_left
  · intro w hSw; (try dsimp only at hSw); go_simp; all_goals with_reducible rfl
  simp only [Act.put, List.setIfInBounds_toArray, List.set_cons_zero, List.set_cons_succ]
  have hq := lis1_true (0) 1 (by decide) (by decide) (by decide) (by decide) (by decide) C43 _ ai_pow1 W43 R43 A42 D42 (ba42.below hb43) (bd42.below hb43)
  refine wpAnyH_ready (rs := [17]) (by kernel_rfl) (by simp) ?_
  refine AllReadyH.cons rfl (fun K hK => ?_) AllReadyH.nil
  go_simp
  (refine hq.mono ?_; rintro e W44 ⟨rfl, hb44⟩)
  refine hK.out _ _ ?_ (fun hHeld => ?_)
  · first | exact (belowCall hHeld hb44) | fail "keep"
  clear hK K
  try simp only [Act.put, List.setIfInBounds_toArray, List.set_cons_zero, List.set_cons_succ]
  clear hq hb42 hb43 hb44 ba42 bd42 R43
  refine take_want 18 (some 179) rfl (by as_aux_lemma => kernel_rfl) (by as_aux_lemma => kernel_rfl) (by as_aux_lemma => kernel_rfl) rfl (fun _ _ _ h => h) (by rfl) (v := ?_) ?_ (by assumption) ?_
  rotate_left
  · intro w hSw; (try dsimp only at hSw); go_simp; all_goals with_reducible rfl
  simp only [Act.put, List.setIfInBounds_toArray, List.set_cons_zero, List.set_cons_succ]
  refine take_want 19 (some 180) rfl (by as_aux_lemma => kernel_rfl) (by as_aux_lemma => kernel_rfl) (by as_aux_lemma => kernel_rfl) rfl (fun _ _ _ h => h) (by rfl) (v := ?_) ?_ (by assumption) ?_
  rotate_left
  · intro w hSw; (try dsimp only at hSw); go_simp; all_goals with_reducible rfl
  simp only [Act.put, List.setIfInBounds_toArray, List.set_cons_zero, List.set_cons_succ]
  refine take_want 21 (some 182) rfl (by as_aux_lemma => kernel_rfl) (by as_aux_lemma => kernel_rfl) (by as_aux_lemma => kernel_rfl) rfl (fun _ _ _ h => h) (by rfl) (v := (.agg (aiL.ovals q4))) (exec_load 45 _ rfl B24 0 rfl (aiL.ovals q4) (fun w hS => (b38.below hS).range) _ Tryz.underlying45 rfl hia) (by assumption) ?_
  simp only [Act.put, List.setIfInBounds_toArray, List.set_cons_zero, List.set_cons_succ]
  refine wpAnyH_ready (rs := [20]) (by kernel_rfl) (by simp) ?_
  refine AllReadyH.cons rfl (fun K hK => ?_) AllReadyH.nil
  go_simp
  (refine (lis_ok (-587562) 100000000000 _).mono ?_; rintro e W45 ⟨A45, D45, rfl, ba45, bd45, hb45⟩)
  refine hK.out _ _ ?_ (fun hHeld => ?_)
  · first | exact (belowCall hHeld hb45) | fail "keep"
  clear hK K
  try simp only [Act.put, List.setIfInBounds_toArray, List.set_cons_zero, List.set_cons_succ]
  have hq := powX aiL aiL_opt q4 (hca q4) 2 0 W45 (O38.below hHeld) (by decide) (by decide) (ai_pf 2 (by decide)) m (hp38.below hHeld)
  refine wpAnyH_ready (rs := [22]) (by kernel_rfl) (by simp) ?_
  refine AllReadyH.cons rfl (fun K hK => ?_) AllReadyH.nil
  go_simp
  (refine hq.mono ?_; rintro e W46 ⟨C46, rfl, R46, hb46⟩)
  refine hK.out _ _ ?_ (fun hHeld => ?_)
  · first | exact (belowCall hHeld hb46) | fail "keep"
  clear hK K
  try simp only [Act.put, List.setIfInBounds_toArray, List.set_cons_zero, List.set_cons_succ]
  refine take_want 23 (some 184) rfl (by as_aux_lemma => kernel_rfl) (by as_aux_lemma => kernel_rfl) (by as_aux_lemma => kernel_rfl) rfl (fun _ _ _ h => h) (by rfl) (v := ?_) ?_ (by assumption) ?_
  rotate_left
  · intro w hSw; (try dsimp only at hSw); go_simp; all_goals with_reducible rfl
  simp only [Act.put, List.setIfInBounds_toArray, List.set_cons_zero, List.set_cons_succ]
  refine take_want 24 (some 185) rfl (by as_aux_lemma => kernel_rfl) (by as_aux_lemma => kernel_rfl) (by as_aux_lemma => kernel_rfl) rfl (fun _ _ _ h => h) (by rfl) (v := ?_) ?_ (by assumption) ?_
  rotate_left
  · intro w hSw; (try dsimp only at hSw); go_simp; all_goals with_reducible rfl
  simp only [Act.put, List.setIfInBounds_toArray, List.set_cons_zero, List.set_cons_succ]
  have hq := lis1_true (-587562) 100000000000 (by decide) (by decide) (by decide) (by decide) (by decide) C46 _ ai_pow2 W46 R46 A45 D45 (ba45.below hb46) (bd45.below hb46)
  refine wpAnyH_ready (rs := [25]) (by kernel_rfl) (by simp) ?_
  refine AllReadyH.cons rfl (fun K hK => ?_) AllReadyH.nil
  go_simp
  (refine hq.mono ?_; rintro e W47 ⟨rfl, hb47⟩)
  refine hK.out _ _ ?_ (fun hHeld => ?_)
  · first | exact (belowCall hHeld hb47) | fail "keep"
  clear hK K
  try simp only [Act.put, List.setIfInBounds_toArray, List.set_cons_zero, List.set_cons_succ]
  clear hq hb45 hb46 hb47 ba45 bd45 R46
  refine take_want 26 (some 187) rfl (by as_aux_lemma => kernel_rfl) (by as_aux_lemma => kernel_rfl) (by as_aux_lemma => kernel_rfl) rfl (fun _ _ _ h => h) (by rfl) (v := ?_) ?_ (by assumption) ?_
  rotate_left
  · intro w hSw; (try dsimp only at hSw); go_simp; all_goals with_reducible rfl
  simp only [Act.put, List.setIfInBounds_toArray, List.set_cons_zero, List.set_cons_succ]
  refine take_want 27 (some 188) rfl (by as_aux_lemma => kernel_rfl) (by as_aux_lemma => kernel_rfl) (by as_aux_lemma => kernel_rfl) rfl (fun _ _ _ h => h) (by rfl) (v := ?_) ?_ (by assumption) ?_
  rotate_left
  · intro w hSw; (try dsimp only at hSw); go_simp; all_goals with_reducible rfl
  simp only [Act.put, List.setIfInBounds_toArray, List.set_cons_zero, List.set_cons_succ]
  refine take_want 28 (some 189) rfl (by as_aux_lemma => kernel_rfl) (by as_aux_lemma => kernel_rfl) (by as_aux_lemma => kernel_rfl) rfl (fun _ _ _ h => h) (by rfl) (v := ?_) ?_ (by assumption) ?_
  rotate_left
  · intro w hSw; (try dsimp only at hSw); go_simp; all_goals with_reducible rfl
  simp only [Act.put, List.setIfInBounds_toArray, List.set_cons_zero, List.set_cons_succ]
  refine take_want 29 (some 190) rfl (by as_aux_lemma => kernel_rfl) (by as_aux_lemma => kernel_rfl) (by as_aux_lemma => kernel_rfl) rfl (fun _ _ _ h => h) (by rfl) (v := ?_) ?_ (by assumption) ?_
  rotate_left
  · intro w hSw; (try dsimp only at hSw); go_simp; all_goals with_reducible rfl
  simp only [Act.put, List.setIfInBounds_toArray, List.set_cons_zero, List.set_cons_succ]
  refine take_want 30 (some 191) rfl (by as_aux_lemma => kernel_rfl) (by as_aux_lemma => kernel_rfl) (by as_aux_lemma => kernel_rfl) rfl (fun _ _ _ h => h) (by rfl) (v := ?_) ?_ (by assumption) ?_
  rotate_left
  · intro w hSw; (try dsimp only at hSw); go_simp; all_goals with_reducible rfl
  simp only [Act.put, List.setIfInBounds_toArray, List.set_cons_zero, List.set_cons_succ]
  refine take_want 31 (some 192) rfl (by as_aux_lemma => kernel_rfl) (by as_aux_lemma => kernel_rfl) (by as_aux_lemma => kernel_rfl) rfl (fun _ _ _ h => h) (by rfl) (v := ?_) ?_ (by assumption) ?_
  rotate_left
  · intro w hSw; (try dsimp only at hSw); go_simp; all_goals with_reducible rfl
  simp only [Act.put, List.setIfInBounds_toArray, List.set_cons_zero, List.set_cons_succ]
  refine take_want 32 (some 193) rfl (by as_aux_lemma => kernel_rfl) (by as_aux_lemma => kernel_rfl) (by as_aux_lemma => kernel_rfl) rfl (fun _ _ _ h => h) (by rfl) (v := ?_) ?_ (by assumption) ?_
  rotate_left
  · intro w hSw; (try dsimp only at hSw); go_simp; all_goals with_reducible rfl
  simp only [Act.put, List.setIfInBounds_toArray, List.set_cons_zero, List.set_cons_succ]
  refine take_want 33 (some 194) rfl (by as_aux_lemma => kernel_rfl) (by as_aux_lemma => kernel_rfl) (by as_aux_lemma => kernel_rfl) rfl (fun _ _ _ h => h) (by rfl) (v := ?_) ?_ (by assumption) ?_
  rotate_left
  · intro w hSw; (try dsimp only at hSw); go_simp; all_goals with_reducible rfl
  simp only [Act.put, List.setIfInBounds_toArray, List.set_cons_zero, List.set_cons_succ]
  refine take_want 34 (some 195) rfl (by as_aux_lemma => kernel_rfl) (by as_aux_lemma => kernel_rfl) (by as_aux_lemma => kernel_rfl) rfl (fun _ _ _ h => h) (by rfl) (v := ?_) ?_ (by assumption) ?_
  rotate_left
  · intro w hSw; (try dsimp only at hSw); go_simp; all_goals with_reducible rfl
  simp only [Act.put, List.setIfInBounds_toArray, List.set_cons_zero, List.set_cons_succ]
  refine take_want 35 (some 196) rfl (by as_aux_lemma => kernel_rfl) (by as_aux_lemma => kernel_rfl) (by as_aux_lemma => kernel_rfl) rfl (fun _ _ _ h => h) (by rfl) (v := ?_) ?_ (by assumption) ?_
  rotate_left
  · intro w hSw; (try dsimp only at hSw); go_simp; all_goals with_reducible rfl
  simp only [Act.put, List.setIfInBounds_toArray, List.set_cons_zero, List.set_cons_succ]
  refine take_want 36 (some 197) rfl (by as_aux_lemma => kernel_rfl) (by as_aux_lemma => kernel_rfl) (by as_aux_lemma => kernel_rfl) rfl (fun _ _ _ h => h) (by rfl) (v := ?_) ?_ (by assumption) ?_
  rotate_left
  · intro w hSw; (try dsimp only at hSw); go_simp; all_goals with_reducible rfl
  simp only [Act.put, List.setIfInBounds_toArray, List.set_cons_zero, List.set_cons_succ]
  refine take_want 37 (some 198) rfl (by as_aux_lemma => kernel_rfl) (by as_aux_lemma => kernel_rfl) (by as_aux_lemma => kernel_rfl) rfl (fun _ _ _ h => h) (by rfl) (v := ?_) ?_ (by assumption) ?_
  rotate_left
  · intro w hSw; (try dsimp only at hSw); go_simp; all_goals with_reducible rfl
  simp only [Act.put, List.setIfInBounds_toArray, List.set_cons_zero, List.set_cons_succ]
  refine take_want 38 (some 199) rfl (by as_aux_lemma => kernel_rfl) (by as_aux_lemma => kernel_rfl) (by as_aux_lemma => kernel_rfl) rfl (fun _ _ _ h => h) (by rfl) (v := ?_) ?_ (by assumption) ?_
  rotate_left
  · intro w hSw; (try dsimp only at hSw); go_simp; all_goals with_reducible rfl
  simp only [Act.put, List.setIfInBounds_toArray, List.set_cons_zero, List.set_cons_succ]
  refine take_want 39 (some 200) rfl (by as_aux_lemma => kernel_rfl) (by as_aux_lemma => kernel_rfl) (by as_aux_lemma => kernel_rfl) rfl (fun _ _ _ h => h) (by rfl) (v := ?_) ?_ (by assumption) ?_
  rotate_left
  · intro w hSw; (try dsimp only at hSw); go_simp; all_goals with_reducible rfl
  simp only [Act.put, List.setIfInBounds_toArray, List.set_cons_zero, List.set_cons_succ]
  refine take_want 40 (some 201) rfl (by as_aux_lemma => kernel_rfl) (by as_aux_lemma => kernel_rfl) (by as_aux_lemma => kernel_rfl) rfl (fun _ _ _ h => h) (by rfl) (v := (.agg #[c0, c1, c2, c3])) (exec_load 54 _ rfl b (off + 8) rfl #[c0, c1, c2, c3] (fun w hS => rgA w hS) _ Tryz.underlying54 rfl i4a) (by assumption) ?_
  simp only [Act.put, List.setIfInBounds_toArray, List.set_cons_zero, List.set_cons_succ]
  refine wpAnyH_ready (rs := [41]) (by kernel_rfl) (by simp) ?_
  refine AllReadyH.cons rfl (fun K hK => ?_) AllReadyH.nil
  go_simp
  (refine (lwof_ok (3) 4 (by decide) _ (by decide) (by decide) (by decide) (by decide)).mono ?_; rintro e W48 ⟨C48, rfl, R48, hb48⟩)
  refine hK.out _ _ ?_ (fun hHeld => ?_)
  · first | exact (belowCall hHeld hb48) | fail "keep"
  clear hK K
  try simp only [Act.put, List.setIfInBounds_toArray, List.set_cons_zero, List.set_cons_succ]
  have hq := qsame_true _ _ _ _ (rfl) _ (RA.ext (.of_below hHeld)) R48
  refine wpAnyH_ready (rs := [42]) (by kernel_rfl) (by simp) ?_
  refine AllReadyH.cons rfl (fun K hK => ?_) AllReadyH.nil
  go_simp
  (refine hq.mono ?_; rintro e W49 ⟨rfl, hb49⟩)
  refine hK.out _ _ ?_ (fun hHeld => ?_)
  · first | exact (belowCall hHeld hb49) | fail "keep"
  clear hK K
  try simp only [Act.put, List.setIfInBounds_toArray, List.set_cons_zero, List.set_cons_succ]
  clear hq R48 hb48 hb49
  refine take_want 43 (some 204) rfl (by as_aux_lemma => kernel_rfl) (by as_aux_lemma => kernel_rfl) (by as_aux_lemma => kernel_rfl) rfl (fun _ _ _ h => h) (by rfl) (v := ?_) ?_ (by assumption) ?_
  rotate_left
  · intro w hSw; (try dsimp only at hSw); go_simp; all_goals with_reducible rfl
  simp only [Act.put, List.setIfInBounds_toArray, List.set_cons_zero, List.set_cons_succ]
  refine take_want 44 (some 205) rfl (by as_aux_lemma => kernel_rfl) (by as_aux_lemma => kernel_rfl) (by as_aux_lemma => kernel_rfl) rfl (fun _ _ _ h => h) (by rfl) (v := ?_) ?_ (by assumption) ?_
  rotate_left
  · intro w hSw; (try dsimp only at hSw); go_simp; all_goals with_reducible rfl
  simp only [Act.put, List.setIfInBounds_toArray, List.set_cons_zero, List.set_cons_succ]
  refine take_want 45 (some 206) rfl (by as_aux_lemma => kernel_rfl) (by as_aux_lemma => kernel_rfl) (by as_aux_lemma => kernel_rfl) rfl (fun _ _ _ h => h) (by rfl) (v := ?_) ?_ (by assumption) ?_
  rotate_left
  · intro w hSw; (try dsimp only at hSw); go_simp; all_goals with_reducible rfl
  simp only [Act.put, List.setIfInBounds_toArray, List.set_cons_zero, List.set_cons_succ]
  refine take_want 46 (some 207) rfl (by as_aux_lemma => kernel_rfl) (by as_aux_lemma => kernel_rfl) (by as_aux_lemma => kernel_rfl) rfl (fun _ _ _ h => h) (by rfl) (v := ?_) ?_ (by assumption) ?_
  rotate_left
  · intro w hSw; (try dsimp only at hSw); go_simp; all_goals with_reducible rfl
  simp only [Act.put, List.setIfInBounds_toArray, List.set_cons_zero, List.set_cons_succ]
  refine take_want 47 (some 208) rfl (by as_aux_lemma => kernel_rfl) (by as_aux_lemma => kernel_rfl) (by as_aux_lemma => kernel_rfl) rfl (fun _ _ _ h => h) (by rfl) (v := ?_) ?_ (by assumption) ?_
  rotate_left
  · intro w hSw; (try dsimp only at hSw); go_simp; all_goals with_reducible rfl
  simp only [Act.put, List.setIfInBounds_toArray, List.set_cons_zero, List.set_cons_succ]
  refine take_want 48 (some 209) rfl (by as_aux_lemma => kernel_rfl) (by as_aux_lemma => kernel_rfl) (by as_aux_lemma => kernel_rfl) rfl (fun _ _ _ h => h) (by rfl) (v := (.agg #[d0, d1, d2, d3])) (exec_load 54 _ rfl b (off + 16) rfl #[d0, d1, d2, d3] (fun w hS => rgC w hS) _ Tryz.underlying54 rfl i4c) (by assumption) ?_
  simp only [Act.put, List.setIfInBounds_toArray, List.set_cons_zero, List.set_cons_succ]
  refine wpAnyH_ready (rs := [49]) (by kernel_rfl) (by simp) ?_
  refine AllReadyH.cons rfl (fun K hK => ?_) AllReadyH.nil
  go_simp
  (refine (lwof_ok (1) 2 (by decide) _ (by decide) (by decide) (by decide) (by decide)).mono ?_; rintro e W50 ⟨C50, rfl, R50, hb50⟩)
  refine hK.out _ _ ?_ (fun hHeld => ?_)
  · first | exact (belowCall hHeld hb50) | fail "keep"
  clear hK K
  try simp only [Act.put, List.setIfInBounds_toArray, List.set_cons_zero, List.set_cons_succ]
  have hq := qsame_true _ _ _ _ (eA.out) _ (RC.ext (.of_below hHeld)) R50
  refine wpAnyH_ready (rs := [50]) (by kernel_rfl) (by simp) ?_
  refine AllReadyH.cons rfl (fun K hK => ?_) AllReadyH.nil
  go_simp
  (refine hq.mono ?_; rintro e W51 ⟨rfl, hb51⟩)
  refine hK.out _ _ ?_ (fun hHeld => ?_)
  · first | exact (belowCall hHeld hb51) | fail "keep"
  clear hK K
  try simp only [Act.put, List.setIfInBounds_toArray, List.set_cons_zero, List.set_cons_succ]
  clear hq R50 hb50 hb51
  refine take_want 51 (some 212) rfl (by as_aux_lemma => kernel_rfl) (by as_aux_lemma => kernel_rfl) (by as_aux_lemma => kernel_rfl) rfl (fun _ _ _ h => h) (by rfl) (v := ?_) ?_ (by assumption) ?_
  rotate_left
  · intro w hSw; (try dsimp only at hSw); go_simp; all_goals with_reducible rfl
  simp only [Act.put, List.setIfInBounds_toArray, List.set_cons_zero, List.set_cons_succ]
  refine take_want 52 (some 213) rfl (by as_aux_lemma => kernel_rfl) (by as_aux_lemma => kernel_rfl) (by as_aux_lemma => kernel_rfl) rfl (fun _ _ _ h => h) (by rfl) (v := ?_) ?_ (by assumption) ?_
  rotate_left
  · intro w hSw; (try dsimp only at hSw); go_simp; all_goals with_reducible rfl
  simp only [Act.put, List.setIfInBounds_toArray, List.set_cons_zero, List.set_cons_succ]
  refine take_want 53 (some 214) rfl (by as_aux_lemma => kernel_rfl) (by as_aux_lemma => kernel_rfl) (by as_aux_lemma => kernel_rfl) rfl (fun _ _ _ h => h) (by rfl) (v := ?_) ?_ (by assumption) ?_
  rotate_left
  · intro w hSw; (try dsimp only at hSw); go_simp; all_goals with_reducible rfl
  simp only [Act.put, List.setIfInBounds_toArray, List.set_cons_zero, List.set_cons_succ]
  refine take_want 54 (some 215) rfl (by as_aux_lemma => kernel_rfl) (by as_aux_lemma => kernel_rfl) (by as_aux_lemma => kernel_rfl) rfl (fun _ _ _ h => h) (by rfl) (v := ?_) ?_ (by assumption) ?_
  rotate_left
  · intro w hSw; (try dsimp only at hSw); go_simp; all_goals with_reducible rfl
  simp only [Act.put, List.setIfInBounds_toArray, List.set_cons_zero, List.set_cons_succ]
  refine take_want 55 (some 216) rfl (by as_aux_lemma => kernel_rfl) (by as_aux_lemma => kernel_rfl) (by as_aux_lemma => kernel_rfl) rfl (fun _ _ _ h => h) (by rfl) (v := ?_) ?_ (by assumption) ?_
  rotate_left
  · intro w hSw; (try dsimp only at hSw); go_simp; all_goals with_reducible rfl
  simp only [Act.put, List.setIfInBounds_toArray, List.set_cons_zero, List.set_cons_succ]
  refine take_want 56 (some 217) rfl (by as_aux_lemma => kernel_rfl) (by as_aux_lemma => kernel_rfl) (by as_aux_lemma => kernel_rfl) rfl (fun _ _ _ h => h) (by rfl) (v := (.agg #[c4, c5, c6, c7])) (exec_load 54 _ rfl b (off + 8 + 4) rfl #[c4, c5, c6, c7] (fun w hS => rgB w hS) _ Tryz.underlying54 rfl i4b) (by assumption) ?_
  simp only [Act.put, List.setIfInBounds_toArray, List.set_cons_zero, List.set_cons_succ]
  refine wpAnyH_ready (rs := [57]) (by kernel_rfl) (by simp) ?_
  refine AllReadyH.cons rfl (fun K hK => ?_) AllReadyH.nil
  go_simp
  (refine (lwof_ok (-1) 20 (by decide) _ (by decide) (by decide) (by decide) (by decide)).mono ?_; rintro e W52 ⟨C52, rfl, R52, hb52⟩)
  refine hK.out _ _ ?_ (fun hHeld => ?_)
  · first | exact (belowCall hHeld hb52) | fail "keep"
  clear hK K
  try simp only [Act.put, List.setIfInBounds_toArray, List.set_cons_zero, List.set_cons_succ]
  have hq := qsame_true _ _ _ _ (rfl) _ (RB.ext (.of_below hHeld)) R52
  refine wpAnyH_ready (rs := [58]) (by kernel_rfl) (by simp) ?_
  refine AllReadyH.cons rfl (fun K hK => ?_) AllReadyH.nil
  go_simp
  (refine hq.mono ?_; rintro e W53 ⟨rfl, hb53⟩)
  refine hK.out _ _ ?_ (fun hHeld => ?_)
  · first | exact (belowCall hHeld hb53) | fail "keep"
  clear hK K
  try simp only [Act.put, List.setIfInBounds_toArray, List.set_cons_zero, List.set_cons_succ]
  clear hq R52 hb52 hb53
  refine take_want 59 (some 220) rfl (by as_aux_lemma => kernel_rfl) (by as_aux_lemma => kernel_rfl) (by as_aux_lemma => kernel_rfl) rfl (fun _ _ _ h => h) (by rfl) (v := ?_) ?_ (by assumption) ?_
  rotate_left
  · intro w hSw; (try dsimp only at hSw); go_simp; all_goals with_reducible rfl
  simp only [Act.put, List.setIfInBounds_toArray, List.set_cons_zero, List.set_cons_succ]
  refine take_want 60 (some 0) rfl (by as_aux_lemma => kernel_rfl) (by as_aux_lemma => kernel_rfl) (by as_aux_lemma => kernel_rfl) rfl (fun _ _ _ h => h) (by rfl) (v := ?_) ?_ (by assumption) ?_
  rotate_left
  · intro w hSw; (try dsimp only at hSw); go_simp; all_goals with_reducible rfl
  simp only [Act.put, List.setIfInBounds_toArray, List.set_cons_zero, List.set_cons_succ]
  refine wpAnyH_done (by as_aux_lemma => kernel_rfl) ?_ _
  go_wp2
  go_ret
  exact ⟨rfl, belowCall hw38 hHeld⟩
end Go.Proofs.YtepodcocemmejaaGreatDoor
