/- Part 30 of 52 of the proof that the law ParaxialKnown returns true, whatever stands in memory, if the two listed variables hold what the text lays: contracts of the functions that it reaches. No condition beside the row. -/
import Derived.Test.YtepodcocemmejaaGreatDoorA28
set_option linter.unusedVariables false
set_option linter.unusedSimpArgs false
namespace Go.Proofs.YtepodcocemmejaaGreatDoor
open Go.RowKit Go.Mono
theorem eqfilm_nil (p p' : Option Addr) (c c' : Nat) (w : World) :
    Calls Tryz.prog 251 #[.slice p 0 c, .slice p' 0 c'] w fun e w' => e = .returned (.bool true) ∧ w' = w := by
  go_enter Tryz.func251, Tryz.ntmps251
  go_wp2
  go_loopw [13] (fun a wr => a = .int .i64 0 ∧ wr = w) (fun _ _ => 0)
  case atStart => exact ⟨rfl, rfl⟩
  case round =>
    obtain ⟨rfl, rfl⟩ := hrel
    go_wp2
    go_ret
    exact ⟨rfl, rfl⟩
theorem enters_same1 : ∀ args w, (callFunc 250 args).run Tryz.prog w = .ok (.enter 250 args) w := Go.Proofs.enters_of Tryz.func250 (by kernel_rfl) rfl
theorem Srf.cs_size (s : Srf) (p : Option Addr) (c : Nat) : (s.cs p c).size = 22 := rfl
set_option maxRecDepth 100000 in
set_option maxHeartbeats 1000000 in
theorem same_parts (A C FL : Array Value) (hA : A.size = 22) (hC : C.size = 22) (p p' : Option Addr) (c c' : Nat) (a21 : A[21]? = some (.slice p 0 c)) (c21 : C[21]? = some (.slice p' 0 c'))
    (hca : ∀ W, Calls Tryz.prog 250 #[.agg A] W fun e w' => e = .returned (.agg FL) ∧ Below W.heap.size W w') (hcc : ∀ W, Calls Tryz.prog 250 #[.agg C] W fun e w' => e = .returned (.agg FL) ∧ Below W.heap.size W w')
    (heq : ∀ w, (binOp .eql 300 (.agg FL) (.agg FL)).run Tryz.prog w = .ok (.bool true) w) (w : World) :
    Calls Tryz.prog 232 #[.agg A, .agg C] w fun e w' => e = .returned (.bool true) ∧ Below w.heap.size w w' := by
  have hsz : (Tryz.prog.info? 95).map (·.size) = some 22 := by kernel_rfl
  have eg := enters_same1
  go_enter Tryz.func232, Tryz.ntmps232
  go_wp2_with fail
  refine boxes2 fun W hB hs b0 b1 => ?_
  have f0 : W.cell? ⟨w.heap.size, 21, none⟩ = some (.slice p 0 c) := (b0.cell 21).trans a21
  have f1 : W.cell? ⟨w.heap.size + 1, 21, none⟩ = some (.slice p' 0 c') := (b1.cell 21).trans c21
  have lb0 := b0.lt
  have lb1 := b1.lt
  have sA : (Tryz.prog.info? 95).map (·.size) = some A.size := by rw [hsz, hA]
  have sC : (Tryz.prog.info? 95).map (·.size) = some C.size := by rw [hsz, hC]
  clear hA hC hsz a21 c21
  refine wp_region_held_drew (S := fun w' => (∀ b o, b < W.heap.size → w'.cell? ⟨b, o, none⟩ = W.cell? ⟨b, o, none⟩) ∧ Below W.heap.size W w') (by kernel_rfl) (belowS (Below.refl _ _).drew) (fun hHeld => ?_)
  refine take_want 0 (some 6) rfl (by kernel_rfl) (by kernel_rfl) (by kernel_rfl) rfl (fun _ _ _ h => h) (by rfl) (v := ?_) ?_ (by assumption) ?_
  rotate_left
  · intro w hSw; (try dsimp only at hSw); go_simp; all_goals with_reducible rfl
  simp only [Act.put, List.setIfInBounds_toArray, List.set_cons_zero, List.set_cons_succ]
  refine take_want 3 (some 9) rfl (by kernel_rfl) (by kernel_rfl) (by kernel_rfl) rfl (fun _ _ _ h => h) (by rfl) (v := ?_) ?_ (by assumption) ?_
  rotate_left
  · intro w hSw; (try dsimp only at hSw); go_simp; all_goals with_reducible rfl
  simp only [Act.put, List.setIfInBounds_toArray, List.set_cons_zero, List.set_cons_succ]
  refine take_want 1 (some 7) rfl (by as_aux_lemma => kernel_rfl) (by as_aux_lemma => kernel_rfl) (by as_aux_lemma => kernel_rfl) rfl (fun _ _ _ h => h) (by rfl) (v := (.agg A)) (exec_load 95 _ rfl w.heap.size 0 rfl A (fun w h => (b0.below h.2).range) _ Tryz.underlying95 rfl sA) (by assumption) ?_
  simp only [Act.put, List.setIfInBounds_toArray, List.set_cons_zero, List.set_cons_succ]
  refine take_want 4 (some 10) rfl (by as_aux_lemma => kernel_rfl) (by as_aux_lemma => kernel_rfl) (by as_aux_lemma => kernel_rfl) rfl (fun _ _ _ h => h) (by rfl) (v := (.agg C)) (exec_load 95 _ rfl (w.heap.size + 1) 0 rfl C (fun w h => (b1.below h.2).range) _ Tryz.underlying95 rfl sC) (by assumption) ?_
  simp only [Act.put, List.setIfInBounds_toArray, List.set_cons_zero, List.set_cons_succ]
  refine wpAnyH_ready (rs := [2]) (by kernel_rfl) (by simp) ?_
  refine AllReadyH.cons rfl (fun K hK => ?_) AllReadyH.nil
  go_simp
  (refine (hca _).mono ?_; rintro e W1 ⟨rfl, hb⟩)
  refine hK.out _ _ ?_ (fun hHeld => ?_)
  · first | exact (belowS (belowCall hHeld.2 hb)) | fail "keep"
  clear hK K
  try simp only [Act.put, List.setIfInBounds_toArray, List.set_cons_zero, List.set_cons_succ]
  clear hb
  refine wpAnyH_ready (rs := [5]) (by kernel_rfl) (by simp) ?_
  refine AllReadyH.cons rfl (fun K hK => ?_) AllReadyH.nil
  go_simp
  (refine (hcc _).mono ?_; rintro e W2 ⟨rfl, hb⟩)
  refine hK.out _ _ ?_ (fun hHeld => ?_)
  · first | exact (belowS (belowCall hHeld.2 hb)) | fail "keep"
  clear hK K
  try simp only [Act.put, List.setIfInBounds_toArray, List.set_cons_zero, List.set_cons_succ]
  clear hb
  refine take_want 6 (some 12) rfl (by kernel_rfl) (by kernel_rfl) (by kernel_rfl) rfl (fun _ _ _ h => h) (by rfl) (v := ?_) ?_ (by assumption) ?_
  rotate_left
  · intro w hSw; (try dsimp only at hSw); go_simp; all_goals with_reducible rfl
  simp only [Act.put, List.setIfInBounds_toArray, List.set_cons_zero, List.set_cons_succ]
  refine take_want 7 (some 13) rfl (by kernel_rfl) (by kernel_rfl) (by kernel_rfl) rfl (fun _ _ _ h => h) (by rfl) (v := ?_) ?_ (by assumption) ?_
  rotate_left
  · intro w hSw; (try dsimp only at hSw); go_simp; all_goals with_reducible rfl
  simp only [Act.put, List.setIfInBounds_toArray, List.set_cons_zero, List.set_cons_succ]
  refine take_want 8 (some 14) rfl (by kernel_rfl) (by kernel_rfl) (by kernel_rfl) rfl (fun _ _ _ h => h) (by rfl) (v := ?_) ?_ (by assumption) ?_
  rotate_left
  · intro w hSw; (try dsimp only at hSw); go_simp; all_goals with_reducible rfl
  simp only [Act.put, List.setIfInBounds_toArray, List.set_cons_zero, List.set_cons_succ]
  refine take_want 9 (some 15) rfl (by kernel_rfl) (by kernel_rfl) (by kernel_rfl) rfl (fun _ _ _ h => h) (by rfl) (v := ?_) ?_ (by assumption) ?_
  rotate_left
  · intro w hSw; (try dsimp only at hSw); go_simp; all_goals with_reducible rfl
  simp only [Act.put, List.setIfInBounds_toArray, List.set_cons_zero, List.set_cons_succ]
  refine take_want 10 (some 16) rfl (by kernel_rfl) (by kernel_rfl) (by kernel_rfl) rfl (fun _ _ _ h => h) (by rfl) (v := ?_) ?_ (by assumption) ?_
  rotate_left
  · intro w hSw; (try dsimp only at hSw); go_simp; all_goals with_reducible rfl
  simp only [Act.put, List.setIfInBounds_toArray, List.set_cons_zero, List.set_cons_succ]
  refine take_want 11 (some 17) rfl (by kernel_rfl) (by kernel_rfl) (by kernel_rfl) rfl (fun _ _ _ h => h) (by rfl) (v := ?_) ?_ (by assumption) ?_
  rotate_left
  · intro w hSw; (try dsimp only at hSw); go_simp; all_goals with_reducible rfl
  simp only [Act.put, List.setIfInBounds_toArray, List.set_cons_zero, List.set_cons_succ]
  refine wpAnyH_ready (rs := [12]) (by kernel_rfl) (by simp) ?_
  refine AllReadyH.cons rfl (fun K hK => ?_) AllReadyH.nil
  go_simp
  (refine (eqfilm_nil p p' c c' _).mono ?_; rintro e W3 ⟨rfl, rfl⟩)
  refine hK.out _ _ ?_ (fun hHeld => ?_)
  · first | exact (hHeld) | fail "keep"
  clear hK K
  try simp only [Act.put, List.setIfInBounds_toArray, List.set_cons_zero, List.set_cons_succ]
  refine take_want 13 (some 19) rfl (by kernel_rfl) (by kernel_rfl) (by kernel_rfl) rfl (fun _ _ _ h => h) (by rfl) (v := ?_) ?_ (by assumption) ?_
  rotate_left
  · intro w hSw; (try dsimp only at hSw); go_simp; all_goals with_reducible rfl
  simp only [Act.put, List.setIfInBounds_toArray, List.set_cons_zero, List.set_cons_succ]
  refine take_want 14 (some 4) rfl (by kernel_rfl) (by kernel_rfl) (by kernel_rfl) rfl (fun _ _ _ h => h) (by rfl) (v := ?_) ?_ (by assumption) ?_
  rotate_left
  · intro w hSw; (try dsimp only at hSw); go_simp; all_goals with_reducible rfl
  simp only [Act.put, List.setIfInBounds_toArray, List.set_cons_zero, List.set_cons_succ]
  refine wpAnyH_done (by kernel_rfl) ?_ _
  go_wp2
  go_ret
  exact ⟨rfl, belowCall hB hHeld.2⟩
/-- surface.Same of a surface with itself -/
theorem same_ok (s : Srf) (hs : s.ok) (p p' : Option Addr) (c c' : Nat) (w : World) :
    Calls Tryz.prog 232 #[.agg (s.cs p c), .agg (s.cs p' c')] w fun e w' => e = .returned (.bool true) ∧ Below w.heap.size w w' :=
  same_parts (s.cs p c) (s.cs p' c') s.flds rfl rfl p p' c c' rfl rfl (fun W => same1_ok s p c W) (fun W => same1_ok s p' c' W) (eql_flds s hs) w
end Go.Proofs.YtepodcocemmejaaGreatDoor
namespace Go.Proofs.YtepodcocemmejaaGreatDoor
open Go.RowKit Go.Mono
set_option maxRecDepth 100000 in
set_option maxHeartbeats 1000000 in
theorem scheck1_ok (s : Srf) (hs : s.ok) (p : Option Addr) (c B : Nat) (w : World) (b0 : Box w B 95 (s.cs p c)) :
    Calls Tryz.prog 230 #[.pointer (some ⟨B, 0, none⟩)] w fun e w' => e = .returned (.bool true) ∧ Below w.heap.size w w' := by
  have hsz : (Tryz.prog.info? 95).map (·.size) = some (s.cs p c).size := by kernel_rfl
  have f0 : w.cell? ⟨B, 0, none⟩ = some (.int .i64 s.kind) := b0.cell 0
  have lb0 := b0.lt
  have hkept := fun W => kept_ok s hs p c W
  have hsame := fun p' c' W => same_ok s hs p p' c c' W
  have k1 := hs.k1
  have k2 := hs.k2
  clear hs
  generalize s.kind = kd at *
  generalize s.cs p c = A at *
  go_enter Tryz.func230, Tryz.ntmps230
  go_wp2_with fail
  refine wp_region_held_drew (S := fun w' => (∀ b o, b < w.heap.size → w'.cell? ⟨b, o, none⟩ = w.cell? ⟨b, o, none⟩) ∧ Below w.heap.size w w') (by kernel_rfl) (belowS (Below.refl _ _).drew) (fun hHeld => ?_)
  refine take_want 0 (some 2) rfl (by kernel_rfl) (by kernel_rfl) (by kernel_rfl) rfl (fun _ _ _ h => h) (by rfl) (v := ?_) ?_ (by assumption) ?_
  rotate_left
  · intro w hSw; (try dsimp only at hSw); go_simp; all_goals with_reducible rfl
  simp only [Act.put, List.setIfInBounds_toArray, List.set_cons_zero, List.set_cons_succ]
  refine take_want 1 (some 3) rfl (by kernel_rfl) (by kernel_rfl) (by kernel_rfl) rfl (fun _ _ _ h => h) (by rfl) (v := ?_) ?_ (by assumption) ?_
  rotate_left
  · intro w hSw; (try dsimp only at hSw); go_simp; all_goals with_reducible rfl
  simp only [Act.put, List.setIfInBounds_toArray, List.set_cons_zero, List.set_cons_succ]
  refine wpAnyH_ready (rs := [2]) (by kernel_rfl) (by simp) ?_
  refine AllReadyH.cons rfl (fun K hK => ?_) AllReadyH.nil
  go_simp
  skip
  refine hK.out _ _ ?_ (fun hHeld => ?_)
  · first | exact (belowS (belowAlloc hHeld.2 _)) | fail "keep"
  clear hK K
  try simp only [Act.put, List.setIfInBounds_toArray, List.set_cons_zero, List.set_cons_succ]
  refine wpAnyH_ready (rs := [3]) (by kernel_rfl) (by simp) ?_
  refine AllReadyH.cons rfl (fun K hK => ?_) AllReadyH.nil
  go_simp
  (refine (between_ok 1 4 1 _ _ (fun _ => kd) _ (.box (Box.new w 3 #[.int .i64 kd]).drew 0 1 _ (fun i hi => by obtain rfl : i = 0 := (by omega); rfl) (by omega)) (fun _ _ => ⟨k1, k2⟩)).mono ?_; rintro e W1 ⟨rfl, hb⟩)
  refine hK.out _ _ ?_ (fun hHeld => ?_)
  · first | exact (belowS (belowCall hHeld.2 hb)) | fail "keep"
  clear hK K
  try simp only [Act.put, List.setIfInBounds_toArray, List.set_cons_zero, List.set_cons_succ]
  clear hb
  refine take_want 4 (some 6) rfl (by kernel_rfl) (by kernel_rfl) (by kernel_rfl) rfl (fun _ _ _ h => h) (by rfl) (v := ?_) ?_ (by assumption) ?_
  rotate_left
  · intro w hSw; (try dsimp only at hSw); go_simp; all_goals with_reducible rfl
  simp only [Act.put, List.setIfInBounds_toArray, List.set_cons_zero, List.set_cons_succ]
  refine take_want 5 (some 7) rfl (by as_aux_lemma => kernel_rfl) (by as_aux_lemma => kernel_rfl) (by as_aux_lemma => kernel_rfl) rfl (fun _ _ _ h => h) (by rfl) (v := (.agg A)) (exec_load 95 _ rfl B 0 rfl A (fun w h => (b0.below h.2).range) _ Tryz.underlying95 rfl hsz) (by assumption) ?_
  simp only [Act.put, List.setIfInBounds_toArray, List.set_cons_zero, List.set_cons_succ]
  refine take_want 6 (some 8) rfl (by as_aux_lemma => kernel_rfl) (by as_aux_lemma => kernel_rfl) (by as_aux_lemma => kernel_rfl) rfl (fun _ _ _ h => h) (by rfl) (v := (.agg A)) (exec_load 95 _ rfl B 0 rfl A (fun w h => (b0.below h.2).range) _ Tryz.underlying95 rfl hsz) (by assumption) ?_
  simp only [Act.put, List.setIfInBounds_toArray, List.set_cons_zero, List.set_cons_succ]
  refine wpAnyH_ready (rs := [7]) (by kernel_rfl) (by simp) ?_
  refine AllReadyH.cons rfl (fun K hK => ?_) AllReadyH.nil
  go_simp
  (refine (hkept _).mono ?_; rintro e W2 ⟨⟨p', c', rfl⟩, hb⟩)
  refine hK.out _ _ ?_ (fun hHeld => ?_)
  · first | exact (belowS (belowCall hHeld.2 hb)) | fail "keep"
  clear hK K
  try simp only [Act.put, List.setIfInBounds_toArray, List.set_cons_zero, List.set_cons_succ]
  clear hb
  refine wpAnyH_ready (rs := [8]) (by kernel_rfl) (by simp) ?_
  refine AllReadyH.cons rfl (fun K hK => ?_) AllReadyH.nil
  go_simp
  (refine (hsame p' c' _).mono ?_; rintro e W3 ⟨rfl, hb⟩)
  refine hK.out _ _ ?_ (fun hHeld => ?_)
  · first | exact (belowS (belowCall hHeld.2 hb)) | fail "keep"
  clear hK K
  try simp only [Act.put, List.setIfInBounds_toArray, List.set_cons_zero, List.set_cons_succ]
  clear hb
  refine take_want 9 (some 11) rfl (by kernel_rfl) (by kernel_rfl) (by kernel_rfl) rfl (fun _ _ _ h => h) (by rfl) (v := ?_) ?_ (by assumption) ?_
  rotate_left
  · intro w hSw; (try dsimp only at hSw); go_simp; all_goals with_reducible rfl
  simp only [Act.put, List.setIfInBounds_toArray, List.set_cons_zero, List.set_cons_succ]
  refine take_want 10 (some 1) rfl (by kernel_rfl) (by kernel_rfl) (by kernel_rfl) rfl (fun _ _ _ h => h) (by rfl) (v := ?_) ?_ (by assumption) ?_
  rotate_left
  · intro w hSw; (try dsimp only at hSw); go_simp; all_goals with_reducible rfl
  simp only [Act.put, List.setIfInBounds_toArray, List.set_cons_zero, List.set_cons_succ]
  refine wpAnyH_done (by kernel_rfl) ?_ _
  go_wp2
  go_ret
  exact ⟨rfl, hHeld.2⟩
end Go.Proofs.YtepodcocemmejaaGreatDoor
