/- Part 48 of 52 of the proof that the law ParaxialKnown returns true, whatever stands in memory, if the two listed variables hold what the text lays: contracts of the functions that it reaches. No condition beside the row. -/
import Derived.Test.YtepodcocemmejaaGreatDoorA47
set_option linter.unusedVariables false
set_option linter.unusedSimpArgs false
namespace Go.Mono
open Go.RowKit
theorem quarter_range {w : World} {b o : Nat} {a0 a1 a2 a3 : Value} (e0 : w.cell? ⟨b, o, none⟩ = some a0) (e1 : w.cell? ⟨b, o + 1, none⟩ = some a1) (e2 : w.cell? ⟨b, o + 2, none⟩ = some a2) (e3 : w.cell? ⟨b, o + 3, none⟩ = some a3) : w.rangeAt b o (#[a0, a1, a2, a3] : Array Value).toList := fun j v hv => by
  match j, hv with
  | 0, hv => simpa [e0] using hv
  | 1, hv => simpa [e1] using hv
  | 2, hv => simpa [e2] using hv
  | 3, hv => simpa [e3] using hv
  | n + 4, hv => simp at hv
end Go.Mono
namespace Go.Proofs.YtepodcocemmejaaGreatDoor
open Go.RowKit Go.Mono
def small (z : Int) : Prop := -1000000000000 ≤ z ∧ z ≤ 1000000000000
set_option maxRecDepth 100000 in
set_option maxHeartbeats 1500000 in
theorem pencils_ok (n : Nat) (hn : 0 < n) (hn2 : n ≤ 16) (base : Nat) (p : Option Addr) (c : Nat) (f : Nat → Rat × Rat) (pw : Option Addr) (cw : Nat) (x : Nat → Nat → Int) (hx : ∀ i j, i < n → j < 4 → small (x i j)) (hx1 : ∀ i, i < n → x i 1 ≠ 0) (hx3 : ∀ i, i < n → x i 3 ≠ 0) (w : World) (hP : PensAt w base 65 p n c f) (hW : RdC w pw n cw 4 (fun i j => .int .i64 (x i j)))
    (hf : ∀ i, i < n → f i = (Rat.divInt (x i 0) (x i 1), Rat.divInt (x i 2) (x i 3))) :
    Calls Tryz.prog 40 #[.slice p n c, .int .i64 0, .slice pw n cw] w fun e w' => e = .returned (.bool true) ∧ Below w.heap.size w w' := by
  obtain ⟨C, hR, hQ⟩ := hP.rd hn hn2
  clear hP
  obtain ⟨hc1, hn1, hxx⟩ := hR
  obtain ⟨b, off, rfl, hbl, hcell⟩ := hxx hn
  obtain ⟨hc1', hn1', hxx'⟩ := hW
  obtain ⟨b', off', rfl, hbl', hcell'⟩ := hxx' hn
  clear hxx hxx'
  replace hf := Lib.hid hf
  go_enter Tryz.func40, Tryz.ntmps40
  go_wp2_with fail
  go_loopw [20] (fun x wr => ∃ i : Nat, i ≤ n ∧ x = .int .i64 (i : Int) ∧ Below w.heap.size w wr) (fun x _ => (n - intOf x).toNat)
  case atStart => exact ⟨0, by omega, rfl, Below.refl _ _⟩
  case round =>
    obtain ⟨i, hi, rfl, hBr⟩ := hrel
    by_cases hin : i < n
    · replace hi := hin
      have hi' : (i : Int) < n := by omega
      obtain ⟨p1, n1, d1, p2, n2, d2, p3, n3, d3, p4, n4, d4, hCi, Ry, Ru⟩ := (hQ i hi).2
      have e0 : wr.cell? ⟨b, off + i * 8, none⟩ = some ((.bool (decide ((f i).1.num < 0)))) := (hBr.cell (p := ⟨b, off + i * 8 + 0, none⟩) hbl).trans ((hcell i 0 hi (by decide)).trans (by rw [hCi]; rfl))
      have e1 : wr.cell? ⟨b, off + i * 8 + 1, none⟩ = some (.slice p1 n1 d1) := (hBr.cell (p := ⟨b, off + i * 8 + 1, none⟩) hbl).trans ((hcell i 1 hi (by decide)).trans (by rw [hCi]; rfl))
      have e2 : wr.cell? ⟨b, off + i * 8 + 2, none⟩ = some (.bool false) := (hBr.cell (p := ⟨b, off + i * 8 + 2, none⟩) hbl).trans ((hcell i 2 hi (by decide)).trans (by rw [hCi]; rfl))
      have e3 : wr.cell? ⟨b, off + i * 8 + 3, none⟩ = some (.slice p2 n2 d2) := (hBr.cell (p := ⟨b, off + i * 8 + 3, none⟩) hbl).trans ((hcell i 3 hi (by decide)).trans (by rw [hCi]; rfl))
      have e4 : wr.cell? ⟨b, off + i * 8 + 4, none⟩ = some ((.bool (decide ((f i).2.num < 0)))) := (hBr.cell (p := ⟨b, off + i * 8 + 4, none⟩) hbl).trans ((hcell i 4 hi (by decide)).trans (by rw [hCi]; rfl))
      have e5 : wr.cell? ⟨b, off + i * 8 + 5, none⟩ = some (.slice p3 n3 d3) := (hBr.cell (p := ⟨b, off + i * 8 + 5, none⟩) hbl).trans ((hcell i 5 hi (by decide)).trans (by rw [hCi]; rfl))
      have e6 : wr.cell? ⟨b, off + i * 8 + 6, none⟩ = some (.bool false) := (hBr.cell (p := ⟨b, off + i * 8 + 6, none⟩) hbl).trans ((hcell i 6 hi (by decide)).trans (by rw [hCi]; rfl))
      have e7 : wr.cell? ⟨b, off + i * 8 + 7, none⟩ = some (.slice p4 n4 d4) := (hBr.cell (p := ⟨b, off + i * 8 + 7, none⟩) hbl).trans ((hcell i 7 hi (by decide)).trans (by rw [hCi]; rfl))
      have g0 : wr.cell? ⟨b', off' + i * 4, none⟩ = some (.int .i64 (x i 0)) := (hBr.cell (p := ⟨b', off' + i * 4 + 0, none⟩) hbl').trans (hcell' i 0 hi (by decide))
      have g1 : wr.cell? ⟨b', off' + i * 4 + 1, none⟩ = some (.int .i64 (x i 1)) := (hBr.cell (p := ⟨b', off' + i * 4 + 1, none⟩) hbl').trans (hcell' i 1 hi (by decide))
      have g2 : wr.cell? ⟨b', off' + i * 4 + 2, none⟩ = some (.int .i64 (x i 2)) := (hBr.cell (p := ⟨b', off' + i * 4 + 2, none⟩) hbl').trans (hcell' i 2 hi (by decide))
      have g3 : wr.cell? ⟨b', off' + i * 4 + 3, none⟩ = some (.int .i64 (x i 3)) := (hBr.cell (p := ⟨b', off' + i * 4 + 3, none⟩) hbl').trans (hcell' i 3 hi (by decide))
      have lb := Nat.lt_of_lt_of_le hbl hBr.size
      have lb' := Nat.lt_of_lt_of_le hbl' hBr.size
      obtain ⟨x0a, x0b⟩ := hx i 0 hi (by decide)
      obtain ⟨x1a, x1b⟩ := hx i 1 hi (by decide)
      obtain ⟨x2a, x2b⟩ := hx i 2 hi (by decide)
      obtain ⟨x3a, x3b⟩ := hx i 3 hi (by decide)
      have hof1 := fun W => lwof_ok (x i 0) (x i 1) (hx1 i hi) W (by omega) (by omega) (by omega) (by omega)
      have hof2 := fun W => lwof_ok (x i 2) (x i 3) (hx3 i hi) W (by omega) (by omega) (by omega) (by omega)
      have hfi := Lib.hid (hf.out i hi)
      clear x0a x0b x1a x1b x2a x2b x3a x3b
      generalize x i 0 = v0 at *
      generalize x i 1 = v1 at *
      generalize x i 2 = v2 at *
      generalize x i 3 = v3 at *
      go_wp2_with fail
      refine boxes1 fun W5 hB5 hs5 bX => ?_
      have hB5' := belowCall hBr hB5
      have cX := bX.cell
      have lX := bX.lt
      have Ry5 := Ry.ext (.of_below hB5')
      have Ru5 := Ru.ext (.of_below hB5')
      have rg1 := fun W (hW : Below W5.heap.size W5 W) => quarter_range (((belowCall hB5 hW).cell (p := ⟨b, off + i * 8, none⟩) lb).trans e0) (((belowCall hB5 hW).cell (p := ⟨b, off + i * 8 + 1, none⟩) lb).trans e1) (((belowCall hB5 hW).cell (p := ⟨b, off + i * 8 + 2, none⟩) lb).trans e2) (((belowCall hB5 hW).cell (p := ⟨b, off + i * 8 + 3, none⟩) lb).trans e3)
      have rg2 := fun W (hW : Below W5.heap.size W5 W) => quarter_range (((belowCall hB5 hW).cell (p := ⟨b, off + i * 8 + 4, none⟩) lb).trans e4) (((belowCall hB5 hW).cell (p := ⟨b, off + i * 8 + 5, none⟩) lb).trans e5) (((belowCall hB5 hW).cell (p := ⟨b, off + i * 8 + 6, none⟩) lb).trans e6) (((belowCall hB5 hW).cell (p := ⟨b, off + i * 8 + 7, none⟩) lb).trans e7)
      clear e0 e1 e2 e3 e4 e5 e6 e7 g0 g1 g2 g3
      refine wp_region_held_drew (S := fun w' => (∀ b o, b < W5.heap.size → w'.cell? ⟨b, o, none⟩ = W5.cell? ⟨b, o, none⟩) ∧ Below W5.heap.size W5 w') (by kernel_rfl) (belowS (Below.refl _ _).drew) (fun hHeld => ?_)
      refine take_want 0 (some 25) rfl (by kernel_rfl) (by kernel_rfl) (by kernel_rfl) rfl (fun _ _ _ h => h) (by rfl) (v := ?_) ?_ (by assumption) ?_
      rotate_left
      · intro w hSw; (try dsimp only at hSw); go_simp; all_goals with_reducible rfl
      simp only [Act.put, List.setIfInBounds_toArray, List.set_cons_zero, List.set_cons_succ]
      refine take_want 1 (some 26) rfl (by kernel_rfl) (by kernel_rfl) (by kernel_rfl) rfl (fun _ _ _ h => h) (by rfl) (v := ?_) ?_ (by assumption) ?_
      rotate_left
      · intro w hSw; (try dsimp only at hSw); go_simp; all_goals with_reducible rfl
      simp only [Act.put, List.setIfInBounds_toArray, List.set_cons_zero, List.set_cons_succ]
      refine take_want 2 (some 27) rfl (by kernel_rfl) (by kernel_rfl) (by kernel_rfl) rfl (fun _ _ _ h => h) (by rfl) (v := ?_) ?_ (by assumption) ?_
      rotate_left
      · intro w hSw; (try dsimp only at hSw); go_simp; all_goals with_reducible rfl
      simp only [Act.put, List.setIfInBounds_toArray, List.set_cons_zero, List.set_cons_succ]
      refine take_want 3 (some 28) rfl (by kernel_rfl) (by kernel_rfl) (by kernel_rfl) rfl (fun _ _ _ h => h) (by rfl) (v := ?_) ?_ (by assumption) ?_
      rotate_left
      · intro w hSw; (try dsimp only at hSw); go_simp; all_goals with_reducible rfl
      simp only [Act.put, List.setIfInBounds_toArray, List.set_cons_zero, List.set_cons_succ]
      refine take_want 4 (some 29) rfl (by as_aux_lemma => kernel_rfl) (by as_aux_lemma => kernel_rfl) (by as_aux_lemma => kernel_rfl) rfl (fun _ _ _ h => h) (by rfl) (v := (.agg #[.bool (decide ((f i).1.num < 0)), .slice p1 n1 d1, .bool false, .slice p2 n2 d2])) (exec_load 54 _ rfl b (off + i * 8) rfl #[.bool (decide ((f i).1.num < 0)), .slice p1 n1 d1, .bool false, .slice p2 n2 d2] (fun w hS => rg1 w hS.2) _ Tryz.underlying54 rfl sizeQuot) (by assumption) ?_
      simp only [Act.put, List.setIfInBounds_toArray, List.set_cons_zero, List.set_cons_succ]
      refine take_want 5 (some 30) rfl (by kernel_rfl) (by kernel_rfl) (by kernel_rfl) rfl (fun _ _ _ h => h) (by rfl) (v := ?_) ?_ (by assumption) ?_
      rotate_left
      · intro w hSw; (try dsimp only at hSw); go_simp; all_goals with_reducible rfl
      simp only [Act.put, List.setIfInBounds_toArray, List.set_cons_zero, List.set_cons_succ]
      refine take_want 6 (some 31) rfl (by kernel_rfl) (by kernel_rfl) (by kernel_rfl) rfl (fun _ _ _ h => h) (by rfl) (v := ?_) ?_ (by assumption) ?_
      rotate_left
      · intro w hSw; (try dsimp only at hSw); go_simp; all_goals with_reducible rfl
      simp only [Act.put, List.setIfInBounds_toArray, List.set_cons_zero, List.set_cons_succ]
      refine take_want 7 (some 32) rfl (by kernel_rfl) (by kernel_rfl) (by kernel_rfl) rfl (fun _ _ _ h => h) (by rfl) (v := ?_) ?_ (by assumption) ?_
      rotate_left
      · intro w hSw; (try dsimp only at hSw); go_simp; all_goals with_reducible rfl
      simp only [Act.put, List.setIfInBounds_toArray, List.set_cons_zero, List.set_cons_succ]
      refine take_want 8 (some 33) rfl (by kernel_rfl) (by kernel_rfl) (by kernel_rfl) rfl (fun _ _ _ h => h) (by rfl) (v := ?_) ?_ (by assumption) ?_
      rotate_left
      · intro w hSw; (try dsimp only at hSw); go_simp; all_goals with_reducible rfl
      simp only [Act.put, List.setIfInBounds_toArray, List.set_cons_zero, List.set_cons_succ]
      refine wpAnyH_ready (rs := [9]) (by kernel_rfl) (by simp) ?_
      refine AllReadyH.cons rfl (fun K hK => ?_) AllReadyH.nil
      go_simp
      (refine (hof1 _).mono ?_; rintro e W6 ⟨C6, rfl, R6, hb6⟩)
      refine hK.out _ _ ?_ (fun hHeld => ?_)
      · first | exact (belowS (belowCall hHeld.2 hb6)) | fail "keep"
      clear hK K
      try simp only [Act.put, List.setIfInBounds_toArray, List.set_cons_zero, List.set_cons_succ]
      have hr6 := Ry5.ext (.of_below hHeld.2)
      refine wpAnyH_ready (rs := [10]) (by kernel_rfl) (by simp) ?_
      refine AllReadyH.cons rfl (fun K hK => ?_) AllReadyH.nil
      go_simp
      (refine (qsame_ok _ _ _ _ _ _ (Ext.refl _) hr6 R6).mono ?_; rintro e W7 ⟨rfl, hb7⟩)
      refine hK.out _ _ ?_ (fun hHeld => ?_)
      · first | exact (belowS (belowCall hHeld.2 hb7)) | fail "keep"
      clear hK K
      try simp only [Act.put, List.setIfInBounds_toArray, List.set_cons_zero, List.set_cons_succ]
      rw [show decide ((f i).1 = Rat.divInt v0 v1) = true from by rw [hfi.out]; simp]
      refine take_want 11 (some 36) rfl (by kernel_rfl) (by kernel_rfl) (by kernel_rfl) rfl (fun _ _ _ h => h) (by rfl) (v := ?_) ?_ (by assumption) ?_
      rotate_left
      · intro w hSw; (try dsimp only at hSw); go_simp; all_goals with_reducible rfl
      simp only [Act.put, List.setIfInBounds_toArray, List.set_cons_zero, List.set_cons_succ]
      refine take_want 12 (some 37) rfl (by kernel_rfl) (by kernel_rfl) (by kernel_rfl) rfl (fun _ _ _ h => h) (by rfl) (v := ?_) ?_ (by assumption) ?_
      rotate_left
      · intro w hSw; (try dsimp only at hSw); go_simp; all_goals with_reducible rfl
      simp only [Act.put, List.setIfInBounds_toArray, List.set_cons_zero, List.set_cons_succ]
      refine take_want 13 (some 38) rfl (by kernel_rfl) (by kernel_rfl) (by kernel_rfl) rfl (fun _ _ _ h => h) (by rfl) (v := ?_) ?_ (by assumption) ?_
      rotate_left
      · intro w hSw; (try dsimp only at hSw); go_simp; all_goals with_reducible rfl
      simp only [Act.put, List.setIfInBounds_toArray, List.set_cons_zero, List.set_cons_succ]
      refine take_want 14 (some 39) rfl (by kernel_rfl) (by kernel_rfl) (by kernel_rfl) rfl (fun _ _ _ h => h) (by rfl) (v := ?_) ?_ (by assumption) ?_
      rotate_left
      · intro w hSw; (try dsimp only at hSw); go_simp; all_goals with_reducible rfl
      simp only [Act.put, List.setIfInBounds_toArray, List.set_cons_zero, List.set_cons_succ]
      refine take_want 15 (some 40) rfl (by kernel_rfl) (by kernel_rfl) (by kernel_rfl) rfl (fun _ _ _ h => h) (by rfl) (v := ?_) ?_ (by assumption) ?_
      rotate_left
      · intro w hSw; (try dsimp only at hSw); go_simp; all_goals with_reducible rfl
      simp only [Act.put, List.setIfInBounds_toArray, List.set_cons_zero, List.set_cons_succ]
      refine take_want 16 (some 41) rfl (by kernel_rfl) (by kernel_rfl) (by kernel_rfl) rfl (fun _ _ _ h => h) (by rfl) (v := ?_) ?_ (by assumption) ?_
      rotate_left
      · intro w hSw; (try dsimp only at hSw); go_simp; all_goals with_reducible rfl
      simp only [Act.put, List.setIfInBounds_toArray, List.set_cons_zero, List.set_cons_succ]
      refine take_want 17 (some 42) rfl (by as_aux_lemma => kernel_rfl) (by as_aux_lemma => kernel_rfl) (by as_aux_lemma => kernel_rfl) rfl (fun _ _ _ h => h) (by rfl) (v := (.agg #[.bool (decide ((f i).2.num < 0)), .slice p3 n3 d3, .bool false, .slice p4 n4 d4])) (exec_load 54 _ rfl b (off + i * 8 + 4) rfl #[.bool (decide ((f i).2.num < 0)), .slice p3 n3 d3, .bool false, .slice p4 n4 d4] (fun w hS => rg2 w hS.2) _ Tryz.underlying54 rfl sizeQuot) (by assumption) ?_
      simp only [Act.put, List.setIfInBounds_toArray, List.set_cons_zero, List.set_cons_succ]
      refine take_want 18 (some 43) rfl (by kernel_rfl) (by kernel_rfl) (by kernel_rfl) rfl (fun _ _ _ h => h) (by rfl) (v := ?_) ?_ (by assumption) ?_
      rotate_left
      · intro w hSw; (try dsimp only at hSw); go_simp; all_goals with_reducible rfl
      simp only [Act.put, List.setIfInBounds_toArray, List.set_cons_zero, List.set_cons_succ]
      refine take_want 19 (some 44) rfl (by kernel_rfl) (by kernel_rfl) (by kernel_rfl) rfl (fun _ _ _ h => h) (by rfl) (v := ?_) ?_ (by assumption) ?_
      rotate_left
      · intro w hSw; (try dsimp only at hSw); go_simp; all_goals with_reducible rfl
      simp only [Act.put, List.setIfInBounds_toArray, List.set_cons_zero, List.set_cons_succ]
      refine take_want 20 (some 45) rfl (by kernel_rfl) (by kernel_rfl) (by kernel_rfl) rfl (fun _ _ _ h => h) (by rfl) (v := ?_) ?_ (by assumption) ?_
      rotate_left
      · intro w hSw; (try dsimp only at hSw); go_simp; all_goals with_reducible rfl
      simp only [Act.put, List.setIfInBounds_toArray, List.set_cons_zero, List.set_cons_succ]
      refine take_want 21 (some 46) rfl (by kernel_rfl) (by kernel_rfl) (by kernel_rfl) rfl (fun _ _ _ h => h) (by rfl) (v := ?_) ?_ (by assumption) ?_
      rotate_left
      · intro w hSw; (try dsimp only at hSw); go_simp; all_goals with_reducible rfl
      simp only [Act.put, List.setIfInBounds_toArray, List.set_cons_zero, List.set_cons_succ]
      refine wpAnyH_ready (rs := [22]) (by kernel_rfl) (by simp) ?_
      refine AllReadyH.cons rfl (fun K hK => ?_) AllReadyH.nil
      go_simp
      (refine (hof2 _).mono ?_; rintro e W8 ⟨C8, rfl, R8, hb8⟩)
      refine hK.out _ _ ?_ (fun hHeld => ?_)
      · first | exact (belowS (belowCall hHeld.2 hb8)) | fail "keep"
      clear hK K
      try simp only [Act.put, List.setIfInBounds_toArray, List.set_cons_zero, List.set_cons_succ]
      have hr8 := Ru5.ext (.of_below hHeld.2)
      refine wpAnyH_ready (rs := [23]) (by kernel_rfl) (by simp) ?_
      refine AllReadyH.cons rfl (fun K hK => ?_) AllReadyH.nil
      go_simp
      (refine (qsame_ok _ _ _ _ _ _ (Ext.refl _) hr8 R8).mono ?_; rintro e W9 ⟨rfl, hb9⟩)
      refine hK.out _ _ ?_ (fun hHeld => ?_)
      · first | exact (belowS (belowCall hHeld.2 hb9)) | fail "keep"
      clear hK K
      try simp only [Act.put, List.setIfInBounds_toArray, List.set_cons_zero, List.set_cons_succ]
      rw [show decide ((f i).2 = Rat.divInt v2 v3) = true from by rw [hfi.out]; simp]
      refine take_want 24 (some 49) rfl (by kernel_rfl) (by kernel_rfl) (by kernel_rfl) rfl (fun _ _ _ h => h) (by rfl) (v := ?_) ?_ (by assumption) ?_
      rotate_left
      · intro w hSw; (try dsimp only at hSw); go_simp; all_goals with_reducible rfl
      simp only [Act.put, List.setIfInBounds_toArray, List.set_cons_zero, List.set_cons_succ]
      refine take_want 25 (some 50) rfl (by kernel_rfl) (by kernel_rfl) (by kernel_rfl) rfl (fun _ _ _ h => h) (by rfl) (v := ?_) ?_ (by assumption) ?_
      rotate_left
      · intro w hSw; (try dsimp only at hSw); go_simp; all_goals with_reducible rfl
      simp only [Act.put, List.setIfInBounds_toArray, List.set_cons_zero, List.set_cons_succ]
      refine wpAnyH_done (by kernel_rfl) ?_ _
      go_wp2
      go_roundw
      case rel => exact ⟨i + 1, by omega, by simp, belowCall hB5' hHeld.2⟩
      case measure => simp [intOf]; omega
    · obtain rfl : i = n := by omega
      go_wp2
      go_ret
      exact ⟨rfl, hBr⟩
end Go.Proofs.YtepodcocemmejaaGreatDoor
