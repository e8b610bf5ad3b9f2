/- CoatKnown returns true. Part 3 of 8. No condition beside the row. -/
import Derived.Test.YtdgodcgdlfjpaaaGreatDoorA37
set_option linter.unusedVariables false
set_option linter.unusedSimpArgs false
namespace Go.Proofs.YtdgodcgdlfjpaaaGreatDoor
open Go.RowKit Go.Mono
set_option maxRecDepth 100000 in
set_option maxHeartbeats 1000000 in
/-- reflect where an index is none -/
theorem creflect_arg (na nb : Int) (hbad : ¬ ((10000000 ≤ na ∧ na ≤ 40000000) ∧ (10000000 ≤ nb ∧ nb ≤ 40000000))) (p : Option Addr) (n c : Nat) (w : World) :
    Calls Tryz.prog 60 #[.int .i64 na, .int .i64 nb, .slice p n c] w fun e w' => e = .panicked [{ v := .iface 194 (.agg #[.int .i64 2]), recovered := false }] ∧ Below w.heap.size w w' := by
  have hi1 := fun W => cindex_ok na W
  have hi2 := fun W => cindex_ok nb W
  by_cases h1 : 10000000 ≤ na ∧ na ≤ 40000000
  · have h2 : ¬ (10000000 ≤ nb ∧ nb ≤ 40000000) := fun h => hbad ⟨h1, h⟩
    rw [decide_eq_true h1] at hi1
    rw [decide_eq_false h2] at hi2
    clear h1 h2 hbad
    go_enter Tryz.func60, Tryz.ntmps60
    go_wp2_with first | (refine wpList_new rfl 124 rfl _ alloc_light ?_; intro W0 BO hleO hB0 bO) | (go_at_call 71; refine (hi1 _).mono ?_; rintro e w5 ⟨rfl, h5⟩; rw [h5]; clear h5 w5) | (go_at_call 71; refine (hi2 _).mono ?_; rintro e w5 ⟨rfl, h5⟩; rw [h5]; clear h5 w5) | (go_at_call 70; refine (crefuse_yes _ _).mono ?_; rintro e w5 ⟨rfl, h5⟩)
    first
      | exact ⟨rfl, rfl, belowCall hB0 h5⟩
      | exact ⟨rfl, belowCall hB0 h5⟩
  · rw [decide_eq_false h1] at hi1
    clear h1 hbad
    go_enter Tryz.func60, Tryz.ntmps60
    go_wp2_with first | (refine wpList_new rfl 124 rfl _ alloc_light ?_; intro W0 BO hleO hB0 bO) | (go_at_call 71; refine (hi1 _).mono ?_; rintro e w5 ⟨rfl, h5⟩; rw [h5]; clear h5 w5) | (go_at_call 70; refine (crefuse_yes _ _).mono ?_; rintro e w5 ⟨rfl, h5⟩)
    first
      | exact ⟨rfl, rfl, belowCall hB0 h5⟩
      | exact ⟨rfl, belowCall hB0 h5⟩
set_option maxRecDepth 100000 in
set_option maxHeartbeats 1000000 in
/-- reflect where stack panics -/
theorem creflect_stack (na nb : Int) (a1 : 10000000 ≤ na ∧ na ≤ 40000000) (b1 : 10000000 ≤ nb ∧ nb ≤ 40000000) (p : Option Addr) (n c : Nat) (z : Int) (w : World) (hst : ∀ W, Below w.heap.size w W → Calls Tryz.prog 89 #[.slice p n c] W fun e w' => e = .panicked [{ v := .iface 194 (.agg #[.int .i64 z]), recovered := false }] ∧ Below W.heap.size W w') :
    Calls Tryz.prog 60 #[.int .i64 na, .int .i64 nb, .slice p n c] w fun e w' => e = .panicked [{ v := .iface 194 (.agg #[.int .i64 z]), recovered := false }] ∧ Below w.heap.size w w' := by
  have hi1 := fun W => cindex_ok na W
  have hi2 := fun W => cindex_ok nb W
  rw [decide_eq_true a1] at hi1
  rw [decide_eq_true b1] at hi2
  clear a1 b1
  go_enter Tryz.func60, Tryz.ntmps60
  go_wp2_with first | (refine wpList_new rfl 124 rfl _ alloc_light ?_; intro W0 BO hleO hB0 bO) | (go_at_call 71; refine (hi1 _).mono ?_; rintro e w5 ⟨rfl, h5⟩; rw [h5]; clear h5 w5) | (go_at_call 71; refine (hi2 _).mono ?_; rintro e w5 ⟨rfl, h5⟩; rw [h5]; clear h5 w5) | (go_at_call 70; refine (crefuse_no _ _).mono ?_; rintro e w5 ⟨rfl, h5⟩; rw [h5]; clear h5 w5)
  refine (hst W0 hB0).mono ?_
  rintro e W1 ⟨rfl, hb⟩
  first
    | exact ⟨rfl, rfl, belowCall hB0 hb⟩
    | exact ⟨rfl, belowCall hB0 hb⟩
set_option maxRecDepth 100000 in
set_option maxHeartbeats 2000000 in
/-- coat.Reflect where reflect panics -/
theorem reflX_panic (na nb : Int) (p : Option Addr) (n c : Nat) (z : Int) (w : World) (hg : ∀ W, Below w.heap.size w W → Calls Tryz.prog 60 #[.int .i64 na, .int .i64 nb, .slice p n c] W fun e w' => e = .panicked [{ v := .iface 194 (.agg #[.int .i64 z]), recovered := false }] ∧ Below W.heap.size W w') :
    Calls Tryz.prog 15 #[.int .i64 na, .int .i64 nb, .slice p n c] w fun e w' => e = .returned (.tuple #[.agg quot0, .agg quot0, .int .i64 z]) ∧ Below w.heap.size w w' := by
  have hmf : ∀ (fn : Fn) (first cap : Array Value) (w : World), (Instr.makeFunc fn first cap).run Tryz.prog w = .ok (.func fn first cap) w := fun _ _ _ _ => rfl
  go_enter Tryz.func15, Tryz.ntmps15
  go_wp2_with fail
  refine boxes5k fun W hB hs b0 b1 b2 bR bT => ?_
  refine (caughtLi_panic 59 _ enters_reflX1 z W ?_).mono ?_
  · intro W2 hW2 hs2
    exact reflX1_panic na nb p n c z W2 (fun V hV => hg V (belowCall hB (belowCall hW2 hV))) _ _ _ (b0.below hW2) (b1.below hW2) (b2.below hW2)
  rintro e W3 ⟨rfl, hb3⟩
  replace hB := belowCall hB hb3
  replace bR := bR.below hb3
  replace bT := bT.below hb3
  have ho : qq0.all (·.oneCell') = true := by simp [qq0, Value.oneCell']
  go_wp2_with first | (refine wpList_new rfl 124 rfl _ alloc_light ?_; intro W4 BL hleL hb4 bL) | (refine wpList_store_box rfl 124 _ _ rfl BL 0 124 _ qq0 qq0 rfl rfl bL sizeLight (Nat.le_of_eq rfl) ho (whole_new rfl) ?_; intro W5 hk5 bL5)
  have hb35 := hk5.below hb4 hleL hb4.size
  replace hB := belowCall hB hb35
  replace bR := bR.below hb35
  replace bT := bT.below hb35
  have hne : w.heap.size + 1 + 1 + 1 ≠ BL := by have := hb3.size; omega
  have hne2 : w.heap.size + 1 + 1 + 1 + 1 ≠ BL := by have := hb3.size; omega
  have hq0 : quot0.all (·.oneCell') = true := by simp [quot0, Value.oneCell']
  clear hb35 hk5 hb4 bL ho
  refine wp_region_held_drew (S := fun w' => Box w' BL 124 qq0 ∧ Below w.heap.size w w') (by as_aux_lemma => kernel_rfl) ⟨bL5.drew, hB.drew⟩ (fun hHeld => ?_)
  refine tk 0 (some 15) ?_
  refine tl 1 (some 16) rfl (.agg quot0) (exec_load 37 _ rfl BL 0 rfl quot0 (fun w h => h.1.part 0 quot0 rfl) _ Tryz.underlying37 rfl sizeQuot) ?_
  refine tk 2 (some 17) ?_
  refine tl 3 (some 18) rfl (.agg quot0) (exec_load 37 _ rfl BL 4 rfl quot0 (fun w h => h.1.part 4 quot0 rfl) _ Tryz.underlying37 rfl sizeQuot) ?_
  refine tk 4 (some 19) ?_
  refine wpAnyH_storeB (w.heap.size + 1 + 1 + 1) 37 5 rfl rfl rfl rfl 0 quot0 _ quot0 (by as_aux_lemma => kernel_rfl) (fun w' i u hS => ⟨hS.1.other _ _ (Ne.symm hne), hS.2.setCell (p := ⟨w.heap.size + 1 + 1 + 1, i, none⟩) (by simp; omega) u⟩) rfl rfl bR.drew hHeld sizeQuot (Nat.le_of_eq rfl) hq0 (whole_new rfl) (fun Ws hk0 bs hHeld => ?_)
  have bT1 := hk0.box bT.drew bT.drew.lt (by omega)
  refine wpAnyH_storeB (w.heap.size + 1 + 1 + 1 + 1) 37 6 rfl rfl rfl rfl 0 quot0 _ quot0 (by as_aux_lemma => kernel_rfl) (fun w' i u hS => ⟨hS.1.other _ _ (Ne.symm hne2), hS.2.setCell (p := ⟨w.heap.size + 1 + 1 + 1 + 1, i, none⟩) (by simp; omega) u⟩) rfl rfl bT1 hHeld sizeQuot (Nat.le_of_eq rfl) hq0 (whole_new rfl) (fun Wt hk1 bt hHeld => ?_)
  have bs1 := hk1.box bs bs.lt (by omega)
  refine tk 7 (some 8) ?_
  refine wpAnyH_done (by as_aux_lemma => kernel_rfl) ?_ _
  go_wp2
  refine bodyPost_ret (bs1.results3c bt rfl _ _ rfl rfl Tryz.underlying37 rfl sizeQuot sizeQuot) rfl ?_
  exact ⟨rfl, hHeld.2⟩
end Go.Proofs.YtdgodcgdlfjpaaaGreatDoor
