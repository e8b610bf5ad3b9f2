/- Part 25 of 52 of the proof that the law ParaxialKnown returns true, whatever stands in memory, if the two listed variables hold what the text lays: contracts of the functions that it reaches. No condition beside the row. -/
import Derived.Test.YtepodcocemmejaaGreatDoorA24
set_option linter.unusedVariables false
set_option linter.unusedSimpArgs false
namespace Go.Proofs.YtepodcocemmejaaGreatDoor
open Go.RowKit Go.Mono
set_option maxRecDepth 100000 in
set_option maxHeartbeats 2000000 in
/-- small of the chapter's surfaces -/
theorem small11_ok (s : Srf) (hs : s = chG ∨ s = zS) (p : Option Addr) (c : Nat) (w : World) :
    Calls Tryz.prog 195 #[.agg (s.cs p c)] w fun e w' => e = .returned (.bool true) ∧ Below w.heap.size w w' := by
  rcases hs with rfl | rfl
  all_goals
    simp only [Srf.cs, chG, zS]
    go_enter Tryz.func195, Tryz.ntmps195
    go_wp2_with fail
    refine boxes1 fun W hB hsz bS => ?_
    have cS := bS.cell
    have lS := bS.lt
    go_wp2
    go_loopw [3] (fun x wr => ∃ k : Nat, k ≤ 4 ∧ x = .int .i64 (k : Int) ∧ wr = W) (fun x _ => (4 - intOf x).toNat)
    case atStart => exact ⟨0, by omega, rfl, rfl⟩
    case round =>
      obtain ⟨k, hk, rfl, rfl⟩ := hrel
      rcases (by omega : k = 0 ∨ k = 1 ∨ k = 2 ∨ k = 3 ∨ k = 4) with rfl | rfl | rfl | rfl | rfl
      · go_wp2_with (go_at_call 217; refine (within11_ok _ _ (by decide) (by decide) (by decide) (by decide) _).mono ?_; rintro e w5 ⟨rfl, h5⟩; rw [h5]; clear h5 w5)
        go_roundw
        case rel => exact ⟨1, by decide, by simp⟩
        case measure => simp [intOf]
      · go_wp2_with (go_at_call 217; refine (within11_ok _ _ (by decide) (by decide) (by decide) (by decide) _).mono ?_; rintro e w5 ⟨rfl, h5⟩; rw [h5]; clear h5 w5)
        go_roundw
        case rel => exact ⟨2, by decide, by simp⟩
        case measure => simp [intOf]
      · go_wp2_with (go_at_call 217; refine (within11_ok _ _ (by decide) (by decide) (by decide) (by decide) _).mono ?_; rintro e w5 ⟨rfl, h5⟩; rw [h5]; clear h5 w5)
        go_roundw
        case rel => exact ⟨3, by decide, by simp⟩
        case measure => simp [intOf]
      · go_wp2_with (go_at_call 217; refine (within11_ok _ _ (by decide) (by decide) (by decide) (by decide) _).mono ?_; rintro e w5 ⟨rfl, h5⟩; rw [h5]; clear h5 w5)
        go_roundw
        case rel => exact ⟨4, by decide, by simp⟩
        case measure => simp [intOf]
      · go_wp2
        go_loopw [4] (fun x wr' => x = .int .i64 0 ∧ wr' = wr) (fun x _ => 0)
        case atStart => exact ⟨rfl, rfl⟩
        case round =>
          obtain ⟨rfl, rfl⟩ := hrel
          go_wp2_with first | (go_at_call 217; refine (within11_ok _ _ (by decide) (by decide) (by decide) (by decide) _).mono ?_; rintro e w5 ⟨rfl, h5⟩; rw [h5]; clear h5 w5) | (go_at_call 131; refine (name09_one _ (by simp) _).mono ?_; rintro e w5 ⟨rfl, h5⟩; rw [h5]; clear h5 w5)
          go_ret
          exact ⟨rfl, hB⟩
end Go.Proofs.YtepodcocemmejaaGreatDoor
