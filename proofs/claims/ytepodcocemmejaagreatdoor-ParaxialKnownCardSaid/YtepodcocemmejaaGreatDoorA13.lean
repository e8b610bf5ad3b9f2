/- Part 13 of 52 of the proof that the law ParaxialKnown returns true, whatever stands in memory, if the two listed variables hold what the text lays: contracts of the functions that it reaches. No condition beside the row. -/
import Derived.Test.YtepodcocemmejaaGreatDoorA12
set_option linter.unusedVariables false
set_option linter.unusedSimpArgs false
namespace Go.Proofs.YtepodcocemmejaaGreatDoor
open Go.RowKit Go.Mono
set_option maxRecDepth 100000 in
set_option maxHeartbeats 1000000 in
theorem all2_ok (a b : Rat) (s1 t1 s2 t2 : Bool) (p1 q1 p2 q2 : Option Addr) (k1 c1 l1 d1 k2 c2 l2 d2 g : Nat) (w : World)
    (h : Box w g 54 #[.bool s1, .slice p1 k1 c1, .bool t1, .slice q1 l1 d1, .bool s2, .slice p2 k2 c2, .bool t2, .slice q2 l2 d2])
    (ha : QV w (.agg #[.bool s1, .slice p1 k1 c1, .bool t1, .slice q1 l1 d1]) a) (hb : QV w (.agg #[.bool s2, .slice p2 k2 c2, .bool t2, .slice q2 l2 d2]) b) :
    Calls Tryz.prog 108 #[.slice (some ⟨g, 0, none⟩) 2 2] w fun e w' => e = .returned (.int .i64 0) ∧ Below w.heap.size w w' := by
  go_enter Tryz.func108, Tryz.ntmps108
  go_wp2
  go_loopw [8] (fun x wr => ∃ i : Nat, i ≤ 2 ∧ x = .int .i64 (i : Int) ∧ Below w.heap.size w wr) (fun x _ => (2 - intOf x).toNat)
  case atStart => exact ⟨0, by omega, rfl, Below.refl _ _⟩
  case round =>
    obtain ⟨i, hi, rfl, hB⟩ := hrel
    replace h := h.below hB
    have ch := h.cell
    have fh := h.frozen
    have lh := h.lt
    replace ha := ha.ext (.of_below hB)
    replace hb := hb.ext (.of_below hB)
    rcases (by omega : i = 0 ∨ i = 1 ∨ i = 2) with rfl | rfl | rfl
    · go_wp2_with (go_at_call 95; (with_reducible refine (qcheck_ok _ a _ _ ((Ext.refl wr).alloc _) ha).mono ?_); rintro e W4 ⟨rfl, hb4⟩)
      go_roundw
      case rel => exact ⟨1, by omega, by simp, belowCall (belowAlloc hB _) hb4⟩
      case measure => simp [intOf]
    · go_wp2_with (go_at_call 95; (with_reducible refine (qcheck_ok _ b _ _ ((Ext.refl wr).alloc _) hb).mono ?_); rintro e W4 ⟨rfl, hb4⟩)
      go_roundw
      case rel => exact ⟨2, by omega, by simp, belowCall (belowAlloc hB _) hb4⟩
      case measure => simp [intOf]
    · go_wp2
      go_ret
      exact ⟨rfl, hB⟩
end Go.Proofs.YtepodcocemmejaaGreatDoor
