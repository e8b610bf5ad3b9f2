/- The law MatrixKnown: the examples of the ray transfer matrices, afocal lenses, mirrors and the order of errors; its walk by a verified evaluator of the model, and its card. Part 14 of 36. No condition beside the row. -/
import Derived.Test.YtdgodcgdlfjpaaaGreatDoorM02
import Derived.Test.YtdgodcgdlfjpaaaGreatDoorM13
set_option linter.unusedVariables false
set_option linter.unusedSimpArgs false
set_option maxRecDepth 100000
set_option maxHeartbeats 4000000
namespace Go.Proofs.YtdgodcgdlfjpaaaGreatDoor
open Go.RowKit Go.Mono
theorem all2_ok (a b : Rat) (s1 t1 s2 t2 : Bool) (p1 q1 p2 q2 : Option Addr) (k1 c1 l1 d1 k2 c2 l2 d2 g : Nat) (w : World)
  (h : Box w g 37 #[.bool s1, .slice p1 k1 c1, .bool t1, .slice q1 l1 d1, .bool s2, .slice p2 k2 c2, .bool t2, .slice q2 l2 d2])
  (ha : QV w (.agg #[.bool s1, .slice p1 k1 c1, .bool t1, .slice q1 l1 d1]) a) (hb : QV w (.agg #[.bool s2, .slice p2 k2 c2, .bool t2, .slice q2 l2 d2]) b) :
  Calls Tryz.prog 79 #[.slice (some ⟨g, 0, none⟩) 2 2] w fun e w' => e = .returned (.int .i64 0) ∧ Below w.heap.size w w' := by
 go_enter Tryz.func79, Tryz.ntmps79
 go_wp2
 go_loopw [8] (fun x wr => ∃ i : Nat, i ≤ 2 ∧ x = .int .i64 (i : Int) ∧ Below w.heap.size w wr) (fun x _ => (2 - intOf x).toNat)
 case atStart => exact ⟨0, by omega, rfl, Below.refl _ _⟩
 case round =>
  obtain ⟨i, hi, rfl, hB⟩ := hrel
  replace h := h.below hB
  have ch := h.cell
  have fh := h.frozen
  have lh := h.lt
  replace ha := ha.ext (.of_below hB)
  replace hb := hb.ext (.of_below hB)
  rcases (by omega : i = 0 ∨ i = 1 ∨ i = 2) with rfl | rfl | rfl
  ·go_wp2_with (go_at_call 98; (with_reducible refine (qcheck_ok _ a _ _ ((Ext.refl wr).alloc _) ha).mono ?_); rintro e W4 ⟨rfl, hb4⟩)
   go_roundw
   case rel => exact ⟨1, by omega, by simp, belowCall (belowAlloc hB _) hb4⟩
   case measure => simp [intOf]
  ·go_wp2_with (go_at_call 98; (with_reducible refine (qcheck_ok _ b _ _ ((Ext.refl wr).alloc _) hb).mono ?_); rintro e W4 ⟨rfl, hb4⟩)
   go_roundw
   case rel => exact ⟨2, by omega, by simp, belowCall (belowAlloc hB _) hb4⟩
   case measure => simp [intOf]
  ·go_wp2
   go_ret
   exact ⟨rfl, hB⟩
theorem sz_nilz (w : World) : Sz 600 w (.slice none 0 0) 0 := ⟨0, fun _ => 0, .inl ⟨rfl, rfl⟩, ⟨fun i hi => by omega, fun i hi => by omega, fun h => by omega⟩, rfl, by omega⟩
theorem qcheck_z0 (w : World) : Calls Tryz.prog 98 #[.agg #[.bool false, .slice none 0 0, .bool false, .slice none 0 0]] w fun e w' => e = .returned (.int .i64 40) ∧ Below w.heap.size w w' := by
 go_enter Tryz.func98, Tryz.ntmps98
 go_wp2_with fail
 refine boxes1 fun W hB hs b0 => ?_
 have cb0 := b0.cell
 have lb0 := b0.lt
 have fb0 := b0.frozen
 refine wp_region_held_drew (S := fun w' => (∀ b o, b < W.heap.size → w'.cell? ⟨b, o, none⟩ = W.cell? ⟨b, o, none⟩) ∧ Below W.heap.size W w') (by kernel_rfl) (belowS (Below.refl _ _).drew) (fun hHeld => ?_)
 refine tk 0 (some 3) ?_
 refine tk 1 (some 4) ?_
 refine Mono.st 2 ?_
 intro K hK
 go_simp
 (refine (lcheck_ok _ _ _ _ _ _ _ (Ext.refl _) (sz_nilz _) (by simp)).mono ?_; rintro e W4 ⟨rfl, hb4⟩)
 refine kp hK (belowS (belowCall hHeld.2 hb4)) (fun hHeld => ?_)
 clear hK K
 refine tk 3 (some 6) ?_
 refine tk 4 (some 7) ?_
 refine tk 5 (some 8) ?_
 refine tk 6 (some 9) ?_
 refine Mono.st 7 ?_
 intro K hK
 go_simp
 (refine (lcheck_ok _ _ _ _ _ _ _ (Ext.refl _) (sz_nilz _) (by simp)).mono ?_; rintro e W5 ⟨rfl, hb5⟩)
 refine kp hK (belowS (belowCall hHeld.2 hb5)) (fun hHeld => ?_)
 clear hK K
 refine tk 8 (some 11) ?_
 refine tk 9 (some 12) ?_
 refine tk 10 (some 13) ?_
 refine tk 11 (some 14) ?_
 refine tk 12 (some 15) ?_
 refine tk 13 (some 16) ?_
 refine tk 14 (some 17) ?_
 refine tk 15 (some 18) ?_
 refine tk 16 (some 19) ?_
 refine tk 17 (some 20) ?_
 refine tk 18 (some 21) ?_
 refine tk 19 (some 22) ?_
 refine tk 20 (some 23) ?_
 refine tk 21 (some 24) ?_
 refine tk 22 (some 25) ?_
 refine ts 23 (some 26) ?_
 refine ts 24 (some 27) ?_
 refine ts 25 (some 28) ?_
 refine ts 26 (some 29) ?_
 refine ts 27 (some 30) ?_
 refine ts 28 (some 31) ?_
 refine ts 29 (some 32) ?_
 refine ts 30 (some 33) ?_
 refine ts 31 (some 34) ?_
 refine ts 32 (some 35) ?_
 refine ts 33 (some 36) ?_
 refine tk 34 (some 37) ?_
 refine wpAnyH_done (by kernel_rfl) ?_ _
 go_wp2
 go_ret
 exact ⟨rfl, belowCall hB hHeld.2⟩
end Go.Proofs.YtdgodcgdlfjpaaaGreatDoor
