/- Contracts of the program's fractions, lenses and rays, and a verified evaluator of the model. Part 11 of 30. No condition beside the row. -/
import Derived.Test.YtcgfdibagldafaaGreatDoorA02
import Derived.Test.YtcgfdibagldafaaGreatDoorA10
set_option linter.unusedVariables false
set_option linter.unusedSimpArgs false
set_option maxRecDepth 100000
set_option maxHeartbeats 4000000
namespace Go.Proofs.YtcgfdibagldafaaGreatDoor
open Go.RowKit Go.Mono
theorem sz_nilz (w : World) : Sz 600 w (.slice none 0 0) 0 := ⟨0, fun _ => 0, .inl ⟨rfl, rfl⟩, ⟨fun i hi => by omega, fun i hi => by omega, fun h => by omega⟩, rfl, by omega⟩
theorem qcheck_z0 (w : World) : Calls Tryz.prog 67 #[.agg #[.bool false, .slice none 0 0, .bool false, .slice none 0 0]] w fun e w' => e = .returned (.int .i64 40) ∧ Below w.heap.size w w' := by
 go_enter Tryz.func67, Tryz.ntmps67
 go_wp2_with fail
 refine boxes1 fun W hB hs b0 => ?_
 have cb0 := b0.cell
 have lb0 := b0.lt
 have fb0 := b0.frozen
 refine wp_region_held_drew (S := fun w' => (∀ b o, b < W.heap.size → w'.cell? ⟨b, o, none⟩ = W.cell? ⟨b, o, none⟩) ∧ Below W.heap.size W w') (by kernel_rfl) (belowS (Below.refl _ _).drew) (fun hHeld => ?_)
 refine tk 0 (some 3) ?_
 refine tk 1 (some 4) ?_
 refine Mono.st 2 ?_
 intro K hK
 go_simp
 (refine (lcheck_ok _ _ _ _ _ _ _ (Ext.refl _) (sz_nilz _) (by simp)).mono ?_; rintro e W4 ⟨rfl, hb4⟩)
 refine kp hK (belowS (belowCall hHeld.2 hb4)) (fun hHeld => ?_)
 clear hK K
 refine tk 3 (some 6) ?_
 refine tk 4 (some 7) ?_
 refine tk 5 (some 8) ?_
 refine tk 6 (some 9) ?_
 refine Mono.st 7 ?_
 intro K hK
 go_simp
 (refine (lcheck_ok _ _ _ _ _ _ _ (Ext.refl _) (sz_nilz _) (by simp)).mono ?_; rintro e W5 ⟨rfl, hb5⟩)
 refine kp hK (belowS (belowCall hHeld.2 hb5)) (fun hHeld => ?_)
 clear hK K
 refine tk 8 (some 11) ?_
 refine tk 9 (some 12) ?_
 refine tk 10 (some 13) ?_
 refine tk 11 (some 14) ?_
 refine tk 12 (some 15) ?_
 refine tk 13 (some 16) ?_
 refine tk 14 (some 17) ?_
 refine tk 15 (some 18) ?_
 refine tk 16 (some 19) ?_
 refine tk 17 (some 20) ?_
 refine tk 18 (some 21) ?_
 refine tk 19 (some 22) ?_
 refine tk 20 (some 23) ?_
 refine tk 21 (some 24) ?_
 refine tk 22 (some 25) ?_
 refine ts 23 (some 26) ?_
 refine ts 24 (some 27) ?_
 refine ts 25 (some 28) ?_
 refine ts 26 (some 29) ?_
 refine ts 27 (some 30) ?_
 refine ts 28 (some 31) ?_
 refine ts 29 (some 32) ?_
 refine ts 30 (some 33) ?_
 refine ts 31 (some 34) ?_
 refine ts 32 (some 35) ?_
 refine ts 33 (some 36) ?_
 refine tk 34 (some 37) ?_
 refine wpAnyH_done (by kernel_rfl) ?_ _
 go_wp2
 go_ret
 exact ⟨rfl, belowCall hB hHeld.2⟩
end Go.Proofs.YtcgfdibagldafaaGreatDoor
