/-
  DERIVED. GIVEN WITH THE SEED: THE PROGRAM's TIES (one call each: nine closed facts by the kernel) AND EACH ROW's TIE, after the 31st guide's Derived/Test/Toyas{Tie, Card}.lean. No idea stands in it: it is a product of the set-up. Laid BY PROGRAM, IN A SANDBOX (cutbox-door.mjs). By AI agents, Wed Nov 11 2026. No macro, syntax, notation, axiom, sorry.
-/
import Derived.Test.YtdgodcgdlfjpaaaGreatDoorRows
import Derived.LaidByTextLater
import Derived.SevenTiedAt
import Derived.LaidSub
import Derived.LaidOnce
namespace Go.Proofs.YtdgodcgdlfjpaaaGreatDoor
open Go
set_option maxRecDepth 100000
theorem seatTie1 : Tryz.prog.laidByTextLater [("monocle/surface.places", Rows.laid_monocle_surface_places), ("monocle/paraxial.powers", Rows.laid_monocle_paraxial_powers)] [.mappedDeep, .funcs] true :=
  Program.laidByTextLater_by_one 63 8 8 (by kernel_rfl) (by kernel_rfl) (by kernel_rfl) (by kernel_rfl) (by kernel_rfl) (by kernel_rfl) (fun _ _ => by kernel_rfl)
theorem noOwnUnsafe : Tryz.pinned.checked.prog.headLifts.contains "ownunsafe" = false := by kernel_rfl
theorem tie : Tryz.prog.laidByTextLater [("monocle/surface.places", Rows.laid_monocle_surface_places)] [.mappedDeep] true :=
  Program.laidByTextLater.sub seatTie1 ["monocle/surface.places"] (by kernel_rfl) (by kernel_rfl)
theorem coatReflects_row_tie : Rows.coatReflectsRow.laidByTextAt .later Tryz.pinned [.mappedDeep] true :=
  OpenClaim.laidByTextAt_later rfl rfl tie noOwnUnsafe
theorem coatBests_row_tie : Rows.coatBestsRow.laidByTextAt .later Tryz.pinned [.mappedDeep] true :=
  OpenClaim.laidByTextAt_later rfl rfl tie noOwnUnsafe
theorem coatLeast_row_tie : Rows.coatLeastRow.laidByTextAt .later Tryz.pinned [.mappedDeep] true :=
  OpenClaim.laidByTextAt_later rfl rfl tie noOwnUnsafe
theorem coatStacks_row_tie : Rows.coatStacksRow.laidByTextAt .later Tryz.pinned [.mappedDeep] true :=
  OpenClaim.laidByTextAt_later rfl rfl tie noOwnUnsafe
theorem coatKnown_row_tie : Rows.coatKnownRow.laidByTextAt .later Tryz.pinned [.mappedDeep] true :=
  OpenClaim.laidByTextAt_later rfl rfl tie noOwnUnsafe
theorem coatSums_row_tie : Rows.coatSumsRow.laidByTextAt .later Tryz.pinned [.mappedDeep] true :=
  OpenClaim.laidByTextAt_later rfl rfl tie noOwnUnsafe
theorem coatJoins_row_tie : Rows.coatJoinsRow.laidByTextAt .later Tryz.pinned [.mappedDeep] true :=
  OpenClaim.laidByTextAt_later rfl rfl tie noOwnUnsafe
theorem tie2 : Tryz.prog.laidByTextLater [("monocle/surface.places", Rows.laid_monocle_surface_places), ("monocle/paraxial.powers", Rows.laid_monocle_paraxial_powers)] [.mappedDeep, .funcs] true :=
  Program.laidByTextLater.sub seatTie1 ["monocle/surface.places", "monocle/paraxial.powers"] (by kernel_rfl) (by kernel_rfl)
theorem matrixGroups_row_tie : Rows.matrixGroupsRow.laidByTextAt .later Tryz.pinned [.mappedDeep, .funcs] true :=
  OpenClaim.laidByTextAt_later rfl rfl tie2 noOwnUnsafe
theorem matrixKnown_row_tie : Rows.matrixKnownRow.laidByTextAt .later Tryz.pinned [.mappedDeep, .funcs] true :=
  OpenClaim.laidByTextAt_later rfl rfl tie2 noOwnUnsafe
theorem coatReflectsUpto_row_tie : Rows.coatReflectsUptoRow.laidByTextAt .later Tryz.pinned [.mappedDeep] true :=
  OpenClaim.laidByTextAt_later rfl rfl tie noOwnUnsafe
theorem coatBestsUpto_row_tie : Rows.coatBestsUptoRow.laidByTextAt .later Tryz.pinned [.mappedDeep] true :=
  OpenClaim.laidByTextAt_later rfl rfl tie noOwnUnsafe
theorem coatLeastUpto_row_tie : Rows.coatLeastUptoRow.laidByTextAt .later Tryz.pinned [.mappedDeep] true :=
  OpenClaim.laidByTextAt_later rfl rfl tie noOwnUnsafe
theorem coatStacksUpto_row_tie : Rows.coatStacksUptoRow.laidByTextAt .later Tryz.pinned [.mappedDeep] true :=
  OpenClaim.laidByTextAt_later rfl rfl tie noOwnUnsafe
theorem coatKnownUpto_row_tie : Rows.coatKnownUptoRow.laidByTextAt .later Tryz.pinned [.mappedDeep] true :=
  OpenClaim.laidByTextAt_later rfl rfl tie noOwnUnsafe
theorem coatSumsUpto_row_tie : Rows.coatSumsUptoRow.laidByTextAt .later Tryz.pinned [.mappedDeep] true :=
  OpenClaim.laidByTextAt_later rfl rfl tie noOwnUnsafe
theorem matrixGroupsUpto_row_tie : Rows.matrixGroupsUptoRow.laidByTextAt .later Tryz.pinned [.mappedDeep, .funcs] true :=
  OpenClaim.laidByTextAt_later rfl rfl tie2 noOwnUnsafe
theorem matrixKnownUpto_row_tie : Rows.matrixKnownUptoRow.laidByTextAt .later Tryz.pinned [.mappedDeep, .funcs] true :=
  OpenClaim.laidByTextAt_later rfl rfl tie2 noOwnUnsafe
theorem coatJoinsUpto_row_tie : Rows.coatJoinsUptoRow.laidByTextAt .later Tryz.pinned [.mappedDeep] true :=
  OpenClaim.laidByTextAt_later rfl rfl tie noOwnUnsafe
end Go.Proofs.YtdgodcgdlfjpaaaGreatDoor
