/-
  DERIVED. GIVEN WITH THE SEED: THE PROGRAM's TIES (one call each: nine closed facts by the kernel) AND EACH ROW's TIE, after the 31st guide's Derived/Test/Toyas{Tie, Card}.lean. No idea stands in it: it is a product of the set-up. Laid BY PROGRAM, IN A SANDBOX (cutbox-door.mjs). By AI agents, Wed Nov 11 2026. No macro, syntax, notation, axiom, sorry.
-/
import Derived.Test.YtgkmjekkefmejaaGreatDoorRows
import Derived.LaidByTextLater
import Derived.SevenTiedAt
import Derived.LaidSub
import Derived.LaidOnce
namespace Go.Proofs.YtgkmjekkefmejaaGreatDoor
open Go
set_option maxRecDepth 100000
theorem seatTie1 : Tryz.prog.laidByTextLater [("monocle/surface.places", Rows.laid_monocle_surface_places), ("monocle/paraxial.powers", Rows.laid_monocle_paraxial_powers)] [.mappedDeep, .funcs] true :=
  Program.laidByTextLater_by_one 63 8 8 (by kernel_rfl) (by kernel_rfl) (by kernel_rfl) (by kernel_rfl) (by kernel_rfl) (by kernel_rfl) (fun _ _ => by kernel_rfl)
theorem noOwnUnsafe : Tryz.pinned.checked.prog.headLifts.contains "ownunsafe" = false := by kernel_rfl
theorem tie : Tryz.prog.laidByTextLater [("monocle/surface.places", Rows.laid_monocle_surface_places), ("monocle/paraxial.powers", Rows.laid_monocle_paraxial_powers)] [.mappedDeep, .funcs] true :=
  Program.laidByTextLater.sub seatTie1 ["monocle/surface.places", "monocle/paraxial.powers"] (by kernel_rfl) (by kernel_rfl)
theorem pupilInvariant_row_tie : Rows.pupilInvariantRow.laidByTextAt .later Tryz.pinned [.mappedDeep, .funcs] true :=
  OpenClaim.laidByTextAt_later rfl rfl tie noOwnUnsafe
theorem pupilExit_row_tie : Rows.pupilExitRow.laidByTextAt .later Tryz.pinned [.mappedDeep, .funcs] true :=
  OpenClaim.laidByTextAt_later rfl rfl tie noOwnUnsafe
theorem pupilFields_row_tie : Rows.pupilFieldsRow.laidByTextAt .later Tryz.pinned [.mappedDeep, .funcs] true :=
  OpenClaim.laidByTextAt_later rfl rfl tie noOwnUnsafe
theorem pupilStop_row_tie : Rows.pupilStopRow.laidByTextAt .later Tryz.pinned [.mappedDeep, .funcs] true :=
  OpenClaim.laidByTextAt_later rfl rfl tie noOwnUnsafe
theorem pupilInvariantUpto_row_tie : Rows.pupilInvariantUptoRow.laidByTextAt .later Tryz.pinned [.mappedDeep, .funcs] true :=
  OpenClaim.laidByTextAt_later rfl rfl tie noOwnUnsafe
theorem pupilExitUpto_row_tie : Rows.pupilExitUptoRow.laidByTextAt .later Tryz.pinned [.mappedDeep, .funcs] true :=
  OpenClaim.laidByTextAt_later rfl rfl tie noOwnUnsafe
theorem pupilFieldsUpto_row_tie : Rows.pupilFieldsUptoRow.laidByTextAt .later Tryz.pinned [.mappedDeep, .funcs] true :=
  OpenClaim.laidByTextAt_later rfl rfl tie noOwnUnsafe
theorem pupilStopUpto_row_tie : Rows.pupilStopUptoRow.laidByTextAt .later Tryz.pinned [.mappedDeep, .funcs] true :=
  OpenClaim.laidByTextAt_later rfl rfl tie noOwnUnsafe
end Go.Proofs.YtgkmjekkefmejaaGreatDoor
