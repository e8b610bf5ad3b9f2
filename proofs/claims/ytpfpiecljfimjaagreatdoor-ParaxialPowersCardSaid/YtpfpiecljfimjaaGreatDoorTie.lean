/-
  DERIVED. GIVEN WITH THE SEED: THE PROGRAM's TIES (one call each: nine closed facts by the kernel) AND EACH ROW's TIE, after the 31st guide's Derived/Test/Toyas{Tie, Card}.lean. No idea stands in it: it is a product of the set-up. Laid BY PROGRAM, IN A SANDBOX (cutbox-door.mjs). By AI agents, Wed Nov 11 2026. No macro, syntax, notation, axiom, sorry.
-/
import Derived.Test.YtpfpiecljfimjaaGreatDoorRows
import Derived.LaidByTextLater
import Derived.SevenTiedAt
import Derived.LaidSub
import Derived.LaidOnce
namespace Go.Proofs.YtpfpiecljfimjaaGreatDoor
open Go
set_option maxRecDepth 100000
theorem seatTie1 : Tryz.prog.laidByTextLater [("monocle/surface.places", Rows.laid_monocle_surface_places), ("monocle/paraxial.powers", Rows.laid_monocle_paraxial_powers)] [.mappedDeep, .funcs] true :=
  Program.laidByTextLater_by_one 63 8 8 (by kernel_rfl) (by kernel_rfl) (by kernel_rfl) (by kernel_rfl) (by kernel_rfl) (by kernel_rfl) (fun _ _ => by kernel_rfl)
theorem noOwnUnsafe : Tryz.pinned.checked.prog.headLifts.contains "ownunsafe" = false := by kernel_rfl
theorem tie : Tryz.prog.laidByTextLater [("monocle/surface.places", Rows.laid_monocle_surface_places), ("monocle/paraxial.powers", Rows.laid_monocle_paraxial_powers)] [.mappedDeep, .funcs] true :=
  Program.laidByTextLater.sub seatTie1 ["monocle/surface.places", "monocle/paraxial.powers"] (by kernel_rfl) (by kernel_rfl)
theorem paraxialPowers_row_tie : Rows.paraxialPowersRow.laidByTextAt .later Tryz.pinned [.mappedDeep, .funcs] true :=
  OpenClaim.laidByTextAt_later rfl rfl tie noOwnUnsafe
theorem paraxialTraces_row_tie : Rows.paraxialTracesRow.laidByTextAt .later Tryz.pinned [.mappedDeep, .funcs] true :=
  OpenClaim.laidByTextAt_later rfl rfl tie noOwnUnsafe
theorem paraxialBacks_row_tie : Rows.paraxialBacksRow.laidByTextAt .later Tryz.pinned [.mappedDeep, .funcs] true :=
  OpenClaim.laidByTextAt_later rfl rfl tie noOwnUnsafe
theorem paraxialSlopes_row_tie : Rows.paraxialSlopesRow.laidByTextAt .later Tryz.pinned [.mappedDeep, .funcs] true :=
  OpenClaim.laidByTextAt_later rfl rfl tie noOwnUnsafe
theorem paraxialPowersUpto_row_tie : Rows.paraxialPowersUptoRow.laidByTextAt .later Tryz.pinned [.mappedDeep, .funcs] true :=
  OpenClaim.laidByTextAt_later rfl rfl tie noOwnUnsafe
theorem paraxialTracesUpto_row_tie : Rows.paraxialTracesUptoRow.laidByTextAt .later Tryz.pinned [.mappedDeep, .funcs] true :=
  OpenClaim.laidByTextAt_later rfl rfl tie noOwnUnsafe
theorem paraxialBacksUpto_row_tie : Rows.paraxialBacksUptoRow.laidByTextAt .later Tryz.pinned [.mappedDeep, .funcs] true :=
  OpenClaim.laidByTextAt_later rfl rfl tie noOwnUnsafe
theorem paraxialSlopesUpto_row_tie : Rows.paraxialSlopesUptoRow.laidByTextAt .later Tryz.pinned [.mappedDeep, .funcs] true :=
  OpenClaim.laidByTextAt_later rfl rfl tie noOwnUnsafe
end Go.Proofs.YtpfpiecljfimjaaGreatDoor
