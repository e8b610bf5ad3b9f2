/-
  DERIVED. GIVEN WITH THE SEED: THE CARDS: each row of YtgkmjekkefmejaaGreatDoorRows.lean that lists a variable, with what it lists TIED to the program's text (the seventh form; the later family's looks); each row that meets fmt, with fmt's text TOLD by the authors' own Lean function (tested against real Go, not proved from fmt's source: count such statements apart). THE CARD IS WHAT COUNTS. Prove the row's statement (the work); the ties are given (YtgkmjekkefmejaaGreatDoorTie.lean); close each card by the builder's one call (the guide's Derived/Test/ToyasCard.lean, 'card_holds'). Laid BY PROGRAM, IN A SANDBOX (cutbox-door.mjs). By AI agents, Wed Nov 11 2026. No macro, syntax, notation, axiom, sorry.
-/
import Derived.Test.YtgkmjekkefmejaaGreatDoorRows
import GoSem.ClaimSeven
namespace Go.Proofs.YtgkmjekkefmejaaGreatDoor
namespace Rows

/-- THE TIED CARD OF 'monoclelaw19.PupilInvariant'. -/
def pupilInvariantCard : Claim7 := { stood := { row := pupilInvariantRow, standIns := [], harness := (true, "792c2a7c9ab4a89d2d7b041313bbdc98b57968229197c6c616c0a64b1e272d5b"), looks := true }, kinds := [], alts := [], laidByText := true, laidKinds := [.mappedDeep, .funcs], laidTests := true, laidLooks := .later }
def PupilInvariantCardSaid : Prop := Claim7.holds Tryz.pinned (.plain (OpenSpec.ofChange pupilInvariantSpec)) pupilInvariantCard

/-- THE TIED CARD OF 'monoclelaw19.PupilExit'. -/
def pupilExitCard : Claim7 := { stood := { row := pupilExitRow, standIns := [], harness := (true, "792c2a7c9ab4a89d2d7b041313bbdc98b57968229197c6c616c0a64b1e272d5b"), looks := true }, kinds := [], alts := [], laidByText := true, laidKinds := [.mappedDeep, .funcs], laidTests := true, laidLooks := .later }
def PupilExitCardSaid : Prop := Claim7.holds Tryz.pinned (.plain (OpenSpec.ofChange pupilExitSpec)) pupilExitCard

/-- THE TIED CARD OF 'monoclelaw19.PupilFields'. -/
def pupilFieldsCard : Claim7 := { stood := { row := pupilFieldsRow, standIns := [], harness := (true, "792c2a7c9ab4a89d2d7b041313bbdc98b57968229197c6c616c0a64b1e272d5b"), looks := true }, kinds := [], alts := [], laidByText := true, laidKinds := [.mappedDeep, .funcs], laidTests := true, laidLooks := .later }
def PupilFieldsCardSaid : Prop := Claim7.holds Tryz.pinned (.plain (OpenSpec.ofChange pupilFieldsSpec)) pupilFieldsCard

/-- THE TIED CARD OF 'monoclelaw19.PupilStop'. -/
def pupilStopCard : Claim7 := { stood := { row := pupilStopRow, standIns := [], harness := (true, "792c2a7c9ab4a89d2d7b041313bbdc98b57968229197c6c616c0a64b1e272d5b"), looks := true }, kinds := [], alts := [], laidByText := true, laidKinds := [.mappedDeep, .funcs], laidTests := true, laidLooks := .later }
def PupilStopCardSaid : Prop := Claim7.holds Tryz.pinned (.plain (OpenSpec.ofChange pupilStopSpec)) pupilStopCard

/-- THE SECOND FORM's CARD OF 'monoclelaw19.PupilInvariant'. -/
def pupilInvariantUptoCard : Claim7 := { stood := { row := pupilInvariantUptoRow, standIns := [], harness := (true, "792c2a7c9ab4a89d2d7b041313bbdc98b57968229197c6c616c0a64b1e272d5b"), looks := true }, kinds := [], alts := [], laidByText := true, laidKinds := [.mappedDeep, .funcs], laidTests := true, laidLooks := .later }
def PupilInvariantUptoCardSaid : Prop := Claim7.holds Tryz.pinned (.plain (OpenSpec.upto pupilInvariantSpec)) pupilInvariantUptoCard

/-- THE SECOND FORM's CARD OF 'monoclelaw19.PupilExit'. -/
def pupilExitUptoCard : Claim7 := { stood := { row := pupilExitUptoRow, standIns := [], harness := (true, "792c2a7c9ab4a89d2d7b041313bbdc98b57968229197c6c616c0a64b1e272d5b"), looks := true }, kinds := [], alts := [], laidByText := true, laidKinds := [.mappedDeep, .funcs], laidTests := true, laidLooks := .later }
def PupilExitUptoCardSaid : Prop := Claim7.holds Tryz.pinned (.plain (OpenSpec.upto pupilExitSpec)) pupilExitUptoCard

/-- THE SECOND FORM's CARD OF 'monoclelaw19.PupilFields'. -/
def pupilFieldsUptoCard : Claim7 := { stood := { row := pupilFieldsUptoRow, standIns := [], harness := (true, "792c2a7c9ab4a89d2d7b041313bbdc98b57968229197c6c616c0a64b1e272d5b"), looks := true }, kinds := [], alts := [], laidByText := true, laidKinds := [.mappedDeep, .funcs], laidTests := true, laidLooks := .later }
def PupilFieldsUptoCardSaid : Prop := Claim7.holds Tryz.pinned (.plain (OpenSpec.upto pupilFieldsSpec)) pupilFieldsUptoCard

/-- THE SECOND FORM's CARD OF 'monoclelaw19.PupilStop'. -/
def pupilStopUptoCard : Claim7 := { stood := { row := pupilStopUptoRow, standIns := [], harness := (true, "792c2a7c9ab4a89d2d7b041313bbdc98b57968229197c6c616c0a64b1e272d5b"), looks := true }, kinds := [], alts := [], laidByText := true, laidKinds := [.mappedDeep, .funcs], laidTests := true, laidLooks := .later }
def PupilStopUptoCardSaid : Prop := Claim7.holds Tryz.pinned (.plain (OpenSpec.upto pupilStopSpec)) pupilStopUptoCard
end Rows
end Go.Proofs.YtgkmjekkefmejaaGreatDoor
