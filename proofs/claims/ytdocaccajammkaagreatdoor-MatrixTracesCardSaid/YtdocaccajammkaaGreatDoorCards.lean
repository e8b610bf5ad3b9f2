/-
  DERIVED. GIVEN WITH THE SEED: THE CARDS: each row of YtdocaccajammkaaGreatDoorRows.lean that lists a variable, with what it lists TIED to the program's text (the seventh form; the later family's looks); each row that meets fmt, with fmt's text TOLD by the authors' own Lean function (tested against real Go, not proved from fmt's source: count such statements apart). THE CARD IS WHAT COUNTS. Prove the row's statement (the work); the ties are given (YtdocaccajammkaaGreatDoorTie.lean); close each card by the builder's one call (the guide's Derived/Test/ToyasCard.lean, 'card_holds'). Laid BY PROGRAM, IN A SANDBOX (cutbox-door.mjs). By AI agents, Wed Nov 11 2026. No macro, syntax, notation, axiom, sorry.
-/
import Derived.Test.YtdocaccajammkaaGreatDoorRows
import GoSem.ClaimSeven
namespace Go.Proofs.YtdocaccajammkaaGreatDoor
namespace Rows

/-- THE TIED CARD OF 'monoclelaw18.MatrixPlanes'. -/
def matrixPlanesCard : Claim7 := { stood := { row := matrixPlanesRow, standIns := [], harness := (true, "3a62ee03f7226f04b3b5da08d1041f694ee80ee4c332b020359286b00d3eb84a"), looks := true }, kinds := [], alts := [], laidByText := true, laidKinds := [.mappedDeep, .funcs], laidTests := true, laidLooks := .later }
def MatrixPlanesCardSaid : Prop := Claim7.holds Tryz.pinned (.plain (OpenSpec.ofChange matrixPlanesSpec)) matrixPlanesCard

/-- THE TIED CARD OF 'monoclelaw18.MatrixUnit'. -/
def matrixUnitCard : Claim7 := { stood := { row := matrixUnitRow, standIns := [], harness := (true, "3a62ee03f7226f04b3b5da08d1041f694ee80ee4c332b020359286b00d3eb84a"), looks := true }, kinds := [], alts := [], laidByText := true, laidKinds := [.mappedDeep, .funcs], laidTests := true, laidLooks := .later }
def MatrixUnitCardSaid : Prop := Claim7.holds Tryz.pinned (.plain (OpenSpec.ofChange matrixUnitSpec)) matrixUnitCard

/-- THE TIED CARD OF 'monoclelaw18.MatrixTraces'. -/
def matrixTracesCard : Claim7 := { stood := { row := matrixTracesRow, standIns := [], harness := (true, "3a62ee03f7226f04b3b5da08d1041f694ee80ee4c332b020359286b00d3eb84a"), looks := true }, kinds := [], alts := [], laidByText := true, laidKinds := [.mappedDeep, .funcs], laidTests := true, laidLooks := .later }
def MatrixTracesCardSaid : Prop := Claim7.holds Tryz.pinned (.plain (OpenSpec.ofChange matrixTracesSpec)) matrixTracesCard

/-- THE TIED CARD OF 'monoclelaw19.PupilInvariant'. -/
def pupilInvariantCard : Claim7 := { stood := { row := pupilInvariantRow, standIns := [], harness := (true, "3a62ee03f7226f04b3b5da08d1041f694ee80ee4c332b020359286b00d3eb84a"), looks := true }, kinds := [], alts := [], laidByText := true, laidKinds := [.mappedDeep, .funcs], laidTests := true, laidLooks := .later }
def PupilInvariantCardSaid : Prop := Claim7.holds Tryz.pinned (.plain (OpenSpec.ofChange pupilInvariantSpec)) pupilInvariantCard

/-- THE TIED CARD OF 'monoclelaw19.PupilExit'. -/
def pupilExitCard : Claim7 := { stood := { row := pupilExitRow, standIns := [], harness := (true, "3a62ee03f7226f04b3b5da08d1041f694ee80ee4c332b020359286b00d3eb84a"), looks := true }, kinds := [], alts := [], laidByText := true, laidKinds := [.mappedDeep, .funcs], laidTests := true, laidLooks := .later }
def PupilExitCardSaid : Prop := Claim7.holds Tryz.pinned (.plain (OpenSpec.ofChange pupilExitSpec)) pupilExitCard

/-- THE TIED CARD OF 'monoclelaw19.PupilFields'. -/
def pupilFieldsCard : Claim7 := { stood := { row := pupilFieldsRow, standIns := [], harness := (true, "3a62ee03f7226f04b3b5da08d1041f694ee80ee4c332b020359286b00d3eb84a"), looks := true }, kinds := [], alts := [], laidByText := true, laidKinds := [.mappedDeep, .funcs], laidTests := true, laidLooks := .later }
def PupilFieldsCardSaid : Prop := Claim7.holds Tryz.pinned (.plain (OpenSpec.ofChange pupilFieldsSpec)) pupilFieldsCard

/-- THE TIED CARD OF 'monoclelaw19.PupilStop'. -/
def pupilStopCard : Claim7 := { stood := { row := pupilStopRow, standIns := [], harness := (true, "3a62ee03f7226f04b3b5da08d1041f694ee80ee4c332b020359286b00d3eb84a"), looks := true }, kinds := [], alts := [], laidByText := true, laidKinds := [.mappedDeep, .funcs], laidTests := true, laidLooks := .later }
def PupilStopCardSaid : Prop := Claim7.holds Tryz.pinned (.plain (OpenSpec.ofChange pupilStopSpec)) pupilStopCard

/-- THE SECOND FORM's CARD OF 'monoclelaw18.MatrixPlanes'. -/
def matrixPlanesUptoCard : Claim7 := { stood := { row := matrixPlanesUptoRow, standIns := [], harness := (true, "3a62ee03f7226f04b3b5da08d1041f694ee80ee4c332b020359286b00d3eb84a"), looks := true }, kinds := [], alts := [], laidByText := true, laidKinds := [.mappedDeep, .funcs], laidTests := true, laidLooks := .later }
def MatrixPlanesUptoCardSaid : Prop := Claim7.holds Tryz.pinned (.plain (OpenSpec.upto matrixPlanesSpec)) matrixPlanesUptoCard

/-- THE SECOND FORM's CARD OF 'monoclelaw18.MatrixUnit'. -/
def matrixUnitUptoCard : Claim7 := { stood := { row := matrixUnitUptoRow, standIns := [], harness := (true, "3a62ee03f7226f04b3b5da08d1041f694ee80ee4c332b020359286b00d3eb84a"), looks := true }, kinds := [], alts := [], laidByText := true, laidKinds := [.mappedDeep, .funcs], laidTests := true, laidLooks := .later }
def MatrixUnitUptoCardSaid : Prop := Claim7.holds Tryz.pinned (.plain (OpenSpec.upto matrixUnitSpec)) matrixUnitUptoCard

/-- THE SECOND FORM's CARD OF 'monoclelaw18.MatrixTraces'. -/
def matrixTracesUptoCard : Claim7 := { stood := { row := matrixTracesUptoRow, standIns := [], harness := (true, "3a62ee03f7226f04b3b5da08d1041f694ee80ee4c332b020359286b00d3eb84a"), looks := true }, kinds := [], alts := [], laidByText := true, laidKinds := [.mappedDeep, .funcs], laidTests := true, laidLooks := .later }
def MatrixTracesUptoCardSaid : Prop := Claim7.holds Tryz.pinned (.plain (OpenSpec.upto matrixTracesSpec)) matrixTracesUptoCard

/-- THE SECOND FORM's CARD OF 'monoclelaw19.PupilInvariant'. -/
def pupilInvariantUptoCard : Claim7 := { stood := { row := pupilInvariantUptoRow, standIns := [], harness := (true, "3a62ee03f7226f04b3b5da08d1041f694ee80ee4c332b020359286b00d3eb84a"), looks := true }, kinds := [], alts := [], laidByText := true, laidKinds := [.mappedDeep, .funcs], laidTests := true, laidLooks := .later }
def PupilInvariantUptoCardSaid : Prop := Claim7.holds Tryz.pinned (.plain (OpenSpec.upto pupilInvariantSpec)) pupilInvariantUptoCard

/-- THE SECOND FORM's CARD OF 'monoclelaw19.PupilExit'. -/
def pupilExitUptoCard : Claim7 := { stood := { row := pupilExitUptoRow, standIns := [], harness := (true, "3a62ee03f7226f04b3b5da08d1041f694ee80ee4c332b020359286b00d3eb84a"), looks := true }, kinds := [], alts := [], laidByText := true, laidKinds := [.mappedDeep, .funcs], laidTests := true, laidLooks := .later }
def PupilExitUptoCardSaid : Prop := Claim7.holds Tryz.pinned (.plain (OpenSpec.upto pupilExitSpec)) pupilExitUptoCard

/-- THE SECOND FORM's CARD OF 'monoclelaw19.PupilFields'. -/
def pupilFieldsUptoCard : Claim7 := { stood := { row := pupilFieldsUptoRow, standIns := [], harness := (true, "3a62ee03f7226f04b3b5da08d1041f694ee80ee4c332b020359286b00d3eb84a"), looks := true }, kinds := [], alts := [], laidByText := true, laidKinds := [.mappedDeep, .funcs], laidTests := true, laidLooks := .later }
def PupilFieldsUptoCardSaid : Prop := Claim7.holds Tryz.pinned (.plain (OpenSpec.upto pupilFieldsSpec)) pupilFieldsUptoCard

/-- THE SECOND FORM's CARD OF 'monoclelaw19.PupilStop'. -/
def pupilStopUptoCard : Claim7 := { stood := { row := pupilStopUptoRow, standIns := [], harness := (true, "3a62ee03f7226f04b3b5da08d1041f694ee80ee4c332b020359286b00d3eb84a"), looks := true }, kinds := [], alts := [], laidByText := true, laidKinds := [.mappedDeep, .funcs], laidTests := true, laidLooks := .later }
def PupilStopUptoCardSaid : Prop := Claim7.holds Tryz.pinned (.plain (OpenSpec.upto pupilStopSpec)) pupilStopUptoCard
end Rows
end Go.Proofs.YtdocaccajammkaaGreatDoor
