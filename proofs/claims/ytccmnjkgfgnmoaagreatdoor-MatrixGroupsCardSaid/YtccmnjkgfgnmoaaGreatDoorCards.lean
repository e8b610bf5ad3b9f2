/-
  DERIVED. GIVEN WITH THE SEED: THE CARDS: each row of YtccmnjkgfgnmoaaGreatDoorRows.lean that lists a variable, with what it lists TIED to the program's text (the seventh form; the later family's looks); each row that meets fmt, with fmt's text TOLD by the authors' own Lean function (tested against real Go, not proved from fmt's source: count such statements apart). THE CARD IS WHAT COUNTS. Prove the row's statement (the work); the ties are given (YtccmnjkgfgnmoaaGreatDoorTie.lean); close each card by the builder's one call (the guide's Derived/Test/ToyasCard.lean, 'card_holds'). Laid BY PROGRAM, IN A SANDBOX (cutbox-door.mjs). By AI agents, Wed Nov 11 2026. No macro, syntax, notation, axiom, sorry.
-/
import Derived.Test.YtccmnjkgfgnmoaaGreatDoorRows
import GoSem.ClaimSeven
namespace Go.Proofs.YtccmnjkgfgnmoaaGreatDoor
namespace Rows

/-- THE TIED CARD OF 'monoclelaw18.MatrixGroups'. -/
def matrixGroupsCard : Claim7 := { stood := { row := matrixGroupsRow, standIns := [], harness := (true, "0ca0f186eeee4be94936cf84ea73dbe543e30e760edde5ff8a0b065013f6053a"), looks := true }, kinds := [], alts := [], laidByText := true, laidKinds := [.mappedDeep, .funcs], laidTests := true, laidLooks := .later }
def MatrixGroupsCardSaid : Prop := Claim7.holds Tryz.pinned (.plain (OpenSpec.ofChange matrixGroupsSpec)) matrixGroupsCard

/-- THE TIED CARD OF 'monoclelaw19.PupilKnown'. -/
def pupilKnownCard : Claim7 := { stood := { row := pupilKnownRow, standIns := [], harness := (true, "0ca0f186eeee4be94936cf84ea73dbe543e30e760edde5ff8a0b065013f6053a"), looks := true }, kinds := [], alts := [], laidByText := true, laidKinds := [.mappedDeep, .funcs], laidTests := true, laidLooks := .later }
def PupilKnownCardSaid : Prop := Claim7.holds Tryz.pinned (.plain (OpenSpec.ofChange pupilKnownSpec)) pupilKnownCard

/-- THE TIED CARD OF 'monoclelaw23.SeidelShifts'. -/
def seidelShiftsCard : Claim7 := { stood := { row := seidelShiftsRow, standIns := [], harness := (true, "0ca0f186eeee4be94936cf84ea73dbe543e30e760edde5ff8a0b065013f6053a"), looks := true }, kinds := [], alts := [], laidByText := true, laidKinds := [.mappedDeep, .funcs], laidTests := true, laidLooks := .later }
def SeidelShiftsCardSaid : Prop := Claim7.holds Tryz.pinned (.plain (OpenSpec.ofChange seidelShiftsSpec)) seidelShiftsCard

/-- THE TIED CARD OF 'monoclelaw23.SeidelCenter'. -/
def seidelCenterCard : Claim7 := { stood := { row := seidelCenterRow, standIns := [], harness := (true, "0ca0f186eeee4be94936cf84ea73dbe543e30e760edde5ff8a0b065013f6053a"), looks := true }, kinds := [], alts := [], laidByText := true, laidKinds := [.mappedDeep, .funcs], laidTests := true, laidLooks := .later }
def SeidelCenterCardSaid : Prop := Claim7.holds Tryz.pinned (.plain (OpenSpec.ofChange seidelCenterSpec)) seidelCenterCard

/-- THE TIED CARD OF 'monoclelaw23.SeidelKnown'. -/
def seidelKnownCard : Claim7 := { stood := { row := seidelKnownRow, standIns := [], harness := (true, "0ca0f186eeee4be94936cf84ea73dbe543e30e760edde5ff8a0b065013f6053a"), looks := true }, kinds := [], alts := [], laidByText := true, laidKinds := [.mappedDeep, .funcs], laidTests := true, laidLooks := .later }
def SeidelKnownCardSaid : Prop := Claim7.holds Tryz.pinned (.plain (OpenSpec.ofChange seidelKnownSpec)) seidelKnownCard

/-- THE SECOND FORM's CARD OF 'monoclelaw18.MatrixGroups'. -/
def matrixGroupsUptoCard : Claim7 := { stood := { row := matrixGroupsUptoRow, standIns := [], harness := (true, "0ca0f186eeee4be94936cf84ea73dbe543e30e760edde5ff8a0b065013f6053a"), looks := true }, kinds := [], alts := [], laidByText := true, laidKinds := [.mappedDeep, .funcs], laidTests := true, laidLooks := .later }
def MatrixGroupsUptoCardSaid : Prop := Claim7.holds Tryz.pinned (.plain (OpenSpec.upto matrixGroupsSpec)) matrixGroupsUptoCard

/-- THE SECOND FORM's CARD OF 'monoclelaw19.PupilKnown'. -/
def pupilKnownUptoCard : Claim7 := { stood := { row := pupilKnownUptoRow, standIns := [], harness := (true, "0ca0f186eeee4be94936cf84ea73dbe543e30e760edde5ff8a0b065013f6053a"), looks := true }, kinds := [], alts := [], laidByText := true, laidKinds := [.mappedDeep, .funcs], laidTests := true, laidLooks := .later }
def PupilKnownUptoCardSaid : Prop := Claim7.holds Tryz.pinned (.plain (OpenSpec.upto pupilKnownSpec)) pupilKnownUptoCard

/-- THE SECOND FORM's CARD OF 'monoclelaw23.SeidelShifts'. -/
def seidelShiftsUptoCard : Claim7 := { stood := { row := seidelShiftsUptoRow, standIns := [], harness := (true, "0ca0f186eeee4be94936cf84ea73dbe543e30e760edde5ff8a0b065013f6053a"), looks := true }, kinds := [], alts := [], laidByText := true, laidKinds := [.mappedDeep, .funcs], laidTests := true, laidLooks := .later }
def SeidelShiftsUptoCardSaid : Prop := Claim7.holds Tryz.pinned (.plain (OpenSpec.upto seidelShiftsSpec)) seidelShiftsUptoCard

/-- THE SECOND FORM's CARD OF 'monoclelaw23.SeidelCenter'. -/
def seidelCenterUptoCard : Claim7 := { stood := { row := seidelCenterUptoRow, standIns := [], harness := (true, "0ca0f186eeee4be94936cf84ea73dbe543e30e760edde5ff8a0b065013f6053a"), looks := true }, kinds := [], alts := [], laidByText := true, laidKinds := [.mappedDeep, .funcs], laidTests := true, laidLooks := .later }
def SeidelCenterUptoCardSaid : Prop := Claim7.holds Tryz.pinned (.plain (OpenSpec.upto seidelCenterSpec)) seidelCenterUptoCard

/-- THE SECOND FORM's CARD OF 'monoclelaw23.SeidelKnown'. -/
def seidelKnownUptoCard : Claim7 := { stood := { row := seidelKnownUptoRow, standIns := [], harness := (true, "0ca0f186eeee4be94936cf84ea73dbe543e30e760edde5ff8a0b065013f6053a"), looks := true }, kinds := [], alts := [], laidByText := true, laidKinds := [.mappedDeep, .funcs], laidTests := true, laidLooks := .later }
def SeidelKnownUptoCardSaid : Prop := Claim7.holds Tryz.pinned (.plain (OpenSpec.upto seidelKnownSpec)) seidelKnownUptoCard
end Rows
end Go.Proofs.YtccmnjkgfgnmoaaGreatDoor
