/-
  DERIVED. GIVEN WITH THE SEED: THE CARDS: each row of YtdgodcgdlfjpaaaGreatDoorRows.lean that lists a variable, with what it lists TIED to the program's text (the seventh form; the later family's looks); each row that meets fmt, with fmt's text TOLD by the authors' own Lean function (tested against real Go, not proved from fmt's source: count such statements apart). THE CARD IS WHAT COUNTS. Prove the row's statement (the work); the ties are given (YtdgodcgdlfjpaaaGreatDoorTie.lean); close each card by the builder's one call (the guide's Derived/Test/ToyasCard.lean, 'card_holds'). Laid BY PROGRAM, IN A SANDBOX (cutbox-door.mjs). By AI agents, Wed Nov 11 2026. No macro, syntax, notation, axiom, sorry.
-/
import Derived.Test.YtdgodcgdlfjpaaaGreatDoorRows
import GoSem.ClaimSeven
namespace Go.Proofs.YtdgodcgdlfjpaaaGreatDoor
namespace Rows

/-- THE TIED CARD OF 'monoclelaw40.CoatReflects'. -/
def coatReflectsCard : Claim7 := { stood := { row := coatReflectsRow, standIns := [], harness := (true, "8c7e7d712da00f2ec4205cf5e30e6eb24515fa0a3a99f2f9b4406062a23bbaf6"), looks := true }, kinds := [], alts := [], laidByText := true, laidKinds := [.mappedDeep], laidTests := true, laidLooks := .later }
def CoatReflectsCardSaid : Prop := Claim7.holds Tryz.pinned (.plain (OpenSpec.ofChange coatReflectsSpec)) coatReflectsCard

/-- THE TIED CARD OF 'monoclelaw40.CoatBests'. -/
def coatBestsCard : Claim7 := { stood := { row := coatBestsRow, standIns := [], harness := (true, "8c7e7d712da00f2ec4205cf5e30e6eb24515fa0a3a99f2f9b4406062a23bbaf6"), looks := true }, kinds := [], alts := [], laidByText := true, laidKinds := [.mappedDeep], laidTests := true, laidLooks := .later }
def CoatBestsCardSaid : Prop := Claim7.holds Tryz.pinned (.plain (OpenSpec.ofChange coatBestsSpec)) coatBestsCard

/-- THE TIED CARD OF 'monoclelaw40.CoatLeast'. -/
def coatLeastCard : Claim7 := { stood := { row := coatLeastRow, standIns := [], harness := (true, "8c7e7d712da00f2ec4205cf5e30e6eb24515fa0a3a99f2f9b4406062a23bbaf6"), looks := true }, kinds := [], alts := [], laidByText := true, laidKinds := [.mappedDeep], laidTests := true, laidLooks := .later }
def CoatLeastCardSaid : Prop := Claim7.holds Tryz.pinned (.plain (OpenSpec.ofChange coatLeastSpec)) coatLeastCard

/-- THE TIED CARD OF 'monoclelaw40.CoatStacks'. -/
def coatStacksCard : Claim7 := { stood := { row := coatStacksRow, standIns := [], harness := (true, "8c7e7d712da00f2ec4205cf5e30e6eb24515fa0a3a99f2f9b4406062a23bbaf6"), looks := true }, kinds := [], alts := [], laidByText := true, laidKinds := [.mappedDeep], laidTests := true, laidLooks := .later }
def CoatStacksCardSaid : Prop := Claim7.holds Tryz.pinned (.plain (OpenSpec.ofChange coatStacksSpec)) coatStacksCard

/-- THE TIED CARD OF 'monoclelaw40.CoatKnown'. -/
def coatKnownCard : Claim7 := { stood := { row := coatKnownRow, standIns := [], harness := (true, "8c7e7d712da00f2ec4205cf5e30e6eb24515fa0a3a99f2f9b4406062a23bbaf6"), looks := true }, kinds := [], alts := [], laidByText := true, laidKinds := [.mappedDeep], laidTests := true, laidLooks := .later }
def CoatKnownCardSaid : Prop := Claim7.holds Tryz.pinned (.plain (OpenSpec.ofChange coatKnownSpec)) coatKnownCard

/-- THE TIED CARD OF 'monoclelaw40.CoatSums'. -/
def coatSumsCard : Claim7 := { stood := { row := coatSumsRow, standIns := [], harness := (true, "8c7e7d712da00f2ec4205cf5e30e6eb24515fa0a3a99f2f9b4406062a23bbaf6"), looks := true }, kinds := [], alts := [], laidByText := true, laidKinds := [.mappedDeep], laidTests := true, laidLooks := .later }
def CoatSumsCardSaid : Prop := Claim7.holds Tryz.pinned (.plain (OpenSpec.ofChange coatSumsSpec)) coatSumsCard

/-- THE TIED CARD OF 'monoclelaw18.MatrixGroups'. -/
def matrixGroupsCard : Claim7 := { stood := { row := matrixGroupsRow, standIns := [], harness := (true, "8c7e7d712da00f2ec4205cf5e30e6eb24515fa0a3a99f2f9b4406062a23bbaf6"), looks := true }, kinds := [], alts := [], laidByText := true, laidKinds := [.mappedDeep, .funcs], laidTests := true, laidLooks := .later }
def MatrixGroupsCardSaid : Prop := Claim7.holds Tryz.pinned (.plain (OpenSpec.ofChange matrixGroupsSpec)) matrixGroupsCard

/-- THE TIED CARD OF 'monoclelaw18.MatrixKnown'. -/
def matrixKnownCard : Claim7 := { stood := { row := matrixKnownRow, standIns := [], harness := (true, "8c7e7d712da00f2ec4205cf5e30e6eb24515fa0a3a99f2f9b4406062a23bbaf6"), looks := true }, kinds := [], alts := [], laidByText := true, laidKinds := [.mappedDeep, .funcs], laidTests := true, laidLooks := .later }
def MatrixKnownCardSaid : Prop := Claim7.holds Tryz.pinned (.plain (OpenSpec.ofChange matrixKnownSpec)) matrixKnownCard

/-- THE TIED CARD OF 'monoclelaw40.CoatJoins'. -/
def coatJoinsCard : Claim7 := { stood := { row := coatJoinsRow, standIns := [], harness := (true, "8c7e7d712da00f2ec4205cf5e30e6eb24515fa0a3a99f2f9b4406062a23bbaf6"), looks := true }, kinds := [], alts := [], laidByText := true, laidKinds := [.mappedDeep], laidTests := true, laidLooks := .later }
def CoatJoinsCardSaid : Prop := Claim7.holds Tryz.pinned (.plain (OpenSpec.ofChange coatJoinsSpec)) coatJoinsCard

/-- THE SECOND FORM's CARD OF 'monoclelaw40.CoatReflects'. -/
def coatReflectsUptoCard : Claim7 := { stood := { row := coatReflectsUptoRow, standIns := [], harness := (true, "8c7e7d712da00f2ec4205cf5e30e6eb24515fa0a3a99f2f9b4406062a23bbaf6"), looks := true }, kinds := [], alts := [], laidByText := true, laidKinds := [.mappedDeep], laidTests := true, laidLooks := .later }
def CoatReflectsUptoCardSaid : Prop := Claim7.holds Tryz.pinned (.plain (OpenSpec.upto coatReflectsSpec)) coatReflectsUptoCard

/-- THE SECOND FORM's CARD OF 'monoclelaw40.CoatBests'. -/
def coatBestsUptoCard : Claim7 := { stood := { row := coatBestsUptoRow, standIns := [], harness := (true, "8c7e7d712da00f2ec4205cf5e30e6eb24515fa0a3a99f2f9b4406062a23bbaf6"), looks := true }, kinds := [], alts := [], laidByText := true, laidKinds := [.mappedDeep], laidTests := true, laidLooks := .later }
def CoatBestsUptoCardSaid : Prop := Claim7.holds Tryz.pinned (.plain (OpenSpec.upto coatBestsSpec)) coatBestsUptoCard

/-- THE SECOND FORM's CARD OF 'monoclelaw40.CoatLeast'. -/
def coatLeastUptoCard : Claim7 := { stood := { row := coatLeastUptoRow, standIns := [], harness := (true, "8c7e7d712da00f2ec4205cf5e30e6eb24515fa0a3a99f2f9b4406062a23bbaf6"), looks := true }, kinds := [], alts := [], laidByText := true, laidKinds := [.mappedDeep], laidTests := true, laidLooks := .later }
def CoatLeastUptoCardSaid : Prop := Claim7.holds Tryz.pinned (.plain (OpenSpec.upto coatLeastSpec)) coatLeastUptoCard

/-- THE SECOND FORM's CARD OF 'monoclelaw40.CoatStacks'. -/
def coatStacksUptoCard : Claim7 := { stood := { row := coatStacksUptoRow, standIns := [], harness := (true, "8c7e7d712da00f2ec4205cf5e30e6eb24515fa0a3a99f2f9b4406062a23bbaf6"), looks := true }, kinds := [], alts := [], laidByText := true, laidKinds := [.mappedDeep], laidTests := true, laidLooks := .later }
def CoatStacksUptoCardSaid : Prop := Claim7.holds Tryz.pinned (.plain (OpenSpec.upto coatStacksSpec)) coatStacksUptoCard

/-- THE SECOND FORM's CARD OF 'monoclelaw40.CoatKnown'. -/
def coatKnownUptoCard : Claim7 := { stood := { row := coatKnownUptoRow, standIns := [], harness := (true, "8c7e7d712da00f2ec4205cf5e30e6eb24515fa0a3a99f2f9b4406062a23bbaf6"), looks := true }, kinds := [], alts := [], laidByText := true, laidKinds := [.mappedDeep], laidTests := true, laidLooks := .later }
def CoatKnownUptoCardSaid : Prop := Claim7.holds Tryz.pinned (.plain (OpenSpec.upto coatKnownSpec)) coatKnownUptoCard

/-- THE SECOND FORM's CARD OF 'monoclelaw40.CoatSums'. -/
def coatSumsUptoCard : Claim7 := { stood := { row := coatSumsUptoRow, standIns := [], harness := (true, "8c7e7d712da00f2ec4205cf5e30e6eb24515fa0a3a99f2f9b4406062a23bbaf6"), looks := true }, kinds := [], alts := [], laidByText := true, laidKinds := [.mappedDeep], laidTests := true, laidLooks := .later }
def CoatSumsUptoCardSaid : Prop := Claim7.holds Tryz.pinned (.plain (OpenSpec.upto coatSumsSpec)) coatSumsUptoCard

/-- THE SECOND FORM's CARD OF 'monoclelaw18.MatrixGroups'. -/
def matrixGroupsUptoCard : Claim7 := { stood := { row := matrixGroupsUptoRow, standIns := [], harness := (true, "8c7e7d712da00f2ec4205cf5e30e6eb24515fa0a3a99f2f9b4406062a23bbaf6"), looks := true }, kinds := [], alts := [], laidByText := true, laidKinds := [.mappedDeep, .funcs], laidTests := true, laidLooks := .later }
def MatrixGroupsUptoCardSaid : Prop := Claim7.holds Tryz.pinned (.plain (OpenSpec.upto matrixGroupsSpec)) matrixGroupsUptoCard

/-- THE SECOND FORM's CARD OF 'monoclelaw18.MatrixKnown'. -/
def matrixKnownUptoCard : Claim7 := { stood := { row := matrixKnownUptoRow, standIns := [], harness := (true, "8c7e7d712da00f2ec4205cf5e30e6eb24515fa0a3a99f2f9b4406062a23bbaf6"), looks := true }, kinds := [], alts := [], laidByText := true, laidKinds := [.mappedDeep, .funcs], laidTests := true, laidLooks := .later }
def MatrixKnownUptoCardSaid : Prop := Claim7.holds Tryz.pinned (.plain (OpenSpec.upto matrixKnownSpec)) matrixKnownUptoCard

/-- THE SECOND FORM's CARD OF 'monoclelaw40.CoatJoins'. -/
def coatJoinsUptoCard : Claim7 := { stood := { row := coatJoinsUptoRow, standIns := [], harness := (true, "8c7e7d712da00f2ec4205cf5e30e6eb24515fa0a3a99f2f9b4406062a23bbaf6"), looks := true }, kinds := [], alts := [], laidByText := true, laidKinds := [.mappedDeep], laidTests := true, laidLooks := .later }
def CoatJoinsUptoCardSaid : Prop := Claim7.holds Tryz.pinned (.plain (OpenSpec.upto coatJoinsSpec)) coatJoinsUptoCard
end Rows
end Go.Proofs.YtdgodcgdlfjpaaaGreatDoor
