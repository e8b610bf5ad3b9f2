/-
  DERIVED. GIVEN WITH THE SEED: THE CARDS: each row of YtfgmlkjibdegfaaGreatDoorRows.lean that lists a variable, with what it lists TIED to the program's text (the seventh form; the later family's looks); each row that meets fmt, with fmt's text TOLD by the authors' own Lean function (tested against real Go, not proved from fmt's source: count such statements apart). THE CARD IS WHAT COUNTS. Prove the row's statement (the work); the ties are given (YtfgmlkjibdegfaaGreatDoorTie.lean); close each card by the builder's one call (the guide's Derived/Test/ToyasCard.lean, 'card_holds'). Laid BY PROGRAM, IN A SANDBOX (cutbox-door.mjs). By AI agents, Wed Nov 11 2026. No macro, syntax, notation, axiom, sorry.
-/
import Derived.Test.YtfgmlkjibdegfaaGreatDoorRows
import GoSem.ClaimSeven
namespace Go.Proofs.YtfgmlkjibdegfaaGreatDoor
namespace Rows

/-- THE TIED CARD OF 'monoclelaw17.ParaxialTraces'. -/
def paraxialTracesCard : Claim7 := { stood := { row := paraxialTracesRow, standIns := [], harness := (true, "ee47a9b820aaae3b9a1f4f450b7cc36fad91c4334c3bbfe8c4976af5c4311255"), looks := true }, kinds := [], alts := [], laidByText := true, laidKinds := [.mappedDeep, .funcs], laidTests := true, laidLooks := .later }
def ParaxialTracesCardSaid : Prop := Claim7.holds Tryz.pinned (.plain (OpenSpec.ofChange paraxialTracesSpec)) paraxialTracesCard

/-- THE TIED CARD OF 'monoclelaw17.ParaxialBacks'. -/
def paraxialBacksCard : Claim7 := { stood := { row := paraxialBacksRow, standIns := [], harness := (true, "ee47a9b820aaae3b9a1f4f450b7cc36fad91c4334c3bbfe8c4976af5c4311255"), looks := true }, kinds := [], alts := [], laidByText := true, laidKinds := [.mappedDeep, .funcs], laidTests := true, laidLooks := .later }
def ParaxialBacksCardSaid : Prop := Claim7.holds Tryz.pinned (.plain (OpenSpec.ofChange paraxialBacksSpec)) paraxialBacksCard

/-- THE TIED CARD OF 'monoclelaw17.ParaxialSlopes'. -/
def paraxialSlopesCard : Claim7 := { stood := { row := paraxialSlopesRow, standIns := [], harness := (true, "ee47a9b820aaae3b9a1f4f450b7cc36fad91c4334c3bbfe8c4976af5c4311255"), looks := true }, kinds := [], alts := [], laidByText := true, laidKinds := [.mappedDeep, .funcs], laidTests := true, laidLooks := .later }
def ParaxialSlopesCardSaid : Prop := Claim7.holds Tryz.pinned (.plain (OpenSpec.ofChange paraxialSlopesSpec)) paraxialSlopesCard

/-- THE TIED CARD OF 'monoclelaw17.ParaxialInvariant'. -/
def paraxialInvariantCard : Claim7 := { stood := { row := paraxialInvariantRow, standIns := [], harness := (true, "ee47a9b820aaae3b9a1f4f450b7cc36fad91c4334c3bbfe8c4976af5c4311255"), looks := true }, kinds := [], alts := [], laidByText := true, laidKinds := [.mappedDeep, .funcs], laidTests := true, laidLooks := .later }
def ParaxialInvariantCardSaid : Prop := Claim7.holds Tryz.pinned (.plain (OpenSpec.ofChange paraxialInvariantSpec)) paraxialInvariantCard

/-- THE TIED CARD OF 'monoclelaw17.ParaxialLinear'. -/
def paraxialLinearCard : Claim7 := { stood := { row := paraxialLinearRow, standIns := [], harness := (true, "ee47a9b820aaae3b9a1f4f450b7cc36fad91c4334c3bbfe8c4976af5c4311255"), looks := true }, kinds := [], alts := [], laidByText := true, laidKinds := [.mappedDeep, .funcs], laidTests := true, laidLooks := .later }
def ParaxialLinearCardSaid : Prop := Claim7.holds Tryz.pinned (.plain (OpenSpec.ofChange paraxialLinearSpec)) paraxialLinearCard

/-- THE TIED CARD OF 'monoclelaw17.ParaxialReturns'. -/
def paraxialReturnsCard : Claim7 := { stood := { row := paraxialReturnsRow, standIns := [], harness := (true, "ee47a9b820aaae3b9a1f4f450b7cc36fad91c4334c3bbfe8c4976af5c4311255"), looks := true }, kinds := [], alts := [], laidByText := true, laidKinds := [.mappedDeep, .funcs], laidTests := true, laidLooks := .later }
def ParaxialReturnsCardSaid : Prop := Claim7.holds Tryz.pinned (.plain (OpenSpec.ofChange paraxialReturnsSpec)) paraxialReturnsCard

/-- THE TIED CARD OF 'monoclelaw17.ParaxialPowers'. -/
def paraxialPowersCard : Claim7 := { stood := { row := paraxialPowersRow, standIns := [], harness := (true, "ee47a9b820aaae3b9a1f4f450b7cc36fad91c4334c3bbfe8c4976af5c4311255"), looks := true }, kinds := [], alts := [], laidByText := true, laidKinds := [.mappedDeep, .funcs], laidTests := true, laidLooks := .later }
def ParaxialPowersCardSaid : Prop := Claim7.holds Tryz.pinned (.plain (OpenSpec.ofChange paraxialPowersSpec)) paraxialPowersCard

/-- THE TIED CARD OF 'monoclelaw17.ParaxialPlane'. -/
def paraxialPlaneCard : Claim7 := { stood := { row := paraxialPlaneRow, standIns := [], harness := (true, "ee47a9b820aaae3b9a1f4f450b7cc36fad91c4334c3bbfe8c4976af5c4311255"), looks := true }, kinds := [], alts := [], laidByText := true, laidKinds := [.mappedDeep, .funcs], laidTests := true, laidLooks := .later }
def ParaxialPlaneCardSaid : Prop := Claim7.holds Tryz.pinned (.plain (OpenSpec.ofChange paraxialPlaneSpec)) paraxialPlaneCard

/-- THE SECOND FORM's CARD OF 'monoclelaw17.ParaxialTraces'. -/
def paraxialTracesUptoCard : Claim7 := { stood := { row := paraxialTracesUptoRow, standIns := [], harness := (true, "ee47a9b820aaae3b9a1f4f450b7cc36fad91c4334c3bbfe8c4976af5c4311255"), looks := true }, kinds := [], alts := [], laidByText := true, laidKinds := [.mappedDeep, .funcs], laidTests := true, laidLooks := .later }
def ParaxialTracesUptoCardSaid : Prop := Claim7.holds Tryz.pinned (.plain (OpenSpec.upto paraxialTracesSpec)) paraxialTracesUptoCard

/-- THE SECOND FORM's CARD OF 'monoclelaw17.ParaxialBacks'. -/
def paraxialBacksUptoCard : Claim7 := { stood := { row := paraxialBacksUptoRow, standIns := [], harness := (true, "ee47a9b820aaae3b9a1f4f450b7cc36fad91c4334c3bbfe8c4976af5c4311255"), looks := true }, kinds := [], alts := [], laidByText := true, laidKinds := [.mappedDeep, .funcs], laidTests := true, laidLooks := .later }
def ParaxialBacksUptoCardSaid : Prop := Claim7.holds Tryz.pinned (.plain (OpenSpec.upto paraxialBacksSpec)) paraxialBacksUptoCard

/-- THE SECOND FORM's CARD OF 'monoclelaw17.ParaxialSlopes'. -/
def paraxialSlopesUptoCard : Claim7 := { stood := { row := paraxialSlopesUptoRow, standIns := [], harness := (true, "ee47a9b820aaae3b9a1f4f450b7cc36fad91c4334c3bbfe8c4976af5c4311255"), looks := true }, kinds := [], alts := [], laidByText := true, laidKinds := [.mappedDeep, .funcs], laidTests := true, laidLooks := .later }
def ParaxialSlopesUptoCardSaid : Prop := Claim7.holds Tryz.pinned (.plain (OpenSpec.upto paraxialSlopesSpec)) paraxialSlopesUptoCard

/-- THE SECOND FORM's CARD OF 'monoclelaw17.ParaxialInvariant'. -/
def paraxialInvariantUptoCard : Claim7 := { stood := { row := paraxialInvariantUptoRow, standIns := [], harness := (true, "ee47a9b820aaae3b9a1f4f450b7cc36fad91c4334c3bbfe8c4976af5c4311255"), looks := true }, kinds := [], alts := [], laidByText := true, laidKinds := [.mappedDeep, .funcs], laidTests := true, laidLooks := .later }
def ParaxialInvariantUptoCardSaid : Prop := Claim7.holds Tryz.pinned (.plain (OpenSpec.upto paraxialInvariantSpec)) paraxialInvariantUptoCard

/-- THE SECOND FORM's CARD OF 'monoclelaw17.ParaxialLinear'. -/
def paraxialLinearUptoCard : Claim7 := { stood := { row := paraxialLinearUptoRow, standIns := [], harness := (true, "ee47a9b820aaae3b9a1f4f450b7cc36fad91c4334c3bbfe8c4976af5c4311255"), looks := true }, kinds := [], alts := [], laidByText := true, laidKinds := [.mappedDeep, .funcs], laidTests := true, laidLooks := .later }
def ParaxialLinearUptoCardSaid : Prop := Claim7.holds Tryz.pinned (.plain (OpenSpec.upto paraxialLinearSpec)) paraxialLinearUptoCard

/-- THE SECOND FORM's CARD OF 'monoclelaw17.ParaxialReturns'. -/
def paraxialReturnsUptoCard : Claim7 := { stood := { row := paraxialReturnsUptoRow, standIns := [], harness := (true, "ee47a9b820aaae3b9a1f4f450b7cc36fad91c4334c3bbfe8c4976af5c4311255"), looks := true }, kinds := [], alts := [], laidByText := true, laidKinds := [.mappedDeep, .funcs], laidTests := true, laidLooks := .later }
def ParaxialReturnsUptoCardSaid : Prop := Claim7.holds Tryz.pinned (.plain (OpenSpec.upto paraxialReturnsSpec)) paraxialReturnsUptoCard

/-- THE SECOND FORM's CARD OF 'monoclelaw17.ParaxialPowers'. -/
def paraxialPowersUptoCard : Claim7 := { stood := { row := paraxialPowersUptoRow, standIns := [], harness := (true, "ee47a9b820aaae3b9a1f4f450b7cc36fad91c4334c3bbfe8c4976af5c4311255"), looks := true }, kinds := [], alts := [], laidByText := true, laidKinds := [.mappedDeep, .funcs], laidTests := true, laidLooks := .later }
def ParaxialPowersUptoCardSaid : Prop := Claim7.holds Tryz.pinned (.plain (OpenSpec.upto paraxialPowersSpec)) paraxialPowersUptoCard

/-- THE SECOND FORM's CARD OF 'monoclelaw17.ParaxialPlane'. -/
def paraxialPlaneUptoCard : Claim7 := { stood := { row := paraxialPlaneUptoRow, standIns := [], harness := (true, "ee47a9b820aaae3b9a1f4f450b7cc36fad91c4334c3bbfe8c4976af5c4311255"), looks := true }, kinds := [], alts := [], laidByText := true, laidKinds := [.mappedDeep, .funcs], laidTests := true, laidLooks := .later }
def ParaxialPlaneUptoCardSaid : Prop := Claim7.holds Tryz.pinned (.plain (OpenSpec.upto paraxialPlaneSpec)) paraxialPlaneUptoCard
end Rows
end Go.Proofs.YtfgmlkjibdegfaaGreatDoor
