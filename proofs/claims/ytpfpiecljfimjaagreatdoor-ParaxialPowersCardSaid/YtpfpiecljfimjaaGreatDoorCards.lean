/-
  DERIVED. GIVEN WITH THE SEED: THE CARDS: each row of YtpfpiecljfimjaaGreatDoorRows.lean that lists a variable, with what it lists TIED to the program's text (the seventh form; the later family's looks); each row that meets fmt, with fmt's text TOLD by the authors' own Lean function (tested against real Go, not proved from fmt's source: count such statements apart). THE CARD IS WHAT COUNTS. Prove the row's statement (the work); the ties are given (YtpfpiecljfimjaaGreatDoorTie.lean); close each card by the builder's one call (the guide's Derived/Test/ToyasCard.lean, 'card_holds'). Laid BY PROGRAM, IN A SANDBOX (cutbox-door.mjs). By AI agents, Wed Nov 11 2026. No macro, syntax, notation, axiom, sorry.
-/
import Derived.Test.YtpfpiecljfimjaaGreatDoorRows
import GoSem.ClaimSeven
namespace Go.Proofs.YtpfpiecljfimjaaGreatDoor
namespace Rows

/-- THE TIED CARD OF 'monoclelaw17.ParaxialPowers'. -/
def paraxialPowersCard : Claim7 := { stood := { row := paraxialPowersRow, standIns := [], harness := (true, "300c7b034b53d6d50c4ff8d52d0149b3fbb6c8e4ba3746384c8bd09b1e951267"), looks := true }, kinds := [], alts := [], laidByText := true, laidKinds := [.mappedDeep, .funcs], laidTests := true, laidLooks := .later }
def ParaxialPowersCardSaid : Prop := Claim7.holds Tryz.pinned (.plain (OpenSpec.ofChange paraxialPowersSpec)) paraxialPowersCard

/-- THE TIED CARD OF 'monoclelaw17.ParaxialTraces'. -/
def paraxialTracesCard : Claim7 := { stood := { row := paraxialTracesRow, standIns := [], harness := (true, "300c7b034b53d6d50c4ff8d52d0149b3fbb6c8e4ba3746384c8bd09b1e951267"), looks := true }, kinds := [], alts := [], laidByText := true, laidKinds := [.mappedDeep, .funcs], laidTests := true, laidLooks := .later }
def ParaxialTracesCardSaid : Prop := Claim7.holds Tryz.pinned (.plain (OpenSpec.ofChange paraxialTracesSpec)) paraxialTracesCard

/-- THE TIED CARD OF 'monoclelaw17.ParaxialBacks'. -/
def paraxialBacksCard : Claim7 := { stood := { row := paraxialBacksRow, standIns := [], harness := (true, "300c7b034b53d6d50c4ff8d52d0149b3fbb6c8e4ba3746384c8bd09b1e951267"), looks := true }, kinds := [], alts := [], laidByText := true, laidKinds := [.mappedDeep, .funcs], laidTests := true, laidLooks := .later }
def ParaxialBacksCardSaid : Prop := Claim7.holds Tryz.pinned (.plain (OpenSpec.ofChange paraxialBacksSpec)) paraxialBacksCard

/-- THE TIED CARD OF 'monoclelaw17.ParaxialSlopes'. -/
def paraxialSlopesCard : Claim7 := { stood := { row := paraxialSlopesRow, standIns := [], harness := (true, "300c7b034b53d6d50c4ff8d52d0149b3fbb6c8e4ba3746384c8bd09b1e951267"), looks := true }, kinds := [], alts := [], laidByText := true, laidKinds := [.mappedDeep, .funcs], laidTests := true, laidLooks := .later }
def ParaxialSlopesCardSaid : Prop := Claim7.holds Tryz.pinned (.plain (OpenSpec.ofChange paraxialSlopesSpec)) paraxialSlopesCard

/-- THE SECOND FORM's CARD OF 'monoclelaw17.ParaxialPowers'. -/
def paraxialPowersUptoCard : Claim7 := { stood := { row := paraxialPowersUptoRow, standIns := [], harness := (true, "300c7b034b53d6d50c4ff8d52d0149b3fbb6c8e4ba3746384c8bd09b1e951267"), looks := true }, kinds := [], alts := [], laidByText := true, laidKinds := [.mappedDeep, .funcs], laidTests := true, laidLooks := .later }
def ParaxialPowersUptoCardSaid : Prop := Claim7.holds Tryz.pinned (.plain (OpenSpec.upto paraxialPowersSpec)) paraxialPowersUptoCard

/-- THE SECOND FORM's CARD OF 'monoclelaw17.ParaxialTraces'. -/
def paraxialTracesUptoCard : Claim7 := { stood := { row := paraxialTracesUptoRow, standIns := [], harness := (true, "300c7b034b53d6d50c4ff8d52d0149b3fbb6c8e4ba3746384c8bd09b1e951267"), looks := true }, kinds := [], alts := [], laidByText := true, laidKinds := [.mappedDeep, .funcs], laidTests := true, laidLooks := .later }
def ParaxialTracesUptoCardSaid : Prop := Claim7.holds Tryz.pinned (.plain (OpenSpec.upto paraxialTracesSpec)) paraxialTracesUptoCard

/-- THE SECOND FORM's CARD OF 'monoclelaw17.ParaxialBacks'. -/
def paraxialBacksUptoCard : Claim7 := { stood := { row := paraxialBacksUptoRow, standIns := [], harness := (true, "300c7b034b53d6d50c4ff8d52d0149b3fbb6c8e4ba3746384c8bd09b1e951267"), looks := true }, kinds := [], alts := [], laidByText := true, laidKinds := [.mappedDeep, .funcs], laidTests := true, laidLooks := .later }
def ParaxialBacksUptoCardSaid : Prop := Claim7.holds Tryz.pinned (.plain (OpenSpec.upto paraxialBacksSpec)) paraxialBacksUptoCard

/-- THE SECOND FORM's CARD OF 'monoclelaw17.ParaxialSlopes'. -/
def paraxialSlopesUptoCard : Claim7 := { stood := { row := paraxialSlopesUptoRow, standIns := [], harness := (true, "300c7b034b53d6d50c4ff8d52d0149b3fbb6c8e4ba3746384c8bd09b1e951267"), looks := true }, kinds := [], alts := [], laidByText := true, laidKinds := [.mappedDeep, .funcs], laidTests := true, laidLooks := .later }
def ParaxialSlopesUptoCardSaid : Prop := Claim7.holds Tryz.pinned (.plain (OpenSpec.upto paraxialSlopesSpec)) paraxialSlopesUptoCard
end Rows
end Go.Proofs.YtpfpiecljfimjaaGreatDoor
