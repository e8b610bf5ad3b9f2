/-
  DERIVED. GIVEN WITH THE SEED: THE CARDS: each row of YtcgfdibagldafaaGreatDoorRows.lean that lists a variable, with what it lists TIED to the program's text (the seventh form; the later family's looks); each row that meets fmt, with fmt's text TOLD by the authors' own Lean function (tested against real Go, not proved from fmt's source: count such statements apart). THE CARD IS WHAT COUNTS. Prove the row's statement (the work); the ties are given (YtcgfdibagldafaaGreatDoorTie.lean); close each card by the builder's one call (the guide's Derived/Test/ToyasCard.lean, 'card_holds'). Laid BY PROGRAM, IN A SANDBOX (cutbox-door.mjs). By AI agents, Wed Nov 11 2026. No macro, syntax, notation, axiom, sorry.
-/
import Derived.Test.YtcgfdibagldafaaGreatDoorRows
import GoSem.ClaimSeven
namespace Go.Proofs.YtcgfdibagldafaaGreatDoor
namespace Rows

/-- THE TIED CARD OF 'monoclelaw17.ParaxialInvariant'. -/
def paraxialInvariantCard : Claim7 := { stood := { row := paraxialInvariantRow, standIns := [], harness := (true, "ae044648bc97439b3d418f7d10f7ddb26ce527a441ee41ec0e4f194c2b51f05b"), looks := true }, kinds := [], alts := [], laidByText := true, laidKinds := [.mappedDeep, .funcs], laidTests := true, laidLooks := .later }
def ParaxialInvariantCardSaid : Prop := Claim7.holds Tryz.pinned (.plain (OpenSpec.ofChange paraxialInvariantSpec)) paraxialInvariantCard

/-- THE TIED CARD OF 'monoclelaw17.ParaxialLinear'. -/
def paraxialLinearCard : Claim7 := { stood := { row := paraxialLinearRow, standIns := [], harness := (true, "ae044648bc97439b3d418f7d10f7ddb26ce527a441ee41ec0e4f194c2b51f05b"), looks := true }, kinds := [], alts := [], laidByText := true, laidKinds := [.mappedDeep, .funcs], laidTests := true, laidLooks := .later }
def ParaxialLinearCardSaid : Prop := Claim7.holds Tryz.pinned (.plain (OpenSpec.ofChange paraxialLinearSpec)) paraxialLinearCard

/-- THE TIED CARD OF 'monoclelaw17.ParaxialReturns'. -/
def paraxialReturnsCard : Claim7 := { stood := { row := paraxialReturnsRow, standIns := [], harness := (true, "ae044648bc97439b3d418f7d10f7ddb26ce527a441ee41ec0e4f194c2b51f05b"), looks := true }, kinds := [], alts := [], laidByText := true, laidKinds := [.mappedDeep, .funcs], laidTests := true, laidLooks := .later }
def ParaxialReturnsCardSaid : Prop := Claim7.holds Tryz.pinned (.plain (OpenSpec.ofChange paraxialReturnsSpec)) paraxialReturnsCard

/-- THE TIED CARD OF 'monoclelaw17.ParaxialPlane'. -/
def paraxialPlaneCard : Claim7 := { stood := { row := paraxialPlaneRow, standIns := [], harness := (true, "ae044648bc97439b3d418f7d10f7ddb26ce527a441ee41ec0e4f194c2b51f05b"), looks := true }, kinds := [], alts := [], laidByText := true, laidKinds := [.mappedDeep, .funcs], laidTests := true, laidLooks := .later }
def ParaxialPlaneCardSaid : Prop := Claim7.holds Tryz.pinned (.plain (OpenSpec.ofChange paraxialPlaneSpec)) paraxialPlaneCard

/-- THE TIED CARD OF 'monoclelaw23.SeidelShifts'. -/
def seidelShiftsCard : Claim7 := { stood := { row := seidelShiftsRow, standIns := [], harness := (true, "ae044648bc97439b3d418f7d10f7ddb26ce527a441ee41ec0e4f194c2b51f05b"), looks := true }, kinds := [], alts := [], laidByText := true, laidKinds := [.mappedDeep, .funcs], laidTests := true, laidLooks := .later }
def SeidelShiftsCardSaid : Prop := Claim7.holds Tryz.pinned (.plain (OpenSpec.ofChange seidelShiftsSpec)) seidelShiftsCard

/-- THE TIED CARD OF 'monoclelaw23.SeidelCenter'. -/
def seidelCenterCard : Claim7 := { stood := { row := seidelCenterRow, standIns := [], harness := (true, "ae044648bc97439b3d418f7d10f7ddb26ce527a441ee41ec0e4f194c2b51f05b"), looks := true }, kinds := [], alts := [], laidByText := true, laidKinds := [.mappedDeep, .funcs], laidTests := true, laidLooks := .later }
def SeidelCenterCardSaid : Prop := Claim7.holds Tryz.pinned (.plain (OpenSpec.ofChange seidelCenterSpec)) seidelCenterCard

/-- THE SECOND FORM's CARD OF 'monoclelaw17.ParaxialInvariant'. -/
def paraxialInvariantUptoCard : Claim7 := { stood := { row := paraxialInvariantUptoRow, standIns := [], harness := (true, "ae044648bc97439b3d418f7d10f7ddb26ce527a441ee41ec0e4f194c2b51f05b"), looks := true }, kinds := [], alts := [], laidByText := true, laidKinds := [.mappedDeep, .funcs], laidTests := true, laidLooks := .later }
def ParaxialInvariantUptoCardSaid : Prop := Claim7.holds Tryz.pinned (.plain (OpenSpec.upto paraxialInvariantSpec)) paraxialInvariantUptoCard

/-- THE SECOND FORM's CARD OF 'monoclelaw17.ParaxialLinear'. -/
def paraxialLinearUptoCard : Claim7 := { stood := { row := paraxialLinearUptoRow, standIns := [], harness := (true, "ae044648bc97439b3d418f7d10f7ddb26ce527a441ee41ec0e4f194c2b51f05b"), looks := true }, kinds := [], alts := [], laidByText := true, laidKinds := [.mappedDeep, .funcs], laidTests := true, laidLooks := .later }
def ParaxialLinearUptoCardSaid : Prop := Claim7.holds Tryz.pinned (.plain (OpenSpec.upto paraxialLinearSpec)) paraxialLinearUptoCard

/-- THE SECOND FORM's CARD OF 'monoclelaw17.ParaxialReturns'. -/
def paraxialReturnsUptoCard : Claim7 := { stood := { row := paraxialReturnsUptoRow, standIns := [], harness := (true, "ae044648bc97439b3d418f7d10f7ddb26ce527a441ee41ec0e4f194c2b51f05b"), looks := true }, kinds := [], alts := [], laidByText := true, laidKinds := [.mappedDeep, .funcs], laidTests := true, laidLooks := .later }
def ParaxialReturnsUptoCardSaid : Prop := Claim7.holds Tryz.pinned (.plain (OpenSpec.upto paraxialReturnsSpec)) paraxialReturnsUptoCard

/-- THE SECOND FORM's CARD OF 'monoclelaw17.ParaxialPlane'. -/
def paraxialPlaneUptoCard : Claim7 := { stood := { row := paraxialPlaneUptoRow, standIns := [], harness := (true, "ae044648bc97439b3d418f7d10f7ddb26ce527a441ee41ec0e4f194c2b51f05b"), looks := true }, kinds := [], alts := [], laidByText := true, laidKinds := [.mappedDeep, .funcs], laidTests := true, laidLooks := .later }
def ParaxialPlaneUptoCardSaid : Prop := Claim7.holds Tryz.pinned (.plain (OpenSpec.upto paraxialPlaneSpec)) paraxialPlaneUptoCard

/-- THE SECOND FORM's CARD OF 'monoclelaw23.SeidelShifts'. -/
def seidelShiftsUptoCard : Claim7 := { stood := { row := seidelShiftsUptoRow, standIns := [], harness := (true, "ae044648bc97439b3d418f7d10f7ddb26ce527a441ee41ec0e4f194c2b51f05b"), looks := true }, kinds := [], alts := [], laidByText := true, laidKinds := [.mappedDeep, .funcs], laidTests := true, laidLooks := .later }
def SeidelShiftsUptoCardSaid : Prop := Claim7.holds Tryz.pinned (.plain (OpenSpec.upto seidelShiftsSpec)) seidelShiftsUptoCard

/-- THE SECOND FORM's CARD OF 'monoclelaw23.SeidelCenter'. -/
def seidelCenterUptoCard : Claim7 := { stood := { row := seidelCenterUptoRow, standIns := [], harness := (true, "ae044648bc97439b3d418f7d10f7ddb26ce527a441ee41ec0e4f194c2b51f05b"), looks := true }, kinds := [], alts := [], laidByText := true, laidKinds := [.mappedDeep, .funcs], laidTests := true, laidLooks := .later }
def SeidelCenterUptoCardSaid : Prop := Claim7.holds Tryz.pinned (.plain (OpenSpec.upto seidelCenterSpec)) seidelCenterUptoCard
end Rows
end Go.Proofs.YtcgfdibagldafaaGreatDoor
