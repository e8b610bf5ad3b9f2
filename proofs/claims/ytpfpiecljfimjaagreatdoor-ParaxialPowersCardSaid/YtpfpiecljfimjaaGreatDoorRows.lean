/-
  NARROWER THAN 'FOR EVERY INPUT', by the rows' own cells (each row's printed sentence says how): ParaxialPowers: laid · ParaxialTraces: laid · ParaxialBacks: laid · ParaxialSlopes: laid.
  DERIVED. THE GIVEN ROWS OF THIS SEAT. 4 by the template 'for every input the law returns true; each argument reads behind the call as it read before'; 0 by the template 'total and deterministic' (their statements: YtpfpiecljfimjaaGreatDoorTotals.lean).
  GIVEN WITH THE SEED: the statements are not yours to turn. If you find one false, say at which input.
  Laid BY PROGRAM, IN A SANDBOX (cutbox-rows.mjs): the forced cells as the released guide's own fill.sh prints them over the translation b6201ed05deab631… (all of the seat's roots in one cut). By AI agents, Wed Nov 11 2026. No macro, syntax, notation, axiom, sorry.
-/
import Derived.Test.YtpfpiecljfimjaaGreatDoorChecked
import GoSem.Claim
import GoSem.ClaimJoined
import GoSem.ClaimMapViews
import Derived.JoinedTies
import Derived.KernelRfl
namespace Go.Proofs.YtpfpiecljfimjaaGreatDoor
/- THE CELL 'sum', in the pinned program and in every row, IS THE sha256 OF THE DUMP (.gsa) THAT YtpfpiecljfimjaaGreatDoorProg.lean LOADS. Nothing in Lean hashes anything: it is a label: what it is worth is what the hold of that sum in a sandbox is worth. -/
noncomputable def Tryz.pinned : Pinned := { name := "ytpfpiecljfimjaagreatdoor", sum := "b6201ed05deab6311f5e6a1498e2233089abad248f54f2b5914e824227cbd768", checked := Tryz.checked }
namespace Rows
def none {H : Type} : Left H := { results := [], args := [] }

/- WHAT THE LISTED PACKAGE-LEVEL VARIABLES READ AS WHEN THE CALL BEGINS. Each datum BY PROGRAM (the guide's laid-datum.mjs) off the statement by which the dump's own 'gosem.cut.vars' lays the variable. In a bare row this is a premise. The card (YtpfpiecljfimjaaGreatDoorCards.lean) ties it to the program's text. -/
def laid_monocle_surface_places {H : Type} : DataW H := .map [(.int .i64 1, .slice [.lit (.int .i64 1), .lit (.int .i64 2), .lit (.int .i64 5), .lit (.int .i64 6), .lit (.int .i64 7), .lit (.int .i64 8), .lit (.int .i64 10)] []), (.int .i64 2, .slice [.lit (.int .i64 1), .lit (.int .i64 2), .lit (.int .i64 3), .lit (.int .i64 4), .lit (.int .i64 10)] []), (.int .i64 3, .slice [.lit (.int .i64 11), .lit (.int .i64 12), .lit (.int .i64 13), .lit (.int .i64 14), .lit (.int .i64 15)] []), (.int .i64 4, .slice [.lit (.int .i64 1), .lit (.int .i64 10)] [])]
def laid_monocle_paraxial_powers {H : Type} : DataW H := .iface "func table" (.map [(.int .i64 1, .iface "func" (.lit (.string [40, 109, 111, 110, 111, 99, 108, 101, 47, 112, 97, 114, 97, 120, 105, 97, 108, 46, 118, 105, 101, 119, 41, 46, 99, 117, 114, 118, 101, 100]))), (.int .i64 2, .iface "func" (.lit (.string [40, 109, 111, 110, 111, 99, 108, 101, 47, 112, 97, 114, 97, 120, 105, 97, 108, 46, 118, 105, 101, 119, 41, 46, 99, 117, 114, 118, 101, 100]))), (.int .i64 3, .iface "func" (.lit (.string [40, 109, 111, 110, 111, 99, 108, 101, 47, 112, 97, 114, 97, 120, 105, 97, 108, 46, 118, 105, 101, 119, 41, 46, 102, 108, 97, 116]))), (.int .i64 4, .iface "func" (.lit (.string [40, 109, 111, 110, 111, 99, 108, 101, 47, 112, 97, 114, 97, 120, 105, 97, 108, 46, 118, 105, 101, 119, 41, 46, 105, 100, 101, 97, 108])))])

/-- 'monoclelaw17.ParaxialPowers': WHATEVER THE INPUT: true; the input reads as it did. -/
def paraxialPowersSpec : ChangeSpec := { name := "paraxialPowers", fn := fun _ => fun
  | [d1, d2, d3, d4, d5] => { results := [.lit (.bool true)], args := [d1, d2, d3, d4, d5] }
  | _ => none }
def paraxialPowersRow : OpenClaim := { program := "ytpfpiecljfimjaagreatdoor", sum := "b6201ed05deab6311f5e6a1498e2233089abad248f54f2b5914e824227cbd768", func := "monocle/monoclelaw17.ParaxialPowers", spec := "paraxialPowers", unfollowed := true, recurses := true, named := ["monocle/surface.places", "monocle/paraxial.powers"], plainKeys := false, apart := false, laid := [("monocle/surface.places", laid_monocle_surface_places), ("monocle/paraxial.powers", laid_monocle_paraxial_powers)] }
def ParaxialPowersSaid : Prop := paraxialPowersRow.holds Tryz.pinned (OpenSpec.ofChange paraxialPowersSpec)

/-- ITS FALSE NEIGHBOUR: 'it returns false'. Refute it at one input. -/
def paraxialPowersWrong : ChangeSpec := { name := "paraxialPowers", fn := fun _ => fun
  | [d1, d2, d3, d4, d5] => { results := [.lit (.bool false)], args := [d1, d2, d3, d4, d5] }
  | _ => none }
def ParaxialPowersWrongFalsely : Prop := paraxialPowersRow.holds Tryz.pinned (OpenSpec.ofChange paraxialPowersWrong)

/-- 'monoclelaw17.ParaxialTraces': WHATEVER THE INPUT: true; the input reads as it did. -/
def paraxialTracesSpec : ChangeSpec := { name := "paraxialTraces", fn := fun _ => fun
  | [d1, d2, d3, d4, d5, d6, d7, d8] => { results := [.lit (.bool true)], args := [d1, d2, d3, d4, d5, d6, d7, d8] }
  | _ => none }
def paraxialTracesRow : OpenClaim := { program := "ytpfpiecljfimjaagreatdoor", sum := "b6201ed05deab6311f5e6a1498e2233089abad248f54f2b5914e824227cbd768", func := "monocle/monoclelaw17.ParaxialTraces", spec := "paraxialTraces", unfollowed := true, recurses := true, named := ["monocle/surface.places", "monocle/paraxial.powers"], plainKeys := false, apart := false, laid := [("monocle/surface.places", laid_monocle_surface_places), ("monocle/paraxial.powers", laid_monocle_paraxial_powers)] }
def ParaxialTracesSaid : Prop := paraxialTracesRow.holds Tryz.pinned (OpenSpec.ofChange paraxialTracesSpec)

/-- ITS FALSE NEIGHBOUR: 'it returns false'. Refute it at one input. -/
def paraxialTracesWrong : ChangeSpec := { name := "paraxialTraces", fn := fun _ => fun
  | [d1, d2, d3, d4, d5, d6, d7, d8] => { results := [.lit (.bool false)], args := [d1, d2, d3, d4, d5, d6, d7, d8] }
  | _ => none }
def ParaxialTracesWrongFalsely : Prop := paraxialTracesRow.holds Tryz.pinned (OpenSpec.ofChange paraxialTracesWrong)

/-- 'monoclelaw17.ParaxialBacks': WHATEVER THE INPUT: true; the input reads as it did. -/
def paraxialBacksSpec : ChangeSpec := { name := "paraxialBacks", fn := fun _ => fun
  | [d1, d2, d3, d4, d5, d6, d7, d8] => { results := [.lit (.bool true)], args := [d1, d2, d3, d4, d5, d6, d7, d8] }
  | _ => none }
def paraxialBacksRow : OpenClaim := { program := "ytpfpiecljfimjaagreatdoor", sum := "b6201ed05deab6311f5e6a1498e2233089abad248f54f2b5914e824227cbd768", func := "monocle/monoclelaw17.ParaxialBacks", spec := "paraxialBacks", unfollowed := true, recurses := true, named := ["monocle/surface.places", "monocle/paraxial.powers"], plainKeys := false, apart := false, laid := [("monocle/surface.places", laid_monocle_surface_places), ("monocle/paraxial.powers", laid_monocle_paraxial_powers)] }
def ParaxialBacksSaid : Prop := paraxialBacksRow.holds Tryz.pinned (OpenSpec.ofChange paraxialBacksSpec)

/-- ITS FALSE NEIGHBOUR: 'it returns false'. Refute it at one input. -/
def paraxialBacksWrong : ChangeSpec := { name := "paraxialBacks", fn := fun _ => fun
  | [d1, d2, d3, d4, d5, d6, d7, d8] => { results := [.lit (.bool false)], args := [d1, d2, d3, d4, d5, d6, d7, d8] }
  | _ => none }
def ParaxialBacksWrongFalsely : Prop := paraxialBacksRow.holds Tryz.pinned (OpenSpec.ofChange paraxialBacksWrong)

/-- 'monoclelaw17.ParaxialSlopes': WHATEVER THE INPUT: true; the input reads as it did. -/
def paraxialSlopesSpec : ChangeSpec := { name := "paraxialSlopes", fn := fun _ => fun
  | [d1, d2, d3, d4, d5, d6, d7, d8] => { results := [.lit (.bool true)], args := [d1, d2, d3, d4, d5, d6, d7, d8] }
  | _ => none }
def paraxialSlopesRow : OpenClaim := { program := "ytpfpiecljfimjaagreatdoor", sum := "b6201ed05deab6311f5e6a1498e2233089abad248f54f2b5914e824227cbd768", func := "monocle/monoclelaw17.ParaxialSlopes", spec := "paraxialSlopes", unfollowed := true, recurses := true, named := ["monocle/surface.places", "monocle/paraxial.powers"], plainKeys := false, apart := false, laid := [("monocle/surface.places", laid_monocle_surface_places), ("monocle/paraxial.powers", laid_monocle_paraxial_powers)] }
def ParaxialSlopesSaid : Prop := paraxialSlopesRow.holds Tryz.pinned (OpenSpec.ofChange paraxialSlopesSpec)

/-- ITS FALSE NEIGHBOUR: 'it returns false'. Refute it at one input. -/
def paraxialSlopesWrong : ChangeSpec := { name := "paraxialSlopes", fn := fun _ => fun
  | [d1, d2, d3, d4, d5, d6, d7, d8] => { results := [.lit (.bool false)], args := [d1, d2, d3, d4, d5, d6, d7, d8] }
  | _ => none }
def ParaxialSlopesWrongFalsely : Prop := paraxialSlopesRow.holds Tryz.pinned (OpenSpec.ofChange paraxialSlopesWrong)

/- THE SECOND FORM. 'bulk': how many values and letters a reading holds, each counted each time it is reached (what is shared counts as often as it is met; a slice's spare places count too). A statement '..UptoSaid' is the law's where the arguments, and the package variables that the reading takes, are together of bulk at most 1048576: NARROWER than '..Said'. Prove '..Said' where nothing that the law and all that it calls make is longer than what came in: it says more and counts as full. Else prove '..UptoSaid'. A law counts once. -/
mutual
def uptoBulk {H : Type} : DataW H → Nat
  | .lit (.string bytes) => bytes.length + 1
  | .lit _ => 1
  | .nil => 1
  | .ptr d => uptoBulk d + 1
  | .slice elems spare => uptoBulkAll elems + uptoBulkAll spare + 1
  | .agg parts => uptoBulkAll parts + 1
  | .iface _ d => uptoBulk d + 1
  | .map entries => uptoBulkEntries entries + 1
  | .held _ => 1
def uptoBulkAll {H : Type} : List (DataW H) → Nat
  | [] => 0
  | d :: r => uptoBulk d + uptoBulkAll r
def uptoBulkEntries {H : Type} : List (Lit × DataW H) → Nat
  | [] => 0
  | x :: r => uptoBulkEntry x + uptoBulkEntries r
def uptoBulkEntry {H : Type} : Lit × DataW H → Nat
  | (.string bytes, d) => bytes.length + uptoBulk d + 1
  | (_, d) => uptoBulk d + 1
 end
def uptoSmall : (H : Type) → List (DataW H) → Bool := fun _ ds => decide (uptoBulkAll ds ≤ 1048576)
def OpenSpec.upto (s : _root_.Go.ChangeSpec) : _root_.Go.OpenSpec := { _root_.Go.OpenSpec.ofChange s with cond := some uptoSmall }

/-- 'monoclelaw17.ParaxialPowers', WHERE WHAT IT READS IS OF BULK AT MOST 1048576: true; the input reads as it did. -/
def paraxialPowersUptoRow : OpenClaim := { program := "ytpfpiecljfimjaagreatdoor", sum := "b6201ed05deab6311f5e6a1498e2233089abad248f54f2b5914e824227cbd768", func := "monocle/monoclelaw17.ParaxialPowers", spec := "paraxialPowers", unfollowed := true, recurses := true, named := ["monocle/surface.places", "monocle/paraxial.powers"], plainKeys := false, apart := false, laid := [("monocle/surface.places", laid_monocle_surface_places), ("monocle/paraxial.powers", laid_monocle_paraxial_powers)], narrowed := true }
def ParaxialPowersUptoSaid : Prop := paraxialPowersUptoRow.holds Tryz.pinned (OpenSpec.upto paraxialPowersSpec)

/-- 'monoclelaw17.ParaxialTraces', WHERE WHAT IT READS IS OF BULK AT MOST 1048576: true; the input reads as it did. -/
def paraxialTracesUptoRow : OpenClaim := { program := "ytpfpiecljfimjaagreatdoor", sum := "b6201ed05deab6311f5e6a1498e2233089abad248f54f2b5914e824227cbd768", func := "monocle/monoclelaw17.ParaxialTraces", spec := "paraxialTraces", unfollowed := true, recurses := true, named := ["monocle/surface.places", "monocle/paraxial.powers"], plainKeys := false, apart := false, laid := [("monocle/surface.places", laid_monocle_surface_places), ("monocle/paraxial.powers", laid_monocle_paraxial_powers)], narrowed := true }
def ParaxialTracesUptoSaid : Prop := paraxialTracesUptoRow.holds Tryz.pinned (OpenSpec.upto paraxialTracesSpec)

/-- 'monoclelaw17.ParaxialBacks', WHERE WHAT IT READS IS OF BULK AT MOST 1048576: true; the input reads as it did. -/
def paraxialBacksUptoRow : OpenClaim := { program := "ytpfpiecljfimjaagreatdoor", sum := "b6201ed05deab6311f5e6a1498e2233089abad248f54f2b5914e824227cbd768", func := "monocle/monoclelaw17.ParaxialBacks", spec := "paraxialBacks", unfollowed := true, recurses := true, named := ["monocle/surface.places", "monocle/paraxial.powers"], plainKeys := false, apart := false, laid := [("monocle/surface.places", laid_monocle_surface_places), ("monocle/paraxial.powers", laid_monocle_paraxial_powers)], narrowed := true }
def ParaxialBacksUptoSaid : Prop := paraxialBacksUptoRow.holds Tryz.pinned (OpenSpec.upto paraxialBacksSpec)

/-- 'monoclelaw17.ParaxialSlopes', WHERE WHAT IT READS IS OF BULK AT MOST 1048576: true; the input reads as it did. -/
def paraxialSlopesUptoRow : OpenClaim := { program := "ytpfpiecljfimjaagreatdoor", sum := "b6201ed05deab6311f5e6a1498e2233089abad248f54f2b5914e824227cbd768", func := "monocle/monoclelaw17.ParaxialSlopes", spec := "paraxialSlopes", unfollowed := true, recurses := true, named := ["monocle/surface.places", "monocle/paraxial.powers"], plainKeys := false, apart := false, laid := [("monocle/surface.places", laid_monocle_surface_places), ("monocle/paraxial.powers", laid_monocle_paraxial_powers)], narrowed := true }
def ParaxialSlopesUptoSaid : Prop := paraxialSlopesUptoRow.holds Tryz.pinned (OpenSpec.upto paraxialSlopesSpec)

end Rows
end Go.Proofs.YtpfpiecljfimjaaGreatDoor
