/-
  NARROWER THAN 'FOR EVERY INPUT', by the rows' own cells (each row's printed sentence says how): MatrixGroups: laid · PupilKnown: laid · SeidelShifts: laid · SeidelCenter: laid · SeidelKnown: laid.
  DERIVED. THE GIVEN ROWS OF THIS SEAT. 5 by the template 'for every input the law returns true; each argument reads behind the call as it read before'; 0 by the template 'total and deterministic' (their statements: YtccmnjkgfgnmoaaGreatDoorTotals.lean).
  GIVEN WITH THE SEED: the statements are not yours to turn. If you find one false, say at which input.
  Laid BY PROGRAM, IN A SANDBOX (cutbox-rows.mjs): the forced cells as the released guide's own fill.sh prints them over the translation 9a3e6f949be33733… (all of the seat's roots in one cut). By AI agents, Wed Nov 11 2026. No macro, syntax, notation, axiom, sorry.
-/
import Derived.Test.YtccmnjkgfgnmoaaGreatDoorChecked
import GoSem.Claim
import GoSem.ClaimJoined
import GoSem.ClaimMapViews
import Derived.JoinedTies
import Derived.KernelRfl
namespace Go.Proofs.YtccmnjkgfgnmoaaGreatDoor
/- THE CELL 'sum', in the pinned program and in every row, IS THE sha256 OF THE DUMP (.gsa) THAT YtccmnjkgfgnmoaaGreatDoorProg.lean LOADS. Nothing in Lean hashes anything: it is a label: what it is worth is what the hold of that sum in a sandbox is worth. -/
noncomputable def Tryz.pinned : Pinned := { name := "ytccmnjkgfgnmoaagreatdoor", sum := "9a3e6f949be33733704add2d621f5c87d952d1b6731ff2205d9e495b1425ee3c", checked := Tryz.checked }
namespace Rows
def none {H : Type} : Left H := { results := [], args := [] }

/- WHAT THE LISTED PACKAGE-LEVEL VARIABLES READ AS WHEN THE CALL BEGINS. Each datum BY PROGRAM (the guide's laid-datum.mjs) off the statement by which the dump's own 'gosem.cut.vars' lays the variable. In a bare row this is a premise. The card (YtccmnjkgfgnmoaaGreatDoorCards.lean) ties it to the program's text. -/
def laid_monocle_surface_places {H : Type} : DataW H := .map [(.int .i64 1, .slice [.lit (.int .i64 1), .lit (.int .i64 2), .lit (.int .i64 5), .lit (.int .i64 6), .lit (.int .i64 7), .lit (.int .i64 8), .lit (.int .i64 10)] []), (.int .i64 2, .slice [.lit (.int .i64 1), .lit (.int .i64 2), .lit (.int .i64 3), .lit (.int .i64 4), .lit (.int .i64 10)] []), (.int .i64 3, .slice [.lit (.int .i64 11), .lit (.int .i64 12), .lit (.int .i64 13), .lit (.int .i64 14), .lit (.int .i64 15)] []), (.int .i64 4, .slice [.lit (.int .i64 1), .lit (.int .i64 10)] [])]
def laid_monocle_paraxial_powers {H : Type} : DataW H := .iface "func table" (.map [(.int .i64 1, .iface "func" (.lit (.string [40, 109, 111, 110, 111, 99, 108, 101, 47, 112, 97, 114, 97, 120, 105, 97, 108, 46, 118, 105, 101, 119, 41, 46, 99, 117, 114, 118, 101, 100]))), (.int .i64 2, .iface "func" (.lit (.string [40, 109, 111, 110, 111, 99, 108, 101, 47, 112, 97, 114, 97, 120, 105, 97, 108, 46, 118, 105, 101, 119, 41, 46, 99, 117, 114, 118, 101, 100]))), (.int .i64 3, .iface "func" (.lit (.string [40, 109, 111, 110, 111, 99, 108, 101, 47, 112, 97, 114, 97, 120, 105, 97, 108, 46, 118, 105, 101, 119, 41, 46, 102, 108, 97, 116]))), (.int .i64 4, .iface "func" (.lit (.string [40, 109, 111, 110, 111, 99, 108, 101, 47, 112, 97, 114, 97, 120, 105, 97, 108, 46, 118, 105, 101, 119, 41, 46, 105, 100, 101, 97, 108])))])

/-- 'monoclelaw18.MatrixGroups': WHATEVER THE INPUT: true; the input reads as it did. -/
def matrixGroupsSpec : ChangeSpec := { name := "matrixGroups", fn := fun _ => fun
  | [d1, d2, d3] => { results := [.lit (.bool true)], args := [d1, d2, d3] }
  | _ => none }
def matrixGroupsRow : OpenClaim := { program := "ytccmnjkgfgnmoaagreatdoor", sum := "9a3e6f949be33733704add2d621f5c87d952d1b6731ff2205d9e495b1425ee3c", func := "monocle/monoclelaw18.MatrixGroups", spec := "matrixGroups", unfollowed := true, recurses := true, named := ["monocle/surface.places", "monocle/paraxial.powers"], plainKeys := false, apart := false, laid := [("monocle/surface.places", laid_monocle_surface_places), ("monocle/paraxial.powers", laid_monocle_paraxial_powers)] }
def MatrixGroupsSaid : Prop := matrixGroupsRow.holds Tryz.pinned (OpenSpec.ofChange matrixGroupsSpec)

/-- ITS FALSE NEIGHBOUR: 'it returns false'. Refute it at one input. -/
def matrixGroupsWrong : ChangeSpec := { name := "matrixGroups", fn := fun _ => fun
  | [d1, d2, d3] => { results := [.lit (.bool false)], args := [d1, d2, d3] }
  | _ => none }
def MatrixGroupsWrongFalsely : Prop := matrixGroupsRow.holds Tryz.pinned (OpenSpec.ofChange matrixGroupsWrong)

/-- 'monoclelaw19.PupilKnown': WHATEVER THE INPUT: true; the input reads as it did. -/
def pupilKnownSpec : ChangeSpec := { name := "pupilKnown", fn := fun _ => fun
  | [] => { results := [.lit (.bool true)], args := [] }
  | _ => none }
def pupilKnownRow : OpenClaim := { program := "ytccmnjkgfgnmoaagreatdoor", sum := "9a3e6f949be33733704add2d621f5c87d952d1b6731ff2205d9e495b1425ee3c", func := "monocle/monoclelaw19.PupilKnown", spec := "pupilKnown", unfollowed := true, recurses := true, named := ["monocle/surface.places", "monocle/paraxial.powers"], plainKeys := false, apart := false, laid := [("monocle/surface.places", laid_monocle_surface_places), ("monocle/paraxial.powers", laid_monocle_paraxial_powers)] }
def PupilKnownSaid : Prop := pupilKnownRow.holds Tryz.pinned (OpenSpec.ofChange pupilKnownSpec)

/-- ITS FALSE NEIGHBOUR: 'it returns false'. Refute it at one input. -/
def pupilKnownWrong : ChangeSpec := { name := "pupilKnown", fn := fun _ => fun
  | [] => { results := [.lit (.bool false)], args := [] }
  | _ => none }
def PupilKnownWrongFalsely : Prop := pupilKnownRow.holds Tryz.pinned (OpenSpec.ofChange pupilKnownWrong)

/-- 'monoclelaw23.SeidelShifts': WHATEVER THE INPUT: true; the input reads as it did. -/
def seidelShiftsSpec : ChangeSpec := { name := "seidelShifts", fn := fun _ => fun
  | [d1, d2, d3] => { results := [.lit (.bool true)], args := [d1, d2, d3] }
  | _ => none }
def seidelShiftsRow : OpenClaim := { program := "ytccmnjkgfgnmoaagreatdoor", sum := "9a3e6f949be33733704add2d621f5c87d952d1b6731ff2205d9e495b1425ee3c", func := "monocle/monoclelaw23.SeidelShifts", spec := "seidelShifts", unfollowed := true, recurses := true, named := ["monocle/surface.places", "monocle/paraxial.powers"], plainKeys := false, apart := false, laid := [("monocle/surface.places", laid_monocle_surface_places), ("monocle/paraxial.powers", laid_monocle_paraxial_powers)] }
def SeidelShiftsSaid : Prop := seidelShiftsRow.holds Tryz.pinned (OpenSpec.ofChange seidelShiftsSpec)

/-- ITS FALSE NEIGHBOUR: 'it returns false'. Refute it at one input. -/
def seidelShiftsWrong : ChangeSpec := { name := "seidelShifts", fn := fun _ => fun
  | [d1, d2, d3] => { results := [.lit (.bool false)], args := [d1, d2, d3] }
  | _ => none }
def SeidelShiftsWrongFalsely : Prop := seidelShiftsRow.holds Tryz.pinned (OpenSpec.ofChange seidelShiftsWrong)

/-- 'monoclelaw23.SeidelCenter': WHATEVER THE INPUT: true; the input reads as it did. -/
def seidelCenterSpec : ChangeSpec := { name := "seidelCenter", fn := fun _ => fun
  | [d1, d2, d3] => { results := [.lit (.bool true)], args := [d1, d2, d3] }
  | _ => none }
def seidelCenterRow : OpenClaim := { program := "ytccmnjkgfgnmoaagreatdoor", sum := "9a3e6f949be33733704add2d621f5c87d952d1b6731ff2205d9e495b1425ee3c", func := "monocle/monoclelaw23.SeidelCenter", spec := "seidelCenter", unfollowed := true, recurses := true, named := ["monocle/surface.places", "monocle/paraxial.powers"], plainKeys := false, apart := false, laid := [("monocle/surface.places", laid_monocle_surface_places), ("monocle/paraxial.powers", laid_monocle_paraxial_powers)] }
def SeidelCenterSaid : Prop := seidelCenterRow.holds Tryz.pinned (OpenSpec.ofChange seidelCenterSpec)

/-- ITS FALSE NEIGHBOUR: 'it returns false'. Refute it at one input. -/
def seidelCenterWrong : ChangeSpec := { name := "seidelCenter", fn := fun _ => fun
  | [d1, d2, d3] => { results := [.lit (.bool false)], args := [d1, d2, d3] }
  | _ => none }
def SeidelCenterWrongFalsely : Prop := seidelCenterRow.holds Tryz.pinned (OpenSpec.ofChange seidelCenterWrong)

/-- 'monoclelaw23.SeidelKnown': WHATEVER THE INPUT: true; the input reads as it did. -/
def seidelKnownSpec : ChangeSpec := { name := "seidelKnown", fn := fun _ => fun
  | [] => { results := [.lit (.bool true)], args := [] }
  | _ => none }
def seidelKnownRow : OpenClaim := { program := "ytccmnjkgfgnmoaagreatdoor", sum := "9a3e6f949be33733704add2d621f5c87d952d1b6731ff2205d9e495b1425ee3c", func := "monocle/monoclelaw23.SeidelKnown", spec := "seidelKnown", unfollowed := true, recurses := true, named := ["monocle/surface.places", "monocle/paraxial.powers"], plainKeys := false, apart := false, laid := [("monocle/surface.places", laid_monocle_surface_places), ("monocle/paraxial.powers", laid_monocle_paraxial_powers)] }
def SeidelKnownSaid : Prop := seidelKnownRow.holds Tryz.pinned (OpenSpec.ofChange seidelKnownSpec)

/-- ITS FALSE NEIGHBOUR: 'it returns false'. Refute it at one input. -/
def seidelKnownWrong : ChangeSpec := { name := "seidelKnown", fn := fun _ => fun
  | [] => { results := [.lit (.bool false)], args := [] }
  | _ => none }
def SeidelKnownWrongFalsely : Prop := seidelKnownRow.holds Tryz.pinned (OpenSpec.ofChange seidelKnownWrong)

/- THE SECOND FORM. 'bulk': how many values and letters a reading holds, each counted each time it is reached (what is shared counts as often as it is met; a slice's spare places count too). A statement '..UptoSaid' is the law's where the arguments, and the package variables that the reading takes, are together of bulk at most 1048576: NARROWER than '..Said'. Prove '..Said' where nothing that the law and all that it calls make is longer than what came in: it says more and counts as full. Else prove '..UptoSaid'. A law counts once. -/
mutual
def uptoBulk {H : Type} : DataW H → Nat
  | .lit (.string bytes) => bytes.length + 1
  | .lit _ => 1
  | .nil => 1
  | .ptr d => uptoBulk d + 1
  | .slice elems spare => uptoBulkAll elems + uptoBulkAll spare + 1
  | .agg parts => uptoBulkAll parts + 1
  | .iface _ d => uptoBulk d + 1
  | .map entries => uptoBulkEntries entries + 1
  | .held _ => 1
def uptoBulkAll {H : Type} : List (DataW H) → Nat
  | [] => 0
  | d :: r => uptoBulk d + uptoBulkAll r
def uptoBulkEntries {H : Type} : List (Lit × DataW H) → Nat
  | [] => 0
  | x :: r => uptoBulkEntry x + uptoBulkEntries r
def uptoBulkEntry {H : Type} : Lit × DataW H → Nat
  | (.string bytes, d) => bytes.length + uptoBulk d + 1
  | (_, d) => uptoBulk d + 1
 end
def uptoSmall : (H : Type) → List (DataW H) → Bool := fun _ ds => decide (uptoBulkAll ds ≤ 1048576)
def OpenSpec.upto (s : _root_.Go.ChangeSpec) : _root_.Go.OpenSpec := { _root_.Go.OpenSpec.ofChange s with cond := some uptoSmall }

/-- 'monoclelaw18.MatrixGroups', WHERE WHAT IT READS IS OF BULK AT MOST 1048576: true; the input reads as it did. -/
def matrixGroupsUptoRow : OpenClaim := { program := "ytccmnjkgfgnmoaagreatdoor", sum := "9a3e6f949be33733704add2d621f5c87d952d1b6731ff2205d9e495b1425ee3c", func := "monocle/monoclelaw18.MatrixGroups", spec := "matrixGroups", unfollowed := true, recurses := true, named := ["monocle/surface.places", "monocle/paraxial.powers"], plainKeys := false, apart := false, laid := [("monocle/surface.places", laid_monocle_surface_places), ("monocle/paraxial.powers", laid_monocle_paraxial_powers)], narrowed := true }
def MatrixGroupsUptoSaid : Prop := matrixGroupsUptoRow.holds Tryz.pinned (OpenSpec.upto matrixGroupsSpec)

/-- 'monoclelaw19.PupilKnown', WHERE WHAT IT READS IS OF BULK AT MOST 1048576: true; the input reads as it did. -/
def pupilKnownUptoRow : OpenClaim := { program := "ytccmnjkgfgnmoaagreatdoor", sum := "9a3e6f949be33733704add2d621f5c87d952d1b6731ff2205d9e495b1425ee3c", func := "monocle/monoclelaw19.PupilKnown", spec := "pupilKnown", unfollowed := true, recurses := true, named := ["monocle/surface.places", "monocle/paraxial.powers"], plainKeys := false, apart := false, laid := [("monocle/surface.places", laid_monocle_surface_places), ("monocle/paraxial.powers", laid_monocle_paraxial_powers)], narrowed := true }
def PupilKnownUptoSaid : Prop := pupilKnownUptoRow.holds Tryz.pinned (OpenSpec.upto pupilKnownSpec)

/-- 'monoclelaw23.SeidelShifts', WHERE WHAT IT READS IS OF BULK AT MOST 1048576: true; the input reads as it did. -/
def seidelShiftsUptoRow : OpenClaim := { program := "ytccmnjkgfgnmoaagreatdoor", sum := "9a3e6f949be33733704add2d621f5c87d952d1b6731ff2205d9e495b1425ee3c", func := "monocle/monoclelaw23.SeidelShifts", spec := "seidelShifts", unfollowed := true, recurses := true, named := ["monocle/surface.places", "monocle/paraxial.powers"], plainKeys := false, apart := false, laid := [("monocle/surface.places", laid_monocle_surface_places), ("monocle/paraxial.powers", laid_monocle_paraxial_powers)], narrowed := true }
def SeidelShiftsUptoSaid : Prop := seidelShiftsUptoRow.holds Tryz.pinned (OpenSpec.upto seidelShiftsSpec)

/-- 'monoclelaw23.SeidelCenter', WHERE WHAT IT READS IS OF BULK AT MOST 1048576: true; the input reads as it did. -/
def seidelCenterUptoRow : OpenClaim := { program := "ytccmnjkgfgnmoaagreatdoor", sum := "9a3e6f949be33733704add2d621f5c87d952d1b6731ff2205d9e495b1425ee3c", func := "monocle/monoclelaw23.SeidelCenter", spec := "seidelCenter", unfollowed := true, recurses := true, named := ["monocle/surface.places", "monocle/paraxial.powers"], plainKeys := false, apart := false, laid := [("monocle/surface.places", laid_monocle_surface_places), ("monocle/paraxial.powers", laid_monocle_paraxial_powers)], narrowed := true }
def SeidelCenterUptoSaid : Prop := seidelCenterUptoRow.holds Tryz.pinned (OpenSpec.upto seidelCenterSpec)

/-- 'monoclelaw23.SeidelKnown', WHERE WHAT IT READS IS OF BULK AT MOST 1048576: true; the input reads as it did. -/
def seidelKnownUptoRow : OpenClaim := { program := "ytccmnjkgfgnmoaagreatdoor", sum := "9a3e6f949be33733704add2d621f5c87d952d1b6731ff2205d9e495b1425ee3c", func := "monocle/monoclelaw23.SeidelKnown", spec := "seidelKnown", unfollowed := true, recurses := true, named := ["monocle/surface.places", "monocle/paraxial.powers"], plainKeys := false, apart := false, laid := [("monocle/surface.places", laid_monocle_surface_places), ("monocle/paraxial.powers", laid_monocle_paraxial_powers)], narrowed := true }
def SeidelKnownUptoSaid : Prop := seidelKnownUptoRow.holds Tryz.pinned (OpenSpec.upto seidelKnownSpec)

end Rows
end Go.Proofs.YtccmnjkgfgnmoaaGreatDoor
