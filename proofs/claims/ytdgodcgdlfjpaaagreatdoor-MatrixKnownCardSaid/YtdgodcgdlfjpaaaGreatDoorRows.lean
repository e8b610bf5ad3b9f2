/-
  NARROWER THAN 'FOR EVERY INPUT', by the rows' own cells (each row's printed sentence says how): CoatReflects: laid · CoatBests: laid · CoatLeast: laid · CoatStacks: laid · CoatKnown: laid · CoatSums: laid · MatrixGroups: laid · MatrixKnown: laid · CoatJoins: laid.
  DERIVED. THE GIVEN ROWS OF THIS SEAT. 9 by the template 'for every input the law returns true; each argument reads behind the call as it read before'; 0 by the template 'total and deterministic' (their statements: YtdgodcgdlfjpaaaGreatDoorTotals.lean).
  GIVEN WITH THE SEED: the statements are not yours to turn. If you find one false, say at which input.
  Laid BY PROGRAM, IN A SANDBOX (cutbox-rows.mjs): the forced cells as the released guide's own fill.sh prints them over the translation 15511cf335cd5835… (all of the seat's roots in one cut). By AI agents, Wed Nov 11 2026. No macro, syntax, notation, axiom, sorry.
-/
import Derived.Test.YtdgodcgdlfjpaaaGreatDoorChecked
import GoSem.Claim
import GoSem.ClaimJoined
import GoSem.ClaimMapViews
import Derived.JoinedTies
import Derived.KernelRfl
namespace Go.Proofs.YtdgodcgdlfjpaaaGreatDoor
/- THE CELL 'sum', in the pinned program and in every row, IS THE sha256 OF THE DUMP (.gsa) THAT YtdgodcgdlfjpaaaGreatDoorProg.lean LOADS. Nothing in Lean hashes anything: it is a label: what it is worth is what the hold of that sum in a sandbox is worth. -/
noncomputable def Tryz.pinned : Pinned := { name := "ytdgodcgdlfjpaaagreatdoor", sum := "15511cf335cd58354e61bdba26e679203f2daaffc9fc67ac3f65181199669953", checked := Tryz.checked }
namespace Rows
def none {H : Type} : Left H := { results := [], args := [] }

/- WHAT THE LISTED PACKAGE-LEVEL VARIABLES READ AS WHEN THE CALL BEGINS. Each datum BY PROGRAM (the guide's laid-datum.mjs) off the statement by which the dump's own 'gosem.cut.vars' lays the variable. In a bare row this is a premise. The card (YtdgodcgdlfjpaaaGreatDoorCards.lean) ties it to the program's text. -/
def laid_monocle_surface_places {H : Type} : DataW H := .map [(.int .i64 1, .slice [.lit (.int .i64 1), .lit (.int .i64 2), .lit (.int .i64 5), .lit (.int .i64 6), .lit (.int .i64 7), .lit (.int .i64 8), .lit (.int .i64 10)] []), (.int .i64 2, .slice [.lit (.int .i64 1), .lit (.int .i64 2), .lit (.int .i64 3), .lit (.int .i64 4), .lit (.int .i64 10)] []), (.int .i64 3, .slice [.lit (.int .i64 11), .lit (.int .i64 12), .lit (.int .i64 13), .lit (.int .i64 14), .lit (.int .i64 15)] []), (.int .i64 4, .slice [.lit (.int .i64 1), .lit (.int .i64 10)] [])]
def laid_monocle_paraxial_powers {H : Type} : DataW H := .iface "func table" (.map [(.int .i64 1, .iface "func" (.lit (.string [40, 109, 111, 110, 111, 99, 108, 101, 47, 112, 97, 114, 97, 120, 105, 97, 108, 46, 118, 105, 101, 119, 41, 46, 99, 117, 114, 118, 101, 100]))), (.int .i64 2, .iface "func" (.lit (.string [40, 109, 111, 110, 111, 99, 108, 101, 47, 112, 97, 114, 97, 120, 105, 97, 108, 46, 118, 105, 101, 119, 41, 46, 99, 117, 114, 118, 101, 100]))), (.int .i64 3, .iface "func" (.lit (.string [40, 109, 111, 110, 111, 99, 108, 101, 47, 112, 97, 114, 97, 120, 105, 97, 108, 46, 118, 105, 101, 119, 41, 46, 102, 108, 97, 116]))), (.int .i64 4, .iface "func" (.lit (.string [40, 109, 111, 110, 111, 99, 108, 101, 47, 112, 97, 114, 97, 120, 105, 97, 108, 46, 118, 105, 101, 119, 41, 46, 105, 100, 101, 97, 108])))])

/-- 'monoclelaw40.CoatReflects': WHATEVER THE INPUT: true; the input reads as it did. -/
def coatReflectsSpec : ChangeSpec := { name := "coatReflects", fn := fun _ => fun
  | [d1, d2, d3, d4, d5, d6] => { results := [.lit (.bool true)], args := [d1, d2, d3, d4, d5, d6] }
  | _ => none }
def coatReflectsRow : OpenClaim := { program := "ytdgodcgdlfjpaaagreatdoor", sum := "15511cf335cd58354e61bdba26e679203f2daaffc9fc67ac3f65181199669953", func := "monocle/monoclelaw40.CoatReflects", spec := "coatReflects", unfollowed := true, recurses := true, named := ["monocle/surface.places"], plainKeys := false, apart := false, laid := [("monocle/surface.places", laid_monocle_surface_places)] }
def CoatReflectsSaid : Prop := coatReflectsRow.holds Tryz.pinned (OpenSpec.ofChange coatReflectsSpec)

/-- ITS FALSE NEIGHBOUR: 'it returns false'. Refute it at one input. -/
def coatReflectsWrong : ChangeSpec := { name := "coatReflects", fn := fun _ => fun
  | [d1, d2, d3, d4, d5, d6] => { results := [.lit (.bool false)], args := [d1, d2, d3, d4, d5, d6] }
  | _ => none }
def CoatReflectsWrongFalsely : Prop := coatReflectsRow.holds Tryz.pinned (OpenSpec.ofChange coatReflectsWrong)

/-- 'monoclelaw40.CoatBests': WHATEVER THE INPUT: true; the input reads as it did. -/
def coatBestsSpec : ChangeSpec := { name := "coatBests", fn := fun _ => fun
  | [d1, d2, d3, d4, d5, d6, d7] => { results := [.lit (.bool true)], args := [d1, d2, d3, d4, d5, d6, d7] }
  | _ => none }
def coatBestsRow : OpenClaim := { program := "ytdgodcgdlfjpaaagreatdoor", sum := "15511cf335cd58354e61bdba26e679203f2daaffc9fc67ac3f65181199669953", func := "monocle/monoclelaw40.CoatBests", spec := "coatBests", unfollowed := true, recurses := true, named := ["monocle/surface.places"], plainKeys := false, apart := false, laid := [("monocle/surface.places", laid_monocle_surface_places)] }
def CoatBestsSaid : Prop := coatBestsRow.holds Tryz.pinned (OpenSpec.ofChange coatBestsSpec)

/-- ITS FALSE NEIGHBOUR: 'it returns false'. Refute it at one input. -/
def coatBestsWrong : ChangeSpec := { name := "coatBests", fn := fun _ => fun
  | [d1, d2, d3, d4, d5, d6, d7] => { results := [.lit (.bool false)], args := [d1, d2, d3, d4, d5, d6, d7] }
  | _ => none }
def CoatBestsWrongFalsely : Prop := coatBestsRow.holds Tryz.pinned (OpenSpec.ofChange coatBestsWrong)

/-- 'monoclelaw40.CoatLeast': WHATEVER THE INPUT: true; the input reads as it did. -/
def coatLeastSpec : ChangeSpec := { name := "coatLeast", fn := fun _ => fun
  | [d1, d2, d3] => { results := [.lit (.bool true)], args := [d1, d2, d3] }
  | _ => none }
def coatLeastRow : OpenClaim := { program := "ytdgodcgdlfjpaaagreatdoor", sum := "15511cf335cd58354e61bdba26e679203f2daaffc9fc67ac3f65181199669953", func := "monocle/monoclelaw40.CoatLeast", spec := "coatLeast", unfollowed := true, recurses := true, named := ["monocle/surface.places"], plainKeys := false, apart := false, laid := [("monocle/surface.places", laid_monocle_surface_places)] }
def CoatLeastSaid : Prop := coatLeastRow.holds Tryz.pinned (OpenSpec.ofChange coatLeastSpec)

/-- ITS FALSE NEIGHBOUR: 'it returns false'. Refute it at one input. -/
def coatLeastWrong : ChangeSpec := { name := "coatLeast", fn := fun _ => fun
  | [d1, d2, d3] => { results := [.lit (.bool false)], args := [d1, d2, d3] }
  | _ => none }
def CoatLeastWrongFalsely : Prop := coatLeastRow.holds Tryz.pinned (OpenSpec.ofChange coatLeastWrong)

/-- 'monoclelaw40.CoatStacks': WHATEVER THE INPUT: true; the input reads as it did. -/
def coatStacksSpec : ChangeSpec := { name := "coatStacks", fn := fun _ => fun
  | [d1, d2, d3] => { results := [.lit (.bool true)], args := [d1, d2, d3] }
  | _ => none }
def coatStacksRow : OpenClaim := { program := "ytdgodcgdlfjpaaagreatdoor", sum := "15511cf335cd58354e61bdba26e679203f2daaffc9fc67ac3f65181199669953", func := "monocle/monoclelaw40.CoatStacks", spec := "coatStacks", unfollowed := true, recurses := true, named := ["monocle/surface.places"], plainKeys := false, apart := false, laid := [("monocle/surface.places", laid_monocle_surface_places)] }
def CoatStacksSaid : Prop := coatStacksRow.holds Tryz.pinned (OpenSpec.ofChange coatStacksSpec)

/-- ITS FALSE NEIGHBOUR: 'it returns false'. Refute it at one input. -/
def coatStacksWrong : ChangeSpec := { name := "coatStacks", fn := fun _ => fun
  | [d1, d2, d3] => { results := [.lit (.bool false)], args := [d1, d2, d3] }
  | _ => none }
def CoatStacksWrongFalsely : Prop := coatStacksRow.holds Tryz.pinned (OpenSpec.ofChange coatStacksWrong)

/-- 'monoclelaw40.CoatKnown': WHATEVER THE INPUT: true; the input reads as it did. -/
def coatKnownSpec : ChangeSpec := { name := "coatKnown", fn := fun _ => fun
  | [] => { results := [.lit (.bool true)], args := [] }
  | _ => none }
def coatKnownRow : OpenClaim := { program := "ytdgodcgdlfjpaaagreatdoor", sum := "15511cf335cd58354e61bdba26e679203f2daaffc9fc67ac3f65181199669953", func := "monocle/monoclelaw40.CoatKnown", spec := "coatKnown", unfollowed := true, recurses := true, named := ["monocle/surface.places"], plainKeys := false, apart := false, laid := [("monocle/surface.places", laid_monocle_surface_places)] }
def CoatKnownSaid : Prop := coatKnownRow.holds Tryz.pinned (OpenSpec.ofChange coatKnownSpec)

/-- ITS FALSE NEIGHBOUR: 'it returns false'. Refute it at one input. -/
def coatKnownWrong : ChangeSpec := { name := "coatKnown", fn := fun _ => fun
  | [] => { results := [.lit (.bool false)], args := [] }
  | _ => none }
def CoatKnownWrongFalsely : Prop := coatKnownRow.holds Tryz.pinned (OpenSpec.ofChange coatKnownWrong)

/-- 'monoclelaw40.CoatSums': WHATEVER THE INPUT: true; the input reads as it did. -/
def coatSumsSpec : ChangeSpec := { name := "coatSums", fn := fun _ => fun
  | [d1, d2] => { results := [.lit (.bool true)], args := [d1, d2] }
  | _ => none }
def coatSumsRow : OpenClaim := { program := "ytdgodcgdlfjpaaagreatdoor", sum := "15511cf335cd58354e61bdba26e679203f2daaffc9fc67ac3f65181199669953", func := "monocle/monoclelaw40.CoatSums", spec := "coatSums", unfollowed := true, recurses := true, named := ["monocle/surface.places"], plainKeys := false, apart := false, laid := [("monocle/surface.places", laid_monocle_surface_places)] }
def CoatSumsSaid : Prop := coatSumsRow.holds Tryz.pinned (OpenSpec.ofChange coatSumsSpec)

/-- ITS FALSE NEIGHBOUR: 'it returns false'. Refute it at one input. -/
def coatSumsWrong : ChangeSpec := { name := "coatSums", fn := fun _ => fun
  | [d1, d2] => { results := [.lit (.bool false)], args := [d1, d2] }
  | _ => none }
def CoatSumsWrongFalsely : Prop := coatSumsRow.holds Tryz.pinned (OpenSpec.ofChange coatSumsWrong)

/-- 'monoclelaw18.MatrixGroups': WHATEVER THE INPUT: true; the input reads as it did. -/
def matrixGroupsSpec : ChangeSpec := { name := "matrixGroups", fn := fun _ => fun
  | [d1, d2, d3] => { results := [.lit (.bool true)], args := [d1, d2, d3] }
  | _ => none }
def matrixGroupsRow : OpenClaim := { program := "ytdgodcgdlfjpaaagreatdoor", sum := "15511cf335cd58354e61bdba26e679203f2daaffc9fc67ac3f65181199669953", func := "monocle/monoclelaw18.MatrixGroups", spec := "matrixGroups", unfollowed := true, recurses := true, named := ["monocle/surface.places", "monocle/paraxial.powers"], plainKeys := false, apart := false, laid := [("monocle/surface.places", laid_monocle_surface_places), ("monocle/paraxial.powers", laid_monocle_paraxial_powers)] }
def MatrixGroupsSaid : Prop := matrixGroupsRow.holds Tryz.pinned (OpenSpec.ofChange matrixGroupsSpec)

/-- ITS FALSE NEIGHBOUR: 'it returns false'. Refute it at one input. -/
def matrixGroupsWrong : ChangeSpec := { name := "matrixGroups", fn := fun _ => fun
  | [d1, d2, d3] => { results := [.lit (.bool false)], args := [d1, d2, d3] }
  | _ => none }
def MatrixGroupsWrongFalsely : Prop := matrixGroupsRow.holds Tryz.pinned (OpenSpec.ofChange matrixGroupsWrong)

/-- 'monoclelaw18.MatrixKnown': WHATEVER THE INPUT: true; the input reads as it did. -/
def matrixKnownSpec : ChangeSpec := { name := "matrixKnown", fn := fun _ => fun
  | [] => { results := [.lit (.bool true)], args := [] }
  | _ => none }
def matrixKnownRow : OpenClaim := { program := "ytdgodcgdlfjpaaagreatdoor", sum := "15511cf335cd58354e61bdba26e679203f2daaffc9fc67ac3f65181199669953", func := "monocle/monoclelaw18.MatrixKnown", spec := "matrixKnown", unfollowed := true, recurses := true, named := ["monocle/surface.places", "monocle/paraxial.powers"], plainKeys := false, apart := false, laid := [("monocle/surface.places", laid_monocle_surface_places), ("monocle/paraxial.powers", laid_monocle_paraxial_powers)] }
def MatrixKnownSaid : Prop := matrixKnownRow.holds Tryz.pinned (OpenSpec.ofChange matrixKnownSpec)

/-- ITS FALSE NEIGHBOUR: 'it returns false'. Refute it at one input. -/
def matrixKnownWrong : ChangeSpec := { name := "matrixKnown", fn := fun _ => fun
  | [] => { results := [.lit (.bool false)], args := [] }
  | _ => none }
def MatrixKnownWrongFalsely : Prop := matrixKnownRow.holds Tryz.pinned (OpenSpec.ofChange matrixKnownWrong)

/-- 'monoclelaw40.CoatJoins': WHATEVER THE INPUT: true; the input reads as it did. -/
def coatJoinsSpec : ChangeSpec := { name := "coatJoins", fn := fun _ => fun
  | [d1, d2, d3, d4, d5] => { results := [.lit (.bool true)], args := [d1, d2, d3, d4, d5] }
  | _ => none }
def coatJoinsRow : OpenClaim := { program := "ytdgodcgdlfjpaaagreatdoor", sum := "15511cf335cd58354e61bdba26e679203f2daaffc9fc67ac3f65181199669953", func := "monocle/monoclelaw40.CoatJoins", spec := "coatJoins", inPlace := ["slices.overlaps[monocle/api.Film]"], unfollowed := true, recurses := true, named := ["monocle/surface.places"], plainKeys := false, apart := false, laid := [("monocle/surface.places", laid_monocle_surface_places)] }
def CoatJoinsSaid : Prop := coatJoinsRow.holds Tryz.pinned (OpenSpec.ofChange coatJoinsSpec)

/-- ITS FALSE NEIGHBOUR: 'it returns false'. Refute it at one input. -/
def coatJoinsWrong : ChangeSpec := { name := "coatJoins", fn := fun _ => fun
  | [d1, d2, d3, d4, d5] => { results := [.lit (.bool false)], args := [d1, d2, d3, d4, d5] }
  | _ => none }
def CoatJoinsWrongFalsely : Prop := coatJoinsRow.holds Tryz.pinned (OpenSpec.ofChange coatJoinsWrong)

/- THE SECOND FORM. 'bulk': how many values and letters a reading holds, each counted each time it is reached (what is shared counts as often as it is met; a slice's spare places count too). A statement '..UptoSaid' is the law's where the arguments, and the package variables that the reading takes, are together of bulk at most 1048576: NARROWER than '..Said'. Prove '..Said' where nothing that the law and all that it calls make is longer than what came in: it says more and counts as full. Else prove '..UptoSaid'. A law counts once. -/
mutual
def uptoBulk {H : Type} : DataW H → Nat
  | .lit (.string bytes) => bytes.length + 1
  | .lit _ => 1
  | .nil => 1
  | .ptr d => uptoBulk d + 1
  | .slice elems spare => uptoBulkAll elems + uptoBulkAll spare + 1
  | .agg parts => uptoBulkAll parts + 1
  | .iface _ d => uptoBulk d + 1
  | .map entries => uptoBulkEntries entries + 1
  | .held _ => 1
def uptoBulkAll {H : Type} : List (DataW H) → Nat
  | [] => 0
  | d :: r => uptoBulk d + uptoBulkAll r
def uptoBulkEntries {H : Type} : List (Lit × DataW H) → Nat
  | [] => 0
  | x :: r => uptoBulkEntry x + uptoBulkEntries r
def uptoBulkEntry {H : Type} : Lit × DataW H → Nat
  | (.string bytes, d) => bytes.length + uptoBulk d + 1
  | (_, d) => uptoBulk d + 1
 end
def uptoSmall : (H : Type) → List (DataW H) → Bool := fun _ ds => decide (uptoBulkAll ds ≤ 1048576)
def OpenSpec.upto (s : _root_.Go.ChangeSpec) : _root_.Go.OpenSpec := { _root_.Go.OpenSpec.ofChange s with cond := some uptoSmall }

/-- 'monoclelaw40.CoatReflects', WHERE WHAT IT READS IS OF BULK AT MOST 1048576: true; the input reads as it did. -/
def coatReflectsUptoRow : OpenClaim := { program := "ytdgodcgdlfjpaaagreatdoor", sum := "15511cf335cd58354e61bdba26e679203f2daaffc9fc67ac3f65181199669953", func := "monocle/monoclelaw40.CoatReflects", spec := "coatReflects", unfollowed := true, recurses := true, named := ["monocle/surface.places"], plainKeys := false, apart := false, laid := [("monocle/surface.places", laid_monocle_surface_places)], narrowed := true }
def CoatReflectsUptoSaid : Prop := coatReflectsUptoRow.holds Tryz.pinned (OpenSpec.upto coatReflectsSpec)

/-- 'monoclelaw40.CoatBests', WHERE WHAT IT READS IS OF BULK AT MOST 1048576: true; the input reads as it did. -/
def coatBestsUptoRow : OpenClaim := { program := "ytdgodcgdlfjpaaagreatdoor", sum := "15511cf335cd58354e61bdba26e679203f2daaffc9fc67ac3f65181199669953", func := "monocle/monoclelaw40.CoatBests", spec := "coatBests", unfollowed := true, recurses := true, named := ["monocle/surface.places"], plainKeys := false, apart := false, laid := [("monocle/surface.places", laid_monocle_surface_places)], narrowed := true }
def CoatBestsUptoSaid : Prop := coatBestsUptoRow.holds Tryz.pinned (OpenSpec.upto coatBestsSpec)

/-- 'monoclelaw40.CoatLeast', WHERE WHAT IT READS IS OF BULK AT MOST 1048576: true; the input reads as it did. -/
def coatLeastUptoRow : OpenClaim := { program := "ytdgodcgdlfjpaaagreatdoor", sum := "15511cf335cd58354e61bdba26e679203f2daaffc9fc67ac3f65181199669953", func := "monocle/monoclelaw40.CoatLeast", spec := "coatLeast", unfollowed := true, recurses := true, named := ["monocle/surface.places"], plainKeys := false, apart := false, laid := [("monocle/surface.places", laid_monocle_surface_places)], narrowed := true }
def CoatLeastUptoSaid : Prop := coatLeastUptoRow.holds Tryz.pinned (OpenSpec.upto coatLeastSpec)

/-- 'monoclelaw40.CoatStacks', WHERE WHAT IT READS IS OF BULK AT MOST 1048576: true; the input reads as it did. -/
def coatStacksUptoRow : OpenClaim := { program := "ytdgodcgdlfjpaaagreatdoor", sum := "15511cf335cd58354e61bdba26e679203f2daaffc9fc67ac3f65181199669953", func := "monocle/monoclelaw40.CoatStacks", spec := "coatStacks", unfollowed := true, recurses := true, named := ["monocle/surface.places"], plainKeys := false, apart := false, laid := [("monocle/surface.places", laid_monocle_surface_places)], narrowed := true }
def CoatStacksUptoSaid : Prop := coatStacksUptoRow.holds Tryz.pinned (OpenSpec.upto coatStacksSpec)

/-- 'monoclelaw40.CoatKnown', WHERE WHAT IT READS IS OF BULK AT MOST 1048576: true; the input reads as it did. -/
def coatKnownUptoRow : OpenClaim := { program := "ytdgodcgdlfjpaaagreatdoor", sum := "15511cf335cd58354e61bdba26e679203f2daaffc9fc67ac3f65181199669953", func := "monocle/monoclelaw40.CoatKnown", spec := "coatKnown", unfollowed := true, recurses := true, named := ["monocle/surface.places"], plainKeys := false, apart := false, laid := [("monocle/surface.places", laid_monocle_surface_places)], narrowed := true }
def CoatKnownUptoSaid : Prop := coatKnownUptoRow.holds Tryz.pinned (OpenSpec.upto coatKnownSpec)

/-- 'monoclelaw40.CoatSums', WHERE WHAT IT READS IS OF BULK AT MOST 1048576: true; the input reads as it did. -/
def coatSumsUptoRow : OpenClaim := { program := "ytdgodcgdlfjpaaagreatdoor", sum := "15511cf335cd58354e61bdba26e679203f2daaffc9fc67ac3f65181199669953", func := "monocle/monoclelaw40.CoatSums", spec := "coatSums", unfollowed := true, recurses := true, named := ["monocle/surface.places"], plainKeys := false, apart := false, laid := [("monocle/surface.places", laid_monocle_surface_places)], narrowed := true }
def CoatSumsUptoSaid : Prop := coatSumsUptoRow.holds Tryz.pinned (OpenSpec.upto coatSumsSpec)

/-- 'monoclelaw18.MatrixGroups', WHERE WHAT IT READS IS OF BULK AT MOST 1048576: true; the input reads as it did. -/
def matrixGroupsUptoRow : OpenClaim := { program := "ytdgodcgdlfjpaaagreatdoor", sum := "15511cf335cd58354e61bdba26e679203f2daaffc9fc67ac3f65181199669953", func := "monocle/monoclelaw18.MatrixGroups", spec := "matrixGroups", unfollowed := true, recurses := true, named := ["monocle/surface.places", "monocle/paraxial.powers"], plainKeys := false, apart := false, laid := [("monocle/surface.places", laid_monocle_surface_places), ("monocle/paraxial.powers", laid_monocle_paraxial_powers)], narrowed := true }
def MatrixGroupsUptoSaid : Prop := matrixGroupsUptoRow.holds Tryz.pinned (OpenSpec.upto matrixGroupsSpec)

/-- 'monoclelaw18.MatrixKnown', WHERE WHAT IT READS IS OF BULK AT MOST 1048576: true; the input reads as it did. -/
def matrixKnownUptoRow : OpenClaim := { program := "ytdgodcgdlfjpaaagreatdoor", sum := "15511cf335cd58354e61bdba26e679203f2daaffc9fc67ac3f65181199669953", func := "monocle/monoclelaw18.MatrixKnown", spec := "matrixKnown", unfollowed := true, recurses := true, named := ["monocle/surface.places", "monocle/paraxial.powers"], plainKeys := false, apart := false, laid := [("monocle/surface.places", laid_monocle_surface_places), ("monocle/paraxial.powers", laid_monocle_paraxial_powers)], narrowed := true }
def MatrixKnownUptoSaid : Prop := matrixKnownUptoRow.holds Tryz.pinned (OpenSpec.upto matrixKnownSpec)

/-- 'monoclelaw40.CoatJoins', WHERE WHAT IT READS IS OF BULK AT MOST 1048576: true; the input reads as it did. -/
def coatJoinsUptoRow : OpenClaim := { program := "ytdgodcgdlfjpaaagreatdoor", sum := "15511cf335cd58354e61bdba26e679203f2daaffc9fc67ac3f65181199669953", func := "monocle/monoclelaw40.CoatJoins", spec := "coatJoins", inPlace := ["slices.overlaps[monocle/api.Film]"], unfollowed := true, recurses := true, named := ["monocle/surface.places"], plainKeys := false, apart := false, laid := [("monocle/surface.places", laid_monocle_surface_places)], narrowed := true }
def CoatJoinsUptoSaid : Prop := coatJoinsUptoRow.holds Tryz.pinned (OpenSpec.upto coatJoinsSpec)

end Rows
end Go.Proofs.YtdgodcgdlfjpaaaGreatDoor
