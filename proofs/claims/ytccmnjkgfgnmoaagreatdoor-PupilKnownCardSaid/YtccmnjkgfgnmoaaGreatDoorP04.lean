/- The law PupilKnown: examples, finite objects, telecentric lenses and the order of errors of package pupil, its walk and its card. Part 4 of 4. No condition beside the row. -/
import Derived.Test.YtccmnjkgfgnmoaaGreatDoorTie
import Derived.Test.YtccmnjkgfgnmoaaGreatDoorCards
import Derived.SevenTiedAt
import Derived.Deep.Onto
import Derived.Test.YtccmnjkgfgnmoaaGreatDoorA29
import Derived.Test.YtccmnjkgfgnmoaaGreatDoorP03
set_option linter.unusedVariables false
set_option linter.unusedSimpArgs false
set_option maxRecDepth 100000
set_option maxHeartbeats 4000000
namespace Go.Proofs.YtccmnjkgfgnmoaaGreatDoor
open Go Go.ChangeShapes Go.WideShapes Go.ChangeAt Go.RowKit Go.Mono
theorem ownP : ownKnob Tryz.prog.godebug = none := by kernel_rfl
theorem doorP (os : Os) (args : Array Value) : laidMetH Tryz.prog Rows.pupilKnownRow.laid ((World.doorLaid Tryz.prog 4000 os).forCall (fun _ _ => 0) ⟨#[], args, []⟩).memory :=
 laidMetH_of_parts3 (fuel := 8) (laidMet_of_run' 8 (by kernel_rfl) (by kernel_rfl)) (by kernel_rfl) (by kernel_rfl)
theorem keptButP {w w' : World} (h : Below w.heap.size w w') (may : MemPlace → Prop) : w.keptBut w' may :=
 (World.keptBut_refl w may).congr h.os h.output (fun i hi => h.block i hi)
def PKnownWalk : Prop := ∀ (w : World) (m : Nat), PowsAt w m → Calls Tryz.prog 4 #[] w fun e w' => e = .returned (.bool true) ∧ Below w.heap.size w w'
theorem liftedP (walk : PKnownWalk) (os : Os) (started : os.Started) (H : Type) (enc : TypeId × Value → H) :
  ReturnsInHanded {} Tryz.checked os 4 .any (fun w args => (Rows.pupilKnownSpec.pre enc Tryz.prog Tryz.f4 [] false w args ∧ laidMetH Tryz.prog Rows.pupilKnownRow.laid w) ∧ sizedMet enc Tryz.prog Tryz.f4 (OpenSpec.ofChange Rows.pupilKnownSpec) false w args)
   (Rows.pupilKnownSpec.post enc Tryz.prog Tryz.f4 false true false false) := by
 refine returnsInHanded_of_change_and (C := Tryz.checked) (X := fun w _ => laidMetH Tryz.prog Rows.pupilKnownRow.laid w) (fun _ _ _ hh h => h.of_heap hh) ownP started (by kernel_rfl) Tryz.func4
  (ChangeSpec.witness_shaped (enc := enc) (C := Tryz.checked) (os := os) (X := fun w _ => laidMetH Tryz.prog Rows.pupilKnownRow.laid w) false (World.doorLaid Tryz.prog 4000 os) #[] 8 rfl (World.shaped_of_RefB (by kernel_rfl) (by kernel_rfl)) (by kernel_rfl) (by kernel_rfl) (by kernel_rfl) (doorP os _)) ?_
 intro W base args ds gs before hval0 hW _ _ hL _
 have hW' := hW
 obtain ⟨p, q, hA0, hV, rfl, hfz, hnd⟩ := hW
 have hA : DataW.TrodAll enc Tryz.prog W 0 (fun _ => true) true Tryz.f4.params.toList args.toList ds p := hA0
 rw [Tryz.params4] at hA
 obtain ⟨rfl, rfl, rfl⟩ : args = #[] ∧ ds = [] ∧ p = [] := by
  obtain ⟨l⟩ := args
  cases l with
  | nil => cases ds with
    | nil => exact ⟨rfl, rfl, hA⟩
    | cons a b => exact absurd hA (by intro h; cases h)
  | cons a b => exact absurd hA (by intro h; cases h)
 obtain ⟨rfl, rfl⟩ := trodVars_none hV
 obtain ⟨m, hp⟩ := pows_of_laid hL
 simp only [List.append_nil] at hW'
 refine (walk W m hp).mono fun e W' ⟨he, hw⟩ => ?_
 subst he
 refine ⟨_, rfl, _, _, _, [], [], [], hW', ?_, ?_, ?_, keptButP hw _, fun h => by cases h⟩
 ·exact trodAll_mk1 (shut_bool Tryz.underlying4 true)
 ·rfl
 ·rfl
theorem rf1P : Tryz.pinned.checked.prog.funcNamed Rows.pupilKnownRow.func = some 4 := by kernel_rfl
theorem rf2P : joinedFacts Tryz.pinned.checked.prog 4 Tryz.f4 Rows.pupilKnownSpec Rows.pupilKnownRow = true := by kernel_rfl
theorem rf3P : decide (Func.isInstance Tryz.pinned.checked.prog Tryz.f4 Rows.pupilKnownRow.origin Rows.pupilKnownRow.targs) = true := by kernel_rfl
theorem rf4P : Func.isWrapper Tryz.pinned.checked.prog Tryz.f4 Rows.pupilKnownRow.wrapper Rows.pupilKnownRow.mainSum := by
 unfold Func.isWrapper
 rw [if_neg (by decide +kernel)]
 exact ⟨rfl, rfl⟩
theorem pknown_row (walk : PKnownWalk) : Rows.PupilKnownSaid :=
 OpenClaim.holds_of_wide 4 Tryz.f4 rfl rfl rfl rfl rfl rfl rfl ⟨rfl, rfl, rfl, rfl, rfl⟩ rfl rfl rfl rfl rfl rf1P Tryz.func4 rf2P
  (of_decide_eq_true rf3P) rf4P
  (fun os started H enc _ => liftedP walk os started H enc)
theorem pknown_card (walk : PKnownWalk) : Rows.PupilKnownCardSaid :=
 Claim7.holds_tied_plain_at .later [] [.mappedDeep, .funcs] true (true, "0ca0f186eeee4be94936cf84ea73dbe543e30e760edde5ff8a0b065013f6053a") true
  (pknown_row walk) (fun _ h => by cases h) (by kernel_rfl) (fun _ h => by cases h) pupilKnown_row_tie rfl ⟨rfl, rfl⟩ (by kernel_rfl) rfl
  (fun f fn hf hfn => by
   obtain rfl : f = 4 := Option.some.inj ((show Tryz.prog.funcNamed "monocle/monoclelaw19.PupilKnown" = some 4 by kernel_rfl).symm.trans hf) |>.symm
   obtain rfl : fn = Tryz.f4 := (Option.some.inj (Tryz.func4.symm.trans hfn)).symm
   exact ⟨by kernel_rfl, fun j t ht => by
    rw [Tryz.params4] at ht
    simp at ht⟩)
  (by kernel_rfl)
theorem pupilKnown_holds : Rows.PupilKnownCardSaid := pknown_card fun w m hp => pknown_ok w m hp
#print axioms pupilKnown_holds
end Go.Proofs.YtccmnjkgfgnmoaaGreatDoor
