/- The law MatrixKnown: the examples of the ray transfer matrices, afocal lenses, mirrors and the order of errors; its walk by a verified evaluator of the model, and its card. Part 36 of 36. No condition beside the row. -/
import Derived.Test.YtdgodcgdlfjpaaaGreatDoorTie
import Derived.Test.YtdgodcgdlfjpaaaGreatDoorCards
import Derived.SevenTiedAt
import Derived.Deep.Onto
import Derived.Test.YtdgodcgdlfjpaaaGreatDoorM34
import Derived.Test.YtdgodcgdlfjpaaaGreatDoorM35
set_option linter.unusedVariables false
set_option linter.unusedSimpArgs false
set_option maxRecDepth 100000
set_option maxHeartbeats 4000000
namespace Go.Proofs.YtdgodcgdlfjpaaaGreatDoor
open Go Go.ChangeShapes Go.WideShapes Go.ChangeAt Go.RowKit Go.Mono
theorem ownM : ownKnob Tryz.prog.godebug = none := by kernel_rfl
theorem doorM (os : Os) (args : Array Value) : laidMetH Tryz.prog Rows.matrixKnownRow.laid ((World.doorLaid Tryz.prog 4000 os).forCall (fun _ _ => 0) ⟨#[], args, []⟩).memory :=
 laidMetH_of_parts3 (fuel := 8) (laidMet_of_run' 8 (by kernel_rfl) (by kernel_rfl)) (by kernel_rfl) (by kernel_rfl)
theorem keptButM {w w' : World} (h : Below w.heap.size w w') (may : MemPlace → Prop) : w.keptBut w' may :=
 (World.keptBut_refl w may).congr h.os h.output (fun i hi => h.block i hi)
def MKnownWalk : Prop := ∀ (w : World) (m : Nat), PowsAt w m → Calls Tryz.prog 10 #[] w fun e w' => e = .returned (.bool true) ∧ Below w.heap.size w w'
theorem liftedM (walk : MKnownWalk) (os : Os) (started : os.Started) (H : Type) (enc : TypeId × Value → H) :
  ReturnsInHanded {} Tryz.checked os 10 .any (fun w args => (Rows.matrixKnownSpec.pre enc Tryz.prog Tryz.f10 [] false w args ∧ laidMetH Tryz.prog Rows.matrixKnownRow.laid w) ∧ sizedMet enc Tryz.prog Tryz.f10 (OpenSpec.ofChange Rows.matrixKnownSpec) false w args)
   (Rows.matrixKnownSpec.post enc Tryz.prog Tryz.f10 false true false false) := by
 refine returnsInHanded_of_change_and (C := Tryz.checked) (X := fun w _ => laidMetH Tryz.prog Rows.matrixKnownRow.laid w) (fun _ _ _ hh h => h.of_heap hh) ownM started (by kernel_rfl) Tryz.func10
  (ChangeSpec.witness_shaped (enc := enc) (C := Tryz.checked) (os := os) (X := fun w _ => laidMetH Tryz.prog Rows.matrixKnownRow.laid w) false (World.doorLaid Tryz.prog 4000 os) #[] 8 rfl (World.shaped_of_RefB (by kernel_rfl) (by kernel_rfl)) (by kernel_rfl) (by kernel_rfl) (by kernel_rfl) (doorM os _)) ?_
 intro W base args ds gs before hval0 hW _ _ hL _
 have hW' := hW
 obtain ⟨p, q, hA0, hV, rfl, hfz, hnd⟩ := hW
 have hA : DataW.TrodAll enc Tryz.prog W 0 (fun _ => true) true Tryz.f10.params.toList args.toList ds p := hA0
 rw [Tryz.params10] at hA
 obtain ⟨rfl, rfl, rfl⟩ : args = #[] ∧ ds = [] ∧ p = [] := by
  obtain ⟨l⟩ := args
  cases l with
  | nil => cases ds with
    | nil => exact ⟨rfl, rfl, hA⟩
    | cons a b => exact absurd hA (by intro h; cases h)
  | cons a b => exact absurd hA (by intro h; cases h)
 obtain ⟨rfl, rfl⟩ := trodVars_none hV
 obtain ⟨m, hp⟩ := pows_of_laid hL
 simp only [List.append_nil] at hW'
 refine (walk W m hp).mono fun e W' ⟨he, hw⟩ => ?_
 subst he
 refine ⟨_, rfl, _, _, _, [], [], [], hW', ?_, ?_, ?_, keptButM hw _, fun h => by cases h⟩
 ·exact trodAll_mk1 (shut_bool Tryz.underlying4 true)
 ·rfl
 ·rfl
theorem rf1M : Tryz.pinned.checked.prog.funcNamed Rows.matrixKnownRow.func = some 10 := by kernel_rfl
theorem rf2M : joinedFacts Tryz.pinned.checked.prog 10 Tryz.f10 Rows.matrixKnownSpec Rows.matrixKnownRow = true := by kernel_rfl
theorem rf3M : decide (Func.isInstance Tryz.pinned.checked.prog Tryz.f10 Rows.matrixKnownRow.origin Rows.matrixKnownRow.targs) = true := by kernel_rfl
theorem rf4M : Func.isWrapper Tryz.pinned.checked.prog Tryz.f10 Rows.matrixKnownRow.wrapper Rows.matrixKnownRow.mainSum := by
 unfold Func.isWrapper
 rw [if_neg (by decide +kernel)]
 exact ⟨rfl, rfl⟩
theorem mknown_row (walk : MKnownWalk) : Rows.MatrixKnownSaid :=
 OpenClaim.holds_of_wide 10 Tryz.f10 rfl rfl rfl rfl rfl rfl rfl ⟨rfl, rfl, rfl, rfl, rfl⟩ rfl rfl rfl rfl rfl rf1M Tryz.func10 rf2M
  (of_decide_eq_true rf3M) rf4M
  (fun os started H enc _ => liftedM walk os started H enc)
theorem mknown_card (walk : MKnownWalk) : Rows.MatrixKnownCardSaid :=
 Claim7.holds_tied_plain_at .later [] [.mappedDeep, .funcs] true (true, "8c7e7d712da00f2ec4205cf5e30e6eb24515fa0a3a99f2f9b4406062a23bbaf6") true
  (mknown_row walk) (fun _ h => by cases h) (by kernel_rfl) (fun _ h => by cases h) matrixKnown_row_tie rfl ⟨rfl, rfl⟩ (by kernel_rfl) rfl
  (fun f fn hf hfn => by
   obtain rfl : f = 10 := Option.some.inj ((show Tryz.prog.funcNamed "monocle/monoclelaw18.MatrixKnown" = some 10 by kernel_rfl).symm.trans hf) |>.symm
   obtain rfl : fn = Tryz.f10 := (Option.some.inj (Tryz.func10.symm.trans hfn)).symm
   exact ⟨by kernel_rfl, fun j t ht => by
    rw [Tryz.params10] at ht
    simp at ht⟩)
  (by kernel_rfl)
theorem matrixKnown_holds : Rows.MatrixKnownCardSaid := mknown_card fun w m hp => mknown_ok w m hp
#print axioms matrixKnown_holds
end Go.Proofs.YtdgodcgdlfjpaaaGreatDoor
