/- The law SeidelKnown: examples, an aspheric term, colours and the order of errors of package seidel, its walk and its card. Part 6 of 6. No condition beside the row. -/
import Derived.Test.YtccmnjkgfgnmoaaGreatDoorTie
import Derived.Test.YtccmnjkgfgnmoaaGreatDoorCards
import Derived.SevenTiedAt
import Derived.Deep.Onto
import Derived.Test.YtccmnjkgfgnmoaaGreatDoorA29
import Derived.Test.YtccmnjkgfgnmoaaGreatDoorS05
set_option linter.unusedVariables false
set_option linter.unusedSimpArgs false
set_option maxRecDepth 100000
set_option maxHeartbeats 4000000
namespace Go.Proofs.YtccmnjkgfgnmoaaGreatDoor
open Go Go.ChangeShapes Go.WideShapes Go.ChangeAt Go.RowKit Go.Mono
theorem ownS : ownKnob Tryz.prog.godebug = none := by kernel_rfl
theorem doorS (os : Os) (args : Array Value) : laidMetH Tryz.prog Rows.seidelKnownRow.laid ((World.doorLaid Tryz.prog 4000 os).forCall (fun _ _ => 0) ⟨#[], args, []⟩).memory :=
 laidMetH_of_parts3 (fuel := 8) (laidMet_of_run' 8 (by kernel_rfl) (by kernel_rfl)) (by kernel_rfl) (by kernel_rfl)
theorem keptButS {w w' : World} (h : Below w.heap.size w w') (may : MemPlace → Prop) : w.keptBut w' may :=
 (World.keptBut_refl w may).congr h.os h.output (fun i hi => h.block i hi)
def SKnownWalk : Prop := ∀ (w : World) (m : Nat), PowsAt w m → Calls Tryz.prog 7 #[] w fun e w' => e = .returned (.bool true) ∧ Below w.heap.size w w'
theorem liftedS (walk : SKnownWalk) (os : Os) (started : os.Started) (H : Type) (enc : TypeId × Value → H) :
  ReturnsInHanded {} Tryz.checked os 7 .any (fun w args => (Rows.seidelKnownSpec.pre enc Tryz.prog Tryz.f7 [] false w args ∧ laidMetH Tryz.prog Rows.seidelKnownRow.laid w) ∧ sizedMet enc Tryz.prog Tryz.f7 (OpenSpec.ofChange Rows.seidelKnownSpec) false w args)
   (Rows.seidelKnownSpec.post enc Tryz.prog Tryz.f7 false true false false) := by
 refine returnsInHanded_of_change_and (C := Tryz.checked) (X := fun w _ => laidMetH Tryz.prog Rows.seidelKnownRow.laid w) (fun _ _ _ hh h => h.of_heap hh) ownS started (by kernel_rfl) Tryz.func7
  (ChangeSpec.witness_shaped (enc := enc) (C := Tryz.checked) (os := os) (X := fun w _ => laidMetH Tryz.prog Rows.seidelKnownRow.laid w) false (World.doorLaid Tryz.prog 4000 os) #[] 8 rfl (World.shaped_of_RefB (by kernel_rfl) (by kernel_rfl)) (by kernel_rfl) (by kernel_rfl) (by kernel_rfl) (doorS os _)) ?_
 intro W base args ds gs before hval0 hW _ _ hL _
 have hW' := hW
 obtain ⟨p, q, hA0, hV, rfl, hfz, hnd⟩ := hW
 have hA : DataW.TrodAll enc Tryz.prog W 0 (fun _ => true) true Tryz.f7.params.toList args.toList ds p := hA0
 rw [Tryz.params7] at hA
 obtain ⟨rfl, rfl, rfl⟩ : args = #[] ∧ ds = [] ∧ p = [] := by
  obtain ⟨l⟩ := args
  cases l with
  | nil => cases ds with
    | nil => exact ⟨rfl, rfl, hA⟩
    | cons a b => exact absurd hA (by intro h; cases h)
  | cons a b => exact absurd hA (by intro h; cases h)
 obtain ⟨rfl, rfl⟩ := trodVars_none hV
 obtain ⟨m, hp⟩ := pows_of_laid hL
 simp only [List.append_nil] at hW'
 refine (walk W m hp).mono fun e W' ⟨he, hw⟩ => ?_
 subst he
 refine ⟨_, rfl, _, _, _, [], [], [], hW', ?_, ?_, ?_, keptButS hw _, fun h => by cases h⟩
 ·exact trodAll_mk1 (shut_bool Tryz.underlying4 true)
 ·rfl
 ·rfl
theorem rf1S : Tryz.pinned.checked.prog.funcNamed Rows.seidelKnownRow.func = some 7 := by kernel_rfl
theorem rf2S : joinedFacts Tryz.pinned.checked.prog 7 Tryz.f7 Rows.seidelKnownSpec Rows.seidelKnownRow = true := by kernel_rfl
theorem rf3S : decide (Func.isInstance Tryz.pinned.checked.prog Tryz.f7 Rows.seidelKnownRow.origin Rows.seidelKnownRow.targs) = true := by kernel_rfl
theorem rf4S : Func.isWrapper Tryz.pinned.checked.prog Tryz.f7 Rows.seidelKnownRow.wrapper Rows.seidelKnownRow.mainSum := by
 unfold Func.isWrapper
 rw [if_neg (by decide +kernel)]
 exact ⟨rfl, rfl⟩
theorem sknown_row (walk : SKnownWalk) : Rows.SeidelKnownSaid :=
 OpenClaim.holds_of_wide 7 Tryz.f7 rfl rfl rfl rfl rfl rfl rfl ⟨rfl, rfl, rfl, rfl, rfl⟩ rfl rfl rfl rfl rfl rf1S Tryz.func7 rf2S
  (of_decide_eq_true rf3S) rf4S
  (fun os started H enc _ => liftedS walk os started H enc)
theorem sknown_card (walk : SKnownWalk) : Rows.SeidelKnownCardSaid :=
 Claim7.holds_tied_plain_at .later [] [.mappedDeep, .funcs] true (true, "0ca0f186eeee4be94936cf84ea73dbe543e30e760edde5ff8a0b065013f6053a") true
  (sknown_row walk) (fun _ h => by cases h) (by kernel_rfl) (fun _ h => by cases h) seidelKnown_row_tie rfl ⟨rfl, rfl⟩ (by kernel_rfl) rfl
  (fun f fn hf hfn => by
   obtain rfl : f = 7 := Option.some.inj ((show Tryz.prog.funcNamed "monocle/monoclelaw23.SeidelKnown" = some 7 by kernel_rfl).symm.trans hf) |>.symm
   obtain rfl : fn = Tryz.f7 := (Option.some.inj (Tryz.func7.symm.trans hfn)).symm
   exact ⟨by kernel_rfl, fun j t ht => by
    rw [Tryz.params7] at ht
    simp at ht⟩)
  (by kernel_rfl)
theorem seidelKnown_holds : Rows.SeidelKnownCardSaid := sknown_card fun w m hp => sknown_ok w m hp
#print axioms seidelKnown_holds
end Go.Proofs.YtccmnjkgfgnmoaaGreatDoor
