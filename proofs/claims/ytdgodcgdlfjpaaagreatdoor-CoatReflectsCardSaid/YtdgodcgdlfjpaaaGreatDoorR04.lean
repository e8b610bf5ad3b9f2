/- The law CoatReflects: Reflect equals the reference, its walk by a verified evaluator, and its card. Part 4 of 4. No condition beside the row. -/
import Derived.Test.YtdgodcgdlfjpaaaGreatDoorR03
set_option linter.unusedVariables false
set_option linter.unusedSimpArgs false
set_option maxRecDepth 100000
set_option maxHeartbeats 4000000
namespace Go.Proofs.YtdgodcgdlfjpaaaGreatDoor
open Go Go.ChangeShapes Go.WideShapes Go.ChangeAt Go.RowKit Go.Mono
theorem doorCoatReflects (os : Os) (args : Array Value) : laidMetH Tryz.prog Rows.coatReflectsRow.laid ((World.doorLaid Tryz.prog 4000 os).forCall (fun _ _ => 0) ⟨#[], args, []⟩).memory :=
 laidMetH_of_parts3 (fuel := 8) (laidMet_of_run' 8 (by kernel_rfl) (by kernel_rfl)) (by kernel_rfl) (by kernel_rfl)
theorem liftedCoatReflects (os : Os) (started : os.Started) (H : Type) (enc : TypeId × Value → H) :
  ReturnsInHanded {} Tryz.checked os 3 .any (fun w args => (Rows.coatReflectsSpec.pre enc Tryz.prog Tryz.f3 [] false w args ∧ laidMetH Tryz.prog Rows.coatReflectsRow.laid w) ∧ sizedMet enc Tryz.prog Tryz.f3 (OpenSpec.ofChange Rows.coatReflectsSpec) false w args)
   (Rows.coatReflectsSpec.post enc Tryz.prog Tryz.f3 false true false false) := by
 refine returnsInHanded_of_change_and (C := Tryz.checked) (X := fun w _ => laidMetH Tryz.prog Rows.coatReflectsRow.laid w) (fun _ _ _ hh h => h.of_heap hh) own40 started (by kernel_rfl) Tryz.func3
  (ChangeSpec.witness_shaped (enc := enc) (C := Tryz.checked) (os := os) (X := fun w _ => laidMetH Tryz.prog Rows.coatReflectsRow.laid w) false (World.doorLaid Tryz.prog 4000 os) #[.slice none 0 0, .agg #[.int .i64 0, .int .i64 0, .int .i64 0], .int .u8 0, .int .i64 0, .int .i64 0, .agg #[.int .u8 0, .int .u8 0]] 8 rfl (World.shaped_of_RefB (by kernel_rfl) (by kernel_rfl)) (by kernel_rfl) (by kernel_rfl) (by kernel_rfl) (doorCoatReflects os _)) ?_
 intro W base args ds gs before hval0 hW _ hsz0 hL _
 have hval : ∀ (j : Nat) t v, Tryz.f3.params[j]? = some t → args[j]? = some v → Value.okWide Tryz.prog W .any base t v := hval0
 have hW' := hW
 obtain ⟨p, q, hA0, hV, rfl, hfz, hnd⟩ := hW
 have hA : DataW.TrodAll enc Tryz.prog W 0 (fun _ => true) true Tryz.f3.params.toList args.toList ds p := hA0
 have hAk := hA
 have hsz : (DataW.weightsEach Tryz.prog (Tryz.f3.params.toList ++ Rows.coatReflectsSpec.plain.varTypes Tryz.prog) (ds ++ gs)).all (· ≤ reachBytes) = true := hsz0
 rw [Tryz.params3] at hA hval hsz
 obtain ⟨args⟩ := args
 obtain ⟨v0, vs0, d0, ds0, p0, ps0, ev0, rfl, rfl, h0, r0⟩ := trodAll_cons hA
 obtain ⟨v1, vs1, d1, ds1, p1, ps1, ev1, rfl, rfl, h1, r1⟩ := trodAll_cons r0
 obtain ⟨v2, vs2, d2, ds2, p2, ps2, ev2, rfl, rfl, h2, r2⟩ := trodAll_cons r1
 obtain ⟨v3, vs3, d3, ds3, p3, ps3, ev3, rfl, rfl, h3, r3⟩ := trodAll_cons r2
 obtain ⟨v4, vs4, d4, ds4, p4, ps4, ev4, rfl, rfl, h4, r4⟩ := trodAll_cons r3
 obtain ⟨v5, vs5, d5, ds5, p5, ps5, ev5, rfl, rfl, h5, r5⟩ := trodAll_cons r4
 obtain ⟨rfl, rfl, rfl⟩ := trodAll_nil r5
 cases ev0; cases ev1; cases ev2; cases ev3; cases ev4; cases ev5
 obtain ⟨rfl, rfl⟩ := trodVars_none hV
 obtain ⟨q0, n0, c0, G0, rfl, hG0, hT0⟩ := open_thins (hval 0 22 _ rfl rfl) h0 (fun n hn => by simpa using List.all_eq_true.1 hsz _ (DataW.weights_mem_each (j := 0) (t := 22) rfl rfl n hn))
 obtain ⟨f1, rfl⟩ := open_film (hval 1 24 _ rfl rfl) h1
 obtain ⟨o2, rfl, ho2⟩ := open_oct (hval 2 5 _ rfl rfl) h2
 obtain ⟨z3, rfl⟩ := open_i64 (hval 3 3 _ rfl rfl) h3
 obtain ⟨z4, rfl⟩ := open_i64 (hval 4 3 _ rfl rfl) h4
 obtain ⟨a5, b5, rfl, ha5, hb5⟩ := open_small (hval 5 25 _ rfl rfl) h5
 simp only [List.append_nil] at hW' hAk
 refine (vreflects_ok q0 n0 c0 G0 hG0 f1 o2 ho2 z3 z4 a5 b5 ha5 hb5 W hT0).mono fun e W' ⟨he, hw⟩ => ?_
 subst he
 refine ⟨_, rfl, _, _, _, [], _, [], hW', ?_, trodAll_below laidOut40 hw _ _ _ _ (by rw [Tryz.params3]; kernel_rfl) hAk (fun x hx => by simpa using hW'.lt x hx), ?_, keptBut40 hw _, fun h => by cases h⟩
 ·exact trodAll_mk1 (shut_bool Tryz.underlying4 true)
 ·rfl
theorem rf1CoatReflects : Tryz.pinned.checked.prog.funcNamed Rows.coatReflectsRow.func = some 3 := by kernel_rfl
theorem rf2CoatReflects : joinedFacts Tryz.pinned.checked.prog 3 Tryz.f3 Rows.coatReflectsSpec Rows.coatReflectsRow = true := by kernel_rfl
theorem rf3CoatReflects : decide (Func.isInstance Tryz.pinned.checked.prog Tryz.f3 Rows.coatReflectsRow.origin Rows.coatReflectsRow.targs) = true := by kernel_rfl
theorem rf4CoatReflects : Func.isWrapper Tryz.pinned.checked.prog Tryz.f3 Rows.coatReflectsRow.wrapper Rows.coatReflectsRow.mainSum := by
 unfold Func.isWrapper
 rw [if_neg (by decide +kernel)]
 exact ⟨rfl, rfl⟩
theorem rowCoatReflects : Rows.CoatReflectsSaid :=
 OpenClaim.holds_of_wide 3 Tryz.f3 rfl rfl rfl rfl rfl rfl rfl ⟨rfl, rfl, rfl, rfl, rfl⟩ rfl rfl rfl rfl rfl rf1CoatReflects Tryz.func3 rf2CoatReflects
  (of_decide_eq_true rf3CoatReflects) rf4CoatReflects
  (fun os started H enc _ => liftedCoatReflects os started H enc)
theorem coatReflects_holds : Rows.CoatReflectsCardSaid :=
 Claim7.holds_tied_plain_at .later [] [.mappedDeep] true (true, "8c7e7d712da00f2ec4205cf5e30e6eb24515fa0a3a99f2f9b4406062a23bbaf6") true
  rowCoatReflects (fun _ h => by cases h) (by kernel_rfl) (fun _ h => by cases h) coatReflects_row_tie rfl ⟨rfl, rfl⟩ (by kernel_rfl) rfl
  (fun f fn hf hfn => by
   obtain rfl : f = 3 := Option.some.inj ((show Tryz.prog.funcNamed "monocle/monoclelaw40.CoatReflects" = some 3 by kernel_rfl).symm.trans hf) |>.symm
   obtain rfl : fn = Tryz.f3 := (Option.some.inj (Tryz.func3.symm.trans hfn)).symm
   exact ⟨by kernel_rfl, fun j t ht => by
    rw [Tryz.params3] at ht
    have hm : t ∈ [22, 24, 5, 3, 3, 25] := by simpa using Array.mem_of_getElem? ht
    have hall : ([22, 24, 5, 3, 3, 25].all fun u => !Tryz.prog.wantsStandIn u) = true := by kernel_rfl
    exact (show Tryz.prog.wantsStandIn t = false by simpa using List.all_eq_true.1 hall t hm)⟩)
  (by kernel_rfl)
#print axioms coatReflects_holds
end Go.Proofs.YtdgodcgdlfjpaaaGreatDoor
