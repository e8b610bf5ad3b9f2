/- The law SeidelShifts: Shift equals the reference: its walk by a verified evaluator, and its card. Part 11 of 11. No condition beside the row. -/
import Derived.Test.YtcgfdibagldafaaGreatDoorTie
import Derived.Test.YtcgfdibagldafaaGreatDoorCards
import Derived.SevenTiedAt
import Derived.Deep.Onto
import Derived.Test.YtcgfdibagldafaaGreatDoorA29
import Derived.Test.YtcgfdibagldafaaGreatDoorH10
set_option linter.unusedVariables false
set_option linter.unusedSimpArgs false
set_option maxRecDepth 100000
set_option maxHeartbeats 4000000
namespace Go.Proofs.YtcgfdibagldafaaGreatDoor
open Go Go.ChangeShapes Go.WideShapes Go.ChangeAt Go.RowKit Go.Mono
theorem ownH : ownKnob Tryz.prog.godebug = none := by kernel_rfl
theorem doorH (os : Os) (args : Array Value) : laidMetH Tryz.prog Rows.seidelShiftsRow.laid ((World.doorLaid Tryz.prog 4000 os).forCall (fun _ _ => 0) ⟨#[], args, []⟩).memory :=
 laidMetH_of_parts3 (fuel := 8) (laidMet_of_run' 8 (by kernel_rfl) (by kernel_rfl)) (by kernel_rfl) (by kernel_rfl)
theorem keptButH {w w' : World} (h : Below w.heap.size w w') (may : MemPlace → Prop) : w.keptBut w' may :=
 (World.keptBut_refl w may).congr h.os h.output (fun i hi => h.block i hi)
theorem liftedH (os : Os) (started : os.Started) (H : Type) (enc : TypeId × Value → H) :
  ReturnsInHanded {} Tryz.checked os 7 .any (fun w args => (Rows.seidelShiftsSpec.pre enc Tryz.prog Tryz.f7 [] false w args ∧ laidMetH Tryz.prog Rows.seidelShiftsRow.laid w) ∧ sizedMet enc Tryz.prog Tryz.f7 (OpenSpec.ofChange Rows.seidelShiftsSpec) false w args)
   (Rows.seidelShiftsSpec.post enc Tryz.prog Tryz.f7 false true false false) := by
 refine returnsInHanded_of_change_and (C := Tryz.checked) (X := fun w _ => laidMetH Tryz.prog Rows.seidelShiftsRow.laid w) (fun _ _ _ hh h => h.of_heap hh) ownH started (by kernel_rfl) Tryz.func7
  (ChangeSpec.witness_shaped (enc := enc) (C := Tryz.checked) (os := os) (X := fun w _ => laidMetH Tryz.prog Rows.seidelShiftsRow.laid w) false (World.doorLaid Tryz.prog 4000 os) #[.agg #[.int .i16 0, .int .u8 0, .int .i16 0, .int .u8 0, .int .i16 0, .int .u8 0, .int .i16 0, .int .u8 0, .int .i16 0, .int .u8 0, .int .i16 0, .int .u8 0], .agg #[.slice none 0 0, .slice none 0 0, .bool false], .int .u8 0] 8 rfl (World.shaped_of_RefB (by kernel_rfl) (by kernel_rfl)) (by kernel_rfl) (by kernel_rfl) (by kernel_rfl) (doorH os _)) ?_
 intro W base args ds gs before hval0 hW _ hsz0 hL _
 have hval : ∀ (j : Nat) t v, Tryz.f7.params[j]? = some t → args[j]? = some v → Value.okWide Tryz.prog W .any base t v := hval0
 have hW' := hW
 obtain ⟨p, q, hA0, hV, rfl, hfz, hnd⟩ := hW
 have hA : DataW.TrodAll enc Tryz.prog W 0 (fun _ => true) true Tryz.f7.params.toList args.toList ds p := hA0
 have hAk := hA
 have hsz : (DataW.weightsEach Tryz.prog (Tryz.f7.params.toList ++ Rows.seidelShiftsSpec.plain.varTypes Tryz.prog) (ds ++ gs)).all (· ≤ reachBytes) = true := hsz0
 rw [Tryz.params7] at hA hval hsz
 obtain ⟨args⟩ := args
 obtain ⟨v0, vs0, d0, ds0, p0, ps0, ev0, rfl, rfl, h0, r0⟩ := trodAll_cons hA
 obtain ⟨v1, vs1, d1, ds1, p1, ps1, ev1, rfl, rfl, h1, r1⟩ := trodAll_cons r0
 obtain ⟨v2, vs2, d2, ds2, p2, ps2, ev2, rfl, rfl, h2, r2⟩ := trodAll_cons r1
 obtain ⟨rfl, rfl, rfl⟩ := trodAll_nil r2
 cases ev0; cases ev1; cases ev2
 obtain ⟨rfl, rfl⟩ := trodVars_none hV
 obtain ⟨ns, ds, hb, rfl⟩ := open_nums6 (hval 0 72 _ rfl rfl) h0
 obtain ⟨p, q, n, n', c, e, f, g, s, hN, hD, rfl⟩ := open_odd (hval 1 74 _ rfl rfl) h1 (fun n hn => by simpa using List.all_eq_true.1 hsz _ (DataW.weights_mem_each (j := 1) (t := 74) rfl rfl n hn))
 obtain ⟨k, rfl, hk⟩ := open_u8 (hval 2 5 _ rfl rfl) h2
 obtain ⟨m, hp⟩ := pows_of_laid hL
 simp only [List.append_nil] at hW' hAk
 refine (shifts_ok W m hp ns ds hb p q n n' c e f g s hN hD k hk).mono fun e W' ⟨he, hw⟩ => ?_
 subst he
 refine ⟨_, rfl, _, _, _, [], _, [], hW', ?_, trodAll_below18 laidOut18 hw _ _ _ _ (by rw [Tryz.params7]; kernel_rfl) hAk (fun x hx => by simpa using hW'.lt x hx), ?_, keptButH hw _, fun h => by cases h⟩
 ·exact trodAll_mk1 (shut_bool Tryz.underlying4 true)
 ·rfl
theorem rf1H : Tryz.pinned.checked.prog.funcNamed Rows.seidelShiftsRow.func = some 7 := by kernel_rfl
theorem rf2H : joinedFacts Tryz.pinned.checked.prog 7 Tryz.f7 Rows.seidelShiftsSpec Rows.seidelShiftsRow = true := by kernel_rfl
theorem rf3H : decide (Func.isInstance Tryz.pinned.checked.prog Tryz.f7 Rows.seidelShiftsRow.origin Rows.seidelShiftsRow.targs) = true := by kernel_rfl
theorem rf4H : Func.isWrapper Tryz.pinned.checked.prog Tryz.f7 Rows.seidelShiftsRow.wrapper Rows.seidelShiftsRow.mainSum := by
 unfold Func.isWrapper
 rw [if_neg (by decide +kernel)]
 exact ⟨rfl, rfl⟩
theorem rowH : Rows.SeidelShiftsSaid :=
 OpenClaim.holds_of_wide 7 Tryz.f7 rfl rfl rfl rfl rfl rfl rfl ⟨rfl, rfl, rfl, rfl, rfl⟩ rfl rfl rfl rfl rfl rf1H Tryz.func7 rf2H
  (of_decide_eq_true rf3H) rf4H
  (fun os started H enc _ => liftedH os started H enc)
theorem seidelShifts_holds : Rows.SeidelShiftsCardSaid :=
 Claim7.holds_tied_plain_at .later [] [.mappedDeep, .funcs] true (true, "ae044648bc97439b3d418f7d10f7ddb26ce527a441ee41ec0e4f194c2b51f05b") true
  rowH (fun _ h => by cases h) (by kernel_rfl) (fun _ h => by cases h) seidelShifts_row_tie rfl ⟨rfl, rfl⟩ (by kernel_rfl) rfl
  (fun f fn hf hfn => by
   obtain rfl : f = 7 := Option.some.inj ((show Tryz.prog.funcNamed "monocle/monoclelaw23.SeidelShifts" = some 7 by kernel_rfl).symm.trans hf) |>.symm
   obtain rfl : fn = Tryz.f7 := (Option.some.inj (Tryz.func7.symm.trans hfn)).symm
   exact ⟨by kernel_rfl, fun j t ht => by
    rw [Tryz.params7] at ht
    have hm : t ∈ [72, 74, 5] := by simpa using Array.mem_of_getElem? ht
    have hall : ([72, 74, 5].all fun u => !Tryz.prog.wantsStandIn u) = true := by kernel_rfl
    exact (show Tryz.prog.wantsStandIn t = false by simpa using List.all_eq_true.1 hall t hm)⟩)
  (by kernel_rfl)
#print axioms seidelShifts_holds
end Go.Proofs.YtcgfdibagldafaaGreatDoor
