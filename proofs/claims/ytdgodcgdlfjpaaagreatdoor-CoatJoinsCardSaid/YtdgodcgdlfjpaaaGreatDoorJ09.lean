/- The law CoatJoins: two films of one index are one, and films of the outer indices change nothing: its walk and its card. Part 9 of 9. No condition beside the row. -/
import Derived.Test.YtdgodcgdlfjpaaaGreatDoorA40
import Derived.Test.YtdgodcgdlfjpaaaGreatDoorJ06
import Derived.Test.YtdgodcgdlfjpaaaGreatDoorJ08
set_option linter.unusedVariables false
set_option linter.unusedSimpArgs false
namespace Go.Proofs.YtdgodcgdlfjpaaaGreatDoor
open Go.RowKit Go.Mono
theorem vjoins_ok (p : Option Addr) (n c : Nat) (G : Nat → Thn) (hG : ∀ i, i < n → (G i).ok) (x1 : Thn) (hx1 : x1.ok) (x2 : Thn) (hx2 : x2.ok) (o3 : Int) (ho3 : 0 ≤ o3 ∧ o3 ≤ 255) (s0 s1 : Int) (hs0 : 0 ≤ s0 ∧ s0 ≤ 255) (hs1 : 0 ≤ s1 ∧ s1 ≤ 255) (w : World) (h : ThinsAt w p n c G) :
  Calls Tryz.prog 11 #[.slice p n c, .agg x1.vals, .agg x2.vals, .int .u8 o3, .agg #[.int .u8 s0, .int .u8 s1]] w fun e w' => e = .returned (.bool true) ∧ Below w.heap.size w w' :=
 vjoins_of (Lib.hid fun w => vworks_ok w) p n c G hG x1 hx1 x2 hx2 o3 ho3 s0 s1 hs0 hs1 w h
end Go.Proofs.YtdgodcgdlfjpaaaGreatDoor
namespace Go.Proofs.YtdgodcgdlfjpaaaGreatDoor
open Go Go.ChangeShapes Go.WideShapes Go.ChangeAt Go.RowKit Go.Mono
theorem doorCoatJoins (os : Os) (args : Array Value) : laidMetH Tryz.prog Rows.coatJoinsRow.laid ((World.doorLaid Tryz.prog 4000 os).forCall (fun _ _ => 0) ⟨#[], args, []⟩).memory :=
 laidMetH_of_parts3 (fuel := 8) (laidMet_of_run' 8 (by kernel_rfl) (by kernel_rfl)) (by kernel_rfl) (by kernel_rfl)
set_option maxRecDepth 100000 in
theorem liftedCoatJoins (os : Os) (started : os.Started) (H : Type) (enc : TypeId × Value → H) :
  ReturnsInHanded {} Tryz.checked os 11 .any (fun w args => (Rows.coatJoinsSpec.pre enc Tryz.prog Tryz.f11 [] false w args ∧ laidMetH Tryz.prog Rows.coatJoinsRow.laid w) ∧ sizedMet enc Tryz.prog Tryz.f11 (OpenSpec.ofChange Rows.coatJoinsSpec) false w args)
   (Rows.coatJoinsSpec.post enc Tryz.prog Tryz.f11 false true false false) := by
 refine returnsInHanded_of_change_and (C := Tryz.checked) (X := fun w _ => laidMetH Tryz.prog Rows.coatJoinsRow.laid w) (fun _ _ _ hh h => h.of_heap hh) own40 started (by kernel_rfl) Tryz.func11
  (ChangeSpec.witness_shaped (enc := enc) (C := Tryz.checked) (os := os) (X := fun w _ => laidMetH Tryz.prog Rows.coatJoinsRow.laid w) false (World.doorLaid Tryz.prog 4000 os) #[.slice none 0 0, .agg #[.int .u8 0, .int .u8 0, .int .u8 0], .agg #[.int .u8 0, .int .u8 0, .int .u8 0], .int .u8 0, .agg #[.int .u8 0, .int .u8 0]] 8 rfl (World.shaped_of_RefB (by kernel_rfl) (by kernel_rfl)) (by kernel_rfl) (by kernel_rfl) (by kernel_rfl) (doorCoatJoins os _)) ?_
 intro W base args ds gs before hval0 hW _ hsz0 hL _
 have hval : ∀ (j : Nat) t v, Tryz.f11.params[j]? = some t → args[j]? = some v → Value.okWide Tryz.prog W .any base t v := hval0
 have hW' := hW
 obtain ⟨p, q, hA0, hV, rfl, hfz, hnd⟩ := hW
 have hA : DataW.TrodAll enc Tryz.prog W 0 (fun _ => true) true Tryz.f11.params.toList args.toList ds p := hA0
 have hAk := hA
 have hsz : (DataW.weightsEach Tryz.prog (Tryz.f11.params.toList ++ Rows.coatJoinsSpec.plain.varTypes Tryz.prog) (ds ++ gs)).all (· ≤ reachBytes) = true := hsz0
 rw [Tryz.params11] at hA hval hsz
 obtain ⟨args⟩ := args
 obtain ⟨v0, vs0, d0, ds0, p0, ps0, ev0, rfl, rfl, h0, r0⟩ := trodAll_cons hA
 obtain ⟨v1, vs1, d1, ds1, p1, ps1, ev1, rfl, rfl, h1, r1⟩ := trodAll_cons r0
 obtain ⟨v2, vs2, d2, ds2, p2, ps2, ev2, rfl, rfl, h2, r2⟩ := trodAll_cons r1
 obtain ⟨v3, vs3, d3, ds3, p3, ps3, ev3, rfl, rfl, h3, r3⟩ := trodAll_cons r2
 obtain ⟨v4, vs4, d4, ds4, p4, ps4, ev4, rfl, rfl, h4, r4⟩ := trodAll_cons r3
 obtain ⟨rfl, rfl, rfl⟩ := trodAll_nil r4
 cases ev0; cases ev1; cases ev2; cases ev3; cases ev4
 obtain ⟨rfl, rfl⟩ := trodVars_none hV
 obtain ⟨q0, n0, c0, G0, rfl, hG0, hT0⟩ := open_thins (hval 0 22 _ rfl rfl) h0 (fun n hn => by simpa using List.all_eq_true.1 hsz _ (DataW.weights_mem_each (j := 0) (t := 22) rfl rfl n hn))
 obtain ⟨t1, ht1, rfl⟩ := open_thin (hval 1 112 _ rfl rfl) h1
 obtain ⟨t2, ht2, rfl⟩ := open_thin (hval 2 112 _ rfl rfl) h2
 obtain ⟨o3, rfl, ho3⟩ := open_oct (hval 3 5 _ rfl rfl) h3
 obtain ⟨a4, b4, rfl, ha4, hb4⟩ := open_small (hval 4 25 _ rfl rfl) h4
 simp only [List.append_nil] at hW' hAk
 refine (vjoins_ok q0 n0 c0 G0 hG0 t1 ht1 t2 ht2 o3 ho3 a4 b4 ha4 hb4 W hT0).mono fun e W' ⟨he, hw⟩ => ?_
 subst he
 refine ⟨_, rfl, _, _, _, [], _, [], hW', ?_, trodAll_below laidOut40 hw _ _ _ _ (by rw [Tryz.params11]; kernel_rfl) hAk (fun x hx => by simpa using hW'.lt x hx), ?_, keptBut40 hw _, fun h => by cases h⟩
 ·exact trodAll_mk1 (shut_bool Tryz.underlying4 true)
 ·rfl
theorem rowCoatJoins : Rows.CoatJoinsSaid :=
 OpenClaim.holds_of_wide 11 Tryz.f11 rfl rfl rfl rfl rfl rfl rfl ⟨rfl, rfl, rfl, rfl, rfl⟩ rfl rfl rfl rfl rfl (by kernel_rfl) Tryz.func11 (by kernel_rfl)
  (of_decide_eq_true (by kernel_rfl)) (by unfold Func.isWrapper; first | (rw [if_pos (by decide +kernel)]; kernel_rfl) | (rw [if_neg (by decide +kernel)]; exact ⟨rfl, rfl⟩))
  (fun os started H enc _ => liftedCoatJoins os started H enc)
/-- CoatJoins returns true -/
theorem coatJoins_holds : Rows.CoatJoinsCardSaid :=
 Claim7.holds_tied_plain_at .later [] [.mappedDeep] true (true, "8c7e7d712da00f2ec4205cf5e30e6eb24515fa0a3a99f2f9b4406062a23bbaf6") true
  rowCoatJoins (fun _ h => by cases h) (by kernel_rfl) (fun _ h => by cases h) coatJoins_row_tie rfl ⟨rfl, rfl⟩ (by kernel_rfl) rfl
  (fun f fn hf hfn => by
   obtain rfl : f = 11 := Option.some.inj ((show Tryz.prog.funcNamed "monocle/monoclelaw40.CoatJoins" = some 11 by kernel_rfl).symm.trans hf) |>.symm
   obtain rfl : fn = Tryz.f11 := (Option.some.inj (Tryz.func11.symm.trans hfn)).symm
   exact ⟨by kernel_rfl, fun j t ht => by
    rw [Tryz.params11] at ht
    have hm : t ∈ [22, 112, 112, 5, 25] := by simpa using Array.mem_of_getElem? ht
    have hall : ([22, 112, 112, 5, 25].all fun u => !Tryz.prog.wantsStandIn u) = true := by kernel_rfl
    exact (show Tryz.prog.wantsStandIn t = false by simpa using List.all_eq_true.1 hall t hm)⟩)
  (by kernel_rfl)
#print axioms coatJoins_holds
end Go.Proofs.YtdgodcgdlfjpaaaGreatDoor
