/- Part 37 of 52 of the proof that the law ParaxialKnown returns true, whatever stands in memory, if the two listed variables hold what the text lays: contracts of the functions that it reaches. No condition beside the row. -/
import Derived.Test.YtepodcocemmejaaGreatDoorRows
import Derived.ProofKit
import Derived.LaidMore
import Derived.OpenShut
import Derived.Maps.Keyed
import Derived.LaidOnce
import Derived.Stop.Joined
import Derived.Test.YtepodcocemmejaaGreatDoorTie
import Derived.Test.YtepodcocemmejaaGreatDoorCards
import Derived.SevenTiedAt
import Derived.Deep.Onto
import Derived.Test.YtepodcocemmejaaGreatDoorA35
set_option linter.unusedVariables false
set_option linter.unusedSimpArgs false
namespace Go.Proofs.YtepodcocemmejaaGreatDoor
open Go Go.ChangeShapes Go.WideShapes Go.ChangeAt Go.WideMaps Go.WideElems Go.RowKit Go.Mono
theorem elemFunc {w : World} {base : Nat} {sp : Nat → Bool} {n : Nat} {t : TypeId} {ps rs : Array TypeId} {va : Bool} {v : Value} {b : UInt8} {r : List UInt8} {q : List MemPlace} {f0 : FuncId}
    (ht : Tryz.prog.underlying t = some (.func ps rs va)) (hone : ((List.range Tryz.prog.funcs.size).filter fun f => (Tryz.prog.funcs[f]?).any (·.name.toUTF8.data.toList == b :: r)) = [f0])
    (h : elemAt (funcToken Tryz.prog) Tryz.prog w base sp true n t v = some (.held (b :: r), q)) : v = .func (.func f0) #[] #[] := by
  unfold elemAt at h
  split at h
  · rename_i hf
    cases v <;> simp [Value.formed, ht] at hf
    all_goals exact func_of_trod ht hone (by simpa [Value.cells] using h)
  · cases h
theorem pows_of_laid {W : World} (h : laidMetH Tryz.prog [("monocle/surface.places", Rows.laid_monocle_surface_places), ("monocle/paraxial.powers", Rows.laid_monocle_paraxial_powers)] W) : ∃ m, PowsAt W m := by
  obtain ⟨g, t, cs, fuel, p, hg, ht, hv, hd⟩ := h.funcs (n := "monocle/paraxial.powers") (List.mem_cons_of_mem _ (List.mem_cons_self ..))
  obtain rfl := Option.some.inj ((show Tryz.prog.globalNamed "monocle/paraxial.powers" = some 0 by kernel_rfl).symm.trans hg)
  obtain rfl := Option.some.inj ((show (Tryz.prog.globals[0]?).map (·.type) = some 174 by kernel_rfl).symm.trans ht)
  have hcell := World.var?_cell hg hv 0
  have hd' : DataW.trod (funcToken Tryz.prog) Tryz.prog W 0 (fun _ => true) true fuel 174 cs.toList = some (.map [(.int .i64 1, .held [40, 109, 111, 110, 111, 99, 108, 101, 47, 112, 97, 114, 97, 120, 105, 97, 108, 46, 118, 105, 101, 119, 41, 46, 99, 117, 114, 118, 101, 100]), (.int .i64 2, .held [40, 109, 111, 110, 111, 99, 108, 101, 47, 112, 97, 114, 97, 120, 105, 97, 108, 46, 118, 105, 101, 119, 41, 46, 99, 117, 114, 118, 101, 100]), (.int .i64 3, .held [40, 109, 111, 110, 111, 99, 108, 101, 47, 112, 97, 114, 97, 120, 105, 97, 108, 46, 118, 105, 101, 119, 41, 46, 102, 108, 97, 116]), (.int .i64 4, .held [40, 109, 111, 110, 111, 99, 108, 101, 47, 112, 97, 114, 97, 120, 105, 97, 108, 46, 118, 105, 101, 119, 41, 46, 105, 100, 101, 97, 108])], p) := hd
  rcases WideElems.open_map Tryz.underlying174 hd' with ⟨_, hx⟩ | ⟨m, es, clock, n, rfl, hcs, hb, _, F, hx⟩
  · exact absurd (congrArg Prod.fst hx) (by intro e; cases e)
  have hc0 : W.cell? ⟨0, 0, none⟩ = some (.map (some m)) := by
    rw [Array.eq_one_of_toList hcs] at hcell
    simpa using hcell
  have hlt : m < W.heap.size := lt_of_some hb
  have hpos : 0 < W.heap.size := block_lt_of_cell hc0
  have hxx := congrArg Prod.fst hx
  dsimp only at hxx
  refine ⟨m, hlt, hpos, hc0, fun w' hw' => ?_⟩
  have hb' := hw'.trans hb
  have zero : ∀ w, (zeroValue 173).run Tryz.prog w = .ok .nilFunc w := fun _ => by kernel_rfl
  have look : ∀ (kd : Int) (b : UInt8) (r : List UInt8) (f0 : FuncId), (Lit.int .i64 kd).wf = true → ((List.range Tryz.prog.funcs.size).filter fun f => (Tryz.prog.funcs[f]?).any (·.name.toUTF8.data.toList == b :: r)) = [f0] →
      (DataW.map [(Lit.int .i64 1, DataW.held [40, 109, 111, 110, 111, 99, 108, 101, 47, 112, 97, 114, 97, 120, 105, 97, 108, 46, 118, 105, 101, 119, 41, 46, 99, 117, 114, 118, 101, 100]), (.int .i64 2, .held [40, 109, 111, 110, 111, 99, 108, 101, 47, 112, 97, 114, 97, 120, 105, 97, 108, 46, 118, 105, 101, 119, 41, 46, 99, 117, 114, 118, 101, 100]), (.int .i64 3, .held [40, 109, 111, 110, 111, 99, 108, 101, 47, 112, 97, 114, 97, 120, 105, 97, 108, 46, 118, 105, 101, 119, 41, 46, 102, 108, 97, 116]), (.int .i64 4, .held [40, 109, 111, 110, 111, 99, 108, 101, 47, 112, 97, 114, 97, 120, 105, 97, 108, 46, 118, 105, 101, 119, 41, 46, 105, 100, 101, 97, 108])] : DataW (List UInt8)).atKey (.int .i64 kd) .nil = .held (b :: r) →
      (Instr.lookup 174 (.map (some m)) (.int .i64 kd) false).run Tryz.prog w' = .ok (.func (.func f0) #[] #[]) w' := by
    intro kd b r f0 hw hone hat
    have hk : keyOf Tryz.prog 3 (.int .i64 kd) = some (.int .i64 kd) := by simp [keyOf_int Tryz.underlying3, mapKey, Tryz.underlying3, hw]
    rcases Go.Maps.fit_look false (Go.Maps.int_keyed Tryz.underlying3) Tryz.underlying174 (zero w') hb' F hk with ⟨_, _, h2⟩ | ⟨e0, y, _, _, hrun, hR, h2, _⟩
    · have := h2 .nil
      rw [← hxx] at this
      cases hat.symm.trans this
    · have := h2 .nil
      rw [← hxx] at this
      replace this := hat.symm.trans this
      obtain ⟨y1, y2⟩ := y
      cases this
      rw [elemFunc Tryz.underlying173 hone hR] at hrun
      exact hrun
  exact ⟨look 1 40 [109, 111, 110, 111, 99, 108, 101, 47, 112, 97, 114, 97, 120, 105, 97, 108, 46, 118, 105, 101, 119, 41, 46, 99, 117, 114, 118, 101, 100] 282 (by kernel_rfl) (by kernel_rfl) rfl, look 2 40 [109, 111, 110, 111, 99, 108, 101, 47, 112, 97, 114, 97, 120, 105, 97, 108, 46, 118, 105, 101, 119, 41, 46, 99, 117, 114, 118, 101, 100] 282 (by kernel_rfl) (by kernel_rfl) rfl, look 3 40 [109, 111, 110, 111, 99, 108, 101, 47, 112, 97, 114, 97, 120, 105, 97, 108, 46, 118, 105, 101, 119, 41, 46, 102, 108, 97, 116] 283 (by kernel_rfl) (by kernel_rfl) rfl, look 4 40 [109, 111, 110, 111, 99, 108, 101, 47, 112, 97, 114, 97, 120, 105, 97, 108, 46, 118, 105, 101, 119, 41, 46, 105, 100, 101, 97, 108] 284 (by kernel_rfl) (by kernel_rfl) rfl⟩
end Go.Proofs.YtepodcocemmejaaGreatDoor
namespace Go.Proofs.YtepodcocemmejaaGreatDoor
open Go Go.ChangeShapes Go.WideShapes Go.ChangeAt Go.RowKit Go.Mono
theorem own : ownKnob Tryz.prog.godebug = none := by kernel_rfl
theorem door_met (os : Os) (args : Array Value) : laidMetH Tryz.prog Rows.paraxialKnownRow.laid ((World.doorLaid Tryz.prog 4000 os).forCall (fun _ _ => 0) ⟨#[], args, []⟩).memory :=
  laidMetH_of_parts3 (fuel := 8) (laidMet_of_run' 8 (by kernel_rfl) (by kernel_rfl)) (by kernel_rfl) (by kernel_rfl)
theorem keptBut_below {w w' : World} (h : Below w.heap.size w w') (may : MemPlace → Prop) : w.keptBut w' may :=
  (World.keptBut_refl w may).congr h.os h.output (fun i hi => h.block i hi)
/-- what is left of the claim: the walk -/
def KnownWalk : Prop := ∀ (w : World) (m : Nat), PowsAt w m → Calls Tryz.prog 11 #[] w fun e w' => e = .returned (.bool true) ∧ Below w.heap.size w w'
set_option maxRecDepth 100000 in
theorem lifted (walk : KnownWalk) (os : Os) (started : os.Started) (H : Type) (enc : TypeId × Value → H) :
    ReturnsInHanded {} Tryz.checked os 11 .any (fun w args => (Rows.paraxialKnownSpec.pre enc Tryz.prog Tryz.f11 [] false w args ∧ laidMetH Tryz.prog Rows.paraxialKnownRow.laid w) ∧ sizedMet enc Tryz.prog Tryz.f11 (OpenSpec.ofChange Rows.paraxialKnownSpec) false w args)
      (Rows.paraxialKnownSpec.post enc Tryz.prog Tryz.f11 false true false false) := by
  refine returnsInHanded_of_change_and (C := Tryz.checked) (X := fun w _ => laidMetH Tryz.prog Rows.paraxialKnownRow.laid w) (fun _ _ _ hh h => h.of_heap hh) own started (by kernel_rfl) Tryz.func11
    (ChangeSpec.witness_shaped (enc := enc) (C := Tryz.checked) (os := os) (X := fun w _ => laidMetH Tryz.prog Rows.paraxialKnownRow.laid w) false (World.doorLaid Tryz.prog 4000 os) #[] 8 rfl (World.shaped_of_RefB (by kernel_rfl) (by kernel_rfl)) (by kernel_rfl) (by kernel_rfl) (by kernel_rfl) (door_met os _)) ?_
  intro W base args ds gs before hval0 hW _ _ hL _
  have hW' := hW
  obtain ⟨p, q, hA0, hV, rfl, hfz, hnd⟩ := hW
  have hA : DataW.TrodAll enc Tryz.prog W 0 (fun _ => true) true Tryz.f11.params.toList args.toList ds p := hA0
  rw [Tryz.params11] at hA
  obtain ⟨rfl, rfl, rfl⟩ : args = #[] ∧ ds = [] ∧ p = [] := by
    obtain ⟨l⟩ := args
    cases l with
    | nil => cases ds with
      | nil => exact ⟨rfl, rfl, hA⟩
      | cons a b => exact absurd hA (by intro h; cases h)
    | cons a b => exact absurd hA (by intro h; cases h)
  obtain ⟨rfl, rfl⟩ := trodVars_none hV
  obtain ⟨m, hp⟩ := pows_of_laid hL
  simp only [List.append_nil] at hW'
  refine (walk W m hp).mono fun e W' ⟨he, hw⟩ => ?_
  subst he
  refine ⟨_, rfl, _, _, _, [], [], [], hW', ?_, ?_, ?_, keptBut_below hw _, fun h => by cases h⟩
  · exact trodAll_mk1 (shut_bool Tryz.underlying4 true)
  · rfl
  · rfl
theorem known_row (walk : KnownWalk) : Rows.ParaxialKnownSaid :=
  OpenClaim.holds_of_wide 11 Tryz.f11 rfl rfl rfl rfl rfl rfl rfl ⟨rfl, rfl, rfl, rfl, rfl⟩ rfl rfl rfl rfl rfl (by kernel_rfl) Tryz.func11 (by kernel_rfl)
    (of_decide_eq_true (by kernel_rfl)) (by unfold Func.isWrapper; first | (rw [if_pos (by decide +kernel)]; kernel_rfl) | (rw [if_neg (by decide +kernel)]; exact ⟨rfl, rfl⟩))
    (fun os started H enc _ => lifted walk os started H enc)
theorem known_card (walk : KnownWalk) : Rows.ParaxialKnownCardSaid :=
  Claim7.holds_tied_plain_at .later [] [.mappedDeep, .funcs] true (true, "2a1df8dc1e61e524635c9985dc1747d7b40fa5b23539e4dbf0be28038a7f2bd8") true
    (known_row walk) (fun _ h => by cases h) (by kernel_rfl) (fun _ h => by cases h) paraxialKnown_row_tie rfl ⟨rfl, rfl⟩ (by kernel_rfl) rfl
    (fun f fn hf hfn => by
      obtain rfl : f = 11 := Option.some.inj ((show Tryz.prog.funcNamed "monocle/monoclelaw17.ParaxialKnown" = some 11 by kernel_rfl).symm.trans hf) |>.symm
      obtain rfl : fn = Tryz.f11 := (Option.some.inj (Tryz.func11.symm.trans hfn)).symm
      exact ⟨by kernel_rfl, fun j t ht => by
        rw [Tryz.params11] at ht
        simp at ht⟩)
    (by kernel_rfl)
end Go.Proofs.YtepodcocemmejaaGreatDoor
