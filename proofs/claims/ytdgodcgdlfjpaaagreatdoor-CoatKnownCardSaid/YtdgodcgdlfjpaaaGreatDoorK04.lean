/- CoatKnown returns true. Part 4 of 8. No condition beside the row. -/
import Derived.Test.YtdgodcgdlfjpaaaGreatDoorA02
set_option linter.unusedVariables false
set_option linter.unusedSimpArgs false
namespace Go.Mono
open Go.RowKit
/-- what is owed behind a call -/
def AfterC (S : World → Prop) (X : Value → World → Prop) : Ending → World → Prop
  | .returned v, w => S w ∧ (S w → X v w)
  | _, _ => False
section
variable {P : Program} {ops : Array Oper} {Q : Exit → Act → World → Prop} {md : Region.Mode} {S : World → Prop}
/-- an operation that reads is taken; all that is closed is looked up -/
theorem tkf (i : Nat) (d : Option Tmp) {oi : Oper} {v : Value} {fuel : Nat} {listed : Array Bool} {a a' : Act} {w : World}
    (h : wpAnyH P md ops Q S fuel (listed.setIfInBounds i true) a' w) (hi : ops[i]? = some oi := by rfl)
    (hs : Region.noSelect ops = true := by as_aux_lemma => kernel_rfl) (hf : Region.free md ops listed i = true := by as_aux_lemma => kernel_rfl) (hr : (Region.ready md ops listed).contains i = true := by as_aux_lemma => kernel_rfl) (hd : oi.dst = d := by rfl)
    (hw : Region.wanted oi (yielded ops a.tmps) = true := by as_aux_lemma => kernel_rfl) (hv : ∀ w, S w → (execOp a.eval oi).run P w = .ok (.value v) w := by (intro w hSw; (try dsimp only at hSw); go_simp; all_goals with_reducible rfl))
    (hQ : ∀ c a w, Q (.panic c) (a.put d v) w → Q (.panic c) a w := by exact (fun _ _ _ h => h)) (hS : S w := by assumption)
    (ha : a.put d v = a' := by (simp only [Act.put, List.setIfInBounds_toArray, List.set_cons_zero, List.set_cons_succ]; rfl)) : wpAnyH P md ops Q S (fuel + 1) listed a w := by
  subst ha
  exact take_want i d hi hs hf hr hd hQ hw hv hS h
/-- one that reads by a law -/
theorem tlf (i : Nat) (d : Option Tmp) {oi : Oper} (hi : ops[i]? = some oi) (v : Value) {fuel : Nat} {listed : Array Bool} {a a' : Act} {w : World}
    (hv : ∀ w, S w → (execOp a.eval oi).run P w = .ok (.value v) w) (h : wpAnyH P md ops Q S fuel (listed.setIfInBounds i true) a' w)
    (hs : Region.noSelect ops = true := by as_aux_lemma => kernel_rfl) (hf : Region.free md ops listed i = true := by as_aux_lemma => kernel_rfl) (hr : (Region.ready md ops listed).contains i = true := by as_aux_lemma => kernel_rfl) (hd : oi.dst = d := by rfl)
    (hw : Region.wanted oi (yielded ops a.tmps) = true := by as_aux_lemma => kernel_rfl)
    (hQ : ∀ c a w, Q (.panic c) (a.put d v) w → Q (.panic c) a w := by exact (fun _ _ _ h => h)) (hS : S w := by assumption)
    (ha : a.put d v = a' := by (simp only [Act.put, List.setIfInBounds_toArray, List.set_cons_zero, List.set_cons_succ]; rfl)) : wpAnyH P md ops Q S (fuel + 1) listed a w := by
  subst ha
  exact take_want i d hi hs hf hr hd hQ hw hv hS h
/-- one that is skipped -/
theorem tsf (i : Nat) (d : Option Tmp) {oi : Oper} {fuel : Nat} {listed : Array Bool} {a a' : Act} {w : World}
    (h : wpAnyH P md ops Q S fuel (listed.setIfInBounds i true) a' w) (hi : ops[i]? = some oi := by rfl)
    (hs : Region.noSelect ops = true := by as_aux_lemma => kernel_rfl) (hf : Region.free md ops listed i = true := by as_aux_lemma => kernel_rfl) (hr : (Region.ready md ops listed).contains i = true := by as_aux_lemma => kernel_rfl) (hd : oi.dst = d := by rfl)
    (hw : Region.wanted oi (yielded ops a.tmps) = false := by as_aux_lemma => kernel_rfl)
    (hQ : ∀ c a w, Q (.panic c) (a.put d undef) w → Q (.panic c) a w := by exact (fun _ _ _ h => h)) (hS : S w := by assumption)
    (ha : a.put d undef = a' := by (simp only [Act.put, List.setIfInBounds_toArray, List.set_cons_zero, List.set_cons_succ]; rfl)) : wpAnyH P md ops Q S (fuel + 1) listed a w := by
  subst ha
  exact take_skip i d hi hs hf hr hd hQ hw hS h
/-- a call, the only operation that may come up, by its contract -/
theorem stc (i : Nat) (d : Option Tmp) {o : Oper} {f : FuncId} {args : Array Value} {R : Ending → World → Prop} {fuel : Nat} {listed : Array Bool} {a : Act} {w : World} (hC : Calls P f args w R)
    (h : ∀ e w', R e w' → AfterC S (fun v w' => wpAnyH P md ops Q S fuel (listed.setIfInBounds i true) (a.put d v) w') e w')
    (ho : ops[i]? = some o := by rfl) (hd : o.dst = d := by rfl) (hr : Region.ready md ops listed = [i] := by as_aux_lemma => kernel_rfl) (hw : Region.wanted o (yielded ops a.tmps) = true := by as_aux_lemma => kernel_rfl)
    (hx : (execOp a.eval o).run P w = .ok (.enter f args) w := by as_aux_lemma => kernel_rfl) : wpAnyH P md ops Q S (fuel + 1) listed a w := by
  subst hd
  refine st i (fun K hK => ?_) ho hr
  rw [if_pos hw]
  unfold Oper.wp
  rw [hx, Oper.upon_enter]
  refine hC.mono ?_
  intro e w' hR
  have := h e w' hR
  cases e with
  | returned v => exact hK.out _ _ this.1 this.2
  | _ => exact this.elim
/-- one way of a fork: a call by its contract -/
theorem armc (d : Option Tmp) {K' : Act → World → Prop} {fuel : Nat} {listed : Array Bool} (hK : Shut (∀ a w, S w → (S w → wpAnyH P md ops Q S fuel listed a w) → K' a w)) {o : Oper} {f : FuncId} {args : Array Value} {R : Ending → World → Prop} {a : Act} {w : World} (hC : Calls P f args w R)
    (h : ∀ e w', R e w' → AfterC S (fun v w' => wpAnyH P md ops Q S fuel listed (a.put d v) w') e w') (hd : o.dst = d := by rfl) (hw : Region.wanted o (yielded ops a.tmps) = true := by as_aux_lemma => kernel_rfl)
    (hx : (execOp a.eval o).run P w = .ok (.enter f args) w := by as_aux_lemma => kernel_rfl) : if Region.wanted o (yielded ops a.tmps) = true then Oper.wp P o a w K' Q else K' (a.put o.dst undef) w := by
  subst hd
  rw [if_pos hw]
  unfold Oper.wp
  rw [hx, Oper.upon_enter]
  refine hC.mono ?_
  intro e w' hR
  have := h e w' hR
  cases e with
  | returned v => exact hK.out _ _ this.1 this.2
  | _ => exact this.elim
/-- one way of a fork: an operation that yields a value, and lays a block -/
theorem arma (d : Option Tmp) {K' : Act → World → Prop} {fuel : Nat} {listed : Array Bool} (hK : Shut (∀ a w, S w → (S w → wpAnyH P md ops Q S fuel listed a w) → K' a w)) {o : Oper} {a : Act} {w : World} (v : Value) (V : World) (hS : S V)
    (h : S V → wpAnyH P md ops Q S fuel listed (a.put d v) V) (hd : o.dst = d := by rfl) (hw : Region.wanted o (yielded ops a.tmps) = true := by as_aux_lemma => kernel_rfl)
    (hx : (execOp a.eval o).run P w = .ok (.value v) V := by as_aux_lemma => kernel_rfl) : if Region.wanted o (yielded ops a.tmps) = true then Oper.wp P o a w K' Q else K' (a.put o.dst undef) w := by
  subst hd
  rw [if_pos hw]
  unfold Oper.wp
  rw [hx, Oper.upon_value]
  exact hK.out _ _ hS h
/-- such an operation, the only one that may come up -/
theorem sta (i : Nat) (d : Option Tmp) {o : Oper} {fuel : Nat} {listed : Array Bool} {a : Act} {w : World} (v : Value) (V : World) (hS : S V)
    (h : S V → wpAnyH P md ops Q S fuel (listed.setIfInBounds i true) (a.put d v) V)
    (ho : ops[i]? = some o := by rfl) (hd : o.dst = d := by rfl) (hr : Region.ready md ops listed = [i] := by as_aux_lemma => kernel_rfl) (hw : Region.wanted o (yielded ops a.tmps) = true := by as_aux_lemma => kernel_rfl)
    (hx : (execOp a.eval o).run P w = .ok (.value v) V := by as_aux_lemma => kernel_rfl) : wpAnyH P md ops Q S (fuel + 1) listed a w :=
  st i (fun K hK => arma d hK v V hS h hd hw hx) ho hr
/-- two operations may come up -/
theorem fork2 (i j : Nat) {oi oj : Oper} {fuel : Nat} {listed : Array Bool} {a : Act} {w : World}
    (h1 : ∀ K' : Act → World → Prop, Shut (∀ a w, S w → (S w → wpAnyH P md ops Q S fuel (listed.setIfInBounds i true) a w) → K' a w) → if Region.wanted oi (yielded ops a.tmps) = true then Oper.wp P oi a w K' Q else K' (a.put oi.dst undef) w)
    (h2 : ∀ K' : Act → World → Prop, Shut (∀ a w, S w → (S w → wpAnyH P md ops Q S fuel (listed.setIfInBounds j true) a w) → K' a w) → if Region.wanted oj (yielded ops a.tmps) = true then Oper.wp P oj a w K' Q else K' (a.put oj.dst undef) w)
    (ho1 : ops[i]? = some oi := by rfl) (ho2 : ops[j]? = some oj := by rfl) (hr : Region.ready md ops listed = [i, j] := by as_aux_lemma => kernel_rfl) : wpAnyH P md ops Q S (fuel + 1) listed a w :=
  wpAnyH_ready hr (by simp) (AllReadyH.cons ho1 h1 (AllReadyH.cons ho2 h2 AllReadyH.nil))
theorem pt {fuel : Nat} {listed : Array Bool} {a a' : Act} {w : World} (h : wpAnyH P md ops Q S fuel listed a' w) (ha : a = a' := by (simp only [Act.put, List.setIfInBounds_toArray, List.set_cons_zero, List.set_cons_succ]; rfl)) : wpAnyH P md ops Q S fuel listed a w := by
  subst ha
  exact h
end
end Go.Mono
