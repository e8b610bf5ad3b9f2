/- CoatLeast returns true for every list of thin films, every list of octets and every two small numbers. Part 1 of 7. No condition beside the row. -/
import Derived.Test.YtdgodcgdlfjpaaaGreatDoorA02
import Derived.Test.YtdgodcgdlfjpaaaGreatDoorA03
import Derived.Test.YtdgodcgdlfjpaaaGreatDoorA34
import Derived.Test.YtdgodcgdlfjpaaaGreatDoorA37
set_option linter.unusedVariables false
set_option linter.unusedSimpArgs false
namespace Go.Mono
open Go.RowKit
theorem bstep_le (na nb : Rat) (n : Nat) (G : Nat → Flm) (b : Bst) : (bstep na nb n G b).r ≤ b.r ∧ (bstep na nb n G b).r ≤ back na nb (stackN G n) := by
  unfold bstep
  split
  · rename_i h
    exact ⟨Rat.le_of_lt h, Rat.le_refl⟩
  · rename_i h
    exact ⟨Rat.le_refl, Rat.not_lt.1 h⟩
theorem bestIn_le (na nb : Rat) (F : Nat → Flm) (m long : Nat) (b : Bst) : ∀ k, (bestIn na nb F m long k b).r ≤ b.r ∧ ∀ i, i < k → (bestIn na nb F m long k b).r ≤ back na nb (stackN (pick F m long i) long)
  | 0 => ⟨Rat.le_refl, fun i hi => absurd hi (Nat.not_lt_zero _)⟩
  | k + 1 => by
    obtain ⟨h1, h2⟩ := bestIn_le na nb F m long b k
    obtain ⟨g1, g2⟩ := bstep_le na nb long (pick F m long k) (bestIn na nb F m long k b)
    refine ⟨Rat.le_trans g1 h1, fun i hi => ?_⟩
    by_cases hk : i = k
    · subst hk; exact g2
    · exact Rat.le_trans g1 (h2 i (by omega))
theorem bestTo_mono (na nb : Rat) (F : Nat → Flm) (m k : Nat) : (bestTo na nb F m (k + 1)).r ≤ (bestTo na nb F m k).r := (bestIn_le _ _ _ _ _ _ _).1
theorem bestTo_le {na nb : Rat} {F : Nat → Flm} {m k l : Nat} (h : k ≤ l) : (bestTo na nb F m l).r ≤ (bestTo na nb F m k).r := by
  obtain ⟨d, rfl⟩ := Nat.exists_eq_add_of_le h
  clear h
  induction d with
  | zero => exact Rat.le_refl
  | succ d ih => exact Rat.le_trans (bestTo_mono na nb F m (k + d)) ih
theorem stackN_congr {F G : Nat → Flm} {n : Nat} (h : ∀ i, i < n → F i = G i) : stackN F n = stackN G n := by
  induction n with
  | zero => rfl
  | succ n ih => rw [stackN_succ, stackN_succ, ih fun i hi => h i (by omega), h n (by omega)]
theorem stackN_zero (F G : Nat → Flm) : stackN F 0 = stackN G 0 := stackN_congr fun i hi => absurd hi (Nat.not_lt_zero _)
/-- the number of a list -/
def code (m : Nat) (e : Nat → Nat) : Nat → Nat
  | 0 => 0
  | k + 1 => code m e k * m + e k
theorem code_lt {m : Nat} {e : Nat → Nat} (k : Nat) (h : ∀ i, i < k → e i < m) : code m e k < m ^ k := by
  induction k with
  | zero => exact Nat.one_pos
  | succ k ih =>
    have h1 := ih fun i hi => h i (by omega)
    have h2 := h k (by omega)
    rw [code, Nat.pow_succ]
    have : (code m e k + 1) * m ≤ m ^ k * m := Nat.mul_le_mul_right m h1
    rw [Nat.add_mul] at this
    omega
theorem code_digit {m : Nat} {e : Nat → Nat} (k : Nat) (h : ∀ i, i < k → e i < m) : ∀ j, j < k → code m e k / m ^ (k - 1 - j) % m = e j := by
  induction k with
  | zero => intro j hj; omega
  | succ k ih =>
    intro j hj
    have h2 := h k (by omega)
    by_cases hk : j = k
    · subst hk
      rw [show j + 1 - 1 - j = 0 by omega, Nat.pow_zero, Nat.div_one, code, Nat.add_comm, Nat.add_mul_mod_self_right]
      exact Nat.mod_eq_of_lt h2
    · rw [show k + 1 - 1 - j = 1 + (k - 1 - j) by omega, Nat.pow_add, Nat.pow_one, ← Nat.div_div_eq_div_mul, code, Nat.add_comm, Nat.add_mul_div_right _ _ (by omega), Nat.div_eq_of_lt h2, Nat.zero_add]
      exact ih (fun i hi => h i (by omega)) j (by omega)
/-- no list of the choice has less -/
theorem best_least {na nb : Rat} {F : Nat → Flm} {m most k : Nat} (hk : k ≤ most) (e : Nat → Nat) (he : ∀ i, i < k → e i < m) : (bestTo na nb F m most).r ≤ back na nb (stackN (fun i => F (e i)) k) := by
  refine Rat.le_trans (bestTo_le hk) ?_
  cases k with
  | zero => rw [stackN_zero (fun i => F (e i)) F]; exact Rat.le_refl
  | succ k =>
    refine Rat.le_trans ((bestIn_le na nb F m (k + 1) (bestTo na nb F m k) (m ^ (k + 1))).2 (code m e (k + 1)) (code_lt _ he)) ?_
    rw [stackN_congr (F := pick F m (k + 1) (code m e (k + 1))) (G := fun i => F (e i)) (fun j hj => by unfold pick; rw [code_digit _ he j hj])]
    exact Rat.le_refl
/-- what the best list is -/
structure BestI (na nb : Rat) (F : Nat → Flm) (m most : Nat) (b : Bst) : Prop where
  own : b.r = back na nb (stackN b.G b.n)
  len : b.n ≤ most
  mem : ∀ i, i < b.n → ∃ j, j < m ∧ b.G i = F j
theorem bestTo_inv (na nb : Rat) (F : Nat → Flm) (m most : Nat) : BestI na nb F m most (bestTo na nb F m most) := by
  induction most with
  | zero => exact ⟨rfl, Nat.le_refl _, fun i hi => absurd hi (Nat.not_lt_zero _)⟩
  | succ k ih =>
    have h : ∀ c, BestI na nb F m (k + 1) (bestIn na nb F m (k + 1) c (bestTo na nb F m k)) ∨ m = 0 := by
      intro c
      induction c with
      | zero => exact .inl ⟨ih.own, by show (bestTo na nb F m k).n ≤ k + 1; have := ih.len; omega, ih.mem⟩
      | succ c ihc =>
        rcases ihc with ihc | h0
        · by_cases hm : m = 0
          · exact .inr hm
          · refine .inl ?_
            show BestI na nb F m (k + 1) (bstep na nb (k + 1) (pick F m (k + 1) c) (bestIn na nb F m (k + 1) c (bestTo na nb F m k)))
            unfold bstep
            split
            · exact ⟨rfl, Nat.le_refl _, fun i _ => ⟨_, Nat.mod_lt _ (by omega), rfl⟩⟩
            · exact ihc
        · exact .inr h0
    rcases h (m ^ (k + 1)) with h | rfl
    · exact h
    · show BestI na nb F 0 (k + 1) (bestIn na nb F 0 (k + 1) (0 ^ (k + 1)) (bestTo na nb F 0 k))
      rw [Nat.zero_pow (Nat.succ_pos k)]
      exact ⟨ih.own, by show (bestTo na nb F 0 k).n ≤ k + 1; have := ih.len; omega, ih.mem⟩
theorem bestTo_zero (na nb : Rat) (F G : Nat → Flm) (m : Nat) : (bestTo na nb F m 0).n = 0 ∧ (bestTo na nb F m 0).r = back na nb (stackN G 0) := ⟨rfl, by rw [stackN_zero G F]; rfl⟩
end Go.Mono
namespace Go.Mono
open Go.RowKit
/-- what is owed behind a call -/
def AfterC (S : World → Prop) (X : Value → World → Prop) : Ending → World → Prop
  | .returned v, w => S w ∧ (S w → X v w)
  | _, _ => False
section
variable {P : Program} {ops : Array Oper} {Q : Exit → Act → World → Prop} {md : Region.Mode} {S : World → Prop}
/-- an operation that reads is taken; all that is closed is looked up -/
theorem tkf (i : Nat) (d : Option Tmp) {oi : Oper} {v : Value} {fuel : Nat} {listed : Array Bool} {a a' : Act} {w : World}
    (h : wpAnyH P md ops Q S fuel (listed.setIfInBounds i true) a' w) (hi : ops[i]? = some oi := by rfl)
    (hs : Region.noSelect ops = true := by as_aux_lemma => kernel_rfl) (hf : Region.free md ops listed i = true := by as_aux_lemma => kernel_rfl) (hr : (Region.ready md ops listed).contains i = true := by as_aux_lemma => kernel_rfl) (hd : oi.dst = d := by rfl)
    (hw : Region.wanted oi (yielded ops a.tmps) = true := by as_aux_lemma => kernel_rfl) (hv : ∀ w, S w → (execOp a.eval oi).run P w = .ok (.value v) w := by (intro w hSw; (try dsimp only at hSw); go_simp; all_goals with_reducible rfl))
    (hQ : ∀ c a w, Q (.panic c) (a.put d v) w → Q (.panic c) a w := by exact (fun _ _ _ h => h)) (hS : S w := by assumption)
    (ha : a.put d v = a' := by (simp only [Act.put, List.setIfInBounds_toArray, List.set_cons_zero, List.set_cons_succ]; rfl)) : wpAnyH P md ops Q S (fuel + 1) listed a w := by
  subst ha
  exact take_want i d hi hs hf hr hd hQ hw hv hS h
/-- one that reads by a law -/
theorem tlf (i : Nat) (d : Option Tmp) {oi : Oper} (hi : ops[i]? = some oi) (v : Value) {fuel : Nat} {listed : Array Bool} {a a' : Act} {w : World}
    (hv : ∀ w, S w → (execOp a.eval oi).run P w = .ok (.value v) w) (h : wpAnyH P md ops Q S fuel (listed.setIfInBounds i true) a' w)
    (hs : Region.noSelect ops = true := by as_aux_lemma => kernel_rfl) (hf : Region.free md ops listed i = true := by as_aux_lemma => kernel_rfl) (hr : (Region.ready md ops listed).contains i = true := by as_aux_lemma => kernel_rfl) (hd : oi.dst = d := by rfl)
    (hw : Region.wanted oi (yielded ops a.tmps) = true := by as_aux_lemma => kernel_rfl)
    (hQ : ∀ c a w, Q (.panic c) (a.put d v) w → Q (.panic c) a w := by exact (fun _ _ _ h => h)) (hS : S w := by assumption)
    (ha : a.put d v = a' := by (simp only [Act.put, List.setIfInBounds_toArray, List.set_cons_zero, List.set_cons_succ]; rfl)) : wpAnyH P md ops Q S (fuel + 1) listed a w := by
  subst ha
  exact take_want i d hi hs hf hr hd hQ hw hv hS h
/-- one that is skipped -/
theorem tsf (i : Nat) (d : Option Tmp) {oi : Oper} {fuel : Nat} {listed : Array Bool} {a a' : Act} {w : World}
    (h : wpAnyH P md ops Q S fuel (listed.setIfInBounds i true) a' w) (hi : ops[i]? = some oi := by rfl)
    (hs : Region.noSelect ops = true := by as_aux_lemma => kernel_rfl) (hf : Region.free md ops listed i = true := by as_aux_lemma => kernel_rfl) (hr : (Region.ready md ops listed).contains i = true := by as_aux_lemma => kernel_rfl) (hd : oi.dst = d := by rfl)
    (hw : Region.wanted oi (yielded ops a.tmps) = false := by as_aux_lemma => kernel_rfl)
    (hQ : ∀ c a w, Q (.panic c) (a.put d undef) w → Q (.panic c) a w := by exact (fun _ _ _ h => h)) (hS : S w := by assumption)
    (ha : a.put d undef = a' := by (simp only [Act.put, List.setIfInBounds_toArray, List.set_cons_zero, List.set_cons_succ]; rfl)) : wpAnyH P md ops Q S (fuel + 1) listed a w := by
  subst ha
  exact take_skip i d hi hs hf hr hd hQ hw hS h
/-- a call, the only operation that may come up, by its contract -/
theorem stc (i : Nat) (d : Option Tmp) {o : Oper} {f : FuncId} {args : Array Value} {R : Ending → World → Prop} {fuel : Nat} {listed : Array Bool} {a : Act} {w : World} (hC : Calls P f args w R)
    (h : ∀ e w', R e w' → AfterC S (fun v w' => wpAnyH P md ops Q S fuel (listed.setIfInBounds i true) (a.put d v) w') e w')
    (ho : ops[i]? = some o := by rfl) (hd : o.dst = d := by rfl) (hr : Region.ready md ops listed = [i] := by as_aux_lemma => kernel_rfl) (hw : Region.wanted o (yielded ops a.tmps) = true := by as_aux_lemma => kernel_rfl)
    (hx : (execOp a.eval o).run P w = .ok (.enter f args) w := by as_aux_lemma => kernel_rfl) : wpAnyH P md ops Q S (fuel + 1) listed a w := by
  subst hd
  refine st i (fun K hK => ?_) ho hr
  rw [if_pos hw]
  unfold Oper.wp
  rw [hx, Oper.upon_enter]
  refine hC.mono ?_
  intro e w' hR
  have := h e w' hR
  cases e with
  | returned v => exact hK.out _ _ this.1 this.2
  | _ => exact this.elim
/-- one way of a fork: a call by its contract -/
theorem armc (d : Option Tmp) {K' : Act → World → Prop} {fuel : Nat} {listed : Array Bool} (hK : Shut (∀ a w, S w → (S w → wpAnyH P md ops Q S fuel listed a w) → K' a w)) {o : Oper} {f : FuncId} {args : Array Value} {R : Ending → World → Prop} {a : Act} {w : World} (hC : Calls P f args w R)
    (h : ∀ e w', R e w' → AfterC S (fun v w' => wpAnyH P md ops Q S fuel listed (a.put d v) w') e w') (hd : o.dst = d := by rfl) (hw : Region.wanted o (yielded ops a.tmps) = true := by as_aux_lemma => kernel_rfl)
    (hx : (execOp a.eval o).run P w = .ok (.enter f args) w := by as_aux_lemma => kernel_rfl) : if Region.wanted o (yielded ops a.tmps) = true then Oper.wp P o a w K' Q else K' (a.put o.dst undef) w := by
  subst hd
  rw [if_pos hw]
  unfold Oper.wp
  rw [hx, Oper.upon_enter]
  refine hC.mono ?_
  intro e w' hR
  have := h e w' hR
  cases e with
  | returned v => exact hK.out _ _ this.1 this.2
  | _ => exact this.elim
/-- one way of a fork: an operation that yields a value, and lays a block -/
theorem arma (d : Option Tmp) {K' : Act → World → Prop} {fuel : Nat} {listed : Array Bool} (hK : Shut (∀ a w, S w → (S w → wpAnyH P md ops Q S fuel listed a w) → K' a w)) {o : Oper} {a : Act} {w : World} (v : Value) (V : World) (hS : S V)
    (h : S V → wpAnyH P md ops Q S fuel listed (a.put d v) V) (hd : o.dst = d := by rfl) (hw : Region.wanted o (yielded ops a.tmps) = true := by as_aux_lemma => kernel_rfl)
    (hx : (execOp a.eval o).run P w = .ok (.value v) V := by as_aux_lemma => kernel_rfl) : if Region.wanted o (yielded ops a.tmps) = true then Oper.wp P o a w K' Q else K' (a.put o.dst undef) w := by
  subst hd
  rw [if_pos hw]
  unfold Oper.wp
  rw [hx, Oper.upon_value]
  exact hK.out _ _ hS h
/-- such an operation, the only one that may come up -/
theorem sta (i : Nat) (d : Option Tmp) {o : Oper} {fuel : Nat} {listed : Array Bool} {a : Act} {w : World} (v : Value) (V : World) (hS : S V)
    (h : S V → wpAnyH P md ops Q S fuel (listed.setIfInBounds i true) (a.put d v) V)
    (ho : ops[i]? = some o := by rfl) (hd : o.dst = d := by rfl) (hr : Region.ready md ops listed = [i] := by as_aux_lemma => kernel_rfl) (hw : Region.wanted o (yielded ops a.tmps) = true := by as_aux_lemma => kernel_rfl)
    (hx : (execOp a.eval o).run P w = .ok (.value v) V := by as_aux_lemma => kernel_rfl) : wpAnyH P md ops Q S (fuel + 1) listed a w :=
  st i (fun K hK => arma d hK v V hS h hd hw hx) ho hr
/-- two operations may come up -/
theorem fork2 (i j : Nat) {oi oj : Oper} {fuel : Nat} {listed : Array Bool} {a : Act} {w : World}
    (h1 : ∀ K' : Act → World → Prop, Shut (∀ a w, S w → (S w → wpAnyH P md ops Q S fuel (listed.setIfInBounds i true) a w) → K' a w) → if Region.wanted oi (yielded ops a.tmps) = true then Oper.wp P oi a w K' Q else K' (a.put oi.dst undef) w)
    (h2 : ∀ K' : Act → World → Prop, Shut (∀ a w, S w → (S w → wpAnyH P md ops Q S fuel (listed.setIfInBounds j true) a w) → K' a w) → if Region.wanted oj (yielded ops a.tmps) = true then Oper.wp P oj a w K' Q else K' (a.put oj.dst undef) w)
    (ho1 : ops[i]? = some oi := by rfl) (ho2 : ops[j]? = some oj := by rfl) (hr : Region.ready md ops listed = [i, j] := by as_aux_lemma => kernel_rfl) : wpAnyH P md ops Q S (fuel + 1) listed a w :=
  wpAnyH_ready hr (by simp) (AllReadyH.cons ho1 h1 (AllReadyH.cons ho2 h2 AllReadyH.nil))
theorem pt {fuel : Nat} {listed : Array Bool} {a a' : Act} {w : World} (h : wpAnyH P md ops Q S fuel listed a' w) (ha : a = a' := by (simp only [Act.put, List.setIfInBounds_toArray, List.set_cons_zero, List.set_cons_succ]; rfl)) : wpAnyH P md ops Q S fuel listed a w := by
  subst ha
  exact h
end
end Go.Mono
namespace Go.Mono
open Go.RowKit
/-- three octets of a film's draft -/
structure Thn where
  i : Int
  p : Int
  q : Int
def Thn.vals (t : Thn) : Array Value := #[.int .u8 t.i, .int .u8 t.p, .int .u8 t.q]
def Thn.ok (t : Thn) : Prop := (0 ≤ t.i ∧ t.i ≤ 255) ∧ (0 ≤ t.p ∧ t.p ≤ 255) ∧ (0 ≤ t.q ∧ t.q ≤ 255)
/-- the film of a draft -/
def Thn.film (t : Thn) : Flm := ⟨10000000 + 250000 * (t.i % 61), t.p % 13, 1 + t.q % 12⟩
theorem Thn.film_small {t : Thn} (h : t.ok) : (10000000 ≤ t.film.ix ∧ t.film.ix ≤ 25000000) ∧ (0 ≤ t.film.p ∧ t.film.p ≤ 12) ∧ (1 ≤ t.film.q ∧ t.film.q ≤ 12) := by
  obtain ⟨⟨a, b⟩, ⟨c, d⟩, e, f⟩ := h
  unfold Thn.film
  simp only
  omega
theorem Thn.film_ok {t : Thn} (h : t.ok) : t.film.ok := by
  have := Thn.film_small h
  exact ⟨by omega, by omega, by omega, by omega, by omega, by omega⟩
def ThinsAt (w : World) (p : Option Addr) (n c : Nat) (G : Nat → Thn) : Prop := RdC w p n c 3 (fun i j => (G i).vals.getD j undef)
theorem RdC.rowAt {w : World} {p : Option Addr} {n c sz : Nat} {cell : Nat → Nat → Value} (h : RdC w p n c sz cell) (hn : 0 < n) : ∃ b off, p = some ⟨b, off, none⟩ ∧ b < w.heap.size ∧ ∀ i, i < n → ∀ w', Below w.heap.size w w' → ∀ j, j < sz → w'.cell? ⟨b, off + i * sz + j, none⟩ = some (cell i j) := by
  obtain ⟨_, _, h3⟩ := h
  obtain ⟨b, off, hp, hb, hc⟩ := h3 hn
  exact ⟨b, off, hp, hb, fun i hi w' hB j hj => (hB.cell hb).trans (hc i j hi hj)⟩
theorem new_cells (X : World) (cs : Array Value) (T : TypeId) : ∀ j u, cs.toList[j]? = some u → (X.alloc (.cells cs T)).cell? (Addr.add ⟨X.heap.size, 0, none⟩ j) = some u := by
  intro j u h
  rw [show Addr.add ⟨X.heap.size, 0, none⟩ j = ⟨X.heap.size, j, none⟩ from by simp [Addr.add]; exact fun h => h.symm, (Box.new X T cs).cell, ← Array.getElem?_toList]
  exact h
end Go.Mono
namespace Go.Proofs.YtdgodcgdlfjpaaaGreatDoor
open Go.RowKit Go.Mono
set_option maxRecDepth 100000 in
theorem thin_film (t : Thn) (ht : t.ok) (w : World) : Calls Tryz.prog 53 #[.agg t.vals] w fun e w' => e = .returned (.agg t.film.vals) ∧ Below w.heap.size w w' := by
  have hs := Thn.film_small ht
  obtain ⟨i, p, q⟩ := t
  unfold Thn.film at hs ⊢
  unfold Thn.vals
  obtain ⟨⟨a, b⟩, ⟨c, d⟩, e, f⟩ := ht
  simp only [Flm.vals] at hs a b c d e f ⊢
  have hif : (Tryz.prog.info? 24).map (·.size) = some 3 := by kernel_rfl
  go_enter Tryz.func53, Tryz.ntmps53
  go_wp2_with fail
  have b2 := Box.new (w.alloc (.cells #[.int .u8 i, .int .u8 p, .int .u8 q] 112)) 24 #[.int .i64 (10000000 + 250000 * (i % 61)), .int .i64 (p % 13), .int .i64 (1 + q % 12)]
  rw [World.size_alloc] at b2
  refine bodyPost_ret (b2.results rfl _ _ rfl Tryz.underlying24 rfl hif) rfl ?_
  exact ⟨rfl, belowAlloc (belowAlloc (Below.refl _ _) _) _⟩
end Go.Proofs.YtdgodcgdlfjpaaaGreatDoor
namespace Go.Mono
open Go.RowKit
section
variable {P : Program} {ops : Array Oper} {rest : List Oper} {o1 o2 o3 o4 : Oper} {a : Act} {w : World} {Q : Exit → Act → World → Prop}
/-- a variable is made and set -/
theorem wpList_put1 (T : TypeId) (d : Tmp) (y : Operand) (C zs : Array Value) (g1 : o1.guard = none) (h1 : o1.op = .alloc T) (e1 : o1.dst = some d) (g2 : o2.guard = none) (h2 : o2.op = .store T (.tmp d) y) (e2 : o2.dst = none)
    (hrun : ∀ w, (Instr.alloc T true (.tuple #[])).run P w = .ok (.pointer (some ⟨w.heap.size, 0, none⟩)) (w.alloc (.cells zs T)))
    (hx : ∀ p, (a.put (some d) p).eval (.tmp d) = p) (hy : ∀ p, (a.put (some d) p).eval y = .agg C) (hi : (P.info? T).map (·.size) = some C.size) (hs : zs.size = C.size) (ho : C.all (·.oneCell') = true)
    (h : ∀ W B, w.heap.size ≤ B → Below w.heap.size w W → Box W B T C → wpList P ops Q rest (a.put (some d) (.pointer (some ⟨B, 0, none⟩))) W) : wpList P ops Q (o1 :: o2 :: rest) a w := by
  refine wpList_new g1 T h1 zs hrun ?_
  intro W1 B hle hb b1
  rw [e1]
  refine wpList_store_box g2 T (.tmp d) y h2 B 0 T zs C C (hx _) (hy _) b1 hi (by rw [Nat.zero_add]; exact Nat.le_of_eq hs.symm) ho (whole_new hs) ?_
  intro W2 hk b2
  rw [e2]
  exact h W2 B hle (hk.below hb hle hb.size) b2
/-- two variables are made, then set -/
theorem wpList_put2 (T : TypeId) (d d' : Tmp) (y y' : Operand) (C C' zs : Array Value) (g1 : o1.guard = none) (h1 : o1.op = .alloc T) (e1 : o1.dst = some d) (g2 : o2.guard = none) (h2 : o2.op = .alloc T) (e2 : o2.dst = some d')
    (g3 : o3.guard = none) (h3 : o3.op = .store T (.tmp d) y) (e3 : o3.dst = none) (g4 : o4.guard = none) (h4 : o4.op = .store T (.tmp d') y') (e4 : o4.dst = none)
    (hrun : ∀ w, (Instr.alloc T true (.tuple #[])).run P w = .ok (.pointer (some ⟨w.heap.size, 0, none⟩)) (w.alloc (.cells zs T)))
    (hx : ∀ p p', ((a.put (some d) p).put (some d') p').eval (.tmp d) = p) (hx' : ∀ p p', ((a.put (some d) p).put (some d') p').eval (.tmp d') = p') (hy : ∀ p p', ((a.put (some d) p).put (some d') p').eval y = .agg C) (hy' : ∀ p p', ((a.put (some d) p).put (some d') p').eval y' = .agg C')
    (hi : (P.info? T).map (·.size) = some zs.size) (hs : zs.size = C.size) (hs' : zs.size = C'.size) (ho : C.all (·.oneCell') = true) (ho' : C'.all (·.oneCell') = true)
    (h : ∀ W B B', w.heap.size ≤ B → w.heap.size ≤ B' → B ≠ B' → Below w.heap.size w W → Box W B T C → Box W B' T C' → wpList P ops Q rest ((a.put (some d) (.pointer (some ⟨B, 0, none⟩))).put (some d') (.pointer (some ⟨B', 0, none⟩))) W) : wpList P ops Q (o1 :: o2 :: o3 :: o4 :: rest) a w := by
  refine wpList_new g1 T h1 zs hrun ?_
  intro W1 B hle hb b1
  rw [e1]
  have hB1 := b1.lt
  refine wpList_new g2 T h2 zs hrun ?_
  intro W2 B' hle' hb' b1'
  rw [e2]
  have hBB : B ≠ B' := by omega
  have b12 := b1.below hb'
  refine wpList_store_box g3 T (.tmp d) y h3 B 0 T zs C C (hx _ _) (hy _ _) b12 (by rw [← hs]; exact hi) (by rw [Nat.zero_add]; exact Nat.le_of_eq hs.symm) ho (whole_new hs) ?_
  intro W3 hk b2
  rw [e3]
  have b13 := hk.box b1' b1'.lt (fun h => hBB h.symm)
  refine wpList_store_box g4 T (.tmp d') y' h4 B' 0 T zs C' C' (hx' _ _) (hy' _ _) b13 (by rw [← hs']; exact hi) (by rw [Nat.zero_add]; exact Nat.le_of_eq hs'.symm) ho' (whole_new hs') ?_
  intro W4 hk4 b4
  rw [e4]
  have b5 := hk4.box b2 b2.lt hBB
  have hw1 := belowCall hb hb'
  have hw3 := hk.below hw1 hle hw1.size
  exact h W4 B B' hle (by have := hb.size; omega) hBB (hk4.below hw3 (by have := hb.size; omega) hw3.size) b5 b4
end
end Go.Mono
