/- Contracts of package coat and of the examples of its law, for the laws of layer 40. Part 3 of 40. No condition beside the row. -/
import Derived.Deep.MidRow
import Derived.Laws.Rows
import Derived.Laws.ResultCell
import Derived.WalkMore
import Derived.Outline
import Derived.Laws.Pointers
import Derived.Test.YtdgodcgdlfjpaaaGreatDoorA01
import Derived.Test.YtdgodcgdlfjpaaaGreatDoorA02
set_option linter.unusedVariables false
set_option linter.unusedSimpArgs false
set_option maxRecDepth 100000
set_option maxHeartbeats 4000000
namespace Go.Mono
theorem win_cons (h : Nat → Int) (j k : Nat) : vf (win h j) (k + 1) = h j + 1000000000 * vf (win h (j + 1)) k := by
 induction k with
 | zero => simp [vf, win, pw]
 | succ k ih =>
   rw [vf_succ, ih, vf_succ (win h (j + 1)) k, pw_succ]
   simp only [win]
   rw [show j + 1 + k = j + (k + 1) by omega]
   grind
theorem vf_window {h h' : Nat → Int} {j k R : Nat} (hR : j + k ≤ R) (ho : ∀ i, i < j ∨ j + k ≤ i → h' i = h i) : vf h' R = vf h R + pw j * (vf (win h' j) k - vf (win h j) k) := by
 obtain ⟨m, rfl⟩ := Nat.exists_eq_add_of_le hR
 rw [vf_split h', vf_split h, pw_add, vf_split h' j k, vf_split h j k]
 rw [vf_congr (f := h') (g := h) (k := j) (fun i hi => ho i (by omega))]
 rw [vf_congr (f := fun i => h' (j + k + i)) (g := fun i => h (j + k + i)) (k := m) (fun i _ => ho _ (by omega))]
 grind
structure OverInv (m Q R : Nat) (A : Int) (g : Nat → Int) (j : Nat) (h q : Nat → Int) : Prop where
 lo : ∀ k, k < R → 0 ≤ h k
 hi : ∀ k, k < R → h k < 1000000000
 zero : ∀ k, j + (m + 2) ≤ k → k < R → h k = 0
 lt : vf (win h j) (m + 2) < vf g (m + 2)
 q0 : ∀ k, k < Q → 0 ≤ q k
 q1 : ∀ k, k < Q → q k < 1000000000
 qz : ∀ k, k < j → q k = 0
 val : vf h R + vf g (m + 2) * vf q Q = A
theorem OverInv.start {m Q R : Nat} {A M : Int} {g h : Nat → Int} (hR : R = Q + (m + 2)) (lo : ∀ k, k < R → 0 ≤ h k) (hi : ∀ k, k < R → h k < 1000000000) (hA : vf h R = A) (hlt : A < M * pw Q) (hM : vf g (m + 2) = M) :
  OverInv m Q R A g Q h (fun _ => 0) := by
 refine ⟨lo, hi, fun k h1 h2 => by omega, ?_, fun _ _ => by simp, fun _ _ => by simp, fun _ _ => rfl, by rw [vf_zero (f := fun _ => 0) fun _ _ => rfl, hA]; simp⟩
 subst hR
 rw [vf_split] at hA
 have hA' : vf h Q + pw Q * vf (win h Q) (m + 2) = A := hA
 clear hA
 have h1 := vf_nonneg (f := h) (k := Q) fun i hi => lo i (by omega)
 rw [hM]
 rcases Int.lt_or_le (vf (win h Q) (m + 2)) M with h2 | h2
 ·exact h2
 ·have := mle h2 (Int.le_of_lt (pw_pos Q))
  have : pw Q * vf (win h Q) (m + 2) = vf (win h Q) (m + 2) * pw Q := Int.mul_comm _ _
  omega
theorem OverInv.U_lt {m Q R : Nat} {A : Int} {g : Nat → Int} {j : Nat} {h q : Nat → Int} (H : OverInv m Q R A g (j + 1) h q) (hj : j < R) : vf (win h j) (m + 3) < vf g (m + 2) * 1000000000 := by
 rw [win_cons]
 have := H.lt
 have := H.hi j hj
 omega
theorem OverInv.step {m Q R : Nat} {A : Int} {g : Nat → Int} {j : Nat} {h q h' : Nat → Int} {d W : Int} (H : OverInv m Q R A g (j + 1) h q) (hR : R = Q + (m + 2)) (hj : j < Q)
  (hV : vf g (m + 2) ≤ pw (m + 2)) (lo : ∀ k, k < R → 0 ≤ h' k) (hi : ∀ k, k < R → h' k < 1000000000) (ho : ∀ k, k < j ∨ j + (m + 2) < k → h' k = h k)
  (hW : vf (win h' j) (m + 3) = W) (W0 : 0 ≤ W) (W1 : W < vf g (m + 2)) (hU : vf (win h j) (m + 3) = d * vf g (m + 2) + W) :
  0 ≤ d ∧ d < 1000000000 ∧ OverInv m Q R A g j h' (fun k => if k = j then d else q k) := by
 have hlt := H.U_lt (by omega)
 have hU0 := vf_nonneg (f := win h j) (k := m + 3) fun i hi => H.lo _ (by omega)
 have hV0 : 0 < vf g (m + 2) := by omega
 have d0 : 0 ≤ d := by
  rcases Int.lt_or_le d 0 with h1 | h1
  ·have := mle (show d ≤ -1 by omega) (Int.le_of_lt hV0); omega
  ·exact h1
 have d1 : d < 1000000000 := by
  rcases Int.lt_or_le d 1000000000 with h1 | h1
  ·exact h1
  ·have := mle h1 (Int.le_of_lt hV0); omega
 refine ⟨d0, d1, lo, hi, fun k h1 h2 => ?_, ?_, fun k hk => ?_, fun k hk => ?_, fun k hk => ?_, ?_⟩
 ·rcases Nat.lt_or_ge (j + (m + 2)) k with h3 | h3
  ·rw [ho k (.inr h3)]; exact H.zero k (by omega) h2
  ·obtain rfl : k = j + (m + 2) := by omega
   rw [vf_succ] at hW
   have a0 := lo _ h2
   have a1 := vf_nonneg (f := win h' j) (k := m + 2) fun i hi => lo _ (by omega)
   rcases Int.lt_or_le 0 (h' (j + (m + 2))) with h4 | h4
   ·have := mle (show 1 ≤ win h' j (m + 2) from h4) (Int.le_of_lt (pw_pos (m + 2)))
    omega
   ·omega
 ·have e : vf (win h' j) (m + 2) = W - win h' j (m + 2) * pw (m + 2) := by rw [vf_succ] at hW; omega
  have a0 : 0 ≤ win h' j (m + 2) * pw (m + 2) := Int.mul_nonneg (lo _ (by omega)) (Int.le_of_lt (pw_pos _))
  omega
 ·show 0 ≤ if k = j then _ else _
  split
  ·exact d0
  ·exact H.q0 k hk
 ·show (if k = j then _ else _) < _
  split
  ·exact d1
  ·exact H.q1 k hk
 ·show (if k = j then _ else _) = _
  rw [if_neg (by omega)]; exact H.qz k (by omega)
 ·have hv := H.val
  rw [vf_window (h := h) (h' := h') (j := j) (k := m + 3) (R := R) (by omega) (fun i hi => ho i (by omega)), vf_set, if_pos hj, H.qz j (by omega), hW, hU]
  generalize vf g (m + 2) = V at hv ⊢
  grind
theorem OverInv.done {m Q R : Nat} {A : Int} {g : Nat → Int} {h q : Nat → Int} (H : OverInv m Q R A g 0 h q) (hR : R = Q + (m + 2)) :
  A = vf g (m + 2) * vf q Q + vf h (m + 2) ∧ 0 ≤ vf h (m + 2) ∧ vf h (m + 2) < vf g (m + 2) := by
 have hv := H.val
 have hl := H.lt
 have e1 : vf (win h 0) (m + 2) = vf h (m + 2) := vf_congr fun i _ => by simp [win]
 rw [e1] at hl
 have e2 : vf h R = vf h (m + 2) := by
  rw [hR, Nat.add_comm, vf_split, vf_zero (f := fun j => h (m + 2 + j)) (fun i hi => H.zero _ (by omega) (by omega))]; simp
 rw [e2] at hv
 exact ⟨by omega, vf_nonneg fun i hi => H.lo i (by omega), hl⟩
theorem over_final {N M f q r : Int} (hf : 0 < f) (h : N * f = M * f * q + r) (r0 : 0 ≤ r) (r1 : r < M * f) : q = N / M ∧ r / f = N % M := by
 have e : r = (N - M * q) * f := by grind
 have h0 : 0 ≤ N - M * q := by
  rcases Int.lt_or_le (N - M * q) 0 with h1 | h1
  ·have := mle (show N - M * q ≤ -1 by omega) (Int.le_of_lt hf); omega
  ·exact h1
 have h1 : N - M * q < M := by
  rcases Int.lt_or_le (N - M * q) M with h1 | h1
  ·exact h1
  ·have := mle h1 (Int.le_of_lt hf); omega
 have hM : 0 < M := by omega
 have hq : q = N / M := ((Int.ediv_eq_iff_of_pos hM).2 ⟨by rw [Int.mul_comm]; omega, by rw [Int.mul_comm]; omega⟩).symm
 refine ⟨hq, ?_⟩
 rw [e, Int.mul_ediv_cancel _ (by omega)]
 have := Int.mul_ediv_add_emod N M
 rw [← hq] at this
 omega
theorem factor_bd {b1 : Int} (h0 : 0 < b1) (h1 : b1 < 1000000000) : 0 < 1000000000 / (b1 + 1) ∧ 1000000000 / (b1 + 1) < 1000000000 ∧ (b1 + 1) * (1000000000 / (b1 + 1)) ≤ 1000000000 := by
 have e := Int.mul_ediv_add_emod 1000000000 (b1 + 1)
 have r0 := Int.emod_nonneg 1000000000 (show b1 + 1 ≠ 0 by omega)
 have r1 := Int.emod_lt_of_pos 1000000000 (show 0 < b1 + 1 by omega)
 have q0 : 0 ≤ 1000000000 / (b1 + 1) := Int.ediv_nonneg (by omega) (by omega)
 generalize 1000000000 / (b1 + 1) = q at *
 refine ⟨?_, ?_, by omega⟩
 ·rcases Int.lt_or_le 0 q with h | h
  ·exact h
  ·obtain rfl : q = 0 := by omega
   omega
 ·have := mle (show 2 ≤ b1 + 1 by omega) q0
  omega
theorem factor_lt {g : Nat → Int} {m : Nat} (g1 : ∀ i, i < m + 1 → g i < 1000000000) {f : Int} (f0 : 0 < f) (hf : (g m + 1) * f ≤ 1000000000) : vf g (m + 1) * f < pw (m + 1) := by
 rw [vf_succ, pw_succ]
 have h1 := vf_lt (f := g) (k := m) fun i hi => g1 i (by omega)
 have h2 : (vf g m + g m * pw m + 1) * f ≤ ((g m + 1) * pw m) * f := mle (by grind) (Int.le_of_lt f0)
 have h3 : ((g m + 1) * f) * pw m ≤ 1000000000 * pw m := mle hf (Int.le_of_lt (pw_pos m))
 have h4 : ((g m + 1) * pw m) * f = ((g m + 1) * f) * pw m := by grind
 have h5 : (vf g m + g m * pw m + 1) * f = (vf g m + g m * pw m) * f + f := by grind
 omega
theorem v_top {m : Nat} {v : Nat → Int} {G : Int} (v0 : ∀ i, i < m + 2 + 1 → 0 ≤ v i) (v1 : ∀ i, i < m + 2 + 1 → v i < 1000000000) (hv : vf v (m + 2 + 1) = G) (hlo : pw (m + 1) ≤ G) (hhi : G < pw (m + 2)) :
  vf v (m + 2) = G ∧ v (m + 1) ≠ 0 := by
 have a1 := vf_nonneg (f := v) (k := m + 2) fun i hi => v0 i (by omega)
 have a2 := v0 (m + 2) (by omega)
 rw [vf_succ] at hv
 have e : v (m + 2) = 0 := by
  rcases Int.lt_or_le 0 (v (m + 2)) with h | h
  ·have := mle (show 1 ≤ v (m + 2) from h) (Int.le_of_lt (pw_pos (m + 2))); omega
  ·omega
 rw [e, Int.zero_mul, Int.add_zero] at hv
 refine ⟨hv, fun h => ?_⟩
 rw [vf_succ, h] at hv
 have a3 := vf_lt (f := v) (k := m + 1) fun i hi => v1 i (by omega)
 omega
theorem start_lt {n m Q : Nat} {f g : Nat → Int} {F : Int} (hQ : n = Q + (m + 1)) (d1 : Digs f n) (d2 : Digs g (m + 2)) (F0 : 0 < F) : vf f n * F < vf g (m + 2) * F * pw Q := by
 have a1 := d1.lt
 have a2 := d2.ge (by omega)
 rw [show m + 2 - 1 = m + 1 by omega] at a2
 rw [hQ, pw_add] at a1
 rw [← hQ] at a1
 have a3 := mle a2 (Int.le_of_lt (pw_pos Q))
 have a4 : pw (m + 1) * pw Q = pw Q * pw (m + 1) := Int.mul_comm _ _
 have a5 : (vf f n + 1) * F ≤ (vf g (m + 2) * pw Q) * F := mle (by omega) (Int.le_of_lt F0)
 have a6 : (vf g (m + 2) * pw Q) * F = vf g (m + 2) * F * pw Q := by grind
 have a7 : (vf f n + 1) * F = vf f n * F + F := by grind
 omega
section
open Go.RowKit
structure KeepNew (base : Nat) (V V' : World) : Prop where
 size : V.heap.size ≤ V'.heap.size
 cells : ∀ (k : Nat) cs T fr, base ≤ k → V.heap[k]? = some (.cells cs T fr) → V'.heap[k]? = some (.cells cs T fr)
theorem KeepNew.refl (base : Nat) (V : World) : KeepNew base V V := ⟨Nat.le_refl _, fun _ _ _ _ _ h => h⟩
theorem KeepNew.mono {base base' : Nat} {V V' : World} (h : KeepNew base V V') (hb : base ≤ base') : KeepNew base' V V' := ⟨h.size, fun k cs T fr hk hh => h.cells k cs T fr (by omega) hh⟩
theorem KeepNew.trans {base : Nat} {a b c : World} (h : KeepNew base a b) (k : KeepNew base b c) : KeepNew base a c := ⟨Nat.le_trans h.size k.size, fun i cs T fr hi hh => k.cells i cs T fr hi (h.cells i cs T fr hi hh)⟩
theorem KeepNew.of_below {base : Nat} {V V' : World} (h : Below V.heap.size V V') : KeepNew base V V' := ⟨h.size, fun k _ _ _ _ hh => (h.block k (lt_of_some hh)).trans hh⟩
theorem KeepNew.box {base : Nat} {V V' : World} (h : KeepNew base V V') {B : Nat} {T : TypeId} {cs : Array Value} (b : Box V B T cs) (hB : base ≤ B) : Box V' B T cs := ⟨h.cells B cs T _ hB b.blk⟩
theorem KeepNew.grown {base : Nat} {V V' : World} {row : Option Nat} (hg : V.grownBy V' row) (hr : ∀ r, row = some r → ∃ o : Obj, V.heap[r]? = some o ∧ o.isCells = false) : KeepNew base V V' := by
 obtain ⟨_, _, _, hs, hb⟩ := hg
 refine ⟨hs, fun k cs T fr _ hh => (hb k (lt_of_some hh) fun e => ?_).trans hh⟩
 obtain ⟨o, ho, hc⟩ := hr k e.symm
 rw [hh] at ho
 cases ho
 cases hc
def IterQ (F : Fence) (n : Nat) (P : Program) (g : Nat) (fi lb : Array Value) (m : Nat) (E : Nat → Array Value → World → Prop) (Kp : World → Prop) : Prop :=
 ∀ (l : Nat) (J : Nat → World → Prop) (W : World), (∀ i V, J i V → Kp V) → (∀ i V V', J i V → Below V.heap.size V V' → J i V') →
   (∀ i V args, J i V → W.heap.size ≤ V.heap.size → i < m → E i args V → YieldAt F (n - 1) P l args V fun e V' => e = .returned (.bool true) ∧ J (i + 1) V' ∧ KeepNew W.heap.size V V') →
   J 0 W → CallsIn F n P g (fi ++ #[.func (.yield l) #[] #[]] ++ lb) W fun e V => (∃ v, e = .returned v) ∧ J m V
theorem wpIn_range_allQ {F : Fence} {n : Nat} {P : Program} {g : Operand} {ps : Array Tmp} {assign body : Code} {Q : Exit → Act → World → Prop} {a : Act} {w : World}
  (hro : F.round = none) (h1 : 1 ≤ n) {gf : Nat} {fi lb : Array Value} (hg : a.eval g = .func (.func gf) fi lb) (hFg : F.fn gf)
  (eg : ∀ args w, (callFunc gf args).run P w = .ok (.enter gf args) w)
  {m : Nat} {E : Nat → Array Value → World → Prop} {Kp : World → Prop} (hit : IterQ F (n - 1) P gf fi lb m E Kp) (hps : ∀ i args V, E i args V → args.size = ps.size)
  (I : Nat → World → Prop) (hI : OwnFrom w.heap.size I) (hK : ∀ i V, I i V → Kp V) (hIB : ∀ i V V', I i V → Below V.heap.size V V' → I i V') (h0 : I 0 w)
  (hround : ∀ (l i : Nat) (args : Array Value) (W : World), I i W → i < m → w.heap.size ≤ l → w.heap.size ≤ W.heap.size → E i args W →
   assign.wpIn (F.inRound l) (n - 1 - 1) P (Exit.then (fun x W1 => KeepsOthers W W1 ∧ KeepNew w.heap.size W W1 ∧ ∀ W2, W1.grownBy W2 (some l) → (∃ o : Obj, W1.heap[l]? = some o ∧ o.isCells = false) →
    body.wpIn (F.inRound l) (n - 1 - 1) P (fun e _ W' => e = .normal ∧ KeepsOthers W2 W' ∧ KeepNew w.heap.size W2 W' ∧ I (i + 1) W') x W2) (fun _ _ _ => False))
    { tmps := (ps.zip args).foldl (fun t (p, v) => t.setIfInBounds p v) a.tmps, defers := [] } W)
  (hdone : ∀ (D : Nat) (W : World), w.heap.size ≤ D → I m W → W.heap[D]? = some (.deferred (some [])) → Q .normal { a with defers := { target := .collected D, args := #[] } :: a.defers } W) :
  (Code.rangeFunc g ps assign body).wpIn F n P Q a w := by
 refine wpIn_rangeFunc fun fn hfn => ?_
 rw [hro]
 obtain ⟨rec, hrec⟩ : ∃ rec : LoopState → Loop, rec = fun st => { state := st, pending := none, fn, tmps := a.tmps, params := ps, assign, body, defers := w.heap.size } := ⟨_, rfl⟩
 obtain ⟨W1, hW1⟩ : ∃ W1, (w.alloc (.deferred (some []))).alloc (.loop (rec .ready)) = W1 := ⟨_, rfl⟩
 have hL1 : W1.heap[w.heap.size + 1]? = some (.loop (rec .ready)) := by
  rw [← hW1]
  have := World.alloc_heap_new (w.alloc (.deferred (some []))) (.loop (rec .ready))
  rwa [World.size_alloc] at this
 have hK1 : W1.heap[w.heap.size]? = some (.deferred (some [])) := by
  rw [← hW1]
  exact (Below.heap_alloc _ _ _ (by simp)).trans (World.alloc_heap_new w _)
 have hI1 : I 0 W1 := by rw [← hW1]; exact hI.alloc _ (hI.alloc _ h0)
 have hS1 : w.heap.size ≤ W1.heap.size := by rw [← hW1]; simp; omega
 refine ⟨w.heap.size + 1, [{ target := .collected w.heap.size, args := #[] }], W1, { target := .fn (.func gf) lb, args := fi ++ #[.func (.yield (w.heap.size + 1)) #[] #[]] }, W1, gf,
  fi ++ #[.func (.yield (w.heap.size + 1)) #[] #[]] ++ lb, W1, ?_, ?_, ?_, ?_, fun _ => h1, ?_⟩
 ·rw [← hW1, hrec]; exact run_enterLoop_outer _ _ _ _ _
 ·simp only [resolve, hg]
  simp [go_sem]
 ·intro f' hf'; simp [Target.leads] at hf'; subst hf'; exact hFg
 ·simp [invoke, go_sem, eg]
 ·refine (hit (w.heap.size + 1)
   (fun i W => I i W ∧ W.heap[w.heap.size + 1]? = some (.loop (rec .ready)) ∧ W.heap[w.heap.size]? = some (.deferred (some []))) W1
   (fun i V h => hK i V h.1)
   (fun i V V' h hb => ⟨hIB i V V' h.1 hb, (hb.block _ (lt_of_some h.2.1)).trans h.2.1, (hb.block _ (lt_of_some h.2.2)).trans h.2.2⟩)
   ?_ ⟨hI1, hL1, hK1⟩).mono ?_
  ·rintro i W args ⟨hi, hl, hk⟩ hWs hlen hE
   have hlt : w.heap.size + 1 < W.heap.size := lt_of_some hl
   have hy := run_yield (P := P) (args := args) hl (by rw [hrec]; exact hps i args W hE)
   rw [hrec] at hy
   refine ⟨fn, _, assign, body, hy, roundIn_of_wpIn hfn (wpIn_mono (hround _ i args W hi hlen (by omega) (by omega) hE) ?_)⟩
   rintro e x W0 hx
   cases e with
   | normal => ?_
   | _ => exact hx
   obtain ⟨hk0, hn0, hx⟩ := hx
   replace hl := hk0.same _ _ hl rfl
   replace hk := hk0.same _ _ hk rfl
   replace hlt : w.heap.size + 1 < W0.heap.size := lt_of_some hl
   clear hi hy hk0
   refine ⟨_, run_beginRound hl (by rw [hrec]), ?_⟩
   have hl2 : (W0.putObj (w.heap.size + 1) (.loop { rec .ready with state := .busy })).heap[w.heap.size + 1]? = some (.loop { rec .ready with state := .busy }) := World.putObj_heap_same hlt
   have hk2 : (W0.putObj (w.heap.size + 1) (.loop { rec .ready with state := .busy })).heap[w.heap.size]? = some (.deferred (some [])) := (World.putObj_heap_other (by omega)).trans hk
   have hnp : KeepNew w.heap.size W0 (W0.putObj (w.heap.size + 1) (.loop { rec .ready with state := .busy })) := KeepNew.grown (grownBy_putObj' _ _ _) (fun r e => by cases e; exact ⟨_, hl, rfl⟩)
   refine wpIn_mono (hx _ (grownBy_putObj' _ _ _) ⟨_, hl, rfl⟩) ?_
   rintro e a3 W3 ⟨rfl, hk3, hn3, hi3⟩
   have hl3 := hk3.same _ _ hl2 rfl
   have he := run_endRound (P := P) none hl3
   have h4 : (rec LoopState.ready).pending = none := by rw [hrec]
   refine ⟨_, _, he, ?_, ⟨hI.putObj _ hi3 (by omega) hl3 rfl, ?_, (World.putObj_heap_other (by omega)).trans (hk3.same _ _ hk2 rfl)⟩, ?_⟩
   ·rfl
   ·rw [World.putObj_heap_same (lt_of_some hl3)]
    rw [hrec]
    rfl
   ·have hg3 : ∀ o' : Obj, KeepNew w.heap.size W3 (W3.putObj (w.heap.size + 1) o') := fun o' => KeepNew.grown (grownBy_putObj' W3 (w.heap.size + 1) o') (fun r e => by cases e; exact ⟨_, hl3, rfl⟩)
    exact KeepNew.mono (((hn0.trans hnp).trans hn3).trans (hg3 _)) (by omega)
  ·rintro e W2 ⟨⟨v, rfl⟩, hi, hl, hk⟩
   have he := run_endLoop (P := P) hl (by rw [hrec]; simp)
   refine ⟨_, _, he, ?_⟩
   rw [hrec]
   exact hdone _ _ (Nat.le_refl _) (hI.putObj _ hi (by omega) hl rfl) ((World.putObj_heap_other (by omega)).trans hk)
end
end Go.Mono
namespace Go.Proofs.YtdgodcgdlfjpaaaGreatDoor
open Go.RowKit Go.Mono
theorem by_any (p : Option Addr) (n c1 : Nat) (f : Nat → Int) (d : Int) (w : World) (h1 : SlF w (.slice p n c1) n f)
  (f0 : ∀ i, i < n → 0 ≤ f i) (f1 : ∀ i, i < n → f i < 1000000000) (hn : n ≤ 1000000) (d0 : 0 ≤ d) (d1 : d < 1000000000) :
  Calls Tryz.prog 255 #[.slice p n c1, .int .i64 d] w fun e w' => e = .returned (.slice (some ⟨w.heap.size, 0, none⟩) (n + 1) (n + 1)) ∧ Below w.heap.size w w' ∧
   ∃ h, RowF w' w.heap.size (n + 1) h ∧ (∀ j, j < n + 1 → 0 ≤ h j) ∧ (∀ j, j < n + 1 → h j < 1000000000) ∧ vf h (n + 1) = vf f n * d := by
 obtain ⟨hc1, hn1, hx1⟩ := h1.opens
 clear h1
 go_enter Tryz.func255, Tryz.ntmps255
 go_wp2_with (at_make; refine wpList_make_ints _ rfl _ _ 147 rfl Tryz.underlying147 infoInt _ _ (n + 1) rfl rfl (by simp) (by simp) (by omega) ?_; intro w1 r1 b1; have s1 := b1.size; have L1 := r1.lt)
 go_loopw [6, 16] (fun c a wr => ∃ i : Nat, i ≤ n ∧ a = .int .i64 i ∧ Below w.heap.size w wr ∧ ∃ h cc, c = .int .i64 cc ∧ RowF wr w.heap.size (n + 1) h ∧ ByInv n f d i h cc) (fun _ a _ => n - (intOf a).toNat)
 case atStart => exact ⟨0, Nat.zero_le _, rfl, b1, _, _, rfl, r1, ByInv.start⟩
 case round =>
  clear b1 s1 L1 r1
  obtain ⟨i, hi, rfl, hb, h, cc, rfl, hr, HT⟩ := hrel
  by_cases hlt : i < n
  ·obtain ⟨b, off, rfl, hbs, hcell⟩ := hx1 (by omega)
   have a1 := (hb.cell (p := ⟨b, off + i, none⟩) hbs).trans (hcell i hlt)
   have fi0 := f0 i hlt
   have fi1 := f1 i hlt
   have a2 := hr.cell i (by omega)
   have a3 := hr.frozen i
   have d3 := HT.c0
   have d4 := HT.c1
   obtain ⟨d5, d6⟩ := mul_bd fi0 fi1 d0 d1
   clear hcell hx1 f0 f1
   go_wp2
   go_roundw
   case rel => exact ⟨i + 1, by omega, by go_num, hb.setCell (p := ⟨w.heap.size, i, none⟩) (Nat.le_refl _) _, _, _, rfl, hr.set i _, HT.step hlt fi0 fi1 d0 d1⟩
   case measure => simp [intOf]; omega
  ·obtain rfl : i = n := by omega
   have a2 := hr.cell i (by omega)
   have a3 := hr.frozen i
   obtain ⟨q1, q2, q3⟩ := HT.done
   replace q3 := Lib.hid q3
   clear hlt hi hx1 f0 f1
   go_wp2
   go_ret
   exact ⟨rfl, hb.setCell (p := ⟨w.heap.size, i, none⟩) (Nat.le_refl _) _, _, hr.set i cc, q1, q2, q3.out⟩
theorem part_any (p : Option Addr) (n c1 : Nat) (f : Nat → Int) (d : Int) (w : World) (h1 : SlF w (.slice p n c1) n f)
  (f0 : ∀ i, i < n → 0 ≤ f i) (f1 : ∀ i, i < n → f i < 1000000000) (hn : n ≤ 1000000) (d0 : 0 < d) (d1 : d < 1000000000) :
  Calls Tryz.prog 254 #[.slice p n c1, .int .i64 d] w fun e w' => ∃ b k h r, e = .returned (.tuple #[.slice (some ⟨b, 0, none⟩) k n, .int .i64 r]) ∧ SlF w' (.slice (some ⟨b, 0, none⟩) k n) k h ∧ Digs h k ∧ vf f n = d * vf h k + r ∧ 0 ≤ r ∧ r < d ∧ k ≤ n ∧ Below w.heap.size w w' := by
 obtain ⟨hc1, hn1, hx1⟩ := h1.opens
 clear h1
 go_enter Tryz.func254, Tryz.ntmps254
 go_wp2_with (at_make; refine wpList_make_ints _ rfl _ _ 147 rfl Tryz.underlying147 infoInt _ _ n rfl rfl (by simp) (by simp) (by omega) ?_; intro w1 r1 b1; have s1 := b1.size; have L1 := r1.lt)
 go_loopw [7, 8] (fun c a wr => ∃ i : Nat, i ≤ n ∧ a = .int .i64 ((i : Int) - 1) ∧ Below w.heap.size w wr ∧ ∃ h cc, c = .int .i64 cc ∧ RowF wr w.heap.size n h ∧ PartInv n f d i h cc) (fun _ a _ => (intOf a + 1).toNat)
 case atStart => exact ⟨n, Nat.le_refl _, rfl, b1, _, _, rfl, r1, PartInv.start d0⟩
 case round =>
  clear b1 s1 L1 r1
  obtain ⟨i, hi, rfl, hb, h, cc, rfl, hr, HT⟩ := hrel
  by_cases hlt : 0 < i
  ·obtain ⟨b, off, rfl, hbs, hcell⟩ := hx1 (by omega)
   obtain ⟨i, rfl⟩ : ∃ j, i = j + 1 := ⟨i - 1, by omega⟩
   rw [show ((i + 1 : Nat) : Int) - 1 = (i : Int) by omega]
   have a1 := (hb.cell (p := ⟨b, off + i, none⟩) hbs).trans (hcell i (by omega))
   have fi0 := f0 i (by omega)
   have fi1 := f1 i (by omega)
   have a2 := hr.cell i (by omega)
   have a3 := hr.frozen i
   have d3 := HT.r0
   have d4 := HT.r1
   have hd : ¬ d = 0 := by omega
   clear hcell hx1 f0 f1
   go_wp2
   go_region
   go_wp2
   go_roundw
   case rel => exact ⟨i, by omega, rfl, (hb.setCell (p := ⟨w.heap.size, i, none⟩) (Nat.le_refl _) _).drew, _, _, rfl, (hr.set i _).drewN 1, HT.step (by omega) fi0 fi1⟩
   case measure => simp [intOf]
  ·obtain rfl : i = 0 := by omega
   clear hlt hi hx1 f0 f1
   have hs := hr.slice (by omega) n (Nat.le_refl _) n (Nat.le_refl _)
   obtain ⟨c1', c2'⟩ := HT.done
   have hle := trimN_le h n
   have d3 := HT.r0
   have d4 := HT.r1
   replace c2' := Lib.hid c2'
   go_wp2_with (go_at_call 223; refine (trim_any _ _ _ h _ hs).mono ?_; rintro e w' ⟨rfl, rfl⟩)
   go_ret2
   exact ⟨_, _, h, cc, rfl, hs.take _ hle, c1', c2'.out, d3, d4, hle, hb⟩

theorem part_sz (m1 : Nat) (w wf : World) (hx : Ext wf w) (p : Option Addr) (n c1 : Nat) (N d : Int) (h1 : Sz m1 wf (.slice p n c1) N) (hm1 : m1 ≤ 1000000) (d0 : 0 < d) (d1 : d < 1000000000) :
  Calls Tryz.prog 254 #[.slice p n c1, .int .i64 d] w fun e w' => ∃ p k c, e = .returned (.tuple #[.slice p k c, .int .i64 (N % d)]) ∧ Sz m1 w' (.slice p k c) (N / d) ∧ Below w.heap.size w w' := by
 obtain ⟨n, f, s1, d1', rfl, l1, rfl⟩ := (h1.ext hx).sl
 refine (part_any p n c1 f d w s1 d1'.lo d1'.hi (by omega) d0 d1).mono ?_
 rintro e w' ⟨b, k, h, r, rfl, hs, hd, hv, r0, r1, hk, hb⟩
 have e1 : vf f n / d = vf h k := by
  rw [hv]; exact Int.ediv_eq_iff_of_pos d0 |>.2 ⟨by rw [Int.mul_comm]; omega, by rw [Int.mul_comm] ; omega⟩
 have e2 : vf f n % d = r := by
  have := Int.mul_ediv_add_emod (vf f n) d
  rw [e1] at this; omega
 exact ⟨_, _, _, by rw [e2], ⟨k, h, hs, hd, e1.symm, by omega⟩, hb⟩
end Go.Proofs.YtdgodcgdlfjpaaaGreatDoor
namespace Go.Mono
open Go.RowKit
section
theorem Box.range {w : World} {B : Nat} {T : TypeId} {cs : Array Value} (b : Box w B T cs) : w.rangeAt B 0 cs.toList := fun j v hv => by
 rw [Nat.zero_add, b.cell, ← Array.getElem?_toList]
 exact hv
theorem Box.there {w : World} {B : Nat} {T : TypeId} {cs : Array Value} (b : Box w B T cs) (o n : Nat) (hn : o + n ≤ cs.size) : w.there B o n := fun j hj => by
 refine ⟨?_, b.frozen _⟩
 rw [b.cell]
 simp; omega
theorem Box.setCells {B : Nat} {T : TypeId} : ∀ (vs : List Value) (o : Nat) (w : World) (cs : Array Value), Box w B T cs → o + vs.length ≤ cs.size →
  Box (w.setCells B o vs) B T (cs.toList.take o ++ vs ++ cs.toList.drop (o + vs.length)).toArray
 | [], o, w, cs, h, _ => by simpa [World.setCells] using h
 | v :: r, o, w, cs, h, hn => by
   rw [World.setCells]
   have hn' : o + (r.length + 1) ≤ cs.size := by simpa using hn
   have := Box.setCells r (o + 1) _ _ (h.set o v) (by simp; omega)
   refine cast (congrArg _ ?_) this
   apply congrArg
   apply List.ext_getElem?
   intro i
   simp only [List.getElem?_append, List.length_append, List.length_take, List.length_drop, Array.toList_setIfInBounds, List.length_set, List.length_cons, Array.length_toList, List.getElem?_take, List.getElem?_drop, List.getElem?_set]
   by_cases h1 : i < o
   ·simp [show i < min (o + 1) cs.size by omega, show i < min o cs.size by omega, show i < min (o + 1) cs.size + r.length by omega, show i < min o cs.size + (r.length + 1) by omega, show i < o + 1 by omega, h1, show ¬ o = i by omega]
   ·by_cases h2 : i = o
    ·subst h2
     simp [show i < min (i + 1) cs.size by omega, show ¬ i < min i cs.size by omega, show i < min (i + 1) cs.size + r.length by omega, show i < min i cs.size + (r.length + 1) by omega, show i < cs.size by omega, show min i cs.size = i by omega]
    ·by_cases h3 : i < o + 1 + r.length
     ·have e1 : i - min (o + 1) cs.size = i - (o + 1) := by omega
      have e2 : i - min o cs.size = (i - (o + 1)) + 1 := by omega
      simp [show ¬ i < min (o + 1) cs.size by omega, show ¬ i < min o cs.size by omega, show i < min (o + 1) cs.size + r.length by omega, show i < min o cs.size + (r.length + 1) by omega, e1, e2]
     ·have e1 : o + 1 + r.length + (i - (min (o + 1) cs.size + r.length)) = i := by omega
      have e2 : o + (r.length + 1) + (i - (min o cs.size + (r.length + 1))) = i := by omega
      simp [show ¬ i < min (o + 1) cs.size + r.length by omega, show ¬ i < min o cs.size + (r.length + 1) by omega, e1, e2, show ¬ o = i by omega]
theorem KeepBut.setCells {R N : Nat} {W : World} : ∀ (vs : List Value) (o : Nat) (w : World), KeepBut R N W w → KeepBut R N W (w.setCells R o vs)
 | [], _, _, h => h
 | v :: r, o, w, h => by
   rw [World.setCells]
   exact KeepBut.setCells r (o + 1) _ (h.set o v)
section
variable {P : Program} {ops : Array Oper} {rest : List Oper} {o : Oper} {a : Act} {w : World} {Q : Exit → Act → World → Prop}
theorem wpList_new (hg : o.guard = none) (T : TypeId) (ho : o.op = .alloc T) (zs : Array Value)
  (hrun : ∀ w, (Instr.alloc T true (.tuple #[])).run P w = .ok (.pointer (some ⟨w.heap.size, 0, none⟩)) (w.alloc (.cells zs T)))
  (h : ∀ W B, w.heap.size ≤ B → Below w.heap.size w W → Box W B T zs → wpList P ops Q rest (a.put o.dst (.pointer (some ⟨B, 0, none⟩))) W) : wpList P ops Q (o :: rest) a w := by
 refine wpList_plain hg fun K hK => ?_
 unfold Oper.wp execOp
 simp only [ho, Sem.run_bind, hrun, Result.andThen_ok, Sem.run_pure]
 exact hK _ _ (h _ _ (Nat.le_refl _) ((Below.refl _ _).alloc (Nat.le_refl _) _) (Box.new _ _ _))
theorem wpList_build2 (hg : o.guard = none) (t : TypeId) (parts : Array (Nat × Operand)) (ho : o.op = .build t parts) (cells : Array Value)
  (hc : P.built t (parts.map fun (i, x) => (i, a.eval x)).toList = some cells) (h : wpList P ops Q rest (a.put o.dst (.agg cells)) w) : wpList P ops Q (o :: rest) a w :=
 wpList_build hg t parts ho (by rw [hc]; rfl) (by rw [hc]; exact h)
theorem wpList_load_box (hg : o.guard = none) (ty : TypeId) (x : Operand) (ho : o.op = .load ty x) (B : Nat) (hx : a.eval x = .pointer (some ⟨B, 0, none⟩)) (T : TypeId) (cells : Array Value) (hb : Box w B T cells)
  (d : TypeDesc) (hu : P.underlying ty = some d) (hd : d.isRow = true) (hi : (P.info? ty).map (·.size) = some cells.size)
  (h : wpList P ops Q rest (a.put o.dst (.agg cells)) w) : wpList P ops Q (o :: rest) a w :=
 wpList_load_mid hg ty x ho B 0 hx cells.toList d hb.range hu hd (by simpa using hi) (by simpa using h)
theorem wpList_store_box (hg : o.guard = none) (ty : TypeId) (x y : Operand) (ho : o.op = .store ty x y) (B off : Nat) (T : TypeId) (old cells new : Array Value) (hx : a.eval x = .pointer (some ⟨B, off, none⟩)) (hy : a.eval y = .agg cells)
  (hb : Box w B T old) (hi : (P.info? ty).map (·.size) = some cells.size) (hold : off + cells.size ≤ old.size) (h1 : cells.all (·.oneCell') = true)
  (hn : old.toList.take off ++ cells.toList ++ old.toList.drop (off + cells.size) = new.toList)
  (h : ∀ W, KeepBut B w.heap.size w W → Box W B T new → wpList P ops Q rest (a.put o.dst undef) W) : wpList P ops Q (o :: rest) a w := by
 refine wpList_store_mid hg ty x y ho B off cells hx hy (hb.there off cells.size hold) hi h1 (h _ ((KeepBut.refl _ _).setCells _ _ _) ?_)
 have := Box.setCells cells.toList off w old hb (by simpa using hold)
 simpa [hn] using this
end
section
variable {P : Program} {ops : Array Oper} {rest : List Oper} {a : Act} {w : World} {Q : Exit → Act → World → Prop} {T0 T1 T2 : TypeId} {c0 c1 c2 : Array Value}
theorem boxes1l (h : ∀ W, Below w.heap.size w W → w.heap.size + 1 ≤ W.heap.size → Box W w.heap.size T0 c0 → wpList P ops Q rest a W) : wpList P ops Q rest a (w.alloc (.cells c0 T0)) :=
 h _ ((Below.refl _ _).alloc (Nat.le_refl _) _) (by simp) (Box.new _ _ _)
theorem boxes2l (h : ∀ W, Below w.heap.size w W → w.heap.size + 2 ≤ W.heap.size → Box W w.heap.size T0 c0 → Box W (w.heap.size + 1) T1 c1 → wpList P ops Q rest a W) : wpList P ops Q rest a ((w.alloc (.cells c0 T0)).alloc (.cells c1 T1)) := by
 refine h _ (((Below.refl _ _).alloc (Nat.le_refl _) _).alloc (by simp) _) (by simp) ((Box.new _ _ _).alloc _) ?_
 have := Box.new (w.alloc (.cells c0 T0)) T1 c1
 rwa [World.size_alloc] at this
end
theorem Box.results {P : Program} {w : World} {B : Nat} {T : TypeId} {cs : Array Value} (b : Box w B T cs) {fn : Func} {p : Tmp} {ty : TypeId} (h : fn.results = #[.cell p ty]) (tmps : Array Value) (d : TypeDesc)
  (ht : tmps.getD p undef = .pointer (some ⟨B, 0, none⟩)) (hu : P.underlying ty = some d) (hd : d.isRow = true) (hi : (P.info? ty).map (·.size) = some cs.size) : (results fn tmps).run P w = .ok (.agg cs) w := by
 refine results_cell_row h tmps w B T cs (0, 0) d ht b.blk hu ?_ hi
 cases d <;> simp_all [TypeDesc.isRow]
theorem setCells_keeps {S : World → Prop} {B : Nat} (hS : ∀ w i u, S w → S (w.setCell ⟨B, i, none⟩ u)) : ∀ (vs : List Value) (o : Nat) (w : World), S w → S (w.setCells B o vs)
 | [], _, _, h => h
 | v :: r, o, w, h => by
   rw [World.setCells]
   exact setCells_keeps hS r (o + 1) _ (hS _ _ _ h)
section
variable {P : Program} {ops : Array Oper} {Q : Exit → Act → World → Prop} {md : Region.Mode} {S : World → Prop}
theorem wpAnyH_storeN (B : Nat) (T : TypeId) (i : Nat) {o : Oper} (hi : ops[i]? = some o) (hg : o.guard = none) (hd : o.dst = none) {ty : TypeId} {x y : Operand} (ho : o.op = .store ty x y) (off : Nat) (cells cs new : Array Value) {a : Act} {fuel : Nat} {listed : Array Bool} {w : World}
  (hr : Region.ready md ops listed = [i]) (hS : ∀ w i u, S w → S (w.setCell ⟨B, i, none⟩ u)) (hx : a.eval x = .pointer (some ⟨B, off, none⟩)) (hy : a.eval y = .agg cells)
  (hb : Box w B T cs) (hs : S w) (hi2 : (P.info? ty).map (·.size) = some cells.size) (hoff : off + cells.size ≤ cs.size) (h1 : cells.all (·.oneCell') = true)
  (hn : cs.toList.take off ++ cells.toList ++ cs.toList.drop (off + cells.size) = new.toList)
  (h : ∀ w', Box w' B T new → S w' → wpAnyH P md ops Q S fuel (listed.setIfInBounds i true) a w') : wpAnyH P md ops Q S (fuel + 1) listed a w := by
 refine wpAnyH_all hr (by simp) fun j hj => ?_
 obtain rfl : j = i := by simpa using hj
 unfold wpOp
 rw [hi]
 have hw : Region.wanted o (yielded ops a.tmps) = true := by simp [Region.wanted, hg]
 simp only [hw, if_true]
 left
 have hb2 := Box.setCells cells.toList off w cs hb (by simpa using hoff)
 have hb3 : Box (w.setCells B off cells.toList) B T new := by simpa [hn] using hb2
 have hs2 := setCells_keeps hS cells.toList off w hs
 refine wp_store_mid ty x y ho B off cells hx hy (hb.there off cells.size hoff) hi2 h1 ?_
 rw [hd]
 exact ⟨hs2, h _ hb3 hs2⟩
end
theorem exec_load {P : Program} {S : World → Prop} {oi : Oper} {a : Act} (ty : TypeId) (x : Operand) (ho : oi.op = .load ty x) (b o : Nat) (hx : a.eval x = .pointer (some ⟨b, o, none⟩)) (cells : Array Value) (hc : ∀ w, S w → w.rangeAt b o cells.toList)
  (d : TypeDesc) (hu : P.underlying ty = some d) (hd : d.isRow = true) (hi : (P.info? ty).map (·.size) = some cells.size) : ∀ w, S w → (execOp a.eval oi).run P w = .ok (.value (.agg cells)) w := fun w hS => by
 unfold execOp
 simp only [ho, hx, Sem.run_bind, run_loadAt_mid w b o ty cells.toList d (hc w hS) hu hd (by simpa using hi), Result.andThen_ok, Sem.run_pure]
end
section
structure Fa where
 i : Nat
 d : Tmp
 T : TypeId
 zs : Array Value
def setL : List (Fa × Option Nat) → Array Bool → Array Bool
 | [], l => l
 | q :: r, l => match q.2 with
   | some _ => setL r (l.setIfInBounds q.1.i true)
   | none => setL r l
def setA : List (Fa × Option Nat) → Act → Act
 | [], a => a
 | q :: r, a => match q.2 with
   | some B => setA r (a.put (some q.1.d) (.pointer (some ⟨B, 0, none⟩)))
   | none => setA r a
def cnt : List (Fa × Option Nat) → Nat
 | [] => 0
 | q :: r => (match q.2 with
   | some _ => 1
   | none => 0) + cnt r
def pend : List (Fa × Option Nat) → List Nat
 | [] => []
 | q :: r => match q.2 with
   | some _ => pend r
   | none => q.1.i :: pend r
def okA (N : Nat) (w : World) (qs : List (Fa × Option Nat)) : Prop :=
 (∀ q ∈ qs, ∀ B, q.2 = some B → N ≤ B ∧ Box w B q.1.T q.1.zs) ∧ qs.Pairwise fun x y => ∀ B, x.2 = some B → y.2 ≠ some B
def norm (q : Fa × Option Nat) : Fa × Option Nat := (q.1, q.2.map fun _ => 0)
def allPats : List Fa → List (List (Fa × Option Nat))
 | [] => [[]]
 | f :: r => (allPats r).flatMap fun qs => [(f, none) :: qs, (f, some 0) :: qs]
theorem mem_allPats : ∀ qs : List (Fa × Option Nat), qs.map norm ∈ allPats (qs.map (·.1))
 | [] => by simp [allPats]
 | (f, o) :: r => by
   simp only [List.map_cons, allPats, List.mem_flatMap]
   refine ⟨_, mem_allPats r, ?_⟩
   cases o <;> simp [norm]
theorem setL_norm : ∀ (qs : List (Fa × Option Nat)) (l : Array Bool), setL (qs.map norm) l = setL qs l
 | [], _ => rfl
 | (f, none) :: r, l => setL_norm r l
 | (f, some _) :: r, l => setL_norm r _
theorem pend_norm : ∀ qs : List (Fa × Option Nat), pend (qs.map norm) = pend qs
 | [] => rfl
 | (f, none) :: r => congrArg (f.i :: ·) (pend_norm r)
 | (f, some _) :: r => pend_norm r
theorem set_comm (l : Array Bool) (i j : Nat) : (l.setIfInBounds i true).setIfInBounds j true = (l.setIfInBounds j true).setIfInBounds i true := by
 by_cases h : i = j
 ·subst h; rfl
 ·exact Array.setIfInBounds_comm _ _ h
theorem setL_set (i : Nat) : ∀ (qs : List (Fa × Option Nat)) (l : Array Bool), setL qs (l.setIfInBounds i true) = (setL qs l).setIfInBounds i true
 | [], _ => rfl
 | (f, none) :: r, l => setL_set i r l
 | (f, some _) :: r, l => by
   show setL r ((l.setIfInBounds i true).setIfInBounds f.i true) = (setL r (l.setIfInBounds f.i true)).setIfInBounds i true
   rw [set_comm, setL_set i r]
theorem setA_put (d : Tmp) (v : Value) : ∀ (qs : List (Fa × Option Nat)) (a : Act), (∀ q ∈ qs, q.1.d ≠ d) → setA qs (a.put (some d) v) = (setA qs a).put (some d) v
 | [], _, _ => rfl
 | (f, none) :: r, a, h => setA_put d v r a fun q hq => h q (List.mem_cons_of_mem _ hq)
 | (f, some B) :: r, a, h => by
   show setA r ((a.put (some d) v).put (some f.d) _) = (setA r (a.put (some f.d) _)).put (some d) v
   rw [Act.put_comm a v _ (by
    intro e he; cases he
    intro hh; cases hh
    exact h (f, some B) (List.mem_cons_self ..) rfl), setA_put d v r _ fun q hq => h q (List.mem_cons_of_mem _ hq)]
theorem setL_app : ∀ (p q : List (Fa × Option Nat)) (l : Array Bool), setL (p ++ q) l = setL q (setL p l)
 | [], _, _ => rfl
 | (f, none) :: r, q, l => setL_app r q l
 | (f, some _) :: r, q, l => setL_app r q _
theorem setA_app : ∀ (p q : List (Fa × Option Nat)) (a : Act), setA (p ++ q) a = setA q (setA p a)
 | [], _, _ => rfl
 | (f, none) :: r, q, a => setA_app r q a
 | (f, some _) :: r, q, a => setA_app r q _
theorem cnt_app : ∀ p q : List (Fa × Option Nat), cnt (p ++ q) = cnt p + cnt q
 | [], q => by simp [cnt]
 | (f, o) :: r, q => by simp only [List.cons_append, cnt, cnt_app r q, Nat.add_assoc]
theorem cnt_le : ∀ p : List (Fa × Option Nat), cnt p ≤ p.length
 | [] => Nat.le_refl _
 | (f, none) :: r => by have := cnt_le r; simp only [cnt, List.length_cons]; omega
 | (f, some _) :: r => by have := cnt_le r; simp only [cnt, List.length_cons]; omega
theorem pend_split {j : Nat} : ∀ qs : List (Fa × Option Nat), j ∈ pend qs → ∃ p f r, qs = p ++ (f, none) :: r ∧ f.i = j
 | [], h => by cases h
 | (f, none) :: r, h => by
   rcases List.mem_cons.1 h with h | h
   ·exact ⟨[], f, r, rfl, h.symm⟩
   ·obtain ⟨p, g, s, rfl, hg⟩ := pend_split r h
    exact ⟨(f, none) :: p, g, s, rfl, hg⟩
 | (f, some B) :: r, h => by
   obtain ⟨p, g, s, rfl, hg⟩ := pend_split r h
   exact ⟨(f, some B) :: p, g, s, rfl, hg⟩
theorem cnt_lt : ∀ (p : List (Fa × Option Nat)) (f : Fa) (r : List (Fa × Option Nat)), cnt (p ++ (f, none) :: r) < (p ++ (f, none) :: r).length := fun p f r => by
 have h1 := cnt_le p
 have h2 := cnt_le r
 simp only [cnt_app, cnt, List.length_append, List.length_cons]
 omega
theorem okA.below {N : Nat} {w w' : World} {qs : List (Fa × Option Nat)} (h : okA N w qs) (hb : Below w.heap.size w w') : okA N w' qs :=
 ⟨fun q hq B hB => ⟨(h.1 q hq B hB).1, (h.1 q hq B hB).2.below hb⟩, h.2⟩
theorem okA.fresh {N : Nat} {w : World} {p r : List (Fa × Option Nat)} {f : Fa} (h : okA N w (p ++ (f, none) :: r)) (hN : N ≤ w.heap.size) :
  okA N (w.alloc (.cells f.zs f.T)) (p ++ (f, some w.heap.size) :: r) := by
 have lt : ∀ q, q ∈ p ∨ q ∈ r → q.2 ≠ some w.heap.size := fun q hq he => by
  have hq' : q ∈ p ++ (f, none) :: r := by rcases hq with hq | hq <;> simp [hq]
  exact Nat.lt_irrefl _ (h.1 q hq' _ he).2.lt
 constructor
 ·intro q hq B hB
  rw [List.mem_append, List.mem_cons] at hq
  rcases hq with hq | rfl | hq
  ·have := h.1 q (by simp [hq]) B hB
   exact ⟨this.1, this.2.alloc _⟩
  ·cases hB
   exact ⟨hN, Box.new _ _ _⟩
  ·have := h.1 q (by simp [hq]) B hB
   exact ⟨this.1, this.2.alloc _⟩
 ·have h2 := h.2
  rw [List.pairwise_append, List.pairwise_cons] at h2 ⊢
  refine ⟨h2.1, ⟨fun q hq B hB => ?_, h2.2.1.2⟩, fun x hx y hy => ?_⟩
  ·cases hB
   exact lt q (.inr hq)
  ·rcases List.mem_cons.1 hy with rfl | hy
   ·intro B hB hh
    cases hh
    exact lt x (.inl hx) hB
   ·exact h2.2.2 x hx y (List.mem_cons_of_mem _ hy)
section
variable {P : Program} {ops : Array Oper} {Q : Exit → Act → World → Prop} {md : Region.Mode} {S : World → Prop}
structure FaOk (P : Program) (ops : Array Oper) (f : Fa) : Prop where
 op : ∃ o, ops[f.i]? = some o ∧ o.guard = none ∧ o.op = .alloc f.T ∧ o.dst = some f.d
 run : ∀ w, (Instr.alloc f.T true (.tuple #[])).run P w = .ok (.pointer (some ⟨w.heap.size, 0, none⟩)) (w.alloc (.cells f.zs f.T))
def FaAll (P : Program) (ops : Array Oper) (ps : List Fa) : Prop := (∀ f ∈ ps, FaOk P ops f) ∧ (ps.map (·.d)).Nodup
def Fl (P : Program) (md : Region.Mode) (ops : Array Oper) (Q : Exit → Act → World → Prop) (S : World → Prop) (N : Nat) (ps : List Fa) (F : Nat) (listed : Array Bool) (a : Act) (V : World) : Prop :=
 ∀ qs w, qs.map (·.1) = ps → Below V.heap.size V w → S w → okA N w qs → wpAnyH P md ops Q S (F - cnt qs) (setL qs listed) (setA qs a) w
def blind (ops : Array Oper) (ps : List Fa) (o : Oper) : Bool := ps.all fun f => !(o.looksAt ops).contains f.d
theorem exec_setA (hs : Region.noSelect ops = true) {i : Nat} {o : Oper} (hi : ops[i]? = some o) : ∀ (qs : List (Fa × Option Nat)) (a : Act), blind ops (qs.map (·.1)) o = true →
  execOp (setA qs a).eval o = execOp a.eval o ∧ Region.wanted o (yielded ops (setA qs a).tmps) = Region.wanted o (yielded ops a.tmps)
 | [], _, _ => ⟨rfl, rfl⟩
 | (f, none) :: r, a, h => exec_setA hs hi r a (by
   simp only [blind, List.map_cons, List.all_cons, Bool.and_eq_true] at h ⊢
   exact h.2)
 | (f, some B) :: r, a, h => by
   simp only [blind, List.map_cons, List.all_cons, Bool.and_eq_true] at h
   have ih := exec_setA hs hi r (a.put (some f.d) (.pointer (some ⟨B, 0, none⟩))) h.2
   have hd : ∀ d, some f.d = some d → d ∉ o.looksAt ops := fun d hd => by
    cases hd
    simpa using h.1
   exact ⟨ih.1.trans (execOp_put o (Region.noSelect_spec hs i o · · hi) a _ _ hd), ih.2.trans (wanted_put o a _ _ hd)⟩
def shapeAt (md : Region.Mode) (ops : Array Oper) (ps : List Fa) (listed : Array Bool) (i : Nat) : Bool :=
 (allPats ps).all fun qs => (Region.ready md ops (setL qs listed)).contains i && (Region.ready md ops (setL qs listed)).all fun j => j == i || (pend qs).contains j
def shapeEnd (md : Region.Mode) (ops : Array Oper) (ps : List Fa) (listed : Array Bool) : Bool :=
 (allPats ps).all fun qs => (pend qs).isEmpty || ((!(Region.ready md ops (setL qs listed)).isEmpty) && (Region.ready md ops (setL qs listed)).all fun j => (pend qs).contains j)
def freeAt (md : Region.Mode) (ops : Array Oper) (ps : List Fa) (listed : Array Bool) (i : Nat) : Bool :=
 (allPats ps).all fun qs => (Region.ready md ops (setL qs listed)).contains i && Region.free md ops (setL qs listed) i
theorem Fl.alloc {ps : List Fa} {k : Nat} {listed : Array Bool} {a : Act} {w : World} (hfa : FaAll P ops ps) {p : List (Fa × Option Nat)} {f : Fa} {r : List (Fa × Option Nat)} (hq : (p ++ (f, none) :: r).map (·.1) = ps)
  (h : wpAnyH P md ops Q S k (setL (p ++ (f, some w.heap.size) :: r) listed) (setA (p ++ (f, some w.heap.size) :: r) a) (w.alloc (.cells f.zs f.T)))
  (hS : S (w.alloc (.cells f.zs f.T))) :
  wpOp P ops Q f.i (fun a' w' => S w' ∧ wpAnyH P md ops Q S k ((setL (p ++ (f, none) :: r) listed).setIfInBounds f.i true) a' w') (setA (p ++ (f, none) :: r) a) w := by
 have hmem : f ∈ ps := by rw [← hq]; simp
 obtain ⟨⟨o, ho, hg, hop, hd⟩, hrun⟩ := hfa.1 f hmem
 unfold wpOp
 simp only [ho]
 have hw : Region.wanted o (yielded ops (setA (p ++ (f, none) :: r) a).tmps) = true := by simp [Region.wanted, hg]
 rw [if_pos hw]
 left
 unfold Oper.wp execOp
 simp only [hop, Sem.run_bind, hrun, Result.andThen_ok, Sem.run_pure, Oper.upon_value, hd]
 refine ⟨hS, ?_⟩
 have hnd := hfa.2
 rw [← hq] at hnd
 simp only [List.map_append, List.map_cons, List.nodup_append, List.nodup_cons] at hnd
 have hr : ∀ q ∈ r, q.1.d ≠ f.d := fun q hq' he => hnd.2.1.1 (by
  rw [← he]
  exact List.mem_map_of_mem (List.mem_map_of_mem hq'))
 have e1 : (setL (p ++ (f, none) :: r) listed).setIfInBounds f.i true = setL (p ++ (f, some w.heap.size) :: r) listed := by
  rw [setL_app, setL_app]
  show (setL r (setL p listed)).setIfInBounds f.i true = setL r ((setL p listed).setIfInBounds f.i true)
  rw [setL_set]
 have e2 : (setA (p ++ (f, none) :: r) a).put (some f.d) (.pointer (some ⟨w.heap.size, 0, none⟩)) = setA (p ++ (f, some w.heap.size) :: r) a := by
  rw [setA_app, setA_app]
  show (setA r (setA p a)).put (some f.d) _ = setA r ((setA p a).put (some f.d) _)
  rw [setA_put _ _ r _ hr]
 rw [e1, e2]
 exact h
theorem Fl.start {F : Nat} {listed : Array Bool} {a : Act} {V : World} (ps : List Fa) (h : Fl P md ops Q S V.heap.size ps F listed a V) (hS : S V := by assumption) : wpAnyH P md ops Q S F listed a V := by
 have hl : ∀ ps : List Fa, (setL (ps.map fun f => (f, none)) listed = listed ∧ setA (ps.map fun f => (f, none)) a = a ∧ cnt (ps.map fun f => (f, none)) = 0) := by
  intro ps
  induction ps with
  | nil => exact ⟨rfl, rfl, rfl⟩
  | cons f r ih => exact ⟨ih.1, ih.2.1, by simp only [List.map_cons, cnt, ih.2.2]⟩
 have := h (ps.map fun f => (f, none)) V (by rw [List.map_map]; exact List.map_id _) (Below.refl _ _) hS ⟨fun q hq B hB => (by
  obtain ⟨f, _, rfl⟩ := List.mem_map.1 hq
  cases hB), (by
  rw [List.pairwise_map]
  exact List.pairwise_of_forall fun _ _ B hB => nomatch hB)⟩
 rw [(hl ps).1, (hl ps).2.1, (hl ps).2.2] at this
 exact this
theorem pat_of {ps : List Fa} {g : List (Fa × Option Nat) → Bool} (h : (allPats ps).all g = true) {qs : List (Fa × Option Nat)} (hq : qs.map (·.1) = ps) : g (qs.map norm) = true := by
 have := mem_allPats qs
 rw [hq] at this
 exact List.all_eq_true.1 h _ this
theorem Fl.call (i : Nat) (d : Tmp) {o : Oper} {f : FuncId} {args : Array Value} {R : World → Ending → World → Prop} {N F : Nat} {ps : List Fa} {listed : Array Bool} {a : Act} {V : World}
  (hC : ∀ w, Below V.heap.size V w → Calls P f args w (R w))
  (h : ∀ w, Below V.heap.size V w → S w → ∀ e w', R w e w' → match e with
   | .returned v => Below w.heap.size w w' ∧ Fl P md ops Q S N ps F (listed.setIfInBounds i true) (a.put (some d) v) w'
   | _ => False)
  (hfa : FaAll P ops ps := by assumption) (hSt : ∀ w w', S w → Below w.heap.size w w' → S w' := by first | exact (fun w w' h k => belowS (belowCall (And.right h) k)) | exact (fun w w' h k => KeepBut.S (KeepBut.call (And.right h) k)) | exact (fun w w' h k => belowCall h k)) (hN : N ≤ V.heap.size := by assumption)
  (ho : ops[i]? = some o := by rfl) (hd : o.dst = some d := by rfl) (hs : Region.noSelect ops = true := by as_aux_lemma => kernel_rfl)
  (hsh : shapeAt md ops ps listed i = true := by as_aux_lemma => kernel_rfl) (hbl : blind ops ps o = true := by as_aux_lemma => kernel_rfl) (hnd : (ps.map (·.d)).contains d = false := by as_aux_lemma => kernel_rfl) (hF : Nat.ble ps.length F = true := by rfl)
  (hw : Region.wanted o (yielded ops a.tmps) = true := by as_aux_lemma => kernel_rfl)
  (hx : ∀ w, (execOp a.eval o).run P w = .ok (.enter f args) w := by as_aux_lemma => (intro _; kernel_rfl)) : Fl P md ops Q S N ps (F + 1) listed a V := by
 have hF' := Nat.le_of_ble_eq_true hF
 have main : ∀ n qs w, qs.length - cnt qs = n → qs.map (·.1) = ps → Below V.heap.size V w → S w → okA N w qs → wpAnyH P md ops Q S (F + 1 - cnt qs) (setL qs listed) (setA qs a) w := by
  intro n
  induction n with
  | zero => ?_
  | succ n ih => ?_
  all_goals
   intro qs w hn hq hV hS hok
   have hlen : qs.length = ps.length := by rw [← hq, List.length_map]
   have hc := cnt_le qs
   have hsp := pat_of hsh hq
   simp only [setL_norm, pend_norm, Bool.and_eq_true, List.all_eq_true, Bool.or_eq_true, beq_iff_eq, List.contains_iff_mem] at hsp
   rw [show F + 1 - cnt qs = (F - cnt qs) + 1 by omega]
   refine ⟨fun h0 => (by rw [h0] at hsp; exact absurd hsp.1 (by simp)), fun j hj => ?_⟩
   rcases hsp.2 j hj with rfl | hp
   ·have hb := exec_setA hs ho qs a (by rw [hq]; exact hbl)
    unfold wpOp
    simp only [ho]
    rw [if_pos (hb.2.trans hw)]
    left
    unfold Oper.wp
    rw [hb.1, hx w, Oper.upon_enter]
    refine (hC w hV).mono ?_
    intro e w' hR
    have := h w hV hS e w' hR
    cases e with
    | returned v =>
      have hS' := hSt w w' hS this.1
      have k := this.2 qs w' hq (Below.refl _ _) hS' (hok.below this.1)
      rw [setL_set, setA_put d v qs a (by
       intro q hq' he
       have : d ∈ ps.map (·.d) := by
        rw [← hq, ← he]
        exact List.mem_map_of_mem (List.mem_map_of_mem hq')
       simp [this] at hnd)] at k
      rw [hd]
      exact ⟨hS', k⟩
    | _ => exact this.elim
   ·obtain ⟨p, g, r, rfl, rfl⟩ := pend_split qs hp
    have hlt := cnt_lt p g r
    first
     | (exfalso; omega)
     | refine Fl.alloc hfa hq ?_ (hSt _ _ hS ((Below.refl _ _).alloc (Nat.le_refl _) _))
       have hcn : cnt (p ++ (g, some w.heap.size) :: r) = cnt (p ++ (g, none) :: r) + 1 := by simp only [cnt_app, cnt]; omega
       have hl2 : (p ++ (g, some w.heap.size) :: r).length = (p ++ (g, none) :: r).length := by simp
       have := ih (p ++ (g, some w.heap.size) :: r) (w.alloc (.cells g.zs g.T)) (by omega) (by rw [← hq]; simp) (belowAlloc hV _) (hSt _ _ hS ((Below.refl _ _).alloc (Nat.le_refl _) _)) (hok.fresh (Nat.le_trans hN hV.size))
       rw [hcn] at this
       rw [show F - cnt (p ++ (g, none) :: r) = F + 1 - (cnt (p ++ (g, none) :: r) + 1) by omega]
       exact this
 exact fun qs w => main _ qs w rfl
theorem Fl.take (i : Nat) (d : Tmp) {o : Oper} {v : Value} {N F : Nat} {ps : List Fa} {listed : Array Bool} {a a' : Act} {V : World}
  (h : Fl P md ops Q S N ps F (listed.setIfInBounds i true) a' V)
  (ho : ops[i]? = some o := by rfl) (hd : o.dst = some d := by rfl) (hs : Region.noSelect ops = true := by as_aux_lemma => kernel_rfl)
  (hfr : freeAt md ops ps listed i = true := by as_aux_lemma => kernel_rfl) (hbl : blind ops ps o = true := by as_aux_lemma => kernel_rfl) (hnd : (ps.map (·.d)).contains d = false := by as_aux_lemma => kernel_rfl) (hF : Nat.ble ps.length F = true := by rfl)
  (hw : Region.wanted o (yielded ops a.tmps) = true := by as_aux_lemma => kernel_rfl)
  (hv : ∀ w, S w → (execOp a.eval o).run P w = .ok (.value v) w := by (intro w hSw; (try dsimp only at hSw); go_simp; all_goals with_reducible rfl))
  (hQ : ∀ c a w, Q (.panic c) (a.put (some d) v) w → Q (.panic c) a w := by exact (fun _ _ _ h => h))
  (ha : a.put (some d) v = a' := by (simp only [Act.put, List.setIfInBounds_toArray, List.set_cons_zero, List.set_cons_succ]; rfl)) : Fl P md ops Q S N ps (F + 1) listed a V := by
 subst ha
 intro qs w hq hV hS hok
 have hF' := Nat.le_of_ble_eq_true hF
 have hlen : qs.length = ps.length := by rw [← hq, List.length_map]
 have hc := cnt_le qs
 have hsp := pat_of hfr hq
 simp only [setL_norm, Bool.and_eq_true] at hsp
 have hb := exec_setA hs ho qs a (by rw [hq]; exact hbl)
 have k := h qs w hq hV hS hok
 rw [setL_set, setA_put d v qs a (by
  intro q hq' he
  have : d ∈ ps.map (·.d) := by
   rw [← hq, ← he]
   exact List.mem_map_of_mem (List.mem_map_of_mem hq')
  simp [this] at hnd)] at k
 rw [show F + 1 - cnt qs = (F - cnt qs) + 1 by omega]
 refine wpAnyH_take ho hs hsp.2 hsp.1 (by rw [hd]; exact hQ) (Or.inl ⟨hb.2.trans hw, fun w' hS' => ?_⟩) hS (by rw [hd]; exact k)
 rw [hb.1]
 exact hv w' hS'
theorem Fl.close {N F : Nat} {ps : List Fa} {listed : Array Bool} {a : Act} {V : World}
  (h : ∀ qs w, qs.map (·.1) = ps → pend qs = [] → Below V.heap.size V w → S w → okA N w qs → wpAnyH P md ops Q S (F - cnt qs) (setL qs listed) (setA qs a) w)
  (hfa : FaAll P ops ps) (hSt : ∀ w w', S w → Below w.heap.size w w' → S w') (hN : N ≤ V.heap.size)
  (hsh : shapeEnd md ops ps listed = true) (hF : Nat.ble ps.length F = true) : Fl P md ops Q S N ps F listed a V := by
 have hF' := Nat.le_of_ble_eq_true hF
 have main : ∀ n qs w, qs.length - cnt qs = n → qs.map (·.1) = ps → Below V.heap.size V w → S w → okA N w qs → wpAnyH P md ops Q S (F - cnt qs) (setL qs listed) (setA qs a) w := by
  intro n
  induction n with
  | zero => ?_
  | succ n ih => ?_
  all_goals
   intro qs w hn hq hV hS hok
   by_cases hp0 : pend qs = []
   ·exact h qs w hq hp0 hV hS hok
   have hlen : qs.length = ps.length := by rw [← hq, List.length_map]
   have hc := cnt_le qs
   have hsp := pat_of hsh hq
   simp only [setL_norm, pend_norm, Bool.or_eq_true, Bool.and_eq_true, List.all_eq_true, List.contains_iff_mem, List.isEmpty_iff, hp0, false_or, Bool.not_eq_true', List.isEmpty_eq_false_iff] at hsp
   obtain ⟨j0, hj0⟩ := List.exists_mem_of_ne_nil _ hp0
   obtain ⟨p0, g0, r0, rfl, _⟩ := pend_split qs hj0
   have hlt := cnt_lt p0 g0 r0
   rw [show F - cnt (p0 ++ (g0, none) :: r0) = (F - cnt (p0 ++ (g0, none) :: r0) - 1) + 1 by omega]
   refine ⟨fun h0 => absurd h0 hsp.1, fun j hj => ?_⟩
   obtain ⟨p, g, r, he, rfl⟩ := pend_split _ (hsp.2 j hj)
   first
    | (exfalso; omega)
    | rw [he] at hq hok hn hc hlt ⊢
      refine Fl.alloc hfa hq ?_ (hSt _ _ hS ((Below.refl _ _).alloc (Nat.le_refl _) _))
      have hcn : cnt (p ++ (g, some w.heap.size) :: r) = cnt (p ++ (g, none) :: r) + 1 := by simp only [cnt_app, cnt]; omega
      have hl2 : (p ++ (g, some w.heap.size) :: r).length = (p ++ (g, none) :: r).length := by simp
      have := ih (p ++ (g, some w.heap.size) :: r) (w.alloc (.cells g.zs g.T)) (by omega) (by rw [← hq]; simp) (belowAlloc hV _) (hSt _ _ hS ((Below.refl _ _).alloc (Nat.le_refl _) _)) (hok.fresh (Nat.le_trans hN hV.size))
      rw [hcn] at this
      rw [show F - cnt (p ++ (g, none) :: r) - 1 = F - (cnt (p ++ (g, none) :: r) + 1) by omega]
      exact this
 exact fun qs w => main _ qs w rfl
end
end
section
section
variable {P : Program} {ops : Array Oper} {Q : Exit → Act → World → Prop} {md : Region.Mode} {S : World → Prop}
theorem FaOk.of {i : Nat} {d : Tmp} {T : TypeId} {zs : Array Value} (run : ∀ w, (Instr.alloc T true (.tuple #[])).run P w = .ok (.pointer (some ⟨w.heap.size, 0, none⟩)) (w.alloc (.cells zs T)))
  (op : ∃ o, ops[i]? = some o ∧ o.guard = none ∧ o.op = .alloc T ∧ o.dst = some d := by exact ⟨_, rfl, rfl, rfl, rfl⟩) : FaOk P ops ⟨i, d, T, zs⟩ := ⟨op, run⟩
theorem FaAll.nil : FaAll P ops [] := ⟨fun _ h => (nomatch h), List.nodup_nil⟩
theorem FaAll.cons {f : Fa} {ps : List Fa} (h : FaOk P ops f) (k : FaAll P ops ps) (hn : (ps.map (·.d)).contains f.d = false := by rfl) : FaAll P ops (f :: ps) :=
 ⟨fun g hg => (List.mem_cons.1 hg).elim (fun e => e ▸ h) (fun hg => k.1 g hg), (by
  rw [List.map_cons, List.nodup_cons]
  exact ⟨fun hm => (by simp [hm] at hn), k.2⟩)⟩
theorem Fl.open {F : Nat} {listed : Array Bool} {a : Act} {V : World} (ps : List Fa) (hfa : FaAll P ops ps) (h : FaAll P ops ps → Fl P md ops Q S V.heap.size ps F listed a V) (hS : S V := by assumption) : wpAnyH P md ops Q S F listed a V :=
 Fl.start ps (h hfa) hS
theorem Fl.pt {N F : Nat} {ps : List Fa} {listed : Array Bool} {a a' : Act} {V : World} (h : Fl P md ops Q S N ps F listed a' V) (ha : a = a' := by (simp only [Act.put, List.setIfInBounds_toArray, List.set_cons_zero, List.set_cons_succ]; rfl)) : Fl P md ops Q S N ps F listed a V := by
 subst ha
 exact h
section
variable {N F : Nat} {listed : Array Bool} {a : Act} {V : World} {i1 i2 i3 i4 : Nat} {d1 d2 d3 d4 : Tmp} {T1 T2 T3 T4 : TypeId} {z1 z2 z3 z4 : Array Value}
theorem Fl.close1 (h : ∀ B1 w, Below V.heap.size V w → S w → N ≤ B1 → Box w B1 T1 z1 → wpAnyH P md ops Q S F (listed.setIfInBounds i1 true) (a.put (some d1) (.pointer (some ⟨B1, 0, none⟩))) w)
  (hfa : FaAll P ops [⟨i1, d1, T1, z1⟩] := by assumption) (hSt : ∀ w w', S w → Below w.heap.size w w' → S w' := by first | exact (fun w w' h k => belowS (belowCall (And.right h) k)) | exact (fun w w' h k => KeepBut.S (KeepBut.call (And.right h) k)) | exact (fun w w' h k => belowCall h k)) (hN : N ≤ V.heap.size := by assumption)
  (hsh : shapeEnd md ops [⟨i1, d1, T1, z1⟩] listed = true := by as_aux_lemma => kernel_rfl) : Fl P md ops Q S N [⟨i1, d1, T1, z1⟩] (F + 1) listed a V := by
 refine Fl.close (fun qs w hq hp hV hS hok => ?_) hfa hSt hN hsh (Nat.ble_eq_true_of_le (by simp))
 match qs, hq with
 | [(_, o1)], hq =>
   cases hq
   cases o1 with
   | none => cases hp
   | some B1 =>
     have b1 := hok.1 _ (List.mem_cons_self ..) _ rfl
     exact h B1 w hV hS b1.1 b1.2
theorem Fl.close2 (h : ∀ B1 B2 w, Below V.heap.size V w → S w → N ≤ B1 → N ≤ B2 → B1 ≠ B2 → Box w B1 T1 z1 → Box w B2 T2 z2 → wpAnyH P md ops Q S F ((listed.setIfInBounds i1 true).setIfInBounds i2 true) ((a.put (some d1) (.pointer (some ⟨B1, 0, none⟩))).put (some d2) (.pointer (some ⟨B2, 0, none⟩))) w)
  (hfa : FaAll P ops [⟨i1, d1, T1, z1⟩, ⟨i2, d2, T2, z2⟩] := by assumption) (hSt : ∀ w w', S w → Below w.heap.size w w' → S w' := by first | exact (fun w w' h k => belowS (belowCall (And.right h) k)) | exact (fun w w' h k => KeepBut.S (KeepBut.call (And.right h) k)) | exact (fun w w' h k => belowCall h k)) (hN : N ≤ V.heap.size := by assumption)
  (hsh : shapeEnd md ops [⟨i1, d1, T1, z1⟩, ⟨i2, d2, T2, z2⟩] listed = true := by as_aux_lemma => kernel_rfl) : Fl P md ops Q S N [⟨i1, d1, T1, z1⟩, ⟨i2, d2, T2, z2⟩] (F + 2) listed a V := by
 refine Fl.close (fun qs w hq hp hV hS hok => ?_) hfa hSt hN hsh (Nat.ble_eq_true_of_le (by simp))
 match qs, hq with
 | [(_, o1), (_, o2)], hq =>
   cases hq
   cases o1 with
   | none => cases hp
   | some B1 =>
     cases o2 with
     | none => cases hp
     | some B2 =>
       have b1 := hok.1 _ (List.mem_cons_self ..) _ rfl
       have b2 := hok.1 _ (List.mem_cons_of_mem _ (List.mem_cons_self ..)) _ rfl
       have hne := List.rel_of_pairwise_cons hok.2 (List.mem_cons_self ..) B1 rfl
       exact h B1 B2 w hV hS b1.1 b2.1 (fun he => hne (by rw [he])) b1.2 b2.2
end
end
end
section
section
variable {F : Fence} {n : Nat} {P : Program} {ops : Array Oper} {rest : List Oper} {o : Oper} {a : Act} {w : World} {Q : Exit → Act → World → Prop}
theorem wpListIn_new (hg : o.guard = none) (T : TypeId) (ho : o.op = .alloc T) (zs : Array Value)
  (hrun : ∀ w, (Instr.alloc T true (.tuple #[])).run P w = .ok (.pointer (some ⟨w.heap.size, 0, none⟩)) (w.alloc (.cells zs T)))
  (h : ∀ W B, w.heap.size ≤ B → Below w.heap.size w W → Box W B T zs → wpListIn F n P ops Q rest (a.put o.dst (.pointer (some ⟨B, 0, none⟩))) W) : wpListIn F n P ops Q (o :: rest) a w := by
 refine wpListIn_plain hg fun K hK => ?_
 unfold Oper.wpIn
 refine ⟨by simp [Oper.about, ho], ?_⟩
 rw [Oper.semAt_plain F _ _ (by rw [ho]; intro c hc'; cases hc')]
 unfold execOp
 simp only [ho, Sem.run_bind, hrun, Result.andThen_ok, Sem.run_pure]
 exact hK _ _ (h _ _ (Nat.le_refl _) ((Below.refl _ _).alloc (Nat.le_refl _) _) (Box.new _ _ _))
theorem wpListIn_load_mid (hg : o.guard = none) (ty : TypeId) (x : Operand) (ho : o.op = .load ty x)
  (b off : Nat) (hx : a.eval x = .pointer (some ⟨b, off, none⟩)) (cs : List Value) (d : TypeDesc) (hc : w.rangeAt b off cs)
  (hu : P.underlying ty = some d) (hd : d.isRow = true) (hi : (P.info? ty).map (·.size) = some cs.length)
  (h : wpListIn F n P ops Q rest (a.put o.dst (.agg cs.toArray)) w) : wpListIn F n P ops Q (o :: rest) a w := by
 refine wpListIn_plain hg fun K hK => ?_
 unfold Oper.wpIn
 refine ⟨by simp [Oper.about, ho], ?_⟩
 rw [Oper.semAt_plain F _ _ (by rw [ho]; intro c hc'; cases hc')]
 unfold execOp
 simp only [ho, hx, Sem.run_bind, run_loadAt_mid w b off ty cs d hc hu hd hi, Result.andThen_ok, Sem.run_pure]
 exact hK _ _ h
theorem wpListIn_load_box (hg : o.guard = none) (ty : TypeId) (x : Operand) (ho : o.op = .load ty x) (B : Nat) (hx : a.eval x = .pointer (some ⟨B, 0, none⟩)) (T : TypeId) (cells : Array Value) (hb : Box w B T cells)
  (d : TypeDesc) (hu : P.underlying ty = some d) (hd : d.isRow = true) (hi : (P.info? ty).map (·.size) = some cells.size)
  (h : wpListIn F n P ops Q rest (a.put o.dst (.agg cells)) w) : wpListIn F n P ops Q (o :: rest) a w :=
 wpListIn_load_mid hg ty x ho B 0 hx cells.toList d hb.range hu hd (by simpa using hi) (by simpa using h)
theorem wpListIn_store_box (hg : o.guard = none) (ty : TypeId) (x y : Operand) (ho : o.op = .store ty x y) (B off : Nat) (T : TypeId) (old cells new : Array Value) (hx : a.eval x = .pointer (some ⟨B, off, none⟩)) (hy : a.eval y = .agg cells)
  (hb : Box w B T old) (hi : (P.info? ty).map (·.size) = some cells.size) (hold : off + cells.size ≤ old.size) (h1 : cells.all (·.oneCell') = true)
  (hn : old.toList.take off ++ cells.toList ++ old.toList.drop (off + cells.size) = new.toList)
  (h : ∀ W, KeepBut B w.heap.size w W → KeepsOthers w W → Box W B T new → wpListIn F n P ops Q rest (a.put o.dst undef) W) : wpListIn F n P ops Q (o :: rest) a w := by
 refine wpListIn_plain hg fun K hK => ?_
 unfold Oper.wpIn
 refine ⟨by simp [Oper.about, ho], ?_⟩
 rw [Oper.semAt_plain F _ _ (by rw [ho]; intro c hc'; cases hc')]
 unfold execOp
 simp only [ho, hx, hy, Sem.run_bind, run_storeAt_mid w B off ty cells (hb.there off cells.size hold) hi h1, Result.andThen_ok, Sem.run_pure]
 refine hK _ _ (h _ ((KeepBut.refl _ _).setCells _ _ _) (setCells_keeps (S := fun V => KeepsOthers w V) (B := B) (fun V i u hV => hV.trans (.setCell _ _ _)) _ _ _ (.refl _)) ?_)
 have := Box.setCells cells.toList off w old hb (by simpa using hold)
 simpa [hn] using this
end
theorem whole_new {old cells : Array Value} (h : old.size = cells.size) : old.toList.take 0 ++ cells.toList ++ old.toList.drop (0 + cells.size) = cells.toList := by
 simp [← h]
end
end Go.Mono
namespace Go.Proofs.YtdgodcgdlfjpaaaGreatDoor
open Go.RowKit Go.Mono
theorem clone_any (p : Option Addr) (n c1 : Nat) (f : Nat → Int) (w : World) (h1 : SlF w (.slice p n c1) n f) (hn : n ≤ 1000000) :
  Calls Tryz.prog 224 #[.slice p n c1] w fun e w' => ∃ v, e = .returned v ∧ OwnF w' w.heap.size v n f ∧ Below w.heap.size w w' := by
 have hq : ∀ (w : World), (binOp .eql 147 (.slice p n c1) (.slice none 0 0)).run Tryz.prog w = .ok (.bool p.isNone) w := fun w => Lib.run_eql_slice_nil w _ _ p n c1 0 0 Tryz.underlying147
 cases p with
 | none =>
   obtain ⟨rfl, rfl⟩ : n = 0 ∧ c1 = 0 := by
    rcases h1 with ⟨h, rfl⟩ | ⟨b, off, cap, cs, fr, h, _⟩
    ·simp at h; exact ⟨rfl, h⟩
    ·simp at h
   go_enter Tryz.func224, Tryz.ntmps224
   go_wp2
   go_ret
   exact ⟨_, rfl, OwnF.nil _ _ _, Below.refl _ _⟩
 | some a =>
   have ho : OwnF (w.alloc (.cells #[] 3)) w.heap.size (.slice (some ⟨w.heap.size, 0, none⟩) 0 0) 0 (fun _ => 0) := World.ownsRow_lit w #[] 0 (Nat.le_refl _) (by decide) rfl
   have hx : Below w.heap.size w (w.alloc (.cells #[] 3)) := (Below.refl _ _).alloc (Nat.le_refl _) _
   have hs := h1.ext (.of_below hx)
   clear h1
   go_enter Tryz.func224, Tryz.ntmps224
   go_wp2_with (at_builtin; refine wpList_append_ints _ rfl _ _ 147 rfl Tryz.underlying147 infoInt w.heap.size _ 0 (fun _ => 0) rfl ho _ n c1 f rfl hs (by omega) (by simp) ?_; intro v' w1 ho' hg)
   go_ret
   refine ⟨_, rfl, ?_, hx.grown hg (by simp) (by rintro k ⟨⟩; exact Nat.le_refl _)⟩
   have := ho'.congr (f' := f) (fun i _ => by simp)
   rwa [Nat.zero_add] at this
theorem minus_any (p q : Option Addr) (n m c1 c2 : Nat) (f g : Nat → Int) (w : World) (h1 : SlF w (.slice p n c1) n f) (h2 : SlF w (.slice q m c2) m g)
  (f0 : ∀ i, i < n → 0 ≤ f i) (f1 : ∀ i, i < n → f i < 1000000000) (g0 : ∀ i, i < m → 0 ≤ g i) (g1 : ∀ i, i < m → g i < 1000000000) (hmn : m ≤ n) (hn : n ≤ 1000000) (hle : vf g m ≤ vf f n) :
  Calls Tryz.prog 159 #[.slice p n c1, .slice q m c2] w fun e w' => ∃ p k c h, e = .returned (.slice p k c) ∧ SlF w' (.slice p k c) k h ∧ Digs h k ∧ vf h k = vf f n - vf g m ∧ k ≤ n ∧ Below w.heap.size w w' := by
 obtain ⟨hc2, hn2, hx2⟩ := h2.opens
 clear h2
 by_cases h0 : n = 0
 ·subst h0
  obtain rfl : m = 0 := by omega
  go_enter Tryz.func159, Tryz.ntmps159
  go_wp2_with (go_at_call 224; refine (clone_any _ _ _ f _ h1 (by omega)).mono ?_; rintro e w' ⟨v, rfl, ho, hb⟩)
  obtain ⟨p2, c3, rfl⟩ := ho.shape
  have hs := ho.sl (by omega)
  go_wp2_with fail
  go_loopw [13] (fun a wr => a = .int .i64 0 ∧ wr = w') (fun _ _ => 0)
  case atStart => exact ⟨rfl, rfl⟩
  case round =>
   obtain ⟨rfl, rfl⟩ := hrel
   go_wp2
   go_loopw [28] (fun a wr' => a = .int .i64 0 ∧ wr' = wr) (fun _ _ => 0)
   case atStart => exact ⟨rfl, rfl⟩
   case round =>
    obtain ⟨rfl, rfl⟩ := hrel
    go_wp2_with (go_at_call 223; refine (trim_any _ _ _ f _ hs).mono ?_; rintro e w' ⟨rfl, rfl⟩)
    go_ret
    exact ⟨p2, 0, c3, f, rfl, hs, ⟨fun i hi => by omega, fun i hi => by omega, fun hi => by omega⟩, by simp [vf], Nat.le_refl _, hb⟩
 ·go_enter Tryz.func159, Tryz.ntmps159
  go_wp2_with (go_at_call 224; refine (clone_any _ _ _ f _ h1 (by omega)).mono ?_; rintro e w' ⟨v, rfl, ho, hb⟩)
  rcases ho.open with ⟨_, h⟩ | ⟨r, cap, rfl, hB, hcap, hr⟩
  ·exact absurd h h0
  clear ho h1
  have HP := MinusInv.start hmn f0 f1 g0 g1
  have hS : 0 ≤ vf f n - vf g m := by omega
  go_wp2_with fail
  go_loopw [13] (fun a wr => ∃ k : Nat, k ≤ m ∧ a = .int .i64 k ∧ Below w.heap.size w wr ∧ RowF wr r n (fun j => f j - (if j < k then g j else 0))) (fun a _ => m - (intOf a).toNat)
  case atStart => exact ⟨0, Nat.zero_le _, rfl, hb, hr.congr fun i _ => by simp⟩
  case round =>
   clear hb hr
   obtain ⟨k, hk, rfl, hb, hr⟩ := hrel
   by_cases hlt : k < m
   ·obtain ⟨b, off, rfl, hbs, hcell⟩ := hx2 (by omega)
    have a1 := (hb.cell (p := ⟨b, off + k, none⟩) hbs).trans (hcell k hlt)
    have a2 := hr.cell k (by omega)
    rw [if_neg (by omega), Int.sub_zero] at a2
    have a3 := hr.frozen k
    have d1 := f0 k (by omega)
    have d2 := f1 k (by omega)
    have d3 := g0 k hlt
    have d4 := g1 k hlt
    clear hcell hx2 f0 f1 g0 g1 HP
    go_wp2
    go_roundw
    case rel =>
     refine ⟨k + 1, by omega, by go_num, hb.setCell (p := ⟨r, k, none⟩) hB _, (hr.set k _).congr fun i hi => ?_⟩
     by_cases e : i = k
     ·subst e; simp
     ·rw [if_neg e]; simp only [show i < k + 1 ↔ i < k by omega]
    case measure => simp [intOf]; omega
   ·obtain rfl : k = m := by omega
    clear hlt hk hx2
    clear f0 f1 g0 g1
    go_wp2
    go_loopw [28] (fun a wr => ∃ i : Nat, i ≤ n ∧ a = .int .i64 i ∧ Below w.heap.size w wr ∧ ∃ h, RowF wr r n h ∧ MinusInv n (vf f n - vf g k) i h) (fun a _ => n - (intOf a).toNat)
    case atStart => exact ⟨0, Nat.zero_le _, rfl, hb, _, hr, HP⟩
    case round =>
     clear hb hr HP
     obtain ⟨i, hi, rfl, hb, h, hr, HP⟩ := hrel
     by_cases hlt : i < n
     ·obtain ⟨q1, q2, q3⟩ := HP.bd hlt
      have a2 := hr.cell i (by omega)
      have a3 := hr.frozen i
      by_cases hge : h i < 0
      ·have hl := HP.last hS hlt hge
       obtain ⟨q4, q5⟩ := q3 hl
       have a4 := hr.cell (i + 1) (by omega)
       have a5 := hr.frozen (i + 1)
       have r1 := hr.set i (h i + 1000000000)
       have a6 := r1.cell (i + 1) (by omega)
       have a7 := r1.frozen (i + 1)
       simp only [show ¬ i + 1 = i by omega, if_false] at a6
       clear q3
       go_wp2
       go_roundw
       case rel => exact ⟨i + 1, by omega, by go_num, (hb.setCell (p := ⟨r, i, none⟩) hB _).setCell (p := ⟨r, i + 1, none⟩) hB _, _, r1.set (i + 1) (h (i + 1) - 1), HP.carry hl hge⟩
       case measure => simp [intOf]; omega
      ·have hge' : 0 ≤ h i := by omega
       clear q3
       go_wp2
       go_roundw
       case rel => exact ⟨i + 1, by omega, by go_num, hb, _, hr, HP.plain hlt hge'⟩
       case measure => simp [intOf]; omega
     ·obtain rfl : i = n := by omega
      clear hlt hi
      have hs := hr.slice (by omega) i (Nat.le_refl _) cap hcap
      obtain ⟨c1', c2'⟩ := HP.done
      have hle := trimN_le h i
      replace c2' := Lib.hid c2'
      go_wp2_with (go_at_call 223; refine (trim_any _ _ _ h _ hs).mono ?_; rintro e w' ⟨rfl, rfl⟩)
      go_ret
      exact ⟨_, _, _, h, rfl, hs.take _ hle, c1', c2'.out, hle, hb⟩
theorem minus_sz (m1 m2 : Nat) (w wf : World) (hx : Ext wf w) (p q : Option Addr) (n m c1 c2 : Nat) (N M : Int) (h1 : Sz m1 wf (.slice p n c1) N) (h2 : Sz m2 wf (.slice q m c2) M) (hm1 : m1 ≤ 1000000) (hle : M ≤ N) :
  Calls Tryz.prog 159 #[.slice p n c1, .slice q m c2] w fun e w' => ∃ p k c, e = .returned (.slice p k c) ∧ Sz m1 w' (.slice p k c) (N - M) ∧ Below w.heap.size w w' := by
 obtain ⟨n, f, s1, d1, rfl, l1, rfl⟩ := (h1.ext hx).sl
 obtain ⟨m, g, s2, d2, rfl, l2, rfl⟩ := (h2.ext hx).sl
 refine (minus_any p q n m c1 c2 f g w s1 s2 d1.lo d1.hi d2.lo d2.hi (d2.len_le d1 hle) (by omega) hle).mono ?_
 rintro e w' ⟨p, k, c, h, rfl, hs, hd, hv, hk, hb⟩
 exact ⟨_, _, _, rfl, ⟨k, h, hs, hd, hv, by omega⟩, hb⟩
end Go.Proofs.YtdgodcgdlfjpaaaGreatDoor
namespace Go.Mono
open Go.RowKit
theorem wpList_load_midG {P : Program} {ops : Array Oper} {rest : List Oper} {op : Oper} {a : Act} {w : World} {Q : Exit → Act → World → Prop} (hw : Region.wanted op (yielded ops a.tmps) = true) (ty : TypeId) (x : Operand) (ho : op.op = .load ty x)
  (b o : Nat) (hx : a.eval x = .pointer (some ⟨b, o, none⟩)) (cs : List Value) (d : TypeDesc) (hc : w.rangeAt b o cs)
  (hu : P.underlying ty = some d) (hd : d.isRow = true) (hi : (P.info? ty).map (·.size) = some cs.length)
  (h : wpList P ops Q rest (a.put op.dst (.agg cs.toArray)) w) : wpList P ops Q (op :: rest) a w :=
 wpList_step fun K hK => by
  simp only [hw, if_true]
  exact wp_load_mid ty x ho b o hx cs d hc hu hd hi (hK _ _ h)
theorem Box.results2 {P : Program} {w : World} {B B1 : Nat} {T T1 : TypeId} {cs : Array Value} {kd : IntKind} {z : Int} (b : Box w B T cs) (b1 : Box w B1 T1 #[.int kd z]) {fn : Func} {p p1 : Tmp} {ty ty1 : TypeId} (h : fn.results = #[.cell p ty, .cell p1 ty1]) (tmps : Array Value) (d : TypeDesc)
  (ht : tmps.getD p undef = .pointer (some ⟨B, 0, none⟩)) (ht1 : tmps.getD p1 undef = .pointer (some ⟨B1, 0, none⟩)) (hu : P.underlying ty = some d) (hd : d.isRow = true) (hi : (P.info? ty).map (·.size) = some cs.size)
  (hl : (loadVar ty1 ⟨B1, 0, none⟩).run P w = .ok (.int kd z) w) : (Go.results fn tmps).run P w = .ok (.tuple #[.agg cs, .int kd z]) w := by
 have hp' : tmps[p]?.getD undef = .pointer (some ⟨B, 0, none⟩) := by simpa using ht
 have hp1 : tmps[p1]?.getD undef = .pointer (some ⟨B1, 0, none⟩) := by simpa using ht1
 have hld := run_loadVar_row (P := P) w B T ty cs (0, 0) d b.blk hu (by cases d <;> simp_all [TypeDesc.isRow]) hi
 simp [Go.results, h, hp', hp1, asAddr, hld, hl]
theorem Box.resultsT {P : Program} {w : World} {B : Nat} {T : TypeId} {cs : Array Value} (b : Box w B T cs) {fn : Func} {p p1 : Tmp} {ty : TypeId} (h : fn.results = #[.cell p ty, .tmp p1]) (tmps : Array Value) (d : TypeDesc)
  (ht : tmps.getD p undef = .pointer (some ⟨B, 0, none⟩)) (hu : P.underlying ty = some d) (hd : d.isRow = true) (hi : (P.info? ty).map (·.size) = some cs.size) : (Go.results fn tmps).run P w = .ok (.tuple #[.agg cs, tmps.getD p1 undef]) w := by
 have hp' : tmps[p]?.getD undef = .pointer (some ⟨B, 0, none⟩) := by simpa using ht
 have hld := run_loadVar_row (P := P) w B T ty cs (0, 0) d b.blk hu (by cases d <;> simp_all [TypeDesc.isRow]) hi
 simp [Go.results, h, hp', asAddr, hld]
def quot0 : Array Value := #[.bool false, .slice none 0 0, .bool false, .slice none 0 0]
end Go.Mono
