/- Contracts of the program's fractions, lenses and rays, and a verified evaluator of the model. Part 2 of 30. No condition beside the row. -/
import Derived.Deep.RegionHeld3
import Derived.RangeFuncNested
import Derived.RangeFuncBound
import Derived.RangeFuncCalls
import Derived.RangeFuncLeaves
import Derived.Shelf.Abstract
import Derived.Shelf.RegionOpen
import Derived.WalkKit
import Derived.OwnWalkIn
import Derived.TacticsInMore
import Derived.LoopNIn
import Derived.LoopIn
import Derived.Deep.MidRow
import Derived.Laws.Rows
import Derived.Laws.ResultCell
import Derived.Test.YtcgfdibagldafaaGreatDoorA01
set_option linter.unusedVariables false
set_option linter.unusedSimpArgs false
set_option maxRecDepth 100000
set_option maxHeartbeats 4000000
namespace Go.Mono
open Go.RowKit
section
section
variable {P : Program} {ops : Array Oper} {Q : Exit → Act → World → Prop} {md : Region.Mode} {S : World → Prop}
theorem take_want (i : Nat) (d : Option Tmp) {oi : Oper} {v : Value} {fuel : Nat} {listed : Array Bool} {a : Act} {w : World} (hi : ops[i]? = some oi)
  (hs : Region.noSelect ops = true) (hf : Region.free md ops listed i = true) (hr : (Region.ready md ops listed).contains i = true) (hd : oi.dst = d)
  (hQ : ∀ c a w, Q (.panic c) (a.put d v) w → Q (.panic c) a w) (hw : Region.wanted oi (yielded ops a.tmps) = true) (hv : ∀ w, S w → (execOp a.eval oi).run P w = .ok (.value v) w) (hS : S w)
  (h : wpAnyH P md ops Q S fuel (listed.setIfInBounds i true) (a.put d v) w) : wpAnyH P md ops Q S (fuel + 1) listed a w := by
 subst hd
 exact wpAnyH_take hi hs hf hr hQ (Or.inl ⟨hw, hv⟩) hS h
theorem take_skip (i : Nat) (d : Option Tmp) {oi : Oper} {fuel : Nat} {listed : Array Bool} {a : Act} {w : World} (hi : ops[i]? = some oi)
  (hs : Region.noSelect ops = true) (hf : Region.free md ops listed i = true) (hr : (Region.ready md ops listed).contains i = true) (hd : oi.dst = d)
  (hQ : ∀ c a w, Q (.panic c) (a.put d undef) w → Q (.panic c) a w) (hw : Region.wanted oi (yielded ops a.tmps) = false) (hS : S w)
  (h : wpAnyH P md ops Q S fuel (listed.setIfInBounds i true) (a.put d undef) w) : wpAnyH P md ops Q S (fuel + 1) listed a w := by
 subst hd
 exact wpAnyH_take hi hs hf hr hQ (Or.inr ⟨hw, rfl⟩) hS h
theorem tk (i : Nat) (d : Option Tmp) {oi : Oper} {v : Value} {fuel : Nat} {listed : Array Bool} {a a' : Act} {w : World}
  (h : wpAnyH P md ops Q S fuel (listed.setIfInBounds i true) a' w) (hi : ops[i]? = some oi := by rfl)
  (hs : Region.noSelect ops = true := by as_aux_lemma => kernel_rfl) (hf : Region.free md ops listed i = true := by as_aux_lemma => kernel_rfl) (hr : (Region.ready md ops listed).contains i = true := by as_aux_lemma => kernel_rfl) (hd : oi.dst = d := by rfl)
  (hw : Region.wanted oi (yielded ops a.tmps) = true := by rfl) (hv : ∀ w, S w → (execOp a.eval oi).run P w = .ok (.value v) w := by (intro w hSw; (try dsimp only at hSw); go_simp; all_goals with_reducible rfl))
  (hQ : ∀ c a w, Q (.panic c) (a.put d v) w → Q (.panic c) a w := by exact (fun _ _ _ h => h)) (hS : S w := by assumption)
  (ha : a.put d v = a' := by (simp only [Act.put, List.setIfInBounds_toArray, List.set_cons_zero, List.set_cons_succ]; rfl)) : wpAnyH P md ops Q S (fuel + 1) listed a w := by
 subst ha
 exact take_want i d hi hs hf hr hd hQ hw hv hS h
theorem tl (i : Nat) (d : Option Tmp) {oi : Oper} (hi : ops[i]? = some oi) (v : Value) {fuel : Nat} {listed : Array Bool} {a a' : Act} {w : World}
  (hv : ∀ w, S w → (execOp a.eval oi).run P w = .ok (.value v) w) (h : wpAnyH P md ops Q S fuel (listed.setIfInBounds i true) a' w)
  (hs : Region.noSelect ops = true := by as_aux_lemma => kernel_rfl) (hf : Region.free md ops listed i = true := by as_aux_lemma => kernel_rfl) (hr : (Region.ready md ops listed).contains i = true := by as_aux_lemma => kernel_rfl) (hd : oi.dst = d := by rfl)
  (hw : Region.wanted oi (yielded ops a.tmps) = true := by rfl)
  (hQ : ∀ c a w, Q (.panic c) (a.put d v) w → Q (.panic c) a w := by exact (fun _ _ _ h => h)) (hS : S w := by assumption)
  (ha : a.put d v = a' := by (simp only [Act.put, List.setIfInBounds_toArray, List.set_cons_zero, List.set_cons_succ]; rfl)) : wpAnyH P md ops Q S (fuel + 1) listed a w := by
 subst ha
 exact take_want i d hi hs hf hr hd hQ hw hv hS h
theorem ts (i : Nat) (d : Option Tmp) {oi : Oper} {fuel : Nat} {listed : Array Bool} {a a' : Act} {w : World}
  (h : wpAnyH P md ops Q S fuel (listed.setIfInBounds i true) a' w) (hi : ops[i]? = some oi := by rfl)
  (hs : Region.noSelect ops = true := by as_aux_lemma => kernel_rfl) (hf : Region.free md ops listed i = true := by as_aux_lemma => kernel_rfl) (hr : (Region.ready md ops listed).contains i = true := by as_aux_lemma => kernel_rfl) (hd : oi.dst = d := by rfl)
  (hw : Region.wanted oi (yielded ops a.tmps) = false := by rfl)
  (hQ : ∀ c a w, Q (.panic c) (a.put d undef) w → Q (.panic c) a w := by exact (fun _ _ _ h => h)) (hS : S w := by assumption)
  (ha : a.put d undef = a' := by (simp only [Act.put, List.setIfInBounds_toArray, List.set_cons_zero, List.set_cons_succ]; rfl)) : wpAnyH P md ops Q S (fuel + 1) listed a w := by
 subst ha
 exact take_skip i d hi hs hf hr hd hQ hw hS h
theorem st (i : Nat) {o : Oper} {fuel : Nat} {listed : Array Bool} {a : Act} {w : World}
  (h : ∀ K' : Act → World → Prop, Shut (∀ a w, S w → (S w → wpAnyH P md ops Q S fuel (listed.setIfInBounds i true) a w) → K' a w) → if Region.wanted o (yielded ops a.tmps) = true then Oper.wp P o a w K' Q else K' (a.put o.dst undef) w)
  (ho : ops[i]? = some o := by rfl) (hr : Region.ready md ops listed = [i] := by as_aux_lemma => kernel_rfl) : wpAnyH P md ops Q S (fuel + 1) listed a w :=
 wpAnyH_ready hr (by simp) (AllReadyH.cons ho h AllReadyH.nil)
theorem kp {K' X : Act → World → Prop} (hK : Shut (∀ a w, S w → (S w → X a w) → K' a w)) {a a' : Act} {w : World} (hS : S w) (h : S w → X a' w)
  (ha : a = a' := by first | (simp only [Act.put, List.setIfInBounds_toArray, List.set_cons_zero, List.set_cons_succ]; rfl) | rfl) : K' a w := by
 subst ha
 exact hK.out _ _ hS h
end
end
abbrev win (h : Nat → Int) (j : Nat) : Nat → Int := fun i => h (j + i)
structure LessInv (R j n : Nat) (h0 g : Nat → Int) (d : Int) (i : Nat) (h : Nat → Int) (b : Int) : Prop where
 lo : ∀ k, k < R → 0 ≤ h k
 hi : ∀ k, k < R → h k < 1000000000
 out : ∀ k, k < j ∨ j + i ≤ k → h k = h0 k
 b0 : 0 ≤ b
 b1 : b ≤ 1000000000
 val : vf (win h j) (n + 1) - b * pw i = vf (win h0 j) (n + 1) - d * vf g i
theorem win_set (h : Nat → Int) (j i k : Nat) (x : Int) : vf (win (fun y => if y = j + i then x else h y) j) k = vf (win h j) k + (if i < k then (x - h (j + i)) * pw i else 0) := by
 rw [← vf_set (win h j) i x k]
 refine vf_congr fun y _ => ?_
 simp only [win]
 by_cases e : y = i
 ·subst e; simp
 ·rw [if_neg (by omega), if_neg e]
theorem LessInv.start {R j n : Nat} {h0 g : Nat → Int} {d : Int} (lo : ∀ k, k < R → 0 ≤ h0 k) (hi : ∀ k, k < R → h0 k < 1000000000) : LessInv R j n h0 g d 0 h0 0 :=
 ⟨lo, hi, fun _ _ => rfl, by simp, by simp, by simp [vf]⟩
theorem LessInv.step {R j n : Nat} {h0 g : Nat → Int} {d : Int} {i : Nat} {h : Nat → Int} {b : Int} (H : LessInv R j n h0 g d i h b) (hi : i < n)
  (g0 : 0 ≤ g i) (g1 : g i < 1000000000) (d0 : 0 ≤ d) (d1 : d < 1000000000) {t e : Int} (ht : 0 ≤ t) (ht2 : t ≤ 2)
  (he : e = h (j + i) - (g i * d) % 1000000000 - b + t * 1000000000) (e0 : 0 ≤ e) (e1 : e < 1000000000) :
  LessInv R j n h0 g d (i + 1) (fun k => if k = j + i then e else h k) ((g i * d) / 1000000000 + t) := by
 obtain ⟨m0, m1⟩ := mul_bd g0 g1 d0 d1
 have b0 := H.b0
 have b1 := H.b1
 have hv := H.val
 generalize hx : g i * d = x at *
 have hq : x = 1000000000 * (x / 1000000000) + x % 1000000000 := (Int.mul_ediv_add_emod x 1000000000).symm
 refine ⟨fun k hk => ?_, fun k hk => ?_, fun k hk => ?_, by omega, by omega, ?_⟩
 ·show 0 ≤ if k = j + i then _ else _
  split
  ·omega
  ·exact H.lo k hk
 ·show (if k = j + i then _ else _) < _
  split
  ·omega
  ·exact H.hi k hk
 ·show (if k = j + i then _ else _) = _
  rw [if_neg (by omega)]; exact H.out k (by omega)
 ·rw [win_set, if_pos (by omega), vf_succ g i, pw_succ]
  generalize x / 1000000000 = q at hq ⊢
  generalize x % 1000000000 = r at hq he
  generalize vf (win h j) (n + 1) = V at hv ⊢
  subst he
  grind
theorem LessInv.last {R j n : Nat} {h0 g : Nat → Int} {d : Int} {h : Nat → Int} {b : Int} (H : LessInv R j n h0 g d n h b) {t e : Int} (ht : t = 0 ∨ t = 1)
  (he : e = h (j + n) - b + t * 1000000000) (e0 : 0 ≤ e) (e1 : e < 1000000000) :
  vf (win (fun k => if k = j + n then e else h k) j) (n + 1) = vf (win h0 j) (n + 1) - d * vf g n + t * pw (n + 1) ∧ (∀ k, k < R → 0 ≤ (if k = j + n then e else h k)) ∧ (∀ k, k < R → (if k = j + n then e else h k) < 1000000000) ∧
   (∀ k, k < j ∨ j + n < k → (if k = j + n then e else h k) = h0 k) := by
 have hv := H.val
 refine ⟨?_, fun k hk => ?_, fun k hk => ?_, fun k hk => ?_⟩
 ·rw [win_set, if_pos (by omega), pw_succ]
  generalize vf (win h j) (n + 1) = V at hv ⊢
  subst he
  grind
 ·split
  ·omega
  ·exact H.lo k hk
 ·split
  ·omega
  ·exact H.hi k hk
 ·rw [if_neg (by omega)]; exact H.out k (by omega)
structure MoreInv (R j n : Nat) (h0 g : Nat → Int) (i : Nat) (h : Nat → Int) (c : Int) : Prop where
 lo : ∀ k, k < R → 0 ≤ h k
 hi : ∀ k, k < R → h k < 1000000000
 out : ∀ k, k < j ∨ j + i ≤ k → h k = h0 k
 c0 : 0 ≤ c
 c1 : c ≤ 1
 val : vf (win h j) (n + 1) + c * pw i = vf (win h0 j) (n + 1) + vf g i
theorem MoreInv.start {R j n : Nat} {h0 g : Nat → Int} (lo : ∀ k, k < R → 0 ≤ h0 k) (hi : ∀ k, k < R → h0 k < 1000000000) : MoreInv R j n h0 g 0 h0 0 :=
 ⟨lo, hi, fun _ _ => rfl, by simp, by simp, by simp [vf]⟩
theorem MoreInv.step {R j n : Nat} {h0 g : Nat → Int} {i : Nat} {h : Nat → Int} {c : Int} (H : MoreInv R j n h0 g i h c) (hi : i < n) (hR : j + n < R)
  (g0 : 0 ≤ g i) (g1 : g i < 1000000000) :
  MoreInv R j n h0 g (i + 1) (fun k => if k = j + i then (h (j + i) + g i + c) % 1000000000 else h k) ((h (j + i) + g i + c) / 1000000000) := by
 have c0 := H.c0
 have c1 := H.c1
 have hv := H.val
 have a0 := H.lo (j + i) (by omega)
 have a1 := H.hi (j + i) (by omega)
 generalize hx : h (j + i) + g i + c = x
 have hq : x = 1000000000 * (x / 1000000000) + x % 1000000000 := (Int.mul_ediv_add_emod x 1000000000).symm
 refine ⟨fun k hk => ?_, fun k hk => ?_, fun k hk => ?_, by omega, by omega, ?_⟩
 ·show 0 ≤ if k = j + i then _ else _
  split
  ·omega
  ·exact H.lo k hk
 ·show (if k = j + i then _ else _) < _
  split
  ·omega
  ·exact H.hi k hk
 ·show (if k = j + i then _ else _) = _
  rw [if_neg (by omega)]; exact H.out k (by omega)
 ·rw [win_set, if_pos (by omega), vf_succ g i, pw_succ]
  generalize x / 1000000000 = q at hq ⊢
  generalize x % 1000000000 = r at hq ⊢
  generalize vf (win h j) (n + 1) = V at hv ⊢
  grind
theorem MoreInv.last {R j n : Nat} {h0 g : Nat → Int} {h : Nat → Int} {c : Int} (H : MoreInv R j n h0 g n h c) (hR : j + n < R) :
  ∃ o : Int, vf (win (fun k => if k = j + n then (h (j + n) + c) % 1000000000 else h k) j) (n + 1) = vf (win h0 j) (n + 1) + vf g n - o * pw (n + 1) ∧ (∀ k, k < R → 0 ≤ (if k = j + n then (h (j + n) + c) % 1000000000 else h k)) ∧ (∀ k, k < R → (if k = j + n then (h (j + n) + c) % 1000000000 else h k) < 1000000000) ∧
    (∀ k, k < j ∨ j + n < k → (if k = j + n then (h (j + n) + c) % 1000000000 else h k) = h0 k) := by
 have c0 := H.c0
 have c1 := H.c1
 have hv := H.val
 generalize hx : h (j + n) + c = x
 have hq : x = 1000000000 * (x / 1000000000) + x % 1000000000 := (Int.mul_ediv_add_emod x 1000000000).symm
 refine ⟨x / 1000000000, ?_, fun k hk => ?_, fun k hk => ?_, fun k hk => ?_⟩
 ·rw [win_set, if_pos (by omega), pw_succ]
  generalize x / 1000000000 = q at hq ⊢
  generalize x % 1000000000 = r at hq ⊢
  generalize vf (win h j) (n + 1) = V at hv ⊢
  grind
 ·split
  ·omega
  ·exact H.lo k hk
 ·split
  ·omega
  ·exact H.hi k hk
 ·rw [if_neg (by omega)]; exact H.out k (by omega)
theorem place_done {n : Nat} {U V d W : Int} {o t : Int} (hV0 : 0 < V) (hVn : V ≤ pw n) (hd : U < (d + 1) * V) (hd2 : d * V < U + V) (ht : t = 0 ∨ t = 1)
  (w0 : 0 ≤ U - d * V + t * pw (n + 1)) (w1 : U - d * V + t * pw (n + 1) < pw (n + 1)) (hW : t = 0 → W = U - d * V) (hW1 : t = 1 → W = U - d * V + pw (n + 1) + V - o * pw (n + 1)) (W0 : 0 ≤ W) (W1 : W < pw (n + 1)) :
  0 ≤ W ∧ W < V ∧ U = (d - t) * V + W := by
 have hp := pw_succ n
 have hp0 := pw_pos n
 have e1 : (d + 1) * V = d * V + V := by grind
 rcases ht with rfl | rfl
 ·have := hW rfl
  rw [Int.sub_zero]
  omega
 ·have h1 := hW1 rfl
  have e2 : (d - 1) * V = d * V - V := by grind
  have h2 : U - d * V < 0 := by omega
  have h3 : W - (U - d * V + V) = (1 - o) * pw (n + 1) := by grind
  have h4 : o = 1 := by
   rcases Int.lt_trichotomy o 1 with h | h | h
   ·have := mle (show 1 ≤ 1 - o by omega) (Int.le_of_lt (pw_pos (n + 1))); omega
   ·exact h
   ·have := mle (show 1 - o ≤ -1 by omega) (Int.le_of_lt (pw_pos (n + 1))); omega
  subst h4
  omega
theorem OwnF.low {w : World} {base : Nat} {v : Value} {n : Nat} {f : Nat → Int} (h : OwnF w base v n f) : ∀ k, v.ownBlock = some k → base ≤ k := by
 obtain ⟨hl, ⟨rfl, _⟩ | ⟨g, cap, cur, rfl, hb, _⟩⟩ := h
 ·intro k hk; simp [Value.ownBlock] at hk
 ·intro k hk; simp only [Value.ownBlock, Option.some.injEq] at hk; omega
theorem OwnF.below {w w' : World} {base : Nat} {v : Value} {n : Nat} {f : Nat → Int} (h : OwnF w base v n f) (hB : Below w.heap.size w w') : OwnF w' base v n f := by
 obtain ⟨hl, h | ⟨g, cap, cur, hv, hb, hh, hr⟩⟩ := h
 ·exact ⟨hl, .inl h⟩
 ·exact ⟨hl, .inr ⟨g, cap, cur, hv, hb, (hB.block g (lt_of_some hh)).trans hh, hr⟩⟩
theorem OwnF.set {w : World} {base : Nat} {v : Value} {n : Nat} {f : Nat → Int} (h : OwnF w base v n f) (a : Addr) (u : Value) (ha : a.block < base) : OwnF (w.setCell a u) base v n f := by
 obtain ⟨hl, h | ⟨g, cap, cur, hv, hb, hh, hr⟩⟩ := h
 ·exact ⟨hl, .inl h⟩
 ·exact ⟨hl, .inr ⟨g, cap, cur, hv, hb, (Below.heap_setCell w a u g (by omega)).trans hh, hr⟩⟩
theorem Box.low {w w' : World} {B N : Nat} {T : TypeId} {cs : Array Value} (h : Box w B T cs) (hb : Below N w w') (hB : B < N) : Box w' B T cs := ⟨(hb.block B hB).trans h.blk⟩
theorem slF_lit (w : World) (x y : Int) (h : x = y) : SlF (w.alloc (.cells #[.int .i64 x] 3)) (.slice (some ⟨w.heap.size, 0, none⟩) 1 1) 1 (fun _ => y) := by
 subst h
 refine .inr ⟨_, _, _, #[.int .i64 x], (0, 0), rfl, by omega, by omega, (Box.new w 3 #[.int .i64 x]).blk, fun i hi => ?_⟩
 obtain rfl : i = 0 := by omega
 rfl
structure OfInv (z r : Int) (k : Nat) (f : Nat → Int) : Prop where
 lo : ∀ i, i < k → 0 ≤ f i
 hi : ∀ i, i < k → f i < 1000000000
 val : vf f k + pw k * r.natAbs = z.natAbs
 top : r = 0 → 0 < k → f (k - 1) ≠ 0
theorem OfInv.start (z : Int) : OfInv z z 0 (fun _ => 0) := ⟨fun i hi => by omega, fun i hi => by omega, by simp [vf, pw], fun _ h => by omega⟩
theorem OfInv.small {z r : Int} {k : Nat} {f : Nat → Int} (h : OfInv z r k f) (h1 : -9223372036854775808 ≤ z) (h2 : z ≤ 9223372036854775807) (h0 : r ≠ 0) : k ≤ 2 := by
 have hv := vf_nonneg h.lo
 have hval := h.val
 have hp := pw_pos k
 by_cases hk : k ≤ 2
 ·exact hk
 ·have h3 := pw_mono (i := 3) (k := k) (by omega)
  have e3 : pw 3 = 1000000000000000000000000000 := by decide
  have : pw k * 1 ≤ pw k * r.natAbs := Int.mul_le_mul_of_nonneg_left (by omega) (by omega)
  omega
theorem OfInv.bound {z r : Int} {k : Nat} {f : Nat → Int} (h : OfInv z r k f) (h1 : -9223372036854775808 ≤ z) (h2 : z ≤ 9223372036854775807) : r.natAbs ≤ 9223372036854775808 := by
 have hv := vf_nonneg h.lo
 have hval := h.val
 have hp := pw_pos k
 have : 1 * (r.natAbs : Int) ≤ pw k * r.natAbs := Int.mul_le_mul_of_nonneg_right (by omega) (by omega)
 omega
theorem OfInv.step {z r : Int} {k : Nat} {f : Nat → Int} (h : OfInv z r k f) (h0 : r ≠ 0) : OfInv z (r.tdiv 1000000000) (k + 1) (fun i => if i < k then f i else ((r.tmod 1000000000).natAbs : Int)) := by
 have hm : ((r.tmod 1000000000).natAbs : Int) = r.natAbs % 1000000000 := by rw [Int.natAbs_tmod]; rfl
 have hd : ((r.tdiv 1000000000).natAbs : Int) = r.natAbs / 1000000000 := by rw [Int.natAbs_tdiv]; rfl
 refine ⟨?_, ?_, ?_, ?_⟩
 ·intro i hi
  by_cases hk : i < k
  ·rw [if_pos hk]; exact h.lo i hk
  ·rw [if_neg hk]; omega
 ·intro i hi
  by_cases hk : i < k
  ·rw [if_pos hk]; exact h.hi i hk
  ·rw [if_neg hk]; omega
 ·rw [vf_succ, pw_succ, if_neg (Nat.lt_irrefl k), vf_congr (g := f) (fun i hi => if_pos hi), ← h.val, hm, hd]
  have e : (r.natAbs : Int) = r.natAbs % 1000000000 + 1000000000 * (r.natAbs / 1000000000) := (Int.emod_add_mul_ediv _ _).symm
  generalize hA : ((r.natAbs : Int) % 1000000000) = A at e
  generalize hB : ((r.natAbs : Int) / 1000000000) = C at e
  rw [e]
  grind
 ·intro hz _
  simp only [Nat.add_sub_cancel, Nat.lt_irrefl, if_false]
  have : ((r.tdiv 1000000000).natAbs : Int) = 0 := by rw [hz]; rfl
  omega
def IterAll (F : Fence) (n : Nat) (P : Program) (g : Nat) (fi lb : Array Value) (m : Nat) (encs : Nat → Array Value) (Kp : World → Prop) : Prop :=
 ∀ (l : Nat) (J : Nat → World → Prop) (W : World), (∀ i V, J i V → Kp V) → (∀ i V V', J i V → Below V.heap.size V V' → J i V') →
   (∀ i V, J i V → i < m → YieldAt F (n - 1) P l (encs i) V fun e V' => e = .returned (.bool true) ∧ J (i + 1) V') →
   J 0 W → CallsIn F n P g (fi ++ #[.func (.yield l) #[] #[]] ++ lb) W fun e V => (∃ v, e = .returned v) ∧ J m V
theorem keepsOthers_of_below {W W' : World} (h : Below W.heap.size W W') : KeepsOthers W W' :=
 ⟨h.size, fun k _ hk _ => (h.block k (lt_of_some hk)).trans hk⟩
theorem below_putObj {w W : World} (h : Below w.heap.size w W) {l : Nat} (hl : w.heap.size ≤ l) (o : Obj) : Below w.heap.size w (W.putObj l o) :=
 h.grown (grownBy_putObj' W l o) h.size (fun k e => by cases e; exact hl)
theorem wpIn_range_all {F : Fence} {n : Nat} {P : Program} {g : Operand} {ps : Array Tmp} {assign body : Code} {Q : Exit → Act → World → Prop} {a : Act} {w : World}
  (hro : F.round = none) (h1 : 1 ≤ n) {gf : Nat} {fi lb : Array Value} (hg : a.eval g = .func (.func gf) fi lb) (hFg : F.fn gf)
  (eg : ∀ args w, (callFunc gf args).run P w = .ok (.enter gf args) w)
  {m : Nat} {encs : Nat → Array Value} {Kp : World → Prop} (hit : IterAll F (n - 1) P gf fi lb m encs Kp) (hps : ∀ i, (encs i).size = ps.size)
  (I : Nat → World → Prop) (hI : OwnFrom w.heap.size I) (hK : ∀ i V, I i V → Kp V) (hIB : ∀ i V V', I i V → Below V.heap.size V V' → I i V') (h0 : I 0 w) 
  (hround : ∀ (l i : Nat) (W : World), I i W → i < m → w.heap.size ≤ l → w.heap.size ≤ W.heap.size →
   assign.wpIn (F.inRound l) (n - 1 - 1) P (Exit.then (fun x W1 => KeepsOthers W W1 ∧ ∀ W2, W1.grownBy W2 (some l) → (∃ o : Obj, W1.heap[l]? = some o ∧ o.isCells = false) →
    body.wpIn (F.inRound l) (n - 1 - 1) P (fun e _ W' => e = .normal ∧ KeepsOthers W2 W' ∧ I (i + 1) W') x W2) (fun _ _ _ => False))
    { tmps := (ps.zip (encs i)).foldl (fun t (p, v) => t.setIfInBounds p v) a.tmps, defers := [] } W)
  (hdone : ∀ (D : Nat) (W : World), w.heap.size ≤ D → I m W → W.heap[D]? = some (.deferred (some [])) → Q .normal { a with defers := { target := .collected D, args := #[] } :: a.defers } W) :
  (Code.rangeFunc g ps assign body).wpIn F n P Q a w := by
 refine wpIn_rangeFunc fun fn hfn => ?_
 rw [hro]
 obtain ⟨rec, hrec⟩ : ∃ rec : LoopState → Loop, rec = fun st => { state := st, pending := none, fn, tmps := a.tmps, params := ps, assign, body, defers := w.heap.size } := ⟨_, rfl⟩
 obtain ⟨W1, hW1⟩ : ∃ W1, (w.alloc (.deferred (some []))).alloc (.loop (rec .ready)) = W1 := ⟨_, rfl⟩
 have hL1 : W1.heap[w.heap.size + 1]? = some (.loop (rec .ready)) := by
  rw [← hW1]
  have := World.alloc_heap_new (w.alloc (.deferred (some []))) (.loop (rec .ready))
  rwa [World.size_alloc] at this
 have hK1 : W1.heap[w.heap.size]? = some (.deferred (some [])) := by
  rw [← hW1]
  exact (Below.heap_alloc _ _ _ (by simp)).trans (World.alloc_heap_new w _)
 have hI1 : I 0 W1 := by rw [← hW1]; exact hI.alloc _ (hI.alloc _ h0)
 refine ⟨w.heap.size + 1, [{ target := .collected w.heap.size, args := #[] }], W1, { target := .fn (.func gf) lb, args := fi ++ #[.func (.yield (w.heap.size + 1)) #[] #[]] }, W1, gf,
  fi ++ #[.func (.yield (w.heap.size + 1)) #[] #[]] ++ lb, W1, ?_, ?_, ?_, ?_, fun _ => h1, ?_⟩
 ·rw [← hW1, hrec]; exact run_enterLoop_outer _ _ _ _ _
 ·simp only [resolve, hg]
  simp [go_sem]
 ·intro f' hf'; simp [Target.leads] at hf'; subst hf'; exact hFg
 ·simp [invoke, go_sem, eg]
 ·refine (hit (w.heap.size + 1)
   (fun i W => I i W ∧ W.heap[w.heap.size + 1]? = some (.loop (rec .ready)) ∧ W.heap[w.heap.size]? = some (.deferred (some []))) W1
   (fun i V h => hK i V h.1)
   (fun i V V' h hb => ⟨hIB i V V' h.1 hb, (hb.block _ (lt_of_some h.2.1)).trans h.2.1, (hb.block _ (lt_of_some h.2.2)).trans h.2.2⟩)
   ?_ ⟨hI1, hL1, hK1⟩).mono ?_
  ·rintro i W ⟨hi, hl, hk⟩ hlen
   have hlt : w.heap.size + 1 < W.heap.size := lt_of_some hl
   have hy := run_yield (P := P) (args := encs i) hl (by rw [hrec]; exact hps i)
   rw [hrec] at hy
   refine ⟨fn, _, assign, body, hy, roundIn_of_wpIn hfn (wpIn_mono (hround _ i W hi hlen (by omega) (by omega)) ?_)⟩
   rintro e x W0 hx
   cases e with
   | normal => ?_
   | _ => exact hx
   obtain ⟨hk0, hx⟩ := hx
   replace hl := hk0.same _ _ hl rfl
   replace hk := hk0.same _ _ hk rfl
   replace hlt : w.heap.size + 1 < W0.heap.size := lt_of_some hl
   clear hi hy hk0
   refine ⟨_, run_beginRound hl (by rw [hrec]), ?_⟩
   have hl2 : (W0.putObj (w.heap.size + 1) (.loop { rec .ready with state := .busy })).heap[w.heap.size + 1]? = some (.loop { rec .ready with state := .busy }) := World.putObj_heap_same hlt
   have hk2 : (W0.putObj (w.heap.size + 1) (.loop { rec .ready with state := .busy })).heap[w.heap.size]? = some (.deferred (some [])) := (World.putObj_heap_other (by omega)).trans hk
   refine wpIn_mono (hx _ (grownBy_putObj' _ _ _) ⟨_, hl, rfl⟩) ?_
   rintro e a3 W3 ⟨rfl, hk3, hi3⟩
   have hl3 := hk3.same _ _ hl2 rfl
   have he := run_endRound (P := P) none hl3
   have h4 : (rec LoopState.ready).pending = none := by rw [hrec]
   refine ⟨_, _, he, ?_, hI.putObj _ hi3 (by omega) hl3 rfl, ?_, (World.putObj_heap_other (by omega)).trans (hk3.same _ _ hk2 rfl)⟩
   ·rfl
   ·rw [World.putObj_heap_same (lt_of_some hl3)]
    rw [hrec]
    rfl
  ·rintro e W2 ⟨⟨v, rfl⟩, hi, hl, hk⟩
   have he := run_endLoop (P := P) hl (by rw [hrec]; simp)
   refine ⟨_, _, he, ?_⟩
   rw [hrec]
   exact hdone _ _ (Nat.le_refl _) (hI.putObj _ hi (by omega) hl rfl) ((World.putObj_heap_other (by omega)).trans hk)
theorem Box.grown {w w' : World} {B : Nat} {T : TypeId} {cs : Array Value} (b : Box w B T cs) {row : Option Nat} (hg : w.grownBy w' row) (hr : ∀ r, row = some r → ∃ o : Obj, w.heap[r]? = some o ∧ o.isCells = false) : Box w' B T cs := by
 obtain ⟨_, _, _, _, hb⟩ := hg
 refine ⟨(hb B b.lt fun e => ?_).trans b.blk⟩
 obtain ⟨o, ho, hc⟩ := hr B e.symm
 rw [b.blk] at ho
 cases ho
 cases hc
section
theorem getD_set_self (l : Array Bool) (i : Nat) : (l.setIfInBounds i true).getD i true = true := by
 by_cases h : i < l.size
 ·simp [Array.getD, h]
 ·simp [Array.getD, h]
theorem List.inj_on_of_nodup_map' {α β : Type} {f : α → β} : ∀ {l : List α}, (l.map f).Nodup → ∀ {x y : α}, x ∈ l → y ∈ l → f x = f y → x = y
 | [], _, _, _, h, _, _ => by cases h
 | a :: r, hn, x, y, hx, hy, e => by
   rw [List.map_cons, List.nodup_cons] at hn
   rcases List.mem_cons.1 hx with rfl | hx' <;> rcases List.mem_cons.1 hy with rfl | hy'
   ·rfl
   ·exact absurd (e ▸ List.mem_map_of_mem hy') hn.1
   ·exact absurd (e ▸ List.mem_map_of_mem hx') hn.1
   ·exact List.inj_on_of_nodup_map' hn.2 hx' hy' e
section
variable {P : Program} {ops : Array Oper} {Q : Exit → Act → World → Prop} {md : Region.Mode} {S : World → Prop}
theorem wpAnyH_stores (B : Nat) (T : TypeId) (off : Nat → Nat) (val : Nat → Value) (a : Act) (hS : ∀ w i u, S w → S (w.setCell ⟨B, i, none⟩ u)) :
  ∀ (k : Nat) (L : List Nat) (fuel : Nat) (listed : Array Bool) (w : World) (cs : Array Value), L.length = k → L.Nodup → (∀ j, listed.getD j true = false → j ∈ L) → (∀ j ∈ L, j ∈ Region.ready md ops listed) → (∀ i ∈ L, ∀ j ∈ L, off i = off j → i = j) →
  (∀ i ∈ L, off i < cs.size ∧ ∀ (w : World) (cs' : Array Value) (K : Act → World → Prop), Box w B T cs' → cs'.size = cs.size → K a (w.setCell ⟨B, off i, none⟩ (val i)) → wpOp P ops Q i K a w) →
  L.length ≤ fuel → Box w B T cs → S w →
  (∀ w' cs', Box w' B T cs' → cs'.size = cs.size → S w' → (∀ j, (∀ i ∈ L, off i ≠ j) → cs'[j]? = cs[j]?) → (∀ i ∈ L, cs'[off i]? = some (val i)) → Q .normal a w') →
  wpAnyH P md ops Q S fuel listed a w := by
 intro k
 induction k with
 | zero =>
   intro L fuel listed w cs hn _ hr _ _ _ _ hb hs hq
   have : L = [] := List.eq_nil_of_length_eq_zero hn
   subst this
   have hr' : Region.ready md ops listed = [] := List.eq_nil_iff_forall_not_mem.2 fun i hi => by
    have := hr i (mem_ready.1 hi).1
    simp at this
   exact wpAnyH_done hr' (hq w cs hb rfl hs (fun _ _ => rfl) (by simp)) fuel
 | succ k ih =>
   intro L fuel listed w cs hn hnd hun hr hoff hop hf hb hs hq
   obtain ⟨f, rfl⟩ : ∃ f, fuel = f + 1 := ⟨fuel - 1, by omega⟩
   refine ⟨fun h => ?_, fun i hi => ?_⟩
   ·exfalso
    cases L with
    | nil => simp at hn
    | cons x r =>
      have := hr x (by simp)
      rw [h] at this
      simp at this
   ·have hiL := hun i (mem_ready.1 hi).1
    have hlen : (L.erase i).length = k := by rw [List.length_erase_of_mem hiL]; omega
    have hmem : ∀ j, j ∈ L.erase i → j ∈ L ∧ j ≠ i := fun j hj => ⟨List.mem_of_mem_erase hj, fun e => by subst e; exact (List.Nodup.not_mem_erase hnd) hj⟩
    refine (hop i hiL).2 w cs _ hb rfl ⟨hS _ _ _ hs, ?_⟩
    refine ih (L.erase i) f _ _ (cs.setIfInBounds (off i) (val i)) hlen (hnd.erase i) ?_ ?_ ?_ ?_ (by omega) (hb.set _ _) (hS _ _ _ hs) ?_
    ·intro j hj
     have hji : j ≠ i := by
      rintro rfl
      rw [getD_set_self] at hj
      cases hj
     rw [getD_set_ne true (Ne.symm hji)] at hj
     exact (List.mem_erase_of_ne hji).2 (hun j hj)
    ·intro j hj
     obtain ⟨h1, h2⟩ := hmem j hj
     exact ready_mono (hr j h1) h2
    ·intro x hx y hy e
     exact hoff x (hmem x hx).1 y (hmem y hy).1 e
    ·intro j hj
     obtain ⟨h1, h2⟩ := hmem j hj
     refine ⟨by simpa using (hop j h1).1, fun w cs' K hb' hsz hK => (hop j h1).2 w cs' K hb' (by simpa using hsz) hK⟩
    ·intro w' cs' hb' hsz hs' h1 h2
     have hsz' : cs'.size = cs.size := by simpa using hsz
     refine hq w' cs' hb' hsz' hs' (fun j hj => ?_) (fun j hj => ?_)
     ·rw [h1 j fun x hx => hj x (hmem x hx).1]
      rw [Array.getElem?_setIfInBounds_ne (hj i hiL)]
     ·by_cases hji : j = i
      ·subst hji
       rw [h1 (off j) fun x hx => fun e => (hmem x hx).2 (hoff x (hmem x hx).1 j hiL e)]
       rw [Array.getElem?_setIfInBounds_self]
       simp [(hop j hiL).1]
      ·exact h2 j ((List.mem_erase_of_ne hji).2 hj)
theorem foldl_size (off : Nat → Nat) (val : Nat → Value) : ∀ (L : List Nat) (cs : Array Value), (L.foldl (fun c i => c.setIfInBounds (off i) (val i)) cs).size = cs.size
 | [], _ => rfl
 | x :: r, cs => by rw [List.foldl_cons, foldl_size off val r]; simp
theorem foldl_out (off : Nat → Nat) (val : Nat → Value) : ∀ (L : List Nat) (cs : Array Value) (j : Nat), (∀ i ∈ L, off i ≠ j) → (L.foldl (fun c i => c.setIfInBounds (off i) (val i)) cs)[j]? = cs[j]?
 | [], _, _, _ => rfl
 | x :: r, cs, j, h => by
   rw [List.foldl_cons, foldl_out off val r _ j fun i hi => h i (by simp [hi])]
   exact Array.getElem?_setIfInBounds_ne (h x (by simp))
theorem foldl_in (off : Nat → Nat) (val : Nat → Value) : ∀ (L : List Nat) (cs : Array Value) (i : Nat), (L.map off).Nodup → i ∈ L → off i < cs.size → (L.foldl (fun c i => c.setIfInBounds (off i) (val i)) cs)[off i]? = some (val i)
 | [], _, _, _, h, _ => by cases h
 | x :: r, cs, i, hn, h, hs => by
   rw [List.map_cons, List.nodup_cons] at hn
   rw [List.foldl_cons]
   rcases List.mem_cons.1 h with rfl | h
   ·rw [foldl_out off val r _ _ fun j hj e => hn.1 (by rw [← e]; exact List.mem_map_of_mem hj)]
    rw [Array.getElem?_setIfInBounds_self]
    simp [hs]
   ·exact foldl_in off val r _ i hn.2 h (by simpa using hs)
theorem wpAnyH_stores' (B : Nat) (T : TypeId) (off : Nat → Nat) (val : Nat → Value) (L : List Nat) {a : Act} {fuel : Nat} {listed : Array Bool} {w : World} (cs new : Array Value)
  (hS : ∀ w i u, S w → S (w.setCell ⟨B, i, none⟩ u))
  (h1 : ((List.range listed.size).all fun j => listed.getD j true || L.contains j) = true) (h2 : (L.all fun j => (Region.ready md ops listed).contains j) = true)
  (h3 : decide (L.map off).Nodup = true) (h4 : (L.all fun i => off i < cs.size) = true) (hf : L.length ≤ fuel) (hnew : L.foldl (fun c i => c.setIfInBounds (off i) (val i)) cs = new)
  (hop : ∀ i ∈ L, ∀ (w : World) (cs' : Array Value) (K : Act → World → Prop), Box w B T cs' → cs'.size = cs.size → K a (w.setCell ⟨B, off i, none⟩ (val i)) → wpOp P ops Q i K a w)
  (hb : Box w B T cs) (hs : S w) (hq : ∀ w', Box w' B T new → S w' → Q .normal a w') : wpAnyH P md ops Q S fuel listed a w := by
 have hnd := of_decide_eq_true h3
 have hoff : ∀ i ∈ L, off i < cs.size := fun i hi => by simpa using (List.all_eq_true.1 h4) i hi
 refine wpAnyH_stores B T off val a hS L.length L fuel listed w cs rfl (List.Pairwise.imp (fun {x y} (h : off x ≠ off y) (e : x = y) => h (by rw [e])) (List.pairwise_map.1 hnd)) (fun j hj => ?_) (fun j hj => ?_) (fun i hi j hj e => ?_) (fun i hi => ⟨hoff i hi, hop i hi⟩) hf hb hs (fun w' cs' hb' hsz hs' g1 g2 => ?_)
 ·by_cases hjs : j < listed.size
  ·have := (List.all_eq_true.1 h1) j (List.mem_range.2 hjs)
   rw [hj] at this
   simpa using this
  ·simp [Array.getD, hjs] at hj
 ·simpa using (List.all_eq_true.1 h2) j hj
 ·exact List.inj_on_of_nodup_map' hnd hi hj e
 ·refine hq w' ?_ hs'
  rw [← hnew]
  have : cs' = L.foldl (fun c i => c.setIfInBounds (off i) (val i)) cs := by
   apply Array.ext_getElem?
   intro j
   by_cases h : ∃ i ∈ L, off i = j
   ·obtain ⟨i, hi, rfl⟩ := h
    rw [g2 i hi, foldl_in off val L cs i hnd hi (hoff i hi)]
   ·have h' : ∀ i ∈ L, off i ≠ j := fun i hi e => h ⟨i, hi, e⟩
    rw [g1 j h', foldl_out off val L cs j h']
  exact this ▸ hb'
theorem wpOp_store {B : Nat} {T : TypeId} {a : Act} {w : World} {cs : Array Value} {K : Act → World → Prop} (i : Nat) {o : Oper} (hi : ops[i]? = some o) (hg : o.guard = none) (hd : o.dst = none) {ty : TypeId} {x y : Operand} (ho : o.op = .store ty x y)
  (off : Nat) (v : Value) (hx : a.eval x = .pointer (some ⟨B, off, none⟩)) (hy : a.eval y = v)
  (hrun : ∀ w : World, (w.cell? ⟨B, off, none⟩).isSome = true → w.frozen? ⟨B, off, none⟩ = false → (Instr.storeAt ty (.pointer (some ⟨B, off, none⟩)) v).run P w = .ok () (w.setCell ⟨B, off, none⟩ v))
  (hb : Box w B T cs) (hoff : off < cs.size) (hK : K a (w.setCell ⟨B, off, none⟩ v)) : wpOp P ops Q i K a w := by
 unfold wpOp
 rw [hi]
 have hw : Region.wanted o (yielded ops a.tmps) = true := by simp [Region.wanted, hg]
 simp only [hw, if_true]
 left
 have hc : (w.cell? ⟨B, off, none⟩).isSome = true := by rw [hb.cell]; simp [hoff]
 unfold Oper.wp execOp
 simp only [ho, hx, hy, Sem.run_bind, hrun w hc (hb.frozen off), Result.andThen_ok, Sem.run_pure]
 show K (a.put o.dst undef) _
 rw [hd]
 exact hK
theorem wpAnyH_store1 (B : Nat) (T : TypeId) (i : Nat) {o : Oper} (hi : ops[i]? = some o) (hg : o.guard = none) (hd : o.dst = none) {ty : TypeId} {x y : Operand} (ho : o.op = .store ty x y) (off : Nat) (v : Value) (cs new : Array Value) {a : Act} {fuel : Nat} {listed : Array Bool} {w : World}
  (hr : Region.ready md ops listed = [i]) (hS : ∀ w i u, S w → S (w.setCell ⟨B, i, none⟩ u)) (hx : a.eval x = .pointer (some ⟨B, off, none⟩)) (hy : a.eval y = v)
  (hrun : ∀ w : World, (w.cell? ⟨B, off, none⟩).isSome = true → w.frozen? ⟨B, off, none⟩ = false → (Instr.storeAt ty (.pointer (some ⟨B, off, none⟩)) v).run P w = .ok () (w.setCell ⟨B, off, none⟩ v))
  (hb : Box w B T cs) (hs : S w) (hoff : off < cs.size) (hnew : cs.setIfInBounds off v = new)
  (h : ∀ w', Box w' B T new → S w' → wpAnyH P md ops Q S fuel (listed.setIfInBounds i true) a w') : wpAnyH P md ops Q S (fuel + 1) listed a w := by
 refine wpAnyH_all hr (by simp) fun j hj => ?_
 obtain rfl : j = i := by simpa using hj
 exact wpOp_store j hi hg hd ho off v hx hy hrun hb hoff ⟨hS _ _ _ hs, h _ (hnew ▸ hb.set off v) (hS _ _ _ hs)⟩
end
end
def LessPost (r j n R : Nat) (h0 g : Nat → Int) (d : Int) (w : World) (e : Ending) (w' : World) : Prop := ∃ (b : Bool) (h : Nat → Int), e = .returned (.bool b) ∧ RowF w' r R h ∧
   (∀ k, k < R → 0 ≤ h k) ∧ (∀ k, k < R → h k < 1000000000) ∧ (∀ k, k < j ∨ j + n < k → h k = h0 k) ∧ vf (win h j) (n + 1) = vf (win h0 j) (n + 1) - d * vf g n + (if b then 1 else 0) * pw (n + 1) ∧ OnlyRow r w w'
end Go.Mono
namespace Go.Proofs.YtcgfdibagldafaaGreatDoor
open Go.RowKit Go.Mono
theorem less_any (r j n R cap s c2 : Nat) (h0 g : Nat → Int) (d : Int) (w : World) (hr0 : RowF w r R h0) (hs : RowF w s n g) (hrs : s ≠ r) (hR : j + n < R) (hRb : R ≤ 2000000)
  (lo : ∀ k, k < R → 0 ≤ h0 k) (hi : ∀ k, k < R → h0 k < 1000000000) (g0 : ∀ i, i < n → 0 ≤ g i) (g1 : ∀ i, i < n → g i < 1000000000) (d0 : 0 ≤ d) (d1 : d < 1000000000) :
  Calls Tryz.prog 212 #[.slice (some ⟨r, j, none⟩) (n + 1) cap, .slice (some ⟨s, 0, none⟩) n c2, .int .i64 d] w (LessPost r j n R h0 g d w) := by
 go_enter Tryz.func212, Tryz.ntmps212
 go_wp2
 go_loopw [7, 14] (fun c a wr => ∃ i : Nat, i ≤ n ∧ a = .int .i64 i ∧ OnlyRow r w wr ∧ ∃ h bo, c = .int .i64 bo ∧ RowF wr r R h ∧ LessInv R j n h0 g d i h bo) (fun _ a _ => n - (intOf a).toNat)
 case atStart => exact ⟨0, Nat.zero_le _, rfl, OnlyRow.refl _ _, _, _, rfl, hr0, LessInv.start lo hi⟩
 case round =>
  clear hr0 lo hi
  obtain ⟨i, hin, rfl, ho, h, bo, rfl, hr, HT⟩ := hrel
  by_cases hlt : i < n
  ·have a1 := (ho.row hs hrs).cell i hlt
   have gi0 := g0 i hlt
   have gi1 := g1 i hlt
   have a2 := hr.cell (j + i) (by omega)
   have a3 := hr.frozen (j + i)
   have b0 := HT.b0
   have b1 := HT.b1
   have h0' := HT.lo (j + i) (by omega)
   have h1' := HT.hi (j + i) (by omega)
   obtain ⟨d5, d6⟩ := mul_bd gi0 gi1 d0 d1
   have HS := fun (t e : Int) (ht : 0 ≤ t) (ht2 : t ≤ 2) he e0 e1 => HT.step hlt gi0 gi1 d0 d1 (t := t) (e := e) ht ht2 he e0 e1
   replace HS := Lib.hid HS
   clear HT g0 g1
   by_cases n1 : h (j + i) - g i * d % 1000000000 - bo < 0
   ·by_cases n2 : h (j + i) - g i * d % 1000000000 - bo + 1000000000 < 0
    ·go_wp2
     go_roundw
     case rel => exact ⟨i + 1, by omega, by go_num, ho.set (j + i) _, _, _, rfl, hr.set (j + i) _, (by have := HS.out 2 (h (j + i) - g i * d % 1000000000 - bo + 1000000000 + 1000000000) (by omega) (by omega) (by omega) (by omega) (by omega); rwa [show g i * d / 1000000000 + 2 = g i * d / 1000000000 + 1 + 1 by omega] at this)⟩
     case measure => simp [intOf]; omega
    ·go_wp2
     go_roundw
     case rel => exact ⟨i + 1, by omega, by go_num, ho.set (j + i) _, _, _, rfl, hr.set (j + i) _, HS.out 1 (h (j + i) - g i * d % 1000000000 - bo + 1000000000) (by omega) (by omega) (by omega) (by omega) (by omega)⟩
     case measure => simp [intOf]; omega
   ·go_wp2
    go_roundw
    case rel => exact ⟨i + 1, by omega, by go_num, ho.set (j + i) _, _, _, rfl, hr.set (j + i) _, (by have := HS.out 0 (h (j + i) - g i * d % 1000000000 - bo) (by omega) (by omega) (by omega) (by omega) (by omega); rwa [Int.add_zero] at this)⟩
    case measure => simp [intOf]; omega
  ·obtain rfl : i = n := by omega
   have a2 := hr.cell (j + i) (by omega)
   have a3 := hr.frozen (j + i)
   have b0 := HT.b0
   have b1 := HT.b1
   have h0' := HT.lo (j + i) (by omega)
   have h1' := HT.hi (j + i) (by omega)
   have HS := fun (t e : Int) ht he e0 e1 => HT.last (t := t) (e := e) ht he e0 e1
   replace HS := Lib.hid HS
   have r1 := hr.set (j + i) (h (j + i) - bo)
   have a4 := r1.cell (j + i) (by omega)
   have a5 := r1.frozen (j + i)
   simp only [if_true] at a4
   clear HT g0 g1 hlt hin hs
   by_cases n1 : h (j + i) - bo < 0
   ·go_wp2
    go_ret
    have r2 := r1.set (j + i) (h (j + i) - bo + 1000000000)
    obtain ⟨q1, q2, q3, q4⟩ := HS.out 1 (h (j + i) - bo + 1000000000) (.inr rfl) (by omega) (by omega) (by omega)
    refine ⟨true, _, rfl, r2.congr fun k hk => ?_, q2, q3, q4, q1, (ho.set _ _).set _ _⟩
    by_cases e : k = j + i
    ·rw [if_pos e, if_pos e]
    ·rw [if_neg e, if_neg e, if_neg e]
   ·go_wp2
    go_ret
    obtain ⟨q1, q2, q3, q4⟩ := HS.out 0 (h (j + i) - bo) (.inl rfl) (by omega) (by omega) (by omega)
    exact ⟨false, _, rfl, r1, q2, q3, q4, q1, ho.set _ _⟩
theorem more_any (r j n R cap s c2 : Nat) (h0 g : Nat → Int) (w : World) (hr0 : RowF w r R h0) (hs : RowF w s n g) (hrs : s ≠ r) (hR : j + n < R) (hRb : R ≤ 2000000)
  (lo : ∀ k, k < R → 0 ≤ h0 k) (hi : ∀ k, k < R → h0 k < 1000000000) (g0 : ∀ i, i < n → 0 ≤ g i) (g1 : ∀ i, i < n → g i < 1000000000) :
  Calls Tryz.prog 213 #[.slice (some ⟨r, j, none⟩) (n + 1) cap, .slice (some ⟨s, 0, none⟩) n c2] w fun e w' => ∃ (o : Int) (h : Nat → Int), e = .returned (.tuple #[]) ∧ RowF w' r R h ∧
   (∀ k, k < R → 0 ≤ h k) ∧ (∀ k, k < R → h k < 1000000000) ∧ (∀ k, k < j ∨ j + n < k → h k = h0 k) ∧ vf (win h j) (n + 1) = vf (win h0 j) (n + 1) + vf g n - o * pw (n + 1) ∧ OnlyRow r w w' := by
 go_enter Tryz.func213, Tryz.ntmps213
 go_wp2
 go_loopw [4, 10] (fun c a wr => ∃ i : Nat, i ≤ n ∧ a = .int .i64 i ∧ OnlyRow r w wr ∧ ∃ h bo, c = .int .i64 bo ∧ RowF wr r R h ∧ MoreInv R j n h0 g i h bo) (fun _ a _ => n - (intOf a).toNat)
 case atStart => exact ⟨0, Nat.zero_le _, rfl, OnlyRow.refl _ _, _, _, rfl, hr0, MoreInv.start lo hi⟩
 case round =>
  clear hr0 lo hi
  obtain ⟨i, hin, rfl, ho, h, bo, rfl, hr, HT⟩ := hrel
  have b0 := HT.c0
  have b1 := HT.c1
  by_cases hlt : i < n
  ·have a1 := (ho.row hs hrs).cell i hlt
   have gi0 := g0 i hlt
   have gi1 := g1 i hlt
   have a2 := hr.cell (j + i) (by omega)
   have a3 := hr.frozen (j + i)
   have h0' := HT.lo (j + i) (by omega)
   have h1' := HT.hi (j + i) (by omega)
   clear g0 g1
   go_wp2
   go_roundw
   case rel => exact ⟨i + 1, by omega, by go_num, ho.set (j + i) _, _, _, rfl, hr.set (j + i) _, HT.step hlt hR gi0 gi1⟩
   case measure => simp [intOf]; omega
  ·obtain rfl : i = n := by omega
   have a2 := hr.cell (j + i) (by omega)
   have a3 := hr.frozen (j + i)
   have h0' := HT.lo (j + i) (by omega)
   have h1' := HT.hi (j + i) (by omega)
   obtain ⟨o, q1, q2, q3, q4⟩ := HT.last hR
   replace q1 := Lib.hid q1
   replace q4 := Lib.hid q4
   clear HT g0 g1 hlt hin hs
   go_wp2
   go_end0
   exact ⟨o, _, rfl, hr.set _ _, q2, q3, q4.out, q1.out, ho.set _ _⟩
end Go.Proofs.YtcgfdibagldafaaGreatDoor
namespace Go.Mono
theorem win_cons (h : Nat → Int) (j k : Nat) : vf (win h j) (k + 1) = h j + 1000000000 * vf (win h (j + 1)) k := by
 induction k with
 | zero => simp [vf, win, pw]
 | succ k ih =>
   rw [vf_succ, ih, vf_succ (win h (j + 1)) k, pw_succ]
   simp only [win]
   rw [show j + 1 + k = j + (k + 1) by omega]
   grind
theorem vf_window {h h' : Nat → Int} {j k R : Nat} (hR : j + k ≤ R) (ho : ∀ i, i < j ∨ j + k ≤ i → h' i = h i) : vf h' R = vf h R + pw j * (vf (win h' j) k - vf (win h j) k) := by
 obtain ⟨m, rfl⟩ := Nat.exists_eq_add_of_le hR
 rw [vf_split h', vf_split h, pw_add, vf_split h' j k, vf_split h j k]
 rw [vf_congr (f := h') (g := h) (k := j) (fun i hi => ho i (by omega))]
 rw [vf_congr (f := fun i => h' (j + k + i)) (g := fun i => h (j + k + i)) (k := m) (fun i _ => ho _ (by omega))]
 grind
structure OverInv (m Q R : Nat) (A : Int) (g : Nat → Int) (j : Nat) (h q : Nat → Int) : Prop where
 lo : ∀ k, k < R → 0 ≤ h k
 hi : ∀ k, k < R → h k < 1000000000
 zero : ∀ k, j + (m + 2) ≤ k → k < R → h k = 0
 lt : vf (win h j) (m + 2) < vf g (m + 2)
 q0 : ∀ k, k < Q → 0 ≤ q k
 q1 : ∀ k, k < Q → q k < 1000000000
 qz : ∀ k, k < j → q k = 0
 val : vf h R + vf g (m + 2) * vf q Q = A
theorem OverInv.start {m Q R : Nat} {A M : Int} {g h : Nat → Int} (hR : R = Q + (m + 2)) (lo : ∀ k, k < R → 0 ≤ h k) (hi : ∀ k, k < R → h k < 1000000000) (hA : vf h R = A) (hlt : A < M * pw Q) (hM : vf g (m + 2) = M) :
  OverInv m Q R A g Q h (fun _ => 0) := by
 refine ⟨lo, hi, fun k h1 h2 => by omega, ?_, fun _ _ => by simp, fun _ _ => by simp, fun _ _ => rfl, by rw [vf_zero (f := fun _ => 0) fun _ _ => rfl, hA]; simp⟩
 subst hR
 rw [vf_split] at hA
 have hA' : vf h Q + pw Q * vf (win h Q) (m + 2) = A := hA
 clear hA
 have h1 := vf_nonneg (f := h) (k := Q) fun i hi => lo i (by omega)
 rw [hM]
 rcases Int.lt_or_le (vf (win h Q) (m + 2)) M with h2 | h2
 ·exact h2
 ·have := mle h2 (Int.le_of_lt (pw_pos Q))
  have : pw Q * vf (win h Q) (m + 2) = vf (win h Q) (m + 2) * pw Q := Int.mul_comm _ _
  omega
theorem OverInv.U_lt {m Q R : Nat} {A : Int} {g : Nat → Int} {j : Nat} {h q : Nat → Int} (H : OverInv m Q R A g (j + 1) h q) (hj : j < R) : vf (win h j) (m + 3) < vf g (m + 2) * 1000000000 := by
 rw [win_cons]
 have := H.lt
 have := H.hi j hj
 omega
theorem OverInv.step {m Q R : Nat} {A : Int} {g : Nat → Int} {j : Nat} {h q h' : Nat → Int} {d W : Int} (H : OverInv m Q R A g (j + 1) h q) (hR : R = Q + (m + 2)) (hj : j < Q)
  (hV : vf g (m + 2) ≤ pw (m + 2)) (lo : ∀ k, k < R → 0 ≤ h' k) (hi : ∀ k, k < R → h' k < 1000000000) (ho : ∀ k, k < j ∨ j + (m + 2) < k → h' k = h k)
  (hW : vf (win h' j) (m + 3) = W) (W0 : 0 ≤ W) (W1 : W < vf g (m + 2)) (hU : vf (win h j) (m + 3) = d * vf g (m + 2) + W) :
  0 ≤ d ∧ d < 1000000000 ∧ OverInv m Q R A g j h' (fun k => if k = j then d else q k) := by
 have hlt := H.U_lt (by omega)
 have hU0 := vf_nonneg (f := win h j) (k := m + 3) fun i hi => H.lo _ (by omega)
 have hV0 : 0 < vf g (m + 2) := by omega
 have d0 : 0 ≤ d := by
  rcases Int.lt_or_le d 0 with h1 | h1
  ·have := mle (show d ≤ -1 by omega) (Int.le_of_lt hV0); omega
  ·exact h1
 have d1 : d < 1000000000 := by
  rcases Int.lt_or_le d 1000000000 with h1 | h1
  ·exact h1
  ·have := mle h1 (Int.le_of_lt hV0); omega
 refine ⟨d0, d1, lo, hi, fun k h1 h2 => ?_, ?_, fun k hk => ?_, fun k hk => ?_, fun k hk => ?_, ?_⟩
 ·rcases Nat.lt_or_ge (j + (m + 2)) k with h3 | h3
  ·rw [ho k (.inr h3)]; exact H.zero k (by omega) h2
  ·obtain rfl : k = j + (m + 2) := by omega
   rw [vf_succ] at hW
   have a0 := lo _ h2
   have a1 := vf_nonneg (f := win h' j) (k := m + 2) fun i hi => lo _ (by omega)
   rcases Int.lt_or_le 0 (h' (j + (m + 2))) with h4 | h4
   ·have := mle (show 1 ≤ win h' j (m + 2) from h4) (Int.le_of_lt (pw_pos (m + 2)))
    omega
   ·omega
 ·have e : vf (win h' j) (m + 2) = W - win h' j (m + 2) * pw (m + 2) := by rw [vf_succ] at hW; omega
  have a0 : 0 ≤ win h' j (m + 2) * pw (m + 2) := Int.mul_nonneg (lo _ (by omega)) (Int.le_of_lt (pw_pos _))
  omega
 ·show 0 ≤ if k = j then _ else _
  split
  ·exact d0
  ·exact H.q0 k hk
 ·show (if k = j then _ else _) < _
  split
  ·exact d1
  ·exact H.q1 k hk
 ·show (if k = j then _ else _) = _
  rw [if_neg (by omega)]; exact H.qz k (by omega)
 ·have hv := H.val
  rw [vf_window (h := h) (h' := h') (j := j) (k := m + 3) (R := R) (by omega) (fun i hi => ho i (by omega)), vf_set, if_pos hj, H.qz j (by omega), hW, hU]
  generalize vf g (m + 2) = V at hv ⊢
  grind
theorem OverInv.done {m Q R : Nat} {A : Int} {g : Nat → Int} {h q : Nat → Int} (H : OverInv m Q R A g 0 h q) (hR : R = Q + (m + 2)) :
  A = vf g (m + 2) * vf q Q + vf h (m + 2) ∧ 0 ≤ vf h (m + 2) ∧ vf h (m + 2) < vf g (m + 2) := by
 have hv := H.val
 have hl := H.lt
 have e1 : vf (win h 0) (m + 2) = vf h (m + 2) := vf_congr fun i _ => by simp [win]
 rw [e1] at hl
 have e2 : vf h R = vf h (m + 2) := by
  rw [hR, Nat.add_comm, vf_split, vf_zero (f := fun j => h (m + 2 + j)) (fun i hi => H.zero _ (by omega) (by omega))]; simp
 rw [e2] at hv
 exact ⟨by omega, vf_nonneg fun i hi => H.lo i (by omega), hl⟩
theorem over_final {N M f q r : Int} (hf : 0 < f) (h : N * f = M * f * q + r) (r0 : 0 ≤ r) (r1 : r < M * f) : q = N / M ∧ r / f = N % M := by
 have e : r = (N - M * q) * f := by grind
 have h0 : 0 ≤ N - M * q := by
  rcases Int.lt_or_le (N - M * q) 0 with h1 | h1
  ·have := mle (show N - M * q ≤ -1 by omega) (Int.le_of_lt hf); omega
  ·exact h1
 have h1 : N - M * q < M := by
  rcases Int.lt_or_le (N - M * q) M with h1 | h1
  ·exact h1
  ·have := mle h1 (Int.le_of_lt hf); omega
 have hM : 0 < M := by omega
 have hq : q = N / M := ((Int.ediv_eq_iff_of_pos hM).2 ⟨by rw [Int.mul_comm]; omega, by rw [Int.mul_comm]; omega⟩).symm
 refine ⟨hq, ?_⟩
 rw [e, Int.mul_ediv_cancel _ (by omega)]
 have := Int.mul_ediv_add_emod N M
 rw [← hq] at this
 omega
theorem factor_bd {b1 : Int} (h0 : 0 < b1) (h1 : b1 < 1000000000) : 0 < 1000000000 / (b1 + 1) ∧ 1000000000 / (b1 + 1) < 1000000000 ∧ (b1 + 1) * (1000000000 / (b1 + 1)) ≤ 1000000000 := by
 have e := Int.mul_ediv_add_emod 1000000000 (b1 + 1)
 have r0 := Int.emod_nonneg 1000000000 (show b1 + 1 ≠ 0 by omega)
 have r1 := Int.emod_lt_of_pos 1000000000 (show 0 < b1 + 1 by omega)
 have q0 : 0 ≤ 1000000000 / (b1 + 1) := Int.ediv_nonneg (by omega) (by omega)
 generalize 1000000000 / (b1 + 1) = q at *
 refine ⟨?_, ?_, by omega⟩
 ·rcases Int.lt_or_le 0 q with h | h
  ·exact h
  ·obtain rfl : q = 0 := by omega
   omega
 ·have := mle (show 2 ≤ b1 + 1 by omega) q0
  omega
theorem factor_lt {g : Nat → Int} {m : Nat} (g1 : ∀ i, i < m + 1 → g i < 1000000000) {f : Int} (f0 : 0 < f) (hf : (g m + 1) * f ≤ 1000000000) : vf g (m + 1) * f < pw (m + 1) := by
 rw [vf_succ, pw_succ]
 have h1 := vf_lt (f := g) (k := m) fun i hi => g1 i (by omega)
 have h2 : (vf g m + g m * pw m + 1) * f ≤ ((g m + 1) * pw m) * f := mle (by grind) (Int.le_of_lt f0)
 have h3 : ((g m + 1) * f) * pw m ≤ 1000000000 * pw m := mle hf (Int.le_of_lt (pw_pos m))
 have h4 : ((g m + 1) * pw m) * f = ((g m + 1) * f) * pw m := by grind
 have h5 : (vf g m + g m * pw m + 1) * f = (vf g m + g m * pw m) * f + f := by grind
 omega
theorem v_top {m : Nat} {v : Nat → Int} {G : Int} (v0 : ∀ i, i < m + 2 + 1 → 0 ≤ v i) (v1 : ∀ i, i < m + 2 + 1 → v i < 1000000000) (hv : vf v (m + 2 + 1) = G) (hlo : pw (m + 1) ≤ G) (hhi : G < pw (m + 2)) :
  vf v (m + 2) = G ∧ v (m + 1) ≠ 0 := by
 have a1 := vf_nonneg (f := v) (k := m + 2) fun i hi => v0 i (by omega)
 have a2 := v0 (m + 2) (by omega)
 rw [vf_succ] at hv
 have e : v (m + 2) = 0 := by
  rcases Int.lt_or_le 0 (v (m + 2)) with h | h
  ·have := mle (show 1 ≤ v (m + 2) from h) (Int.le_of_lt (pw_pos (m + 2))); omega
  ·omega
 rw [e, Int.zero_mul, Int.add_zero] at hv
 refine ⟨hv, fun h => ?_⟩
 rw [vf_succ, h] at hv
 have a3 := vf_lt (f := v) (k := m + 1) fun i hi => v1 i (by omega)
 omega
theorem start_lt {n m Q : Nat} {f g : Nat → Int} {F : Int} (hQ : n = Q + (m + 1)) (d1 : Digs f n) (d2 : Digs g (m + 2)) (F0 : 0 < F) : vf f n * F < vf g (m + 2) * F * pw Q := by
 have a1 := d1.lt
 have a2 := d2.ge (by omega)
 rw [show m + 2 - 1 = m + 1 by omega] at a2
 rw [hQ, pw_add] at a1
 rw [← hQ] at a1
 have a3 := mle a2 (Int.le_of_lt (pw_pos Q))
 have a4 : pw (m + 1) * pw Q = pw Q * pw (m + 1) := Int.mul_comm _ _
 have a5 : (vf f n + 1) * F ≤ (vf g (m + 2) * pw Q) * F := mle (by omega) (Int.le_of_lt F0)
 have a6 : (vf g (m + 2) * pw Q) * F = vf g (m + 2) * F * pw Q := by grind
 have a7 : (vf f n + 1) * F = vf f n * F + F := by grind
 omega
section
open Go.RowKit
theorem Box.range {w : World} {B : Nat} {T : TypeId} {cs : Array Value} (b : Box w B T cs) : w.rangeAt B 0 cs.toList := fun j v hv => by
 rw [Nat.zero_add, b.cell, ← Array.getElem?_toList]
 exact hv
theorem Box.there {w : World} {B : Nat} {T : TypeId} {cs : Array Value} (b : Box w B T cs) (o n : Nat) (hn : o + n ≤ cs.size) : w.there B o n := fun j hj => by
 refine ⟨?_, b.frozen _⟩
 rw [b.cell]
 simp; omega
theorem Box.setCells {B : Nat} {T : TypeId} : ∀ (vs : List Value) (o : Nat) (w : World) (cs : Array Value), Box w B T cs → o + vs.length ≤ cs.size →
  Box (w.setCells B o vs) B T (cs.toList.take o ++ vs ++ cs.toList.drop (o + vs.length)).toArray
 | [], o, w, cs, h, _ => by simpa [World.setCells] using h
 | v :: r, o, w, cs, h, hn => by
   rw [World.setCells]
   have hn' : o + (r.length + 1) ≤ cs.size := by simpa using hn
   have := Box.setCells r (o + 1) _ _ (h.set o v) (by simp; omega)
   refine cast (congrArg _ ?_) this
   apply congrArg
   apply List.ext_getElem?
   intro i
   simp only [List.getElem?_append, List.length_append, List.length_take, List.length_drop, Array.toList_setIfInBounds, List.length_set, List.length_cons, Array.length_toList, List.getElem?_take, List.getElem?_drop, List.getElem?_set]
   by_cases h1 : i < o
   ·simp [show i < min (o + 1) cs.size by omega, show i < min o cs.size by omega, show i < min (o + 1) cs.size + r.length by omega, show i < min o cs.size + (r.length + 1) by omega, show i < o + 1 by omega, h1, show ¬ o = i by omega]
   ·by_cases h2 : i = o
    ·subst h2
     simp [show i < min (i + 1) cs.size by omega, show ¬ i < min i cs.size by omega, show i < min (i + 1) cs.size + r.length by omega, show i < min i cs.size + (r.length + 1) by omega, show i < cs.size by omega, show min i cs.size = i by omega]
    ·by_cases h3 : i < o + 1 + r.length
     ·have e1 : i - min (o + 1) cs.size = i - (o + 1) := by omega
      have e2 : i - min o cs.size = (i - (o + 1)) + 1 := by omega
      simp [show ¬ i < min (o + 1) cs.size by omega, show ¬ i < min o cs.size by omega, show i < min (o + 1) cs.size + r.length by omega, show i < min o cs.size + (r.length + 1) by omega, e1, e2]
     ·have e1 : o + 1 + r.length + (i - (min (o + 1) cs.size + r.length)) = i := by omega
      have e2 : o + (r.length + 1) + (i - (min o cs.size + (r.length + 1))) = i := by omega
      simp [show ¬ i < min (o + 1) cs.size + r.length by omega, show ¬ i < min o cs.size + (r.length + 1) by omega, e1, e2, show ¬ o = i by omega]
theorem KeepBut.setCells {R N : Nat} {W : World} : ∀ (vs : List Value) (o : Nat) (w : World), KeepBut R N W w → KeepBut R N W (w.setCells R o vs)
 | [], _, _, h => h
 | v :: r, o, w, h => by
   rw [World.setCells]
   exact KeepBut.setCells r (o + 1) _ (h.set o v)
section
variable {P : Program} {ops : Array Oper} {rest : List Oper} {o : Oper} {a : Act} {w : World} {Q : Exit → Act → World → Prop}
theorem wpList_new (hg : o.guard = none) (T : TypeId) (ho : o.op = .alloc T) (zs : Array Value)
  (hrun : ∀ w, (Instr.alloc T true (.tuple #[])).run P w = .ok (.pointer (some ⟨w.heap.size, 0, none⟩)) (w.alloc (.cells zs T)))
  (h : ∀ W B, w.heap.size ≤ B → Below w.heap.size w W → Box W B T zs → wpList P ops Q rest (a.put o.dst (.pointer (some ⟨B, 0, none⟩))) W) : wpList P ops Q (o :: rest) a w := by
 refine wpList_plain hg fun K hK => ?_
 unfold Oper.wp execOp
 simp only [ho, Sem.run_bind, hrun, Result.andThen_ok, Sem.run_pure]
 exact hK _ _ (h _ _ (Nat.le_refl _) ((Below.refl _ _).alloc (Nat.le_refl _) _) (Box.new _ _ _))
theorem wpList_build2 (hg : o.guard = none) (t : TypeId) (parts : Array (Nat × Operand)) (ho : o.op = .build t parts) (cells : Array Value)
  (hc : P.built t (parts.map fun (i, x) => (i, a.eval x)).toList = some cells) (h : wpList P ops Q rest (a.put o.dst (.agg cells)) w) : wpList P ops Q (o :: rest) a w :=
 wpList_build hg t parts ho (by rw [hc]; rfl) (by rw [hc]; exact h)
theorem wpList_load_box (hg : o.guard = none) (ty : TypeId) (x : Operand) (ho : o.op = .load ty x) (B : Nat) (hx : a.eval x = .pointer (some ⟨B, 0, none⟩)) (T : TypeId) (cells : Array Value) (hb : Box w B T cells)
  (d : TypeDesc) (hu : P.underlying ty = some d) (hd : d.isRow = true) (hi : (P.info? ty).map (·.size) = some cells.size)
  (h : wpList P ops Q rest (a.put o.dst (.agg cells)) w) : wpList P ops Q (o :: rest) a w :=
 wpList_load_mid hg ty x ho B 0 hx cells.toList d hb.range hu hd (by simpa using hi) (by simpa using h)
theorem wpList_store_box (hg : o.guard = none) (ty : TypeId) (x y : Operand) (ho : o.op = .store ty x y) (B off : Nat) (T : TypeId) (old cells new : Array Value) (hx : a.eval x = .pointer (some ⟨B, off, none⟩)) (hy : a.eval y = .agg cells)
  (hb : Box w B T old) (hi : (P.info? ty).map (·.size) = some cells.size) (hold : off + cells.size ≤ old.size) (h1 : cells.all (·.oneCell') = true)
  (hn : old.toList.take off ++ cells.toList ++ old.toList.drop (off + cells.size) = new.toList)
  (h : ∀ W, KeepBut B w.heap.size w W → Box W B T new → wpList P ops Q rest (a.put o.dst undef) W) : wpList P ops Q (o :: rest) a w := by
 refine wpList_store_mid hg ty x y ho B off cells hx hy (hb.there off cells.size hold) hi h1 (h _ ((KeepBut.refl _ _).setCells _ _ _) ?_)
 have := Box.setCells cells.toList off w old hb (by simpa using hold)
 simpa [hn] using this
end
section
variable {P : Program} {ops : Array Oper} {rest : List Oper} {a : Act} {w : World} {Q : Exit → Act → World → Prop} {T0 T1 T2 : TypeId} {c0 c1 c2 : Array Value}
theorem boxes1l (h : ∀ W, Below w.heap.size w W → w.heap.size + 1 ≤ W.heap.size → Box W w.heap.size T0 c0 → wpList P ops Q rest a W) : wpList P ops Q rest a (w.alloc (.cells c0 T0)) :=
 h _ ((Below.refl _ _).alloc (Nat.le_refl _) _) (by simp) (Box.new _ _ _)
theorem boxes2l (h : ∀ W, Below w.heap.size w W → w.heap.size + 2 ≤ W.heap.size → Box W w.heap.size T0 c0 → Box W (w.heap.size + 1) T1 c1 → wpList P ops Q rest a W) : wpList P ops Q rest a ((w.alloc (.cells c0 T0)).alloc (.cells c1 T1)) := by
 refine h _ (((Below.refl _ _).alloc (Nat.le_refl _) _).alloc (by simp) _) (by simp) ((Box.new _ _ _).alloc _) ?_
 have := Box.new (w.alloc (.cells c0 T0)) T1 c1
 rwa [World.size_alloc] at this
end
theorem Box.results {P : Program} {w : World} {B : Nat} {T : TypeId} {cs : Array Value} (b : Box w B T cs) {fn : Func} {p : Tmp} {ty : TypeId} (h : fn.results = #[.cell p ty]) (tmps : Array Value) (d : TypeDesc)
  (ht : tmps.getD p undef = .pointer (some ⟨B, 0, none⟩)) (hu : P.underlying ty = some d) (hd : d.isRow = true) (hi : (P.info? ty).map (·.size) = some cs.size) : (results fn tmps).run P w = .ok (.agg cs) w := by
 refine results_cell_row h tmps w B T cs (0, 0) d ht b.blk hu ?_ hi
 cases d <;> simp_all [TypeDesc.isRow]
theorem setCells_keeps {S : World → Prop} {B : Nat} (hS : ∀ w i u, S w → S (w.setCell ⟨B, i, none⟩ u)) : ∀ (vs : List Value) (o : Nat) (w : World), S w → S (w.setCells B o vs)
 | [], _, _, h => h
 | v :: r, o, w, h => by
   rw [World.setCells]
   exact setCells_keeps hS r (o + 1) _ (hS _ _ _ h)
section
variable {P : Program} {ops : Array Oper} {Q : Exit → Act → World → Prop} {md : Region.Mode} {S : World → Prop}
theorem wpAnyH_storeN (B : Nat) (T : TypeId) (i : Nat) {o : Oper} (hi : ops[i]? = some o) (hg : o.guard = none) (hd : o.dst = none) {ty : TypeId} {x y : Operand} (ho : o.op = .store ty x y) (off : Nat) (cells cs new : Array Value) {a : Act} {fuel : Nat} {listed : Array Bool} {w : World}
  (hr : Region.ready md ops listed = [i]) (hS : ∀ w i u, S w → S (w.setCell ⟨B, i, none⟩ u)) (hx : a.eval x = .pointer (some ⟨B, off, none⟩)) (hy : a.eval y = .agg cells)
  (hb : Box w B T cs) (hs : S w) (hi2 : (P.info? ty).map (·.size) = some cells.size) (hoff : off + cells.size ≤ cs.size) (h1 : cells.all (·.oneCell') = true)
  (hn : cs.toList.take off ++ cells.toList ++ cs.toList.drop (off + cells.size) = new.toList)
  (h : ∀ w', Box w' B T new → S w' → wpAnyH P md ops Q S fuel (listed.setIfInBounds i true) a w') : wpAnyH P md ops Q S (fuel + 1) listed a w := by
 refine wpAnyH_all hr (by simp) fun j hj => ?_
 obtain rfl : j = i := by simpa using hj
 unfold wpOp
 rw [hi]
 have hw : Region.wanted o (yielded ops a.tmps) = true := by simp [Region.wanted, hg]
 simp only [hw, if_true]
 left
 have hb2 := Box.setCells cells.toList off w cs hb (by simpa using hoff)
 have hb3 : Box (w.setCells B off cells.toList) B T new := by simpa [hn] using hb2
 have hs2 := setCells_keeps hS cells.toList off w hs
 refine wp_store_mid ty x y ho B off cells hx hy (hb.there off cells.size hoff) hi2 h1 ?_
 rw [hd]
 exact ⟨hs2, h _ hb3 hs2⟩
end
theorem exec_load {P : Program} {S : World → Prop} {oi : Oper} {a : Act} (ty : TypeId) (x : Operand) (ho : oi.op = .load ty x) (b o : Nat) (hx : a.eval x = .pointer (some ⟨b, o, none⟩)) (cells : Array Value) (hc : ∀ w, S w → w.rangeAt b o cells.toList)
  (d : TypeDesc) (hu : P.underlying ty = some d) (hd : d.isRow = true) (hi : (P.info? ty).map (·.size) = some cells.size) : ∀ w, S w → (execOp a.eval oi).run P w = .ok (.value (.agg cells)) w := fun w hS => by
 unfold execOp
 simp only [ho, hx, Sem.run_bind, run_loadAt_mid w b o ty cells.toList d (hc w hS) hu hd (by simpa using hi), Result.andThen_ok, Sem.run_pure]
end
end Go.Mono
namespace Go.Proofs.YtcgfdibagldafaaGreatDoor
open Go.RowKit Go.Mono
theorem by_any (p : Option Addr) (n c1 : Nat) (f : Nat → Int) (d : Int) (w : World) (h1 : SlF w (.slice p n c1) n f)
  (f0 : ∀ i, i < n → 0 ≤ f i) (f1 : ∀ i, i < n → f i < 1000000000) (hn : n ≤ 1000000) (d0 : 0 ≤ d) (d1 : d < 1000000000) :
  Calls Tryz.prog 211 #[.slice p n c1, .int .i64 d] w fun e w' => e = .returned (.slice (some ⟨w.heap.size, 0, none⟩) (n + 1) (n + 1)) ∧ Below w.heap.size w w' ∧
   ∃ h, RowF w' w.heap.size (n + 1) h ∧ (∀ j, j < n + 1 → 0 ≤ h j) ∧ (∀ j, j < n + 1 → h j < 1000000000) ∧ vf h (n + 1) = vf f n * d := by
 obtain ⟨hc1, hn1, hx1⟩ := h1.opens
 clear h1
 go_enter Tryz.func211, Tryz.ntmps211
 go_wp2_with (at_make; refine wpList_make_ints _ rfl _ _ 123 rfl Tryz.underlying123 infoInt _ _ (n + 1) rfl rfl (by simp) (by simp) (by omega) ?_; intro w1 r1 b1; have s1 := b1.size; have L1 := r1.lt)
 go_loopw [6, 16] (fun c a wr => ∃ i : Nat, i ≤ n ∧ a = .int .i64 i ∧ Below w.heap.size w wr ∧ ∃ h cc, c = .int .i64 cc ∧ RowF wr w.heap.size (n + 1) h ∧ ByInv n f d i h cc) (fun _ a _ => n - (intOf a).toNat)
 case atStart => exact ⟨0, Nat.zero_le _, rfl, b1, _, _, rfl, r1, ByInv.start⟩
 case round =>
  clear b1 s1 L1 r1
  obtain ⟨i, hi, rfl, hb, h, cc, rfl, hr, HT⟩ := hrel
  by_cases hlt : i < n
  ·obtain ⟨b, off, rfl, hbs, hcell⟩ := hx1 (by omega)
   have a1 := (hb.cell (p := ⟨b, off + i, none⟩) hbs).trans (hcell i hlt)
   have fi0 := f0 i hlt
   have fi1 := f1 i hlt
   have a2 := hr.cell i (by omega)
   have a3 := hr.frozen i
   have d3 := HT.c0
   have d4 := HT.c1
   obtain ⟨d5, d6⟩ := mul_bd fi0 fi1 d0 d1
   clear hcell hx1 f0 f1
   go_wp2
   go_roundw
   case rel => exact ⟨i + 1, by omega, by go_num, hb.setCell (p := ⟨w.heap.size, i, none⟩) (Nat.le_refl _) _, _, _, rfl, hr.set i _, HT.step hlt fi0 fi1 d0 d1⟩
   case measure => simp [intOf]; omega
  ·obtain rfl : i = n := by omega
   have a2 := hr.cell i (by omega)
   have a3 := hr.frozen i
   obtain ⟨q1, q2, q3⟩ := HT.done
   replace q3 := Lib.hid q3
   clear hlt hi hx1 f0 f1
   go_wp2
   go_ret
   exact ⟨rfl, hb.setCell (p := ⟨w.heap.size, i, none⟩) (Nat.le_refl _) _, _, hr.set i cc, q1, q2, q3.out⟩
theorem part_any (p : Option Addr) (n c1 : Nat) (f : Nat → Int) (d : Int) (w : World) (h1 : SlF w (.slice p n c1) n f)
  (f0 : ∀ i, i < n → 0 ≤ f i) (f1 : ∀ i, i < n → f i < 1000000000) (hn : n ≤ 1000000) (d0 : 0 < d) (d1 : d < 1000000000) :
  Calls Tryz.prog 210 #[.slice p n c1, .int .i64 d] w fun e w' => ∃ b k h r, e = .returned (.tuple #[.slice (some ⟨b, 0, none⟩) k n, .int .i64 r]) ∧ SlF w' (.slice (some ⟨b, 0, none⟩) k n) k h ∧ Digs h k ∧ vf f n = d * vf h k + r ∧ 0 ≤ r ∧ r < d ∧ k ≤ n ∧ Below w.heap.size w w' := by
 obtain ⟨hc1, hn1, hx1⟩ := h1.opens
 clear h1
 go_enter Tryz.func210, Tryz.ntmps210
 go_wp2_with (at_make; refine wpList_make_ints _ rfl _ _ 123 rfl Tryz.underlying123 infoInt _ _ n rfl rfl (by simp) (by simp) (by omega) ?_; intro w1 r1 b1; have s1 := b1.size; have L1 := r1.lt)
 go_loopw [7, 8] (fun c a wr => ∃ i : Nat, i ≤ n ∧ a = .int .i64 ((i : Int) - 1) ∧ Below w.heap.size w wr ∧ ∃ h cc, c = .int .i64 cc ∧ RowF wr w.heap.size n h ∧ PartInv n f d i h cc) (fun _ a _ => (intOf a + 1).toNat)
 case atStart => exact ⟨n, Nat.le_refl _, rfl, b1, _, _, rfl, r1, PartInv.start d0⟩
 case round =>
  clear b1 s1 L1 r1
  obtain ⟨i, hi, rfl, hb, h, cc, rfl, hr, HT⟩ := hrel
  by_cases hlt : 0 < i
  ·obtain ⟨b, off, rfl, hbs, hcell⟩ := hx1 (by omega)
   obtain ⟨i, rfl⟩ : ∃ j, i = j + 1 := ⟨i - 1, by omega⟩
   rw [show ((i + 1 : Nat) : Int) - 1 = (i : Int) by omega]
   have a1 := (hb.cell (p := ⟨b, off + i, none⟩) hbs).trans (hcell i (by omega))
   have fi0 := f0 i (by omega)
   have fi1 := f1 i (by omega)
   have a2 := hr.cell i (by omega)
   have a3 := hr.frozen i
   have d3 := HT.r0
   have d4 := HT.r1
   have hd : ¬ d = 0 := by omega
   clear hcell hx1 f0 f1
   go_wp2
   go_region
   go_wp2
   go_roundw
   case rel => exact ⟨i, by omega, rfl, (hb.setCell (p := ⟨w.heap.size, i, none⟩) (Nat.le_refl _) _).drew, _, _, rfl, (hr.set i _).drewN 1, HT.step (by omega) fi0 fi1⟩
   case measure => simp [intOf]
  ·obtain rfl : i = 0 := by omega
   clear hlt hi hx1 f0 f1
   have hs := hr.slice (by omega) n (Nat.le_refl _) n (Nat.le_refl _)
   obtain ⟨c1', c2'⟩ := HT.done
   have hle := trimN_le h n
   have d3 := HT.r0
   have d4 := HT.r1
   replace c2' := Lib.hid c2'
   go_wp2_with (go_at_call 163; refine (trim_any _ _ _ h _ hs).mono ?_; rintro e w' ⟨rfl, rfl⟩)
   go_ret2
   exact ⟨_, _, h, cc, rfl, hs.take _ hle, c1', c2'.out, d3, d4, hle, hb⟩

theorem part_sz (m1 : Nat) (w wf : World) (hx : Ext wf w) (p : Option Addr) (n c1 : Nat) (N d : Int) (h1 : Sz m1 wf (.slice p n c1) N) (hm1 : m1 ≤ 1000000) (d0 : 0 < d) (d1 : d < 1000000000) :
  Calls Tryz.prog 210 #[.slice p n c1, .int .i64 d] w fun e w' => ∃ p k c, e = .returned (.tuple #[.slice p k c, .int .i64 (N % d)]) ∧ Sz m1 w' (.slice p k c) (N / d) ∧ Below w.heap.size w w' := by
 obtain ⟨n, f, s1, d1', rfl, l1, rfl⟩ := (h1.ext hx).sl
 refine (part_any p n c1 f d w s1 d1'.lo d1'.hi (by omega) d0 d1).mono ?_
 rintro e w' ⟨b, k, h, r, rfl, hs, hd, hv, r0, r1, hk, hb⟩
 have e1 : vf f n / d = vf h k := by
  rw [hv]; exact Int.ediv_eq_iff_of_pos d0 |>.2 ⟨by rw [Int.mul_comm]; omega, by rw [Int.mul_comm] ; omega⟩
 have e2 : vf f n % d = r := by
  have := Int.mul_ediv_add_emod (vf f n) d
  rw [e1] at this; omega
 exact ⟨_, _, _, by rw [e2], ⟨k, h, hs, hd, e1.symm, by omega⟩, hb⟩
end Go.Proofs.YtcgfdibagldafaaGreatDoor
namespace Go.Mono
open Go.RowKit
section
section
variable {F : Fence} {n : Nat} {P : Program} {ops : Array Oper} {rest : List Oper} {o : Oper} {a : Act} {w : World} {Q : Exit → Act → World → Prop}
theorem wpListIn_new (hg : o.guard = none) (T : TypeId) (ho : o.op = .alloc T) (zs : Array Value)
  (hrun : ∀ w, (Instr.alloc T true (.tuple #[])).run P w = .ok (.pointer (some ⟨w.heap.size, 0, none⟩)) (w.alloc (.cells zs T)))
  (h : ∀ W B, w.heap.size ≤ B → Below w.heap.size w W → Box W B T zs → wpListIn F n P ops Q rest (a.put o.dst (.pointer (some ⟨B, 0, none⟩))) W) : wpListIn F n P ops Q (o :: rest) a w := by
 refine wpListIn_plain hg fun K hK => ?_
 unfold Oper.wpIn
 refine ⟨by simp [Oper.about, ho], ?_⟩
 rw [Oper.semAt_plain F _ _ (by rw [ho]; intro c hc'; cases hc')]
 unfold execOp
 simp only [ho, Sem.run_bind, hrun, Result.andThen_ok, Sem.run_pure]
 exact hK _ _ (h _ _ (Nat.le_refl _) ((Below.refl _ _).alloc (Nat.le_refl _) _) (Box.new _ _ _))
theorem wpListIn_load_mid (hg : o.guard = none) (ty : TypeId) (x : Operand) (ho : o.op = .load ty x)
  (b off : Nat) (hx : a.eval x = .pointer (some ⟨b, off, none⟩)) (cs : List Value) (d : TypeDesc) (hc : w.rangeAt b off cs)
  (hu : P.underlying ty = some d) (hd : d.isRow = true) (hi : (P.info? ty).map (·.size) = some cs.length)
  (h : wpListIn F n P ops Q rest (a.put o.dst (.agg cs.toArray)) w) : wpListIn F n P ops Q (o :: rest) a w := by
 refine wpListIn_plain hg fun K hK => ?_
 unfold Oper.wpIn
 refine ⟨by simp [Oper.about, ho], ?_⟩
 rw [Oper.semAt_plain F _ _ (by rw [ho]; intro c hc'; cases hc')]
 unfold execOp
 simp only [ho, hx, Sem.run_bind, run_loadAt_mid w b off ty cs d hc hu hd hi, Result.andThen_ok, Sem.run_pure]
 exact hK _ _ h
theorem wpListIn_load_box (hg : o.guard = none) (ty : TypeId) (x : Operand) (ho : o.op = .load ty x) (B : Nat) (hx : a.eval x = .pointer (some ⟨B, 0, none⟩)) (T : TypeId) (cells : Array Value) (hb : Box w B T cells)
  (d : TypeDesc) (hu : P.underlying ty = some d) (hd : d.isRow = true) (hi : (P.info? ty).map (·.size) = some cells.size)
  (h : wpListIn F n P ops Q rest (a.put o.dst (.agg cells)) w) : wpListIn F n P ops Q (o :: rest) a w :=
 wpListIn_load_mid hg ty x ho B 0 hx cells.toList d hb.range hu hd (by simpa using hi) (by simpa using h)
theorem wpListIn_store_box (hg : o.guard = none) (ty : TypeId) (x y : Operand) (ho : o.op = .store ty x y) (B off : Nat) (T : TypeId) (old cells new : Array Value) (hx : a.eval x = .pointer (some ⟨B, off, none⟩)) (hy : a.eval y = .agg cells)
  (hb : Box w B T old) (hi : (P.info? ty).map (·.size) = some cells.size) (hold : off + cells.size ≤ old.size) (h1 : cells.all (·.oneCell') = true)
  (hn : old.toList.take off ++ cells.toList ++ old.toList.drop (off + cells.size) = new.toList)
  (h : ∀ W, KeepBut B w.heap.size w W → KeepsOthers w W → Box W B T new → wpListIn F n P ops Q rest (a.put o.dst undef) W) : wpListIn F n P ops Q (o :: rest) a w := by
 refine wpListIn_plain hg fun K hK => ?_
 unfold Oper.wpIn
 refine ⟨by simp [Oper.about, ho], ?_⟩
 rw [Oper.semAt_plain F _ _ (by rw [ho]; intro c hc'; cases hc')]
 unfold execOp
 simp only [ho, hx, hy, Sem.run_bind, run_storeAt_mid w B off ty cells (hb.there off cells.size hold) hi h1, Result.andThen_ok, Sem.run_pure]
 refine hK _ _ (h _ ((KeepBut.refl _ _).setCells _ _ _) (setCells_keeps (S := fun V => KeepsOthers w V) (B := B) (fun V i u hV => hV.trans (.setCell _ _ _)) _ _ _ (.refl _)) ?_)
 have := Box.setCells cells.toList off w old hb (by simpa using hold)
 simpa [hn] using this
end
theorem whole_new {old cells : Array Value} (h : old.size = cells.size) : old.toList.take 0 ++ cells.toList ++ old.toList.drop (0 + cells.size) = cells.toList := by
 simp [← h]
end
end Go.Mono
namespace Go.Proofs.YtcgfdibagldafaaGreatDoor
open Go.RowKit Go.Mono
theorem clone_any (p : Option Addr) (n c1 : Nat) (f : Nat → Int) (w : World) (h1 : SlF w (.slice p n c1) n f) (hn : n ≤ 1000000) :
  Calls Tryz.prog 160 #[.slice p n c1] w fun e w' => ∃ v, e = .returned v ∧ OwnF w' w.heap.size v n f ∧ Below w.heap.size w w' := by
 have hq : ∀ (w : World), (binOp .eql 123 (.slice p n c1) (.slice none 0 0)).run Tryz.prog w = .ok (.bool p.isNone) w := fun w => Lib.run_eql_slice_nil w _ _ p n c1 0 0 Tryz.underlying123
 cases p with
 | none =>
   obtain ⟨rfl, rfl⟩ : n = 0 ∧ c1 = 0 := by
    rcases h1 with ⟨h, rfl⟩ | ⟨b, off, cap, cs, fr, h, _⟩
    ·simp at h; exact ⟨rfl, h⟩
    ·simp at h
   go_enter Tryz.func160, Tryz.ntmps160
   go_wp2
   go_ret
   exact ⟨_, rfl, OwnF.nil _ _ _, Below.refl _ _⟩
 | some a =>
   have ho : OwnF (w.alloc (.cells #[] 3)) w.heap.size (.slice (some ⟨w.heap.size, 0, none⟩) 0 0) 0 (fun _ => 0) := World.ownsRow_lit w #[] 0 (Nat.le_refl _) (by decide) rfl
   have hx : Below w.heap.size w (w.alloc (.cells #[] 3)) := (Below.refl _ _).alloc (Nat.le_refl _) _
   have hs := h1.ext (.of_below hx)
   clear h1
   go_enter Tryz.func160, Tryz.ntmps160
   go_wp2_with (at_builtin; refine wpList_append_ints _ rfl _ _ 123 rfl Tryz.underlying123 infoInt w.heap.size _ 0 (fun _ => 0) rfl ho _ n c1 f rfl hs (by omega) (by simp) ?_; intro v' w1 ho' hg)
   go_ret
   refine ⟨_, rfl, ?_, hx.grown hg (by simp) (by rintro k ⟨⟩; exact Nat.le_refl _)⟩
   have := ho'.congr (f' := f) (fun i _ => by simp)
   rwa [Nat.zero_add] at this
theorem minus_any (p q : Option Addr) (n m c1 c2 : Nat) (f g : Nat → Int) (w : World) (h1 : SlF w (.slice p n c1) n f) (h2 : SlF w (.slice q m c2) m g)
  (f0 : ∀ i, i < n → 0 ≤ f i) (f1 : ∀ i, i < n → f i < 1000000000) (g0 : ∀ i, i < m → 0 ≤ g i) (g1 : ∀ i, i < m → g i < 1000000000) (hmn : m ≤ n) (hn : n ≤ 1000000) (hle : vf g m ≤ vf f n) :
  Calls Tryz.prog 166 #[.slice p n c1, .slice q m c2] w fun e w' => ∃ p k c h, e = .returned (.slice p k c) ∧ SlF w' (.slice p k c) k h ∧ Digs h k ∧ vf h k = vf f n - vf g m ∧ k ≤ n ∧ Below w.heap.size w w' := by
 obtain ⟨hc2, hn2, hx2⟩ := h2.opens
 clear h2
 by_cases h0 : n = 0
 ·subst h0
  obtain rfl : m = 0 := by omega
  go_enter Tryz.func166, Tryz.ntmps166
  go_wp2_with (go_at_call 160; refine (clone_any _ _ _ f _ h1 (by omega)).mono ?_; rintro e w' ⟨v, rfl, ho, hb⟩)
  obtain ⟨p2, c3, rfl⟩ := ho.shape
  have hs := ho.sl (by omega)
  go_wp2_with fail
  go_loopw [13] (fun a wr => a = .int .i64 0 ∧ wr = w') (fun _ _ => 0)
  case atStart => exact ⟨rfl, rfl⟩
  case round =>
   obtain ⟨rfl, rfl⟩ := hrel
   go_wp2
   go_loopw [28] (fun a wr' => a = .int .i64 0 ∧ wr' = wr) (fun _ _ => 0)
   case atStart => exact ⟨rfl, rfl⟩
   case round =>
    obtain ⟨rfl, rfl⟩ := hrel
    go_wp2_with (go_at_call 163; refine (trim_any _ _ _ f _ hs).mono ?_; rintro e w' ⟨rfl, rfl⟩)
    go_ret
    exact ⟨p2, 0, c3, f, rfl, hs, ⟨fun i hi => by omega, fun i hi => by omega, fun hi => by omega⟩, by simp [vf], Nat.le_refl _, hb⟩
 ·go_enter Tryz.func166, Tryz.ntmps166
  go_wp2_with (go_at_call 160; refine (clone_any _ _ _ f _ h1 (by omega)).mono ?_; rintro e w' ⟨v, rfl, ho, hb⟩)
  rcases ho.open with ⟨_, h⟩ | ⟨r, cap, rfl, hB, hcap, hr⟩
  ·exact absurd h h0
  clear ho h1
  have HP := MinusInv.start hmn f0 f1 g0 g1
  have hS : 0 ≤ vf f n - vf g m := by omega
  go_wp2_with fail
  go_loopw [13] (fun a wr => ∃ k : Nat, k ≤ m ∧ a = .int .i64 k ∧ Below w.heap.size w wr ∧ RowF wr r n (fun j => f j - (if j < k then g j else 0))) (fun a _ => m - (intOf a).toNat)
  case atStart => exact ⟨0, Nat.zero_le _, rfl, hb, hr.congr fun i _ => by simp⟩
  case round =>
   clear hb hr
   obtain ⟨k, hk, rfl, hb, hr⟩ := hrel
   by_cases hlt : k < m
   ·obtain ⟨b, off, rfl, hbs, hcell⟩ := hx2 (by omega)
    have a1 := (hb.cell (p := ⟨b, off + k, none⟩) hbs).trans (hcell k hlt)
    have a2 := hr.cell k (by omega)
    rw [if_neg (by omega), Int.sub_zero] at a2
    have a3 := hr.frozen k
    have d1 := f0 k (by omega)
    have d2 := f1 k (by omega)
    have d3 := g0 k hlt
    have d4 := g1 k hlt
    clear hcell hx2 f0 f1 g0 g1 HP
    go_wp2
    go_roundw
    case rel =>
     refine ⟨k + 1, by omega, by go_num, hb.setCell (p := ⟨r, k, none⟩) hB _, (hr.set k _).congr fun i hi => ?_⟩
     by_cases e : i = k
     ·subst e; simp
     ·rw [if_neg e]; simp only [show i < k + 1 ↔ i < k by omega]
    case measure => simp [intOf]; omega
   ·obtain rfl : k = m := by omega
    clear hlt hk hx2
    clear f0 f1 g0 g1
    go_wp2
    go_loopw [28] (fun a wr => ∃ i : Nat, i ≤ n ∧ a = .int .i64 i ∧ Below w.heap.size w wr ∧ ∃ h, RowF wr r n h ∧ MinusInv n (vf f n - vf g k) i h) (fun a _ => n - (intOf a).toNat)
    case atStart => exact ⟨0, Nat.zero_le _, rfl, hb, _, hr, HP⟩
    case round =>
     clear hb hr HP
     obtain ⟨i, hi, rfl, hb, h, hr, HP⟩ := hrel
     by_cases hlt : i < n
     ·obtain ⟨q1, q2, q3⟩ := HP.bd hlt
      have a2 := hr.cell i (by omega)
      have a3 := hr.frozen i
      by_cases hge : h i < 0
      ·have hl := HP.last hS hlt hge
       obtain ⟨q4, q5⟩ := q3 hl
       have a4 := hr.cell (i + 1) (by omega)
       have a5 := hr.frozen (i + 1)
       have r1 := hr.set i (h i + 1000000000)
       have a6 := r1.cell (i + 1) (by omega)
       have a7 := r1.frozen (i + 1)
       simp only [show ¬ i + 1 = i by omega, if_false] at a6
       clear q3
       go_wp2
       go_roundw
       case rel => exact ⟨i + 1, by omega, by go_num, (hb.setCell (p := ⟨r, i, none⟩) hB _).setCell (p := ⟨r, i + 1, none⟩) hB _, _, r1.set (i + 1) (h (i + 1) - 1), HP.carry hl hge⟩
       case measure => simp [intOf]; omega
      ·have hge' : 0 ≤ h i := by omega
       clear q3
       go_wp2
       go_roundw
       case rel => exact ⟨i + 1, by omega, by go_num, hb, _, hr, HP.plain hlt hge'⟩
       case measure => simp [intOf]; omega
     ·obtain rfl : i = n := by omega
      clear hlt hi
      have hs := hr.slice (by omega) i (Nat.le_refl _) cap hcap
      obtain ⟨c1', c2'⟩ := HP.done
      have hle := trimN_le h i
      replace c2' := Lib.hid c2'
      go_wp2_with (go_at_call 163; refine (trim_any _ _ _ h _ hs).mono ?_; rintro e w' ⟨rfl, rfl⟩)
      go_ret
      exact ⟨_, _, _, h, rfl, hs.take _ hle, c1', c2'.out, hle, hb⟩
theorem minus_sz (m1 m2 : Nat) (w wf : World) (hx : Ext wf w) (p q : Option Addr) (n m c1 c2 : Nat) (N M : Int) (h1 : Sz m1 wf (.slice p n c1) N) (h2 : Sz m2 wf (.slice q m c2) M) (hm1 : m1 ≤ 1000000) (hle : M ≤ N) :
  Calls Tryz.prog 166 #[.slice p n c1, .slice q m c2] w fun e w' => ∃ p k c, e = .returned (.slice p k c) ∧ Sz m1 w' (.slice p k c) (N - M) ∧ Below w.heap.size w w' := by
 obtain ⟨n, f, s1, d1, rfl, l1, rfl⟩ := (h1.ext hx).sl
 obtain ⟨m, g, s2, d2, rfl, l2, rfl⟩ := (h2.ext hx).sl
 refine (minus_any p q n m c1 c2 f g w s1 s2 d1.lo d1.hi d2.lo d2.hi (d2.len_le d1 hle) (by omega) hle).mono ?_
 rintro e w' ⟨p, k, c, h, rfl, hs, hd, hv, hk, hb⟩
 exact ⟨_, _, _, rfl, ⟨k, h, hs, hd, hv, by omega⟩, hb⟩
end Go.Proofs.YtcgfdibagldafaaGreatDoor
namespace Go.Mono
theorem cmpV_spec {f g : Nat → Int} {n m : Nat} (hf : Digs f n) (hg : Digs g m) : (cmpV f n g m < 0 ↔ vf f n < vf g m) ∧ (cmpV f n g m = 0 ↔ vf f n = vf g m) := by
 unfold cmpV
 by_cases h : n = m
 ·subst h
  rw [if_pos rfl]
  exact cmpDown_spec hf.lo hf.hi hg.lo hg.hi (cmpDown f g) rfl fun k => rfl
 ·rw [if_neg h]
  rcases Nat.lt_or_gt_of_ne h with h1 | h1
  ·have a1 := hf.lt
   have a2 := hg.ge (by omega)
   have a3 := pw_mono (i := n) (k := m - 1) (by omega)
   omega
  ·have a1 := hg.lt
   have a2 := hf.ge (by omega)
   have a3 := pw_mono (i := m) (k := n - 1) (by omega)
   omega
end Go.Mono
namespace Go.Proofs.YtcgfdibagldafaaGreatDoor
open Go.RowKit Go.Mono
theorem cmp_sz (m1 m2 : Nat) (w wf : World) (hx : Ext wf w) (p q : Option Addr) (n m c1 c2 : Nat) (N M : Int) (h1 : Sz m1 wf (.slice p n c1) N) (h2 : Sz m2 wf (.slice q m c2) M) :
  Calls Tryz.prog 124 #[.slice p n c1, .slice q m c2] w fun e w' => ∃ c : Int, (e = .returned (.int .i64 c) ∧ ∃ k, w' = w.drewN k) ∧ (c < 0 ↔ N < M) ∧ (c = 0 ↔ N = M) := by
 obtain ⟨n, f, s1, d1, rfl, l1, rfl⟩ := (h1.ext hx).sl
 obtain ⟨m, g, s2, d2, rfl, l2, rfl⟩ := (h2.ext hx).sl
 refine (cmp_any p q n m c1 c2 f g w s1 s2 d1.lo d1.hi d2.lo d2.hi).mono ?_
 intro e w' h
 exact ⟨_, h, cmpV_spec d1 d2⟩
theorem over_less (m1 m2 : Nat) (w wf : World) (hx : Ext wf w) (p q : Option Addr) (n m c1 c2 : Nat) (N M : Int) (h1 : Sz m1 wf (.slice p n c1) N) (h2 : Sz m2 wf (.slice q m c2) M) (hlt : N < M) :
  Calls Tryz.prog 164 #[.slice p n c1, .slice q m c2] w fun e w' => e = .returned (.tuple #[.slice none 0 0, .slice p n c1]) ∧ ∃ k, w' = w.drewN k := by
 have hc := cmp_sz m1 m2 w wf hx p q n m c1 c2 N M h1 h2
 clear h1 h2
 go_enter Tryz.func164, Tryz.ntmps164
 go_wp2_with (go_at_call 124; refine hc.mono ?_; rintro e w' ⟨c, ⟨rfl, k, rfl⟩, hc1, hc2⟩; have hc0 : c < 0 := hc1.2 hlt; clear hc1 hc2)
 go_ret2
 exact ⟨rfl, _, rfl⟩
end Go.Proofs.YtcgfdibagldafaaGreatDoor
