/- MatrixGroups: products of drafted matrices whose fractions are letters, walked by the evaluator. Part 2 of 6. No condition beside the row. -/
import Derived.Test.YtccmnjkgfgnmoaaGreatDoorA01
import Derived.Test.YtccmnjkgfgnmoaaGreatDoorA02
import Derived.Test.YtccmnjkgfgnmoaaGreatDoorA08
import Derived.Test.YtccmnjkgfgnmoaaGreatDoorA21
import Derived.Test.YtccmnjkgfgnmoaaGreatDoorA27
import Derived.Test.YtccmnjkgfgnmoaaGreatDoorG01
set_option linter.unusedVariables false
set_option linter.unusedSimpArgs false
set_option maxRecDepth 100000
set_option maxHeartbeats 4000000
namespace Go.Mono
open Go.RowKit
section
theorem OwnF.lower {w : World} {base base' : Nat} {v : Value} {n : Nat} {f : Nat → Int} (h : OwnF w base v n f) (hb : base' ≤ base) : OwnF w base' v n f := by
 obtain ⟨hl, h | ⟨g, cap, cur, hv, hb', hh, hr⟩⟩ := h
 ·exact ⟨hl, .inl h⟩
 ·exact ⟨hl, .inr ⟨g, cap, cur, hv, Nat.le_trans hb hb', hh, hr⟩⟩
theorem wp_push_int {P : Program} {w : World} {o : Oper} {a : Act} {K : Act → World → Prop} {Q : Exit → Act → World → Prop} (s x : Operand) (t : TypeId) (ho : o.op = .call { callee := .builtin .append, args := #[s, x], argTypes := #[t, t] })
  (h1 : P.underlying t = some (.slice 3)) (h2 : (P.info? 3).map (fun i => (i.zero, i.size, i.bytes)) = some (some (.int .i64 0), 1, 8))
  (base : Nat) (v : Value) (n : Nat) (f : Nat → Int) (hs : a.eval s = v) (hown : OwnF w base v n f) (B : Nat) (y : Int) (hx : a.eval x = .slice (some ⟨B, 0, none⟩) 1 1) (hb : Box w B 3 #[.int .i64 y]) (hn : n ≤ 1000000) (hbase : base ≤ w.heap.size)
  (h : ∀ v' w', OwnF w' base v' (n + 1) (fun i => if i < n then f i else y) → w.grownBy w' v.ownBlock → K (a.put o.dst v') w') : o.wp P a w K Q := by
 obtain ⟨i, hi, hz, hs1, hb1⟩ := info_parts h2
 refine wp_append_own w s x t ho base 3 i (.int .i64 0) 1 8 h1 hi hz hs1 hb1 rfl (by decide) v n _ hs hown ⟨B, 0, none⟩ 1 1 [.int .i64 y] hx rfl ?_ (by simp [Value.oneCell']) (by simp [maxLen]; omega) (by omega) hbase ?_
 ·intro j u hj
  match j, hj with
  | 0, hj =>
    have := hb.cell 0
    simp at hj
    subst hj
    simpa [Addr.add] using this
  | j + 1, hj => simp at hj
 ·intro v' w' h3 h4 _
  refine h v' w' ?_ h4
  have e : (List.range n).map (fun i => Value.int .i64 (f i)) ++ [.int .i64 y] = (List.range (n + 1)).map fun i => .int .i64 (if i < n then f i else y) := by
   rw [List.range_succ, List.map_append]
   congr 1
   ·exact List.map_congr_left fun i hi => by rw [if_pos (List.mem_range.1 hi)]
   ·simp
  unfold OwnF
  rw [← e]
  exact h3
section
variable {P : Program} {ops : Array Oper} {Q : Exit → Act → World → Prop} {md : Region.Mode} {S : World → Prop}
theorem wpAnyH_storeA (B : Nat) (T : TypeId) (i : Nat) {o : Oper} (hi : ops[i]? = some o) (hg : o.guard = none) (hd : o.dst = none) {ty : TypeId} {x y : Operand} (ho : o.op = .store ty x y) (off : Nat) (cells cs new : Array Value) {a : Act} {fuel : Nat} {listed : Array Bool} {w : World}
  (hr : Region.ready md ops listed = [i]) (hS : ∀ w i u, S w → S (w.setCell ⟨B, i, none⟩ u)) (hx : a.eval x = .pointer (some ⟨B, off, none⟩)) (hy : a.eval y = .agg cells)
  (hb : Box w B T cs) (hs : S w) (hi2 : (P.info? ty).map (·.size) = some cells.size) (hoff : off + cells.size ≤ cs.size) (h1 : cells.all (·.oneCell') = true)
  (hn : cs.toList.take off ++ cells.toList ++ cs.toList.drop (off + cells.size) = new.toList)
  (h : ∀ w', KeepBut B w.heap.size w w' → Box w' B T new → S w' → wpAnyH P md ops Q S fuel (listed.setIfInBounds i true) a w') : wpAnyH P md ops Q S (fuel + 1) listed a w := by
 refine wpAnyH_all hr (by simp) fun j hj => ?_
 obtain rfl : j = i := by simpa using hj
 unfold wpOp
 rw [hi]
 have hw : Region.wanted o (yielded ops a.tmps) = true := by simp [Region.wanted, hg]
 simp only [hw, if_true]
 left
 have hb2 := Box.setCells cells.toList off w cs hb (by simpa using hoff)
 have hb3 : Box (w.setCells B off cells.toList) B T new := by simpa [hn] using hb2
 have hs2 := setCells_keeps hS cells.toList off w hs
 refine wp_store_mid ty x y ho B off cells hx hy (hb.there off cells.size hoff) hi2 h1 ?_
 rw [hd]
 exact ⟨hs2, h _ ((KeepBut.refl _ _).setCells _ _ _) hb3 hs2⟩
end
theorem wpList_assign_as {P : Program} {ops : Array Oper} {rest : List Oper} {op : Oper} {a : Act} {w : World} {Q : Exit → Act → World → Prop} {v : Value} (hg : op.guard = none) (x : Operand) (ho : op.op = .assign x) (hx : a.eval x = v)
  (h : wpList P ops Q rest (a.put op.dst v) w) : wpList P ops Q (op :: rest) a w :=
 wpList_step fun K hK => by
  have hw : Region.wanted op (yielded ops a.tmps) = true := by simp [Region.wanted, hg]
  simp only [hw, if_true]
  unfold Oper.wp execOp
  simp only [ho, hx, Sem.run_bind, Result.andThen_ok, Sem.run_pure]
  exact hK _ _ h
theorem wpList_known {P : Program} {ops : Array Oper} {rest : List Oper} {op : Oper} {a : Act} {w : World} {Q : Exit → Act → World → Prop} {v : Value} (hg : op.guard = none) (hx : (execOp a.eval op).run P w = .ok (.value v) w)
  (h : wpList P ops Q rest (a.put op.dst v) w) : wpList P ops Q (op :: rest) a w :=
 wpList_step fun K hK => by
  have hw : Region.wanted op (yielded ops a.tmps) = true := by simp [Region.wanted, hg]
  simp only [hw, if_true]
  unfold Oper.wp
  rw [hx, Oper.upon_value]
  exact hK _ _ h
theorem wpList_min2 {P : Program} {ops : Array Oper} {rest : List Oper} {op : Oper} {a : Act} {w : World} {Q : Exit → Act → World → Prop} (hg : op.guard = none) (x y : Operand) (T : Array TypeId) (ho : op.op = .call { callee := .builtin .min, args := #[x, y], argTypes := T })
  (m k L : Nat) (hx : a.eval x = .int .i64 (m : Int)) (hy : a.eval y = .int .i64 (k : Int)) (hL : min m k = L) (h : wpList P ops Q rest (a.put op.dst (.int .i64 (L : Int))) w) : wpList P ops Q (op :: rest) a w := by
 refine wpList_known hg ?_ h
 subst hL
 unfold execOp
 simp only [ho, resolve, invoke, builtin, Sem.run_bind, Sem.run_pure, Result.andThen_ok, List.map_toArray, List.map_cons, List.map_nil, hx, hy]
 by_cases hmk : m ≤ k
 ·have hmk' : (m : Int) ≤ k := by omega
  rw [Nat.min_eq_left hmk]
  simp [Builtin.min_, Builtin.min2, hmk', Result.andThen]
  omega
 ·have hmk' : ¬ (m : Int) ≤ k := by omega
  rw [Nat.min_eq_right (by omega)]
  simp [Builtin.min_, Builtin.min2, hmk', Result.andThen]
  omega
end
theorem vf_cons (f : Nat → Int) (k : Nat) : vf f (k + 1) = f 0 + 1000000000 * vf (fun j => f (j + 1)) k := by
 have := vf_split f 1 k
 rw [Nat.add_comm 1 k] at this
 rw [this]
 simp only [vf, pw, Int.zero_add, Int.mul_one, Int.one_mul]
 congr 2
 exact vf_congr fun i _ => by rw [Nat.add_comm]
def shl (x : Int) (f : Nat → Int) : Nat → Int := fun j => if j = 0 then x else f (j - 1)
theorem vf_shl (x : Int) (f : Nat → Int) (k : Nat) : vf (shl x f) (k + 1) = x + 1000000000 * vf f k := by
 rw [vf_cons]
 congr 2
structure ParI (f : Nat → Int) (n : Nat) (B : Int) (i : Nat) (q : Nat → Int) (R : Int) : Prop where
 eq : vf (fun j => f (i + j)) (n - i) = vf (fun j => q (i + j)) (n - i) * B + R
 r0 : 0 ≤ R
 r1 : R < B
 lo : ∀ j, i ≤ j → j < n → 0 ≤ q j
 hi : ∀ j, i ≤ j → j < n → q j < 1000000000
theorem ParI.start (f q : Nat → Int) (n : Nat) {B : Int} (hB : 0 < B) : ParI f n B n q 0 :=
 ⟨by simp [vf], Int.le_refl _, hB, fun j h1 h2 => by omega, fun j h1 h2 => by omega⟩
theorem ParI.next {f q : Nat → Int} {n i : Nat} {B R c R' : Int} (H : ParI f n B (i + 1) q R) (hi : i < n) (hc0 : 0 ≤ c) (hc1 : c < 1000000000) (hr0 : 0 ≤ R') (hr1 : R' < B) (he : f i + 1000000000 * R = c * B + R') :
  ParI f n B i (fun j => if j = i then c else q j) R' := by
 refine ⟨?_, hr0, hr1, fun j h1 h2 => ?_, fun j h1 h2 => ?_⟩
 ·obtain ⟨k, hk⟩ : ∃ k, n - i = k + 1 := ⟨n - i - 1, by omega⟩
  have e := H.eq
  rw [show n - (i + 1) = k by omega] at e
  rw [hk, vf_cons, vf_cons]
  simp only [Nat.add_zero, if_true]
  have e1 : vf (fun j => f (i + (j + 1))) k = vf (fun j => f (i + 1 + j)) k := vf_congr fun j _ => by rw [show i + (j + 1) = i + 1 + j by omega]
  have e2 : vf (fun j => if i + (j + 1) = i then c else q (i + (j + 1))) k = vf (fun j => q (i + 1 + j)) k := vf_congr fun j _ => by rw [if_neg (by omega), show i + (j + 1) = i + 1 + j by omega]
  rw [e1, e2, e]
  generalize vf (fun j => q (i + 1 + j)) k = Q at *
  grind
 ·split
  ·exact hc0
  ·exact H.lo j (by omega) h2
 ·split
  ·exact hc1
  ·exact H.hi j (by omega) h2
theorem ParI.done {f q : Nat → Int} {n : Nat} {B R : Int} (H : ParI f n B 0 q R) : vf q n = vf f n / B ∧ R = vf f n % B := by
 have e := H.eq
 simp only [Nat.sub_zero, Nat.zero_add] at e
 have h0 := H.r0
 have h1 := H.r1
 have hB : 0 < B := by omega
 rw [e, Int.add_comm, Int.add_mul_ediv_right _ _ (by omega), Int.ediv_eq_zero_of_lt h0 h1, Int.zero_add, Int.add_mul_emod_self_right, Int.emod_eq_of_lt h0 h1]
 exact ⟨rfl, rfl⟩
theorem tdiv_parts (a b : Int) (hb : b ≠ 0) : ((a.natAbs : Int) / b.natAbs = (a.tdiv b).natAbs) ∧ ((a.natAbs : Int) % b.natAbs = (a.tmod b).natAbs) ∧
  ((decide (a < 0) != decide (b < 0)) && decide (0 < ((a.tdiv b).natAbs : Int))) = decide (a.tdiv b < 0) ∧ (decide (a < 0) && decide (0 < ((a.tmod b).natAbs : Int))) = decide (a.tmod b < 0) := by
 have h1 : (a.natAbs : Int) / b.natAbs = (a.tdiv b).natAbs := by rw [Int.natAbs_tdiv]; norm_cast
 have h2 : (a.natAbs : Int) % b.natAbs = (a.tmod b).natAbs := by
  have : (a.tmod b).natAbs = a.natAbs % b.natAbs := Int.natAbs_tmod a b
  rw [this]; norm_cast
 refine ⟨h1, h2, ?_, ?_⟩
 ·by_cases h0 : a.tdiv b = 0
  ·simp [h0]
  ·have hpos : 0 < ((a.tdiv b).natAbs : Int) := by omega
   rw [decide_eq_true hpos, Bool.and_true]
   rw [Bool.eq_iff_iff]
   simp only [bne_iff_ne, ne_eq, decide_eq_decide, decide_eq_true_eq]
   rcases Int.lt_trichotomy a 0 with ha | ha | ha
   ·rcases Int.lt_or_gt_of_ne hb with hb' | hb'
    ·have := Int.tdiv_nonneg_of_nonpos_of_nonpos (Int.le_of_lt ha) (Int.le_of_lt hb')
     omega
    ·have := Int.tdiv_nonneg (a := -a) (b := b) (by omega) (Int.le_of_lt hb')
     rw [Int.neg_tdiv] at this
     omega
   ·subst ha; simp at h0
   ·rcases Int.lt_or_gt_of_ne hb with hb' | hb'
    ·have := Int.tdiv_nonneg (a := a) (b := -b) (Int.le_of_lt ha) (by omega)
     rw [Int.tdiv_neg] at this
     omega
    ·have := Int.tdiv_nonneg (Int.le_of_lt ha) (Int.le_of_lt hb')
     omega
 ·by_cases h0 : a.tmod b = 0
  ·simp [h0]
  ·have hpos : 0 < ((a.tmod b).natAbs : Int) := by omega
   rw [decide_eq_true hpos, Bool.and_true]
   rw [Bool.eq_iff_iff]
   simp only [decide_eq_true_eq]
   by_cases ha : a < 0
   ·have := Int.tmod_nonneg (a := -a) b (by omega)
    rw [Int.neg_tmod] at this
    omega
   ·have := Int.tmod_nonneg (a := a) b (by omega)
    omega
section
section
variable {P : Program} {ops : Array Oper} {rest : List Oper} {o1 o2 o3 o4 : Oper} {a : Act} {w : World} {Q : Exit → Act → World → Prop}
theorem wpList_put1 (T : TypeId) (d : Tmp) (y : Operand) (C zs : Array Value) (g1 : o1.guard = none) (h1 : o1.op = .alloc T) (e1 : o1.dst = some d) (g2 : o2.guard = none) (h2 : o2.op = .store T (.tmp d) y) (e2 : o2.dst = none)
  (hrun : ∀ w, (Instr.alloc T true (.tuple #[])).run P w = .ok (.pointer (some ⟨w.heap.size, 0, none⟩)) (w.alloc (.cells zs T)))
  (hx : ∀ p, (a.put (some d) p).eval (.tmp d) = p) (hy : ∀ p, (a.put (some d) p).eval y = .agg C) (hi : (P.info? T).map (·.size) = some C.size) (hs : zs.size = C.size) (ho : C.all (·.oneCell') = true)
  (h : ∀ W B, w.heap.size ≤ B → Below w.heap.size w W → Box W B T C → wpList P ops Q rest (a.put (some d) (.pointer (some ⟨B, 0, none⟩))) W) : wpList P ops Q (o1 :: o2 :: rest) a w := by
 refine wpList_new g1 T h1 zs hrun ?_
 intro W1 B hle hb b1
 rw [e1]
 refine wpList_store_box g2 T (.tmp d) y h2 B 0 T zs C C (hx _) (hy _) b1 hi (by rw [Nat.zero_add]; exact Nat.le_of_eq hs.symm) ho (whole_new hs) ?_
 intro W2 hk b2
 rw [e2]
 exact h W2 B hle (hk.below hb hle hb.size) b2
theorem wpList_put2 (T : TypeId) (d d' : Tmp) (y y' : Operand) (C C' zs : Array Value) (g1 : o1.guard = none) (h1 : o1.op = .alloc T) (e1 : o1.dst = some d) (g2 : o2.guard = none) (h2 : o2.op = .alloc T) (e2 : o2.dst = some d')
  (g3 : o3.guard = none) (h3 : o3.op = .store T (.tmp d) y) (e3 : o3.dst = none) (g4 : o4.guard = none) (h4 : o4.op = .store T (.tmp d') y') (e4 : o4.dst = none)
  (hrun : ∀ w, (Instr.alloc T true (.tuple #[])).run P w = .ok (.pointer (some ⟨w.heap.size, 0, none⟩)) (w.alloc (.cells zs T)))
  (hx : ∀ p p', ((a.put (some d) p).put (some d') p').eval (.tmp d) = p) (hx' : ∀ p p', ((a.put (some d) p).put (some d') p').eval (.tmp d') = p') (hy : ∀ p p', ((a.put (some d) p).put (some d') p').eval y = .agg C) (hy' : ∀ p p', ((a.put (some d) p).put (some d') p').eval y' = .agg C')
  (hi : (P.info? T).map (·.size) = some zs.size) (hs : zs.size = C.size) (hs' : zs.size = C'.size) (ho : C.all (·.oneCell') = true) (ho' : C'.all (·.oneCell') = true)
  (h : ∀ W B B', w.heap.size ≤ B → w.heap.size ≤ B' → B ≠ B' → Below w.heap.size w W → Box W B T C → Box W B' T C' → wpList P ops Q rest ((a.put (some d) (.pointer (some ⟨B, 0, none⟩))).put (some d') (.pointer (some ⟨B', 0, none⟩))) W) : wpList P ops Q (o1 :: o2 :: o3 :: o4 :: rest) a w := by
 refine wpList_new g1 T h1 zs hrun ?_
 intro W1 B hle hb b1
 rw [e1]
 have hB1 := b1.lt
 refine wpList_new g2 T h2 zs hrun ?_
 intro W2 B' hle' hb' b1'
 rw [e2]
 have hBB : B ≠ B' := by omega
 have b12 := b1.below hb'
 refine wpList_store_box g3 T (.tmp d) y h3 B 0 T zs C C (hx _ _) (hy _ _) b12 (by rw [← hs]; exact hi) (by rw [Nat.zero_add]; exact Nat.le_of_eq hs.symm) ho (whole_new hs) ?_
 intro W3 hk b2
 rw [e3]
 have b13 := hk.box b1' b1'.lt (fun h => hBB h.symm)
 refine wpList_store_box g4 T (.tmp d') y' h4 B' 0 T zs C' C' (hx' _ _) (hy' _ _) b13 (by rw [← hs']; exact hi) (by rw [Nat.zero_add]; exact Nat.le_of_eq hs'.symm) ho' (whole_new hs') ?_
 intro W4 hk4 b4
 rw [e4]
 have b5 := hk4.box b2 b2.lt hBB
 have hw1 := belowCall hb hb'
 have hw3 := hk.below hw1 hle hw1.size
 exact h W4 B B' hle (by have := hb.size; omega) hBB (hk4.below hw3 (by have := hb.size; omega) hw3.size) b5 b4
end
end
section
structure Fa where
 i : Nat
 d : Tmp
 T : TypeId
 zs : Array Value
def setL : List (Fa × Option Nat) → Array Bool → Array Bool
 | [], l => l
 | q :: r, l => match q.2 with
   | some _ => setL r (l.setIfInBounds q.1.i true)
   | none => setL r l
def setA : List (Fa × Option Nat) → Act → Act
 | [], a => a
 | q :: r, a => match q.2 with
   | some B => setA r (a.put (some q.1.d) (.pointer (some ⟨B, 0, none⟩)))
   | none => setA r a
def cnt : List (Fa × Option Nat) → Nat
 | [] => 0
 | q :: r => (match q.2 with
   | some _ => 1
   | none => 0) + cnt r
def pend : List (Fa × Option Nat) → List Nat
 | [] => []
 | q :: r => match q.2 with
   | some _ => pend r
   | none => q.1.i :: pend r
def okA (N : Nat) (w : World) (qs : List (Fa × Option Nat)) : Prop :=
 (∀ q ∈ qs, ∀ B, q.2 = some B → N ≤ B ∧ Box w B q.1.T q.1.zs) ∧ qs.Pairwise fun x y => ∀ B, x.2 = some B → y.2 ≠ some B
def norm (q : Fa × Option Nat) : Fa × Option Nat := (q.1, q.2.map fun _ => 0)
def allPats : List Fa → List (List (Fa × Option Nat))
 | [] => [[]]
 | f :: r => (allPats r).flatMap fun qs => [(f, none) :: qs, (f, some 0) :: qs]
theorem mem_allPats : ∀ qs : List (Fa × Option Nat), qs.map norm ∈ allPats (qs.map (·.1))
 | [] => by simp [allPats]
 | (f, o) :: r => by
   simp only [List.map_cons, allPats, List.mem_flatMap]
   refine ⟨_, mem_allPats r, ?_⟩
   cases o <;> simp [norm]
theorem setL_norm : ∀ (qs : List (Fa × Option Nat)) (l : Array Bool), setL (qs.map norm) l = setL qs l
 | [], _ => rfl
 | (f, none) :: r, l => setL_norm r l
 | (f, some _) :: r, l => setL_norm r _
theorem pend_norm : ∀ qs : List (Fa × Option Nat), pend (qs.map norm) = pend qs
 | [] => rfl
 | (f, none) :: r => congrArg (f.i :: ·) (pend_norm r)
 | (f, some _) :: r => pend_norm r
theorem set_comm (l : Array Bool) (i j : Nat) : (l.setIfInBounds i true).setIfInBounds j true = (l.setIfInBounds j true).setIfInBounds i true := by
 by_cases h : i = j
 ·subst h; rfl
 ·exact Array.setIfInBounds_comm _ _ h
theorem setL_set (i : Nat) : ∀ (qs : List (Fa × Option Nat)) (l : Array Bool), setL qs (l.setIfInBounds i true) = (setL qs l).setIfInBounds i true
 | [], _ => rfl
 | (f, none) :: r, l => setL_set i r l
 | (f, some _) :: r, l => by
   show setL r ((l.setIfInBounds i true).setIfInBounds f.i true) = (setL r (l.setIfInBounds f.i true)).setIfInBounds i true
   rw [set_comm, setL_set i r]
theorem setA_put (d : Tmp) (v : Value) : ∀ (qs : List (Fa × Option Nat)) (a : Act), (∀ q ∈ qs, q.1.d ≠ d) → setA qs (a.put (some d) v) = (setA qs a).put (some d) v
 | [], _, _ => rfl
 | (f, none) :: r, a, h => setA_put d v r a fun q hq => h q (List.mem_cons_of_mem _ hq)
 | (f, some B) :: r, a, h => by
   show setA r ((a.put (some d) v).put (some f.d) _) = (setA r (a.put (some f.d) _)).put (some d) v
   rw [Act.put_comm a v _ (by
    intro e he; cases he
    intro hh; cases hh
    exact h (f, some B) (List.mem_cons_self ..) rfl), setA_put d v r _ fun q hq => h q (List.mem_cons_of_mem _ hq)]
theorem setL_app : ∀ (p q : List (Fa × Option Nat)) (l : Array Bool), setL (p ++ q) l = setL q (setL p l)
 | [], _, _ => rfl
 | (f, none) :: r, q, l => setL_app r q l
 | (f, some _) :: r, q, l => setL_app r q _
theorem setA_app : ∀ (p q : List (Fa × Option Nat)) (a : Act), setA (p ++ q) a = setA q (setA p a)
 | [], _, _ => rfl
 | (f, none) :: r, q, a => setA_app r q a
 | (f, some _) :: r, q, a => setA_app r q _
theorem cnt_app : ∀ p q : List (Fa × Option Nat), cnt (p ++ q) = cnt p + cnt q
 | [], q => by simp [cnt]
 | (f, o) :: r, q => by simp only [List.cons_append, cnt, cnt_app r q, Nat.add_assoc]
theorem cnt_le : ∀ p : List (Fa × Option Nat), cnt p ≤ p.length
 | [] => Nat.le_refl _
 | (f, none) :: r => by have := cnt_le r; simp only [cnt, List.length_cons]; omega
 | (f, some _) :: r => by have := cnt_le r; simp only [cnt, List.length_cons]; omega
theorem pend_split {j : Nat} : ∀ qs : List (Fa × Option Nat), j ∈ pend qs → ∃ p f r, qs = p ++ (f, none) :: r ∧ f.i = j
 | [], h => by cases h
 | (f, none) :: r, h => by
   rcases List.mem_cons.1 h with h | h
   ·exact ⟨[], f, r, rfl, h.symm⟩
   ·obtain ⟨p, g, s, rfl, hg⟩ := pend_split r h
    exact ⟨(f, none) :: p, g, s, rfl, hg⟩
 | (f, some B) :: r, h => by
   obtain ⟨p, g, s, rfl, hg⟩ := pend_split r h
   exact ⟨(f, some B) :: p, g, s, rfl, hg⟩
theorem cnt_lt : ∀ (p : List (Fa × Option Nat)) (f : Fa) (r : List (Fa × Option Nat)), cnt (p ++ (f, none) :: r) < (p ++ (f, none) :: r).length := fun p f r => by
 have h1 := cnt_le p
 have h2 := cnt_le r
 simp only [cnt_app, cnt, List.length_append, List.length_cons]
 omega
theorem okA.below {N : Nat} {w w' : World} {qs : List (Fa × Option Nat)} (h : okA N w qs) (hb : Below w.heap.size w w') : okA N w' qs :=
 ⟨fun q hq B hB => ⟨(h.1 q hq B hB).1, (h.1 q hq B hB).2.below hb⟩, h.2⟩
theorem okA.fresh {N : Nat} {w : World} {p r : List (Fa × Option Nat)} {f : Fa} (h : okA N w (p ++ (f, none) :: r)) (hN : N ≤ w.heap.size) :
  okA N (w.alloc (.cells f.zs f.T)) (p ++ (f, some w.heap.size) :: r) := by
 have lt : ∀ q, q ∈ p ∨ q ∈ r → q.2 ≠ some w.heap.size := fun q hq he => by
  have hq' : q ∈ p ++ (f, none) :: r := by rcases hq with hq | hq <;> simp [hq]
  exact Nat.lt_irrefl _ (h.1 q hq' _ he).2.lt
 constructor
 ·intro q hq B hB
  rw [List.mem_append, List.mem_cons] at hq
  rcases hq with hq | rfl | hq
  ·have := h.1 q (by simp [hq]) B hB
   exact ⟨this.1, this.2.alloc _⟩
  ·cases hB
   exact ⟨hN, Box.new _ _ _⟩
  ·have := h.1 q (by simp [hq]) B hB
   exact ⟨this.1, this.2.alloc _⟩
 ·have h2 := h.2
  rw [List.pairwise_append, List.pairwise_cons] at h2 ⊢
  refine ⟨h2.1, ⟨fun q hq B hB => ?_, h2.2.1.2⟩, fun x hx y hy => ?_⟩
  ·cases hB
   exact lt q (.inr hq)
  ·rcases List.mem_cons.1 hy with rfl | hy
   ·intro B hB hh
    cases hh
    exact lt x (.inl hx) hB
   ·exact h2.2.2 x hx y (List.mem_cons_of_mem _ hy)
section
variable {P : Program} {ops : Array Oper} {Q : Exit → Act → World → Prop} {md : Region.Mode} {S : World → Prop}
structure FaOk (P : Program) (ops : Array Oper) (f : Fa) : Prop where
 op : ∃ o, ops[f.i]? = some o ∧ o.guard = none ∧ o.op = .alloc f.T ∧ o.dst = some f.d
 run : ∀ w, (Instr.alloc f.T true (.tuple #[])).run P w = .ok (.pointer (some ⟨w.heap.size, 0, none⟩)) (w.alloc (.cells f.zs f.T))
def FaAll (P : Program) (ops : Array Oper) (ps : List Fa) : Prop := (∀ f ∈ ps, FaOk P ops f) ∧ (ps.map (·.d)).Nodup
def Fl (P : Program) (md : Region.Mode) (ops : Array Oper) (Q : Exit → Act → World → Prop) (S : World → Prop) (N : Nat) (ps : List Fa) (F : Nat) (listed : Array Bool) (a : Act) (V : World) : Prop :=
 ∀ qs w, qs.map (·.1) = ps → Below V.heap.size V w → S w → okA N w qs → wpAnyH P md ops Q S (F - cnt qs) (setL qs listed) (setA qs a) w
def blind (ops : Array Oper) (ps : List Fa) (o : Oper) : Bool := ps.all fun f => !(o.looksAt ops).contains f.d
theorem exec_setA (hs : Region.noSelect ops = true) {i : Nat} {o : Oper} (hi : ops[i]? = some o) : ∀ (qs : List (Fa × Option Nat)) (a : Act), blind ops (qs.map (·.1)) o = true →
  execOp (setA qs a).eval o = execOp a.eval o ∧ Region.wanted o (yielded ops (setA qs a).tmps) = Region.wanted o (yielded ops a.tmps)
 | [], _, _ => ⟨rfl, rfl⟩
 | (f, none) :: r, a, h => exec_setA hs hi r a (by
   simp only [blind, List.map_cons, List.all_cons, Bool.and_eq_true] at h ⊢
   exact h.2)
 | (f, some B) :: r, a, h => by
   simp only [blind, List.map_cons, List.all_cons, Bool.and_eq_true] at h
   have ih := exec_setA hs hi r (a.put (some f.d) (.pointer (some ⟨B, 0, none⟩))) h.2
   have hd : ∀ d, some f.d = some d → d ∉ o.looksAt ops := fun d hd => by
    cases hd
    simpa using h.1
   exact ⟨ih.1.trans (execOp_put o (Region.noSelect_spec hs i o · · hi) a _ _ hd), ih.2.trans (wanted_put o a _ _ hd)⟩
def shapeAt (md : Region.Mode) (ops : Array Oper) (ps : List Fa) (listed : Array Bool) (i : Nat) : Bool :=
 (allPats ps).all fun qs => (Region.ready md ops (setL qs listed)).contains i && (Region.ready md ops (setL qs listed)).all fun j => j == i || (pend qs).contains j
def shapeEnd (md : Region.Mode) (ops : Array Oper) (ps : List Fa) (listed : Array Bool) : Bool :=
 (allPats ps).all fun qs => (pend qs).isEmpty || ((!(Region.ready md ops (setL qs listed)).isEmpty) && (Region.ready md ops (setL qs listed)).all fun j => (pend qs).contains j)
def freeAt (md : Region.Mode) (ops : Array Oper) (ps : List Fa) (listed : Array Bool) (i : Nat) : Bool :=
 (allPats ps).all fun qs => (Region.ready md ops (setL qs listed)).contains i && Region.free md ops (setL qs listed) i
theorem Fl.alloc {ps : List Fa} {k : Nat} {listed : Array Bool} {a : Act} {w : World} (hfa : FaAll P ops ps) {p : List (Fa × Option Nat)} {f : Fa} {r : List (Fa × Option Nat)} (hq : (p ++ (f, none) :: r).map (·.1) = ps)
  (h : wpAnyH P md ops Q S k (setL (p ++ (f, some w.heap.size) :: r) listed) (setA (p ++ (f, some w.heap.size) :: r) a) (w.alloc (.cells f.zs f.T)))
  (hS : S (w.alloc (.cells f.zs f.T))) :
  wpOp P ops Q f.i (fun a' w' => S w' ∧ wpAnyH P md ops Q S k ((setL (p ++ (f, none) :: r) listed).setIfInBounds f.i true) a' w') (setA (p ++ (f, none) :: r) a) w := by
 have hmem : f ∈ ps := by rw [← hq]; simp
 obtain ⟨⟨o, ho, hg, hop, hd⟩, hrun⟩ := hfa.1 f hmem
 unfold wpOp
 simp only [ho]
 have hw : Region.wanted o (yielded ops (setA (p ++ (f, none) :: r) a).tmps) = true := by simp [Region.wanted, hg]
 rw [if_pos hw]
 left
 unfold Oper.wp execOp
 simp only [hop, Sem.run_bind, hrun, Result.andThen_ok, Sem.run_pure, Oper.upon_value, hd]
 refine ⟨hS, ?_⟩
 have hnd := hfa.2
 rw [← hq] at hnd
 simp only [List.map_append, List.map_cons, List.nodup_append, List.nodup_cons] at hnd
 have hr : ∀ q ∈ r, q.1.d ≠ f.d := fun q hq' he => hnd.2.1.1 (by
  rw [← he]
  exact List.mem_map_of_mem (List.mem_map_of_mem hq'))
 have e1 : (setL (p ++ (f, none) :: r) listed).setIfInBounds f.i true = setL (p ++ (f, some w.heap.size) :: r) listed := by
  rw [setL_app, setL_app]
  show (setL r (setL p listed)).setIfInBounds f.i true = setL r ((setL p listed).setIfInBounds f.i true)
  rw [setL_set]
 have e2 : (setA (p ++ (f, none) :: r) a).put (some f.d) (.pointer (some ⟨w.heap.size, 0, none⟩)) = setA (p ++ (f, some w.heap.size) :: r) a := by
  rw [setA_app, setA_app]
  show (setA r (setA p a)).put (some f.d) _ = setA r ((setA p a).put (some f.d) _)
  rw [setA_put _ _ r _ hr]
 rw [e1, e2]
 exact h
theorem Fl.start {F : Nat} {listed : Array Bool} {a : Act} {V : World} (ps : List Fa) (h : Fl P md ops Q S V.heap.size ps F listed a V) (hS : S V := by assumption) : wpAnyH P md ops Q S F listed a V := by
 have hl : ∀ ps : List Fa, (setL (ps.map fun f => (f, none)) listed = listed ∧ setA (ps.map fun f => (f, none)) a = a ∧ cnt (ps.map fun f => (f, none)) = 0) := by
  intro ps
  induction ps with
  | nil => exact ⟨rfl, rfl, rfl⟩
  | cons f r ih => exact ⟨ih.1, ih.2.1, by simp only [List.map_cons, cnt, ih.2.2]⟩
 have := h (ps.map fun f => (f, none)) V (by rw [List.map_map]; exact List.map_id _) (Below.refl _ _) hS ⟨fun q hq B hB => (by
  obtain ⟨f, _, rfl⟩ := List.mem_map.1 hq
  cases hB), (by
  rw [List.pairwise_map]
  exact List.pairwise_of_forall fun _ _ B hB => nomatch hB)⟩
 rw [(hl ps).1, (hl ps).2.1, (hl ps).2.2] at this
 exact this
theorem pat_of {ps : List Fa} {g : List (Fa × Option Nat) → Bool} (h : (allPats ps).all g = true) {qs : List (Fa × Option Nat)} (hq : qs.map (·.1) = ps) : g (qs.map norm) = true := by
 have := mem_allPats qs
 rw [hq] at this
 exact List.all_eq_true.1 h _ this
theorem Fl.call (i : Nat) (d : Tmp) {o : Oper} {f : FuncId} {args : Array Value} {R : World → Ending → World → Prop} {N F : Nat} {ps : List Fa} {listed : Array Bool} {a : Act} {V : World}
  (hC : ∀ w, Below V.heap.size V w → Calls P f args w (R w))
  (h : ∀ w, Below V.heap.size V w → S w → ∀ e w', R w e w' → match e with
   | .returned v => Below w.heap.size w w' ∧ Fl P md ops Q S N ps F (listed.setIfInBounds i true) (a.put (some d) v) w'
   | _ => False)
  (hfa : FaAll P ops ps := by assumption) (hSt : ∀ w w', S w → Below w.heap.size w w' → S w' := by first | exact (fun w w' h k => belowS (belowCall (And.right h) k)) | exact (fun w w' h k => KeepBut.S (KeepBut.call (And.right h) k)) | exact (fun w w' h k => belowCall h k)) (hN : N ≤ V.heap.size := by assumption)
  (ho : ops[i]? = some o := by rfl) (hd : o.dst = some d := by rfl) (hs : Region.noSelect ops = true := by as_aux_lemma => kernel_rfl)
  (hsh : shapeAt md ops ps listed i = true := by as_aux_lemma => kernel_rfl) (hbl : blind ops ps o = true := by as_aux_lemma => kernel_rfl) (hnd : (ps.map (·.d)).contains d = false := by as_aux_lemma => kernel_rfl) (hF : Nat.ble ps.length F = true := by rfl)
  (hw : Region.wanted o (yielded ops a.tmps) = true := by as_aux_lemma => kernel_rfl)
  (hx : ∀ w, (execOp a.eval o).run P w = .ok (.enter f args) w := by as_aux_lemma => (intro _; kernel_rfl)) : Fl P md ops Q S N ps (F + 1) listed a V := by
 have hF' := Nat.le_of_ble_eq_true hF
 have main : ∀ n qs w, qs.length - cnt qs = n → qs.map (·.1) = ps → Below V.heap.size V w → S w → okA N w qs → wpAnyH P md ops Q S (F + 1 - cnt qs) (setL qs listed) (setA qs a) w := by
  intro n
  induction n with
  | zero => ?_
  | succ n ih => ?_
  all_goals
   intro qs w hn hq hV hS hok
   have hlen : qs.length = ps.length := by rw [← hq, List.length_map]
   have hc := cnt_le qs
   have hsp := pat_of hsh hq
   simp only [setL_norm, pend_norm, Bool.and_eq_true, List.all_eq_true, Bool.or_eq_true, beq_iff_eq, List.contains_iff_mem] at hsp
   rw [show F + 1 - cnt qs = (F - cnt qs) + 1 by omega]
   refine ⟨fun h0 => (by rw [h0] at hsp; exact absurd hsp.1 (by simp)), fun j hj => ?_⟩
   rcases hsp.2 j hj with rfl | hp
   ·have hb := exec_setA hs ho qs a (by rw [hq]; exact hbl)
    unfold wpOp
    simp only [ho]
    rw [if_pos (hb.2.trans hw)]
    left
    unfold Oper.wp
    rw [hb.1, hx w, Oper.upon_enter]
    refine (hC w hV).mono ?_
    intro e w' hR
    have := h w hV hS e w' hR
    cases e with
    | returned v =>
      have hS' := hSt w w' hS this.1
      have k := this.2 qs w' hq (Below.refl _ _) hS' (hok.below this.1)
      rw [setL_set, setA_put d v qs a (by
       intro q hq' he
       have : d ∈ ps.map (·.d) := by
        rw [← hq, ← he]
        exact List.mem_map_of_mem (List.mem_map_of_mem hq')
       simp [this] at hnd)] at k
      rw [hd]
      exact ⟨hS', k⟩
    | _ => exact this.elim
   ·obtain ⟨p, g, r, rfl, rfl⟩ := pend_split qs hp
    have hlt := cnt_lt p g r
    first
     | (exfalso; omega)
     | refine Fl.alloc hfa hq ?_ (hSt _ _ hS ((Below.refl _ _).alloc (Nat.le_refl _) _))
       have hcn : cnt (p ++ (g, some w.heap.size) :: r) = cnt (p ++ (g, none) :: r) + 1 := by simp only [cnt_app, cnt]; omega
       have hl2 : (p ++ (g, some w.heap.size) :: r).length = (p ++ (g, none) :: r).length := by simp
       have := ih (p ++ (g, some w.heap.size) :: r) (w.alloc (.cells g.zs g.T)) (by omega) (by rw [← hq]; simp) (belowAlloc hV _) (hSt _ _ hS ((Below.refl _ _).alloc (Nat.le_refl _) _)) (hok.fresh (Nat.le_trans hN hV.size))
       rw [hcn] at this
       rw [show F - cnt (p ++ (g, none) :: r) = F + 1 - (cnt (p ++ (g, none) :: r) + 1) by omega]
       exact this
 exact fun qs w => main _ qs w rfl
theorem Fl.take (i : Nat) (d : Tmp) {o : Oper} {v : Value} {N F : Nat} {ps : List Fa} {listed : Array Bool} {a a' : Act} {V : World}
  (h : Fl P md ops Q S N ps F (listed.setIfInBounds i true) a' V)
  (ho : ops[i]? = some o := by rfl) (hd : o.dst = some d := by rfl) (hs : Region.noSelect ops = true := by as_aux_lemma => kernel_rfl)
  (hfr : freeAt md ops ps listed i = true := by as_aux_lemma => kernel_rfl) (hbl : blind ops ps o = true := by as_aux_lemma => kernel_rfl) (hnd : (ps.map (·.d)).contains d = false := by as_aux_lemma => kernel_rfl) (hF : Nat.ble ps.length F = true := by rfl)
  (hw : Region.wanted o (yielded ops a.tmps) = true := by as_aux_lemma => kernel_rfl)
  (hv : ∀ w, S w → (execOp a.eval o).run P w = .ok (.value v) w := by (intro w hSw; (try dsimp only at hSw); go_simp; all_goals with_reducible rfl))
  (hQ : ∀ c a w, Q (.panic c) (a.put (some d) v) w → Q (.panic c) a w := by exact (fun _ _ _ h => h))
  (ha : a.put (some d) v = a' := by (simp only [Act.put, List.setIfInBounds_toArray, List.set_cons_zero, List.set_cons_succ]; rfl)) : Fl P md ops Q S N ps (F + 1) listed a V := by
 subst ha
 intro qs w hq hV hS hok
 have hF' := Nat.le_of_ble_eq_true hF
 have hlen : qs.length = ps.length := by rw [← hq, List.length_map]
 have hc := cnt_le qs
 have hsp := pat_of hfr hq
 simp only [setL_norm, Bool.and_eq_true] at hsp
 have hb := exec_setA hs ho qs a (by rw [hq]; exact hbl)
 have k := h qs w hq hV hS hok
 rw [setL_set, setA_put d v qs a (by
  intro q hq' he
  have : d ∈ ps.map (·.d) := by
   rw [← hq, ← he]
   exact List.mem_map_of_mem (List.mem_map_of_mem hq')
  simp [this] at hnd)] at k
 rw [show F + 1 - cnt qs = (F - cnt qs) + 1 by omega]
 refine wpAnyH_take ho hs hsp.2 hsp.1 (by rw [hd]; exact hQ) (Or.inl ⟨hb.2.trans hw, fun w' hS' => ?_⟩) hS (by rw [hd]; exact k)
 rw [hb.1]
 exact hv w' hS'
theorem Fl.close {N F : Nat} {ps : List Fa} {listed : Array Bool} {a : Act} {V : World}
  (h : ∀ qs w, qs.map (·.1) = ps → pend qs = [] → Below V.heap.size V w → S w → okA N w qs → wpAnyH P md ops Q S (F - cnt qs) (setL qs listed) (setA qs a) w)
  (hfa : FaAll P ops ps) (hSt : ∀ w w', S w → Below w.heap.size w w' → S w') (hN : N ≤ V.heap.size)
  (hsh : shapeEnd md ops ps listed = true) (hF : Nat.ble ps.length F = true) : Fl P md ops Q S N ps F listed a V := by
 have hF' := Nat.le_of_ble_eq_true hF
 have main : ∀ n qs w, qs.length - cnt qs = n → qs.map (·.1) = ps → Below V.heap.size V w → S w → okA N w qs → wpAnyH P md ops Q S (F - cnt qs) (setL qs listed) (setA qs a) w := by
  intro n
  induction n with
  | zero => ?_
  | succ n ih => ?_
  all_goals
   intro qs w hn hq hV hS hok
   by_cases hp0 : pend qs = []
   ·exact h qs w hq hp0 hV hS hok
   have hlen : qs.length = ps.length := by rw [← hq, List.length_map]
   have hc := cnt_le qs
   have hsp := pat_of hsh hq
   simp only [setL_norm, pend_norm, Bool.or_eq_true, Bool.and_eq_true, List.all_eq_true, List.contains_iff_mem, List.isEmpty_iff, hp0, false_or, Bool.not_eq_true', List.isEmpty_eq_false_iff] at hsp
   obtain ⟨j0, hj0⟩ := List.exists_mem_of_ne_nil _ hp0
   obtain ⟨p0, g0, r0, rfl, _⟩ := pend_split qs hj0
   have hlt := cnt_lt p0 g0 r0
   rw [show F - cnt (p0 ++ (g0, none) :: r0) = (F - cnt (p0 ++ (g0, none) :: r0) - 1) + 1 by omega]
   refine ⟨fun h0 => absurd h0 hsp.1, fun j hj => ?_⟩
   obtain ⟨p, g, r, he, rfl⟩ := pend_split _ (hsp.2 j hj)
   first
    | (exfalso; omega)
    | rw [he] at hq hok hn hc hlt ⊢
      refine Fl.alloc hfa hq ?_ (hSt _ _ hS ((Below.refl _ _).alloc (Nat.le_refl _) _))
      have hcn : cnt (p ++ (g, some w.heap.size) :: r) = cnt (p ++ (g, none) :: r) + 1 := by simp only [cnt_app, cnt]; omega
      have hl2 : (p ++ (g, some w.heap.size) :: r).length = (p ++ (g, none) :: r).length := by simp
      have := ih (p ++ (g, some w.heap.size) :: r) (w.alloc (.cells g.zs g.T)) (by omega) (by rw [← hq]; simp) (belowAlloc hV _) (hSt _ _ hS ((Below.refl _ _).alloc (Nat.le_refl _) _)) (hok.fresh (Nat.le_trans hN hV.size))
      rw [hcn] at this
      rw [show F - cnt (p ++ (g, none) :: r) - 1 = F - (cnt (p ++ (g, none) :: r) + 1) by omega]
      exact this
 exact fun qs w => main _ qs w rfl
end
end
section
section
variable {P : Program} {ops : Array Oper} {Q : Exit → Act → World → Prop} {md : Region.Mode} {S : World → Prop}
theorem FaOk.of {i : Nat} {d : Tmp} {T : TypeId} {zs : Array Value} (run : ∀ w, (Instr.alloc T true (.tuple #[])).run P w = .ok (.pointer (some ⟨w.heap.size, 0, none⟩)) (w.alloc (.cells zs T)))
  (op : ∃ o, ops[i]? = some o ∧ o.guard = none ∧ o.op = .alloc T ∧ o.dst = some d := by exact ⟨_, rfl, rfl, rfl, rfl⟩) : FaOk P ops ⟨i, d, T, zs⟩ := ⟨op, run⟩
theorem FaAll.nil : FaAll P ops [] := ⟨fun _ h => (nomatch h), List.nodup_nil⟩
theorem FaAll.cons {f : Fa} {ps : List Fa} (h : FaOk P ops f) (k : FaAll P ops ps) (hn : (ps.map (·.d)).contains f.d = false := by rfl) : FaAll P ops (f :: ps) :=
 ⟨fun g hg => (List.mem_cons.1 hg).elim (fun e => e ▸ h) (fun hg => k.1 g hg), (by
  rw [List.map_cons, List.nodup_cons]
  exact ⟨fun hm => (by simp [hm] at hn), k.2⟩)⟩
theorem Fl.open {F : Nat} {listed : Array Bool} {a : Act} {V : World} (ps : List Fa) (hfa : FaAll P ops ps) (h : FaAll P ops ps → Fl P md ops Q S V.heap.size ps F listed a V) (hS : S V := by assumption) : wpAnyH P md ops Q S F listed a V :=
 Fl.start ps (h hfa) hS
theorem Fl.pt {N F : Nat} {ps : List Fa} {listed : Array Bool} {a a' : Act} {V : World} (h : Fl P md ops Q S N ps F listed a' V) (ha : a = a' := by (simp only [Act.put, List.setIfInBounds_toArray, List.set_cons_zero, List.set_cons_succ]; rfl)) : Fl P md ops Q S N ps F listed a V := by
 subst ha
 exact h
section
variable {N F : Nat} {listed : Array Bool} {a : Act} {V : World} {i1 i2 i3 i4 : Nat} {d1 d2 d3 d4 : Tmp} {T1 T2 T3 T4 : TypeId} {z1 z2 z3 z4 : Array Value}
theorem Fl.close1 (h : ∀ B1 w, Below V.heap.size V w → S w → N ≤ B1 → Box w B1 T1 z1 → wpAnyH P md ops Q S F (listed.setIfInBounds i1 true) (a.put (some d1) (.pointer (some ⟨B1, 0, none⟩))) w)
  (hfa : FaAll P ops [⟨i1, d1, T1, z1⟩] := by assumption) (hSt : ∀ w w', S w → Below w.heap.size w w' → S w' := by first | exact (fun w w' h k => belowS (belowCall (And.right h) k)) | exact (fun w w' h k => KeepBut.S (KeepBut.call (And.right h) k)) | exact (fun w w' h k => belowCall h k)) (hN : N ≤ V.heap.size := by assumption)
  (hsh : shapeEnd md ops [⟨i1, d1, T1, z1⟩] listed = true := by as_aux_lemma => kernel_rfl) : Fl P md ops Q S N [⟨i1, d1, T1, z1⟩] (F + 1) listed a V := by
 refine Fl.close (fun qs w hq hp hV hS hok => ?_) hfa hSt hN hsh (Nat.ble_eq_true_of_le (by simp))
 match qs, hq with
 | [(_, o1)], hq =>
   cases hq
   cases o1 with
   | none => cases hp
   | some B1 =>
     have b1 := hok.1 _ (List.mem_cons_self ..) _ rfl
     exact h B1 w hV hS b1.1 b1.2
theorem Fl.close2 (h : ∀ B1 B2 w, Below V.heap.size V w → S w → N ≤ B1 → N ≤ B2 → B1 ≠ B2 → Box w B1 T1 z1 → Box w B2 T2 z2 → wpAnyH P md ops Q S F ((listed.setIfInBounds i1 true).setIfInBounds i2 true) ((a.put (some d1) (.pointer (some ⟨B1, 0, none⟩))).put (some d2) (.pointer (some ⟨B2, 0, none⟩))) w)
  (hfa : FaAll P ops [⟨i1, d1, T1, z1⟩, ⟨i2, d2, T2, z2⟩] := by assumption) (hSt : ∀ w w', S w → Below w.heap.size w w' → S w' := by first | exact (fun w w' h k => belowS (belowCall (And.right h) k)) | exact (fun w w' h k => KeepBut.S (KeepBut.call (And.right h) k)) | exact (fun w w' h k => belowCall h k)) (hN : N ≤ V.heap.size := by assumption)
  (hsh : shapeEnd md ops [⟨i1, d1, T1, z1⟩, ⟨i2, d2, T2, z2⟩] listed = true := by as_aux_lemma => kernel_rfl) : Fl P md ops Q S N [⟨i1, d1, T1, z1⟩, ⟨i2, d2, T2, z2⟩] (F + 2) listed a V := by
 refine Fl.close (fun qs w hq hp hV hS hok => ?_) hfa hSt hN hsh (Nat.ble_eq_true_of_le (by simp))
 match qs, hq with
 | [(_, o1), (_, o2)], hq =>
   cases hq
   cases o1 with
   | none => cases hp
   | some B1 =>
     cases o2 with
     | none => cases hp
     | some B2 =>
       have b1 := hok.1 _ (List.mem_cons_self ..) _ rfl
       have b2 := hok.1 _ (List.mem_cons_of_mem _ (List.mem_cons_self ..)) _ rfl
       have hne := List.rel_of_pairwise_cons hok.2 (List.mem_cons_self ..) B1 rfl
       exact h B1 B2 w hV hS b1.1 b2.1 (fun he => hne (by rw [he])) b1.2 b2.2
theorem Fl.close3 (h : ∀ B1 B2 B3 w, Below V.heap.size V w → S w → N ≤ B1 → N ≤ B2 → N ≤ B3 → B1 ≠ B2 → B1 ≠ B3 → B2 ≠ B3 → Box w B1 T1 z1 → Box w B2 T2 z2 → Box w B3 T3 z3 → wpAnyH P md ops Q S F (((listed.setIfInBounds i1 true).setIfInBounds i2 true).setIfInBounds i3 true) (((a.put (some d1) (.pointer (some ⟨B1, 0, none⟩))).put (some d2) (.pointer (some ⟨B2, 0, none⟩))).put (some d3) (.pointer (some ⟨B3, 0, none⟩))) w)
  (hfa : FaAll P ops [⟨i1, d1, T1, z1⟩, ⟨i2, d2, T2, z2⟩, ⟨i3, d3, T3, z3⟩] := by assumption) (hSt : ∀ w w', S w → Below w.heap.size w w' → S w' := by first | exact (fun w w' h k => belowS (belowCall (And.right h) k)) | exact (fun w w' h k => KeepBut.S (KeepBut.call (And.right h) k)) | exact (fun w w' h k => belowCall h k)) (hN : N ≤ V.heap.size := by assumption)
  (hsh : shapeEnd md ops [⟨i1, d1, T1, z1⟩, ⟨i2, d2, T2, z2⟩, ⟨i3, d3, T3, z3⟩] listed = true := by as_aux_lemma => kernel_rfl) : Fl P md ops Q S N [⟨i1, d1, T1, z1⟩, ⟨i2, d2, T2, z2⟩, ⟨i3, d3, T3, z3⟩] (F + 3) listed a V := by
 refine Fl.close (fun qs w hq hp hV hS hok => ?_) hfa hSt hN hsh (Nat.ble_eq_true_of_le (by simp))
 match qs, hq with
 | [(_, o1), (_, o2), (_, o3)], hq =>
   cases hq
   cases o1 with
   | none => cases hp
   | some B1 =>
     cases o2 with
     | none => cases hp
     | some B2 =>
       cases o3 with
       | none => cases hp
       | some B3 =>
         have b1 := hok.1 _ (List.mem_cons_self ..) _ rfl
         have b2 := hok.1 _ (List.mem_cons_of_mem _ (List.mem_cons_self ..)) _ rfl
         have b3 := hok.1 _ (List.mem_cons_of_mem _ (List.mem_cons_of_mem _ (List.mem_cons_self ..))) _ rfl
         have n1 := List.rel_of_pairwise_cons hok.2 (List.mem_cons_self ..) B1 rfl
         have n2 := List.rel_of_pairwise_cons hok.2 (List.mem_cons_of_mem _ (List.mem_cons_self ..)) B1 rfl
         have n3 := List.rel_of_pairwise_cons (List.Pairwise.of_cons hok.2) (List.mem_cons_self ..) B2 rfl
         exact h B1 B2 B3 w hV hS b1.1 b2.1 b3.1 (fun he => n1 (by rw [he])) (fun he => n2 (by rw [he])) (fun he => n3 (by rw [he])) b1.2 b2.2 b3.2
end
end
end
def Flm.join (f g : Flm) : Flm := ⟨f.ix, f.p * g.q + g.p * f.q, f.q * g.q - f.p * g.p⟩
theorem sq_join (f g : Flm) : (f.join g).sq = f.sq * g.sq := by
 unfold Flm.join Flm.sq; grind
theorem ratcast_mul_ne {n m : Int} (h : n ≠ 0) (g : m ≠ 0) : ((n * m : Int) : Rat) ≠ 0 := ratcast_ne (by
 intro e
 rcases Int.mul_eq_zero.1 e with h1 | h1
 ·exact h h1
 ·exact g h1)
theorem cos_join {f g : Flm} (hf : f.sq ≠ 0) (hg : g.sq ≠ 0) : (f.join g).cos = f.cos * g.cos - f.sin * g.sin := by
 unfold Flm.cos Flm.sin
 rw [sq_join, Rat.divInt_mul_divInt, Rat.divInt_mul_divInt, Rat.divInt_sub_divInt _ _ (by intro e; rcases Int.mul_eq_zero.1 e with h | h <;> contradiction) (by intro e; rcases Int.mul_eq_zero.1 e with h | h <;> contradiction), ← Int.sub_mul,
  Rat.divInt_mul_right (by intro e; rcases Int.mul_eq_zero.1 e with h | h <;> contradiction)]
 congr 1
 unfold Flm.join; grind
theorem sin_join {f g : Flm} (hf : f.sq ≠ 0) (hg : g.sq ≠ 0) : (f.join g).sin = f.sin * g.cos + f.cos * g.sin := by
 unfold Flm.cos Flm.sin
 rw [sq_join, Rat.divInt_mul_divInt, Rat.divInt_mul_divInt, Rat.divInt_add_divInt _ _ (by intro e; rcases Int.mul_eq_zero.1 e with h | h <;> contradiction) (by intro e; rcases Int.mul_eq_zero.1 e with h | h <;> contradiction), ← Int.add_mul,
  Rat.divInt_mul_right (by intro e; rcases Int.mul_eq_zero.1 e with h | h <;> contradiction)]
 congr 1
 unfold Flm.join; grind
theorem mat_join {f g : Flm} (hf : f.sq ≠ 0) (hg : g.sq ≠ 0) (hi : g.ix = f.ix) (h0 : f.ix ≠ 0) : f.mat.mul g.mat = (f.join g).mat := by
 have e1 := cos_join hf hg
 have e2 := sin_join hf hg
 have e3 : (f.join g).ix = f.ix := rfl
 have hn := idx_ne h0
 apply Mat.ext <;> simp only [Mat.mul, Flm.mat, e1, e2, e3, hi] <;> grind
theorem mat_none (n q : Int) (hq : q ≠ 0) : (Flm.mk n 0 q).mat = Mat.one := by
 have hqq : q * q ≠ 0 := by intro e; rcases Int.mul_eq_zero.1 e with h | h <;> contradiction
 have h1 : (Flm.mk n 0 q).cos = 1 := by
  simp only [Flm.cos, Flm.sq, Int.mul_zero, Int.sub_zero, Int.add_zero]
  rw [Rat.divInt_eq_div]
  have := ratcast_ne hqq
  grind
 have h2 : (Flm.mk n 0 q).sin = 0 := by
  simp only [Flm.sin, Int.mul_zero, Int.zero_mul]
  exact Rat.zero_divInt _
 apply Mat.ext <;> simp only [Flm.mat, Mat.one, h1, h2] <;> grind
theorem ends_ahead (n m c s : Rat) (x : Mat) (hc : c * c + s * s = 1) (hn : n ≠ 0) : big n m (Mat.mul ⟨c, s / n, n * s, c⟩ x) = big n m x ∧ low n m (Mat.mul ⟨c, s / n, n * s, c⟩ x) = low n m x := by
 obtain ⟨t, ht⟩ : ∃ t, s / n = t := ⟨_, rfl⟩
 have hs : s = n * t := by grind
 have e1 : ∀ X Y : Rat, (c * X - s * Y) * (c * X - s * Y) + (c * Y + s * X) * (c * Y + s * X) = X * X + Y * Y := by
  intro X Y
  have : (c * X - s * Y) * (c * X - s * Y) + (c * Y + s * X) * (c * Y + s * X) = (c * c + s * s) * (X * X + Y * Y) := by grind
  rw [this, hc]; grind
 constructor
 ·have := e1 (n * x.a + m * x.d) (n * m * x.b + x.c)
  unfold big
  simp only [Mat.mul, ht]
  rw [← this]
  have p1 : n * (c * x.a - t * x.c) + m * (c * x.d - n * s * x.b) = c * (n * x.a + m * x.d) - s * (n * m * x.b + x.c) := by rw [hs]; grind
  have p2 : n * m * (c * x.b + t * x.d) + (n * s * x.a + c * x.c) = c * (n * m * x.b + x.c) + s * (n * x.a + m * x.d) := by rw [hs]; grind
  rw [p1, p2]
 ·have := e1 (n * x.a - m * x.d) (x.c - n * m * x.b)
  unfold low
  simp only [Mat.mul, ht]
  have q : (n * m * x.b - x.c) * (n * m * x.b - x.c) = (x.c - n * m * x.b) * (x.c - n * m * x.b) := by grind
  rw [q, ← this]
  have p1 : n * (c * x.a - t * x.c) - m * (c * x.d - n * s * x.b) = c * (n * x.a - m * x.d) - s * (x.c - n * m * x.b) := by rw [hs]; grind
  have p2 : n * m * (c * x.b + t * x.d) - (n * s * x.a + c * x.c) = -(c * (x.c - n * m * x.b) + s * (n * x.a - m * x.d)) := by rw [hs]; grind
  rw [p1, p2]
  grind
theorem ends_behind (n m c s : Rat) (x : Mat) (hc : c * c + s * s = 1) (hm : m ≠ 0) : big n m (x.mul ⟨c, s / m, m * s, c⟩) = big n m x ∧ low n m (x.mul ⟨c, s / m, m * s, c⟩) = low n m x := by
 have h := ends_ahead m n c s x.turn hc hm
 have hb : ∀ y : Mat, big m n y.turn = big n m y := fun y => by unfold big Mat.turn; grind
 have hl : ∀ y : Mat, low m n y.turn = low n m y := fun y => by unfold low Mat.turn; grind
 have e : (x.mul ⟨c, s / m, m * s, c⟩).turn = Mat.mul ⟨c, s / m, m * s, c⟩ x.turn := by rw [Mat.turn_mul]; rfl
 rw [← hb, ← hl, e, h.1, h.2, hb, hl]
 exact ⟨rfl, rfl⟩
theorem stack_ends (n m : Int) (f g : Flm) (l : List Flm) (hn : n ≠ 0) (hm : m ≠ 0) (hf : f.ix = n) (hg : g.ix = m) (hf0 : f.sq ≠ 0) (hg0 : g.sq ≠ 0) :
  back (idx n) (idx m) (stackM (f :: (l ++ [g]))) = back (idx n) (idx m) (stackM l) ∧ through (idx n) (idx m) (stackM (f :: (l ++ [g]))) = through (idx n) (idx m) (stackM l) := by
 rw [stackM_cons, stackM_snoc]
 have a := ends_ahead (idx n) (idx m) f.cos f.sin ((stackM l).mul g.mat) (f.cs hf0) (idx_ne hn)
 have b := ends_behind (idx n) (idx m) g.cos g.sin (stackM l) (g.cs hg0) (idx_ne hm)
 have ef : f.mat = ⟨f.cos, f.sin / idx n, idx n * f.sin, f.cos⟩ := by unfold Flm.mat; rw [hf]
 have eg : g.mat = ⟨g.cos, g.sin / idx m, idx m * g.sin, g.cos⟩ := by unfold Flm.mat; rw [hg]
 rw [← ef] at a
 rw [← eg] at b
 unfold back through
 rw [a.1, a.2, b.1, b.2]
 exact ⟨rfl, rfl⟩
theorem trimN_pos {f : Nat → Int} {k : Nat} (h0 : ∀ i, i < k → 0 ≤ f i) (h1 : ∀ i, i < k → f i < 1000000000) : (0 < trimN f k) ↔ 0 < vf f k := by
 obtain ⟨a, b⟩ := trimN_can h0 h1
 rw [← b]
 exact a.pos.symm
theorem trimN_last {f : Nat → Int} {k : Nat} (h : ¬ (0 < k ∧ f (k - 1) = 0)) : trimN f k = k := by
 by_cases hk : 0 < k
 ·exact trimN_ne f k hk (fun e => h ⟨hk, e⟩)
 ·obtain rfl : k = 0 := by omega
  rfl
end Go.Mono
namespace Go.Proofs.YtccmnjkgfgnmoaaGreatDoor
open Go.RowKit Go.Mono
theorem sizeLong : (Tryz.prog.info? 33).map (·.size) = some 2 := by kernel_rfl
theorem r3made_core (neg nb : Bool) (p : Option Addr) (n c K : Nat) (f : Nat → Int) (w : World) (h : SlF w (.slice p n c) n f) (hn6 : n ≤ 1000000) (hK : Hid (trimN f n = K)) (hN : Hid ((neg && decide (0 < K)) = nb)) :
  Calls Tryz.prog 275 #[.bool neg, .slice p n c] w fun e w' => ∃ v, e = .returned (.agg #[.bool nb, v]) ∧ OwnF w' w.heap.size v K f ∧ Below w.heap.size w w' := by
 obtain ⟨hc, hn, hx⟩ := h.opens
 have hsl := h
 clear h
 go_enter Tryz.func275, Tryz.ntmps275
 go_wp2_with fail
 refine boxes1 fun W hB hs b0 => ?_
 go_loopw [5] (fun a wr => ∃ k : Nat, k ≤ n ∧ a = .int .i64 (k : Int) ∧ trimN f k = trimN f n ∧ wr = W) (fun a _ => (intOf a).toNat)
 case atStart => exact ⟨n, Nat.le_refl _, rfl, rfl, rfl⟩
 case round =>
  obtain ⟨k, hk, rfl, ht, hWe⟩ := hrel
  obtain rfl : W = wr := hWe.symm
  have HT := Lib.hid ht; clear ht
  by_cases h0 : 0 < k ∧ f (k - 1) = 0
  ·obtain ⟨hk0, hz⟩ := h0
   obtain ⟨b, off, rfl, hb, hcell⟩ := hx (by omega)
   have hcl := (hB.cell (p := ⟨b, off + (k - 1), none⟩) hb).trans (hcell (k - 1) (by omega))
   rw [hz] at hcl
   obtain ⟨k, rfl⟩ : ∃ j, k = j + 1 := ⟨k - 1, by omega⟩
   have hz' := trimN_zero f (k + 1) hk0 hz
   simp only [Nat.add_sub_cancel] at hcl hz'
   replace hz' := Lib.hid hz'
   replace hz := Lib.hid hz
   clear hcell hx
   go_wp2
   go_roundw
   case rel => exact ⟨k, by omega, by simp, by rw [← hz'.out]; exact HT.out, trivial⟩
   case measure => simp [intOf]
  ·have hk' := trimN_last h0
   obtain rfl : k = K := by rw [← hK.out, ← HT.out, hk']
   clear hK hk' HT
   have hw0 := hB.size
   by_cases hk0 : 0 < k
   ·have hz : ¬ f (k - 1) = 0 := fun e => h0 ⟨hk0, e⟩
    obtain ⟨b, off, rfl, hb, hcell⟩ := hx (by omega)
    have hcl := (hB.cell (p := ⟨b, off + (k - 1), none⟩) hb).trans (hcell (k - 1) (by omega))
    obtain ⟨k, rfl⟩ : ∃ j, k = j + 1 := ⟨k - 1, by omega⟩
    simp only [Nat.add_sub_cancel] at hcl hz
    have hz2 : (f k == 0) = false := by simpa using hz
    replace hz := Lib.hid hz
    clear h0
    cases neg
    all_goals
     go_wp2
     go_loopw [7] (fun a W2 => ∃ (i : Nat) (v : Value), i ≤ k + 1 ∧ a = .int .i64 (i : Int) ∧ OwnF W2 (W.heap.size + 1) v i f ∧ Box W2 W.heap.size 33 #[.bool nb, v] ∧ Box W2 w.heap.size 33 #[.bool false, .slice none 0 0] ∧ Below w.heap.size w W2 ∧ W.heap.size + 1 ≤ W2.heap.size) (fun a _ => (k + 1 - intOf a).toNat)
     case atStart => exact ⟨0, _, Nat.zero_le _, rfl, OwnF.nil _ _ _, by rw [← hN.out]; exact Box.new _ _ _, b0.alloc _, belowAlloc hB _, by simp⟩
     case round =>
      obtain ⟨i, v, hi, rfl, ho, b1, b2, hB2, hs2⟩ := hrel
      by_cases hik : i < k + 1
      ·have hci := (hB2.cell (p := ⟨b, off + i, none⟩) hb).trans (hcell i (by omega))
       have hik' : (i : Int) < k + 1 := by omega
       obtain ⟨pv, cv, rfl⟩ := ho.shape
       have hin : i < n := by omega
       have hin' : (i : Int) < n := by omega
       have bX1 := b1.drew
       have bX2 := b2.drew
       have hoX := ho.below (Below.refl wr.heap.size wr).drew
       have hBX := hB2.drew
       have hX1 : wr.drew.cell? ⟨W.heap.size, 1, none⟩ = some (.slice pv i cv) := bX1.cell 1
       have hX2 : wr.drew.cell? ⟨b, off + i, none⟩ = some (.int .i64 (f i)) := hci
       have hsX : W.heap.size + 1 ≤ wr.drew.heap.size := hs2
       clear hcell hx hcl b1 b2 ho hci
       go_wp2_with fail
       refine wp_region_held_drew (S := fun w' => Below w.heap.size w w') (by as_aux_lemma => kernel_rfl) hBX (fun hHeld => ?_)
       generalize wr.drew = X0 at *
       refine tk 0 (some 33) ?_
       refine tk 2 (some 35) ?_
       refine tk 3 (some 36) ?_
       refine tk 4 (some 37) ?_
       refine Mono.fork2 1 5 ?_ ?_
       ·intro K hK
        refine Mono.arma (some 34) hK (.slice pv i cv) X0 hHeld (fun hHeld => Mono.pt ?_) rfl (by as_aux_lemma => kernel_rfl) (by go_simp)
        clear hK K
        refine Mono.sta 5 (some 38) (.int .i64 (f i)) X0 hHeld (fun hHeld => Mono.pt ?_) rfl rfl (by as_aux_lemma => kernel_rfl) (by as_aux_lemma => kernel_rfl) (by go_simp)
        refine Mono.sta 6 (some 39) (.slice (some ⟨X0.heap.size, 0, none⟩) 1 1) (X0.alloc (.cells #[.int .i64 (f i)] 3)) (belowAlloc hHeld _) (fun hHeld => Mono.pt ?_)
        refine Mono.st 7 ?_
        intro K hK
        rw [if_pos (by as_aux_lemma => kernel_rfl)]
        refine wp_push_int (.tmp 34) (.tmp 39) 26 rfl Tryz.underlying26 infoInt (W.heap.size + 1) (.slice pv i cv) i f rfl (hoX.below (belowAlloc (Below.refl _ _) _)) X0.heap.size (f i) rfl (Box.new _ _ _) (by omega) (by simp; omega) ?_
        intro v' X1 ho' hg
        have hz : Below (W.heap.size + 1) X0 X1 := ((Below.refl (W.heap.size + 1) X0).alloc hsX _).grown hg (by simp; omega) (fun k hk => hoX.low k hk)
        obtain ⟨p', c', rfl⟩ := ho'.shape
        have b1' := bX1.low hz (by omega)
        have b2' := bX2.low hz (by omega)
        have hB1 := hBX.trans (hz.mono (by omega))
        have hs1 := hz.size
        refine hK.out _ _ hB1 (fun hHeld => Mono.pt ?_)
        clear hK K hg hz bX1 bX2 hoX hBX hX1 hX2
        refine tk 8 (some 41) ?_
        have cb1 := b1'.cell
        have fb1 := b1'.frozen
        have lb1 := b1'.lt
        refine Mono.st 9 ?_
        intro K hK
        go_simp
        refine kp hK (belowSet hB1 (by omega) _ _) (fun hHeld => ?_)
        clear hK K
        refine wpAnyH_done (by as_aux_lemma => kernel_rfl) ?_ _
        go_wp2
        go_roundw
        case rel =>
         refine ⟨i + 1, _, by omega, by simp, ?_, b1'.set 1 _, b2'.other _ _ (by show w.heap.size ≠ W.heap.size; omega), hHeld, by simp; omega⟩
         refine OwnF.congr (ho'.set _ _ (by show W.heap.size < _; omega)) fun j hj => ?_
         by_cases hji : j < i
         ·rw [if_pos hji]
         ·rw [if_neg hji]
          congr 1; omega
        case measure => simp [intOf]; omega
       ·intro K hK
        refine Mono.arma (some 38) hK (.int .i64 (f i)) X0 hHeld (fun hHeld => Mono.pt ?_) rfl (by as_aux_lemma => kernel_rfl) (by go_simp)
        clear hK K
        refine Mono.fork2 1 6 ?_ ?_
        ·intro K hK
         refine Mono.arma (some 34) hK (.slice pv i cv) X0 hHeld (fun hHeld => Mono.pt ?_) rfl (by as_aux_lemma => kernel_rfl) (by go_simp)
         clear hK K
         refine Mono.sta 6 (some 39) (.slice (some ⟨X0.heap.size, 0, none⟩) 1 1) (X0.alloc (.cells #[.int .i64 (f i)] 3)) (belowAlloc hHeld _) (fun hHeld => Mono.pt ?_)
         refine Mono.st 7 ?_
         intro K hK
         rw [if_pos (by as_aux_lemma => kernel_rfl)]
         refine wp_push_int (.tmp 34) (.tmp 39) 26 rfl Tryz.underlying26 infoInt (W.heap.size + 1) (.slice pv i cv) i f rfl (hoX.below (belowAlloc (Below.refl _ _) _)) X0.heap.size (f i) rfl (Box.new _ _ _) (by omega) (by simp; omega) ?_
         intro v' X1 ho' hg
         have hz : Below (W.heap.size + 1) X0 X1 := ((Below.refl (W.heap.size + 1) X0).alloc hsX _).grown hg (by simp; omega) (fun k hk => hoX.low k hk)
         obtain ⟨p', c', rfl⟩ := ho'.shape
         have b1' := bX1.low hz (by omega)
         have b2' := bX2.low hz (by omega)
         have hB1 := hBX.trans (hz.mono (by omega))
         have hs1 := hz.size
         refine hK.out _ _ hB1 (fun hHeld => Mono.pt ?_)
         clear hK K hg hz bX1 bX2 hoX hBX hX1 hX2
         refine tk 8 (some 41) ?_
         have cb1 := b1'.cell
         have fb1 := b1'.frozen
         have lb1 := b1'.lt
         refine Mono.st 9 ?_
         intro K hK
         go_simp
         refine kp hK (belowSet hB1 (by omega) _ _) (fun hHeld => ?_)
         clear hK K
         refine wpAnyH_done (by as_aux_lemma => kernel_rfl) ?_ _
         go_wp2
         go_roundw
         case rel =>
          refine ⟨i + 1, _, by omega, by simp, ?_, b1'.set 1 _, b2'.other _ _ (by show w.heap.size ≠ W.heap.size; omega), hHeld, by simp; omega⟩
          refine OwnF.congr (ho'.set _ _ (by show W.heap.size < _; omega)) fun j hj => ?_
          by_cases hji : j < i
          ·rw [if_pos hji]
          ·rw [if_neg hji]
           congr 1; omega
         case measure => simp [intOf]; omega
        ·intro K hK
         have hX1' : (X0.alloc (.cells #[.int .i64 (f i)] 3)).cell? ⟨W.heap.size, 1, none⟩ = some (.slice pv i cv) := (bX1.alloc _).cell 1
         refine Mono.arma (some 39) hK (.slice (some ⟨X0.heap.size, 0, none⟩) 1 1) (X0.alloc (.cells #[.int .i64 (f i)] 3)) (belowAlloc hHeld _) (fun hHeld => Mono.pt ?_)
         clear hK K
         refine Mono.sta 1 (some 34) (.slice pv i cv) (X0.alloc (.cells #[.int .i64 (f i)] 3)) hHeld (fun hHeld => Mono.pt ?_) rfl rfl (by as_aux_lemma => kernel_rfl) (by as_aux_lemma => kernel_rfl) (by go_simp)
         refine Mono.st 7 ?_
         intro K hK
         rw [if_pos (by as_aux_lemma => kernel_rfl)]
         refine wp_push_int (.tmp 34) (.tmp 39) 26 rfl Tryz.underlying26 infoInt (W.heap.size + 1) (.slice pv i cv) i f rfl (hoX.below (belowAlloc (Below.refl _ _) _)) X0.heap.size (f i) rfl (Box.new _ _ _) (by omega) (by simp; omega) ?_
         intro v' X1 ho' hg
         have hz : Below (W.heap.size + 1) X0 X1 := ((Below.refl (W.heap.size + 1) X0).alloc hsX _).grown hg (by simp; omega) (fun k hk => hoX.low k hk)
         obtain ⟨p', c', rfl⟩ := ho'.shape
         have b1' := bX1.low hz (by omega)
         have b2' := bX2.low hz (by omega)
         have hB1 := hBX.trans (hz.mono (by omega))
         have hs1 := hz.size
         refine hK.out _ _ hB1 (fun hHeld => Mono.pt ?_)
         clear hK K hg hz bX1 bX2 hoX hBX hX1 hX2
         refine tk 8 (some 41) ?_
         have cb1 := b1'.cell
         have fb1 := b1'.frozen
         have lb1 := b1'.lt
         refine Mono.st 9 ?_
         intro K hK
         go_simp
         refine kp hK (belowSet hB1 (by omega) _ _) (fun hHeld => ?_)
         clear hK K
         refine wpAnyH_done (by as_aux_lemma => kernel_rfl) ?_ _
         go_wp2
         go_roundw
         case rel =>
          refine ⟨i + 1, _, by omega, by simp, ?_, b1'.set 1 _, b2'.other _ _ (by show w.heap.size ≠ W.heap.size; omega), hHeld, by simp; omega⟩
          refine OwnF.congr (ho'.set _ _ (by show W.heap.size < _; omega)) fun j hj => ?_
          by_cases hji : j < i
          ·rw [if_pos hji]
          ·rw [if_neg hji]
           congr 1; omega
         case measure => simp [intOf]; omega
      ·obtain rfl : i = k + 1 := by omega
       obtain ⟨pv, cv, rfl⟩ := ho.shape
       have hlong := sizeLong
       have cb1 := b1.cell
       have lb1 := b1.lt
       have fb1 := b1.frozen
       have cb2 := b2.cell
       have lb2 := b2.lt
       have fb2 := b2.frozen
       clear hcell hx hcl
       go_wp2
       have b4 := (b2.set 0 (.bool nb)).set 1 (.slice pv (k + 1) cv)
       refine bodyPost_ret (b4.results rfl _ _ rfl Tryz.underlying33 rfl sizeLong) rfl ⟨.slice pv (k + 1) cv, rfl, ?_, belowSet (belowSet hB2 (Nat.le_refl _) _ _) (Nat.le_refl _) _ _⟩
       exact ((ho.set _ _ (by show w.heap.size < _; omega)).set _ _ (by show w.heap.size < _; omega)).lower (by omega)
   ·obtain rfl : k = 0 := by omega
    cases neg
    all_goals
     go_wp2
     go_loopw [7] (fun a W2 => a = .int .i64 0 ∧ Box W2 W.heap.size 33 #[.bool nb, .slice none 0 0] ∧ Box W2 w.heap.size 33 #[.bool false, .slice none 0 0] ∧ Below w.heap.size w W2) (fun a _ => 0)
     case atStart => exact ⟨rfl, by rw [← hN.out]; exact Box.new _ _ _, b0.alloc _, belowAlloc hB _⟩
     case round =>
      obtain ⟨rfl, b1, b2, hB2⟩ := hrel
      have cb1 := b1.cell
      have lb1 := b1.lt
      have fb1 := b1.frozen
      have cb2 := b2.cell
      have lb2 := b2.lt
      have fb2 := b2.frozen
      clear hx
      go_wp2
      have b4 := (b2.set 0 (.bool nb)).set 1 (.slice none 0 0)
      refine bodyPost_ret (b4.results rfl _ _ rfl Tryz.underlying33 rfl sizeLong) rfl ⟨.slice none 0 0, rfl, OwnF.nil _ _ _, belowSet (belowSet hB2 (Nat.le_refl _) _ _) (Nat.le_refl _) _ _⟩
theorem r3made_ok (neg : Bool) (p : Option Addr) (n c : Nat) (f : Nat → Int) (w : World) (h : SlF w (.slice p n c) n f) (hn6 : n ≤ 1000000) (f0 : ∀ i, i < n → 0 ≤ f i) (f1 : ∀ i, i < n → f i < 1000000000) :
  Calls Tryz.prog 275 #[.bool neg, .slice p n c] w fun e w' => ∃ v, e = .returned (.agg #[.bool (neg && decide (0 < vf f n)), v]) ∧ OwnF w' w.heap.size v (trimN f n) f ∧ Digs f (trimN f n) ∧ vf f (trimN f n) = vf f n ∧ Below w.heap.size w w' := by
 obtain ⟨d1, d2⟩ := trimN_can f0 f1
 have hp := trimN_pos f0 f1
 refine (r3made_core neg (neg && decide (0 < vf f n)) p n c (trimN f n) f w h hn6 (Lib.hid rfl) (Lib.hid (by simp only [hp]))).mono ?_
 rintro e w' ⟨v, rfl, ho, hb⟩
 exact ⟨v, rfl, ho, d1, d2, hb⟩
theorem r3less_any (p q : Option Addr) (n m c1 c2 : Nat) (f g : Nat → Int) (w : World) (h1 : SlF w (.slice p n c1) n f) (h2 : SlF w (.slice q m c2) m g) :
  Calls Tryz.prog 324 #[.slice p n c1, .slice q m c2] w fun e w' => e = .returned (.bool (decide (cmpV f n g m < 0))) ∧ ∃ k, w' = w.drewN k := by
 obtain ⟨hc1, hn1, hx1⟩ := h1.opens
 obtain ⟨hc2, hn2, hx2⟩ := h2.opens
 clear h1 h2
 by_cases hnm : n = m
 ·subst hnm
  go_enter Tryz.func324, Tryz.ntmps324
  go_wp2
  go_loopw [5] (fun a wr => ∃ k : Nat, k ≤ n ∧ a = .int .i64 ((k : Int) - 1) ∧ cmpDown f g k = cmpDown f g n ∧ ∃ j, wr = w.drewN j) (fun a _ => (intOf a + 1).toNat)
  case atStart => exact ⟨n, Nat.le_refl _, rfl, rfl, 0, rfl⟩
  case round =>
   obtain ⟨k, hk, rfl, ht, j, rfl⟩ := hrel
   have HT := Lib.hid ht; clear ht
   by_cases h0 : 0 < k
   ·obtain ⟨b, off, rfl, hb, hcell⟩ := hx1 (by omega)
    obtain ⟨b2, off2, rfl, hb2, hcell2⟩ := hx2 (by omega)
    have a1 := hcell (k-1) (by omega)
    have a2 := hcell2 (k-1) (by omega)
    clear hcell hcell2 hx1 hx2
    obtain ⟨k, rfl⟩ : ∃ j, k = j + 1 := ⟨k-1, by omega⟩
    simp only [Nat.add_sub_cancel] at a1 a2
    rw [show ((k + 1 : Nat) : Int) - 1 = (k : Int) by omega]
    have HE := cmpDown_eq f g (k + 1) (by omega)
    have HN := cmpDown_ne f g (k + 1) (by omega)
    simp only [Nat.add_sub_cancel] at HE HN
    replace HE := Lib.hid HE
    replace HN := Lib.hid HN
    by_cases hfg : f k = g k
    ·have hq : (f k != g k) = false := by simpa using hfg
     have HF := Lib.hid hfg; clear hfg
     go_wp2
     go_quiet (fail)
     go_wp2
     go_roundw
     case rel => exact ⟨k, by omega, rfl, by rw [← HT.out, HE.out HF.out], _, rfl⟩
     case measure => simp [intOf]
    ·have hq : (f k != g k) = true := by simpa using hfg
     have HF := Lib.hid hfg; clear hfg
     go_wp2
     go_quiet (fail)
     go_wp2
     go_quiet (fail)
     go_wp2
     go_ret
     exact ⟨by rw [cmpV, if_pos rfl, ← HT.out, HN.out HF.out, show decide (f k - g k < 0) = decide (f k < g k) from by rw [decide_eq_decide]; omega]; rfl, _, by rw [World.drewN_drewN, World.drewN_drewN]⟩
   ·obtain rfl : k = 0 := by omega
    go_wp2
    go_ret
    exact ⟨by rw [cmpV, if_pos rfl, ← HT.out]; rfl, _, rfl⟩
 ·have hnm' : ((n : Int) != (m : Int)) = true := by simp; omega
  go_enter Tryz.func324, Tryz.ntmps324
  go_wp2
  go_ret
  refine ⟨by rw [cmpV, if_neg hnm, show decide ((n : Int) - m < 0) = decide (n < m) from by rw [decide_eq_decide]; omega]; rfl, 0, rfl⟩
theorem r3less_ok (p q : Option Addr) (n m c1 c2 : Nat) (f g : Nat → Int) (w : World) (h1 : SlF w (.slice p n c1) n f) (h2 : SlF w (.slice q m c2) m g) (d1 : Digs f n) (d2 : Digs g m) :
  Calls Tryz.prog 324 #[.slice p n c1, .slice q m c2] w fun e w' => e = .returned (.bool (decide (vf f n < vf g m))) ∧ ∃ k, w' = w.drewN k := by
 refine (r3less_any p q n m c1 c2 f g w h1 h2).mono ?_
 rintro e w' ⟨rfl, hk⟩
 exact ⟨by simp only [(cmpV_spec d1 d2).1], hk⟩
theorem r3at_ok (p : Option Addr) (n c i : Nat) (f : Nat → Int) (w : World) (h : SlF w (.slice p n c) n f) :
  Calls Tryz.prog 300 #[.slice p n c, .int .i64 (i : Int)] w fun e w' => e = .returned (.int .i64 (xt f n i)) ∧ w' = w := by
 obtain ⟨hc, hn, hx⟩ := h.opens
 clear h
 by_cases hin : i < n
 ·obtain ⟨b, off, rfl, hb, hcell⟩ := hx (by omega)
  have a1 := hcell i hin
  have hi' : (i : Int) < n := by omega
  rw [xt_lt hin]
  clear hcell hx
  go_enter Tryz.func300, Tryz.ntmps300
  go_wp2
  go_ret
  exact ⟨rfl, rfl⟩
 ·have hi' : ¬ (i : Int) < n := by omega
  rw [xt_ge (by omega)]
  clear hx
  go_enter Tryz.func300, Tryz.ntmps300
  go_wp2
  go_ret
  exact ⟨rfl, rfl⟩
end Go.Proofs.YtccmnjkgfgnmoaaGreatDoor
namespace Go.Mono
def Mov (N D : Nat) (x : Mat) : Prop := ∃ d, d ≤ D ∧ Ov N d x.a ∧ Ov N d x.b ∧ Ov N d x.c ∧ Ov N d x.d
def bnd : Nat := 4000000000000000000000
theorem mul_in {a b : Int} {A B : Nat} (h1 : a.natAbs ≤ A) (h2 : b.natAbs ≤ B) : (a * b).natAbs ≤ A * B := by
 rw [Int.natAbs_mul]; exact Nat.mul_le_mul h1 h2
theorem Flm.ok.mov {f : Flm} (h : f.ok) : Mov bnd bnd f.mat := by
 have hs := h.sq_pos
 have hn := h.ne
 obtain ⟨i1, i2, p1, p2, q1, q2⟩ := h
 have pq : (f.p * f.q).natAbs ≤ 1000 * 1000 := mul_in (by omega) (by omega)
 have pp : (f.p * f.p).natAbs ≤ 1000 * 1000 := mul_in (by omega) (by omega)
 have qq : (f.q * f.q).natAbs ≤ 1000 * 1000 := mul_in (by omega) (by omega)
 have ii : (f.ix * f.ix).natAbs ≤ 40000000 * 40000000 := mul_in (by omega) (by omega)
 have pp0 : 0 ≤ f.p * f.p := Int.mul_nonneg p1 p1
 have qq0 : 0 ≤ f.q * f.q := Int.mul_nonneg (by omega) (by omega)
 have pq0 : 0 ≤ f.p * f.q := Int.mul_nonneg p1 (by omega)
 obtain ⟨s, es⟩ : ∃ s : Nat, f.sq = (s : Int) := ⟨f.sq.toNat, by omega⟩
 obtain ⟨n, en⟩ : ∃ n : Nat, f.ix = (n : Int) := ⟨f.ix.toNat, by omega⟩
 have s2 : s ≤ 2000000 := by have : f.sq = f.q * f.q + f.p * f.p := rfl; omega
 have n2 : n ≤ 40000000 := by omega
 have s0 : 0 < s := by omega
 have n0 : 0 < n := by omega
 have hc : Ov 1000000 s f.cos := by
  unfold Flm.cos; rw [es]; exact Ov.of _ s s0 _ (by omega)
 have hi : Ov 2000000 s f.sin := by
  unfold Flm.sin; rw [es]; refine Ov.of _ s s0 _ ?_
  rw [show 2 * f.p * f.q = 2 * (f.p * f.q) from by grind]; omega
 have hd : Ov (2000000 * 10000000) (s * n) (f.sin / idx f.ix) := by
  have : f.sin / idx f.ix = f.sin * Rat.divInt 10000000 n := by
   rw [Rat.div_def]; unfold idx; rw [Rat.inv_divInt, en]
  rw [this]
  exact hi.mul (Ov.of 10000000 n n0 10000000 (by decide))
 have hm : Ov (40000000 * 2000000) (10000000 * s) (idx f.ix * f.sin) := by
  have : Ov 40000000 10000000 (idx f.ix) := by unfold idx; exact Ov.of f.ix 10000000 (by decide) _ (by omega)
  exact this.mul hi
 have hc' : Ov bnd (s * (n * 10000000)) f.cos := (hc.scale (n * 10000000) (by omega)).mono (by
  have : 1000000 * (n * 10000000) ≤ 1000000 * (40000000 * 10000000) := Nat.mul_le_mul_left _ (Nat.mul_le_mul_right _ n2)
  unfold bnd; omega)
 refine ⟨s * (n * 10000000), ?_, hc', ?_, ?_, hc'⟩
 ·have : s * (n * 10000000) ≤ 2000000 * (40000000 * 10000000) := Nat.mul_le_mul s2 (Nat.mul_le_mul_right _ n2)
  unfold bnd; omega
 ·have := hd.scale 10000000 (by decide)
  rw [Nat.mul_assoc s n] at this
  exact Ov.mono (M := bnd) this (by decide)
 ·have := hm.scale n n0
  rw [show 10000000 * s * n = s * (n * 10000000) from by rw [Nat.mul_comm 10000000, Nat.mul_assoc, Nat.mul_comm 10000000]] at this
  refine Ov.mono (M := bnd) this ?_
  have : 40000000 * 2000000 * n ≤ 40000000 * 2000000 * 40000000 := Nat.mul_le_mul_left _ n2
  unfold bnd; omega
theorem Mov.parts {N D N' D' : Nat} {x y : Mat} (h : Mov N D x) (g : Mov N' D' y) : ∃ d, d ≤ D * D' ∧
  (∀ u v, (u = x.a ∨ u = x.b ∨ u = x.c ∨ u = x.d) → (v = y.a ∨ v = y.b ∨ v = y.c ∨ v = y.d) → Ov (N * N') d (u * v)) := by
 obtain ⟨d, hd, a, b, c, e⟩ := h
 obtain ⟨d', hd', a', b', c', e'⟩ := g
 refine ⟨d * d', Nat.mul_le_mul hd hd', ?_⟩
 intro u v hu hv
 rcases hu with rfl | rfl | rfl | rfl <;> rcases hv with rfl | rfl | rfl | rfl <;> exact Ov.mul (by assumption) (by assumption)
theorem Mov.mul {N D N' D' : Nat} {x y : Mat} (h : Mov N D x) (g : Mov N' D' y) : Mov (2 * (N * N')) (D * D') (x.mul y) := by
 obtain ⟨d, hd, hp⟩ := h.parts g
 rw [Nat.two_mul]
 exact ⟨d, hd, (hp _ _ (by simp) (by simp)).sub_same (hp _ _ (by simp) (by simp)), (hp _ _ (by simp) (by simp)).add_same (hp _ _ (by simp) (by simp)), (hp _ _ (by simp) (by simp)).add_same (hp _ _ (by simp) (by simp)), (hp _ _ (by simp) (by simp)).sub_same (hp _ _ (by simp) (by simp))⟩
theorem Mov.one : Mov 1 1 Mat.one := by
 have h0 : Ov 1 1 (0 : Rat) := Ov.of 0 1 (by decide) 1 (by decide)
 have h1 : Ov 1 1 (1 : Rat) := Ov.of 1 1 (by decide) 1 (by decide)
 exact ⟨1, Nat.le_refl _, h1, h0, h0, h1⟩
theorem stack_mov (l : List Flm) (h : ∀ f ∈ l, f.ok) : Mov ((2 * bnd) ^ l.length) (bnd ^ l.length) (stackM l) := by
 suffices H : ∀ (l m : List Flm), (∀ f ∈ m, f.ok) → Mov ((2 * bnd) ^ l.length) (bnd ^ l.length) (stackM l) → Mov ((2 * bnd) ^ (l ++ m).length) (bnd ^ (l ++ m).length) (stackM (l ++ m)) by
  have := H [] l h Mov.one
  simpa using this
 intro l m hm hl
 induction m generalizing l with
 | nil => simpa using hl
 | cons f m ih =>
   have e : l ++ f :: m = (l ++ [f]) ++ m := by simp
   rw [e]
   refine ih (l ++ [f]) (fun g hg => hm g (by simp [hg])) ?_
   rw [stackM_snoc]
   have := hl.mul (hm f (by simp)).mov
   rw [show 2 * ((2 * bnd) ^ l.length * bnd) = (2 * bnd) ^ (l ++ [f]).length from by rw [List.length_append, List.length_singleton, Nat.pow_succ, Nat.mul_left_comm], show bnd ^ l.length * bnd = bnd ^ (l ++ [f]).length from by rw [List.length_append, List.length_singleton, Nat.pow_succ]] at this
   exact this
def Mhs (k : Nat) (x : Mat) : Prop := Hs k x.a ∧ Hs k x.b ∧ Hs k x.c ∧ Hs k x.d
theorem Mov.mhs {N D k : Nat} {x : Mat} (h : Mov N D x) (hN : N ≤ 10 ^ k) (hD : D ≤ 10 ^ k) : Mhs k x := by
 obtain ⟨d, hd, a, b, c, e⟩ := h
 exact ⟨.of_ov a hN (by omega), .of_ov b hN (by omega), .of_ov c hN (by omega), .of_ov e hN (by omega)⟩
theorem pow_bnd (k : Nat) (hk : k ≤ 9) : (2 * bnd) ^ k ≤ 10 ^ 198 ∧ bnd ^ k ≤ 10 ^ 198 := by
 have h1 : (2 * bnd) ^ k ≤ (2 * bnd) ^ 9 := Nat.pow_le_pow_right (by decide) hk
 have h2 : bnd ^ k ≤ (2 * bnd) ^ k := Nat.pow_le_pow_left (by decide) _
 have h3 : (2 * bnd) ^ 9 ≤ 10 ^ 198 := by decide +kernel
 omega
theorem stack_step (l : List Flm) (f : Flm) (h : ∀ g ∈ l, g.ok) (hf : f.ok) (hl : l.length ≤ 8) :
  ∀ u v u' v', (u = (stackM l).a ∨ u = (stackM l).b ∨ u = (stackM l).c ∨ u = (stackM l).d) → (v = f.mat.a ∨ v = f.mat.b ∨ v = f.mat.c ∨ v = f.mat.d) →
    (u' = (stackM l).a ∨ u' = (stackM l).b ∨ u' = (stackM l).c ∨ u' = (stackM l).d) → (v' = f.mat.a ∨ v' = f.mat.b ∨ v' = f.mat.c ∨ v' = f.mat.d) → Hs 221 (u * v) ∧ Hs 221 (u * v + u' * v') ∧ Hs 221 (u * v - u' * v') := by
 intro u v u' v' hu hv hu' hv'
 obtain ⟨d, hd, hp⟩ := (stack_mov l h).parts hf.mov
 have b := pow_bnd l.length (by omega)
 have e1 : (2 * bnd) ^ l.length * bnd ≤ 10 ^ 198 * bnd := Nat.mul_le_mul_right _ b.1
 have e2 : bnd ^ l.length * bnd ≤ 10 ^ 198 * bnd := Nat.mul_le_mul_right _ b.2
 have e3 : 10 ^ 198 * bnd + 10 ^ 198 * bnd ≤ 10 ^ 221 := by decide +kernel
 have e4 : 10 ^ 198 * bnd ≤ 10 ^ 221 := by omega
 have x := hp u v hu hv
 have y := hp u' v' hu' hv'
 exact ⟨.of_ov x (by omega) (by omega), .of_ov (x.add_same y) (by omega) (by omega), .of_ov (x.sub_same y) (by omega) (by omega)⟩
theorem stack_hs (l : List Flm) (h : ∀ g ∈ l, g.ok) (hl : l.length ≤ 9) : Mhs 198 (stackM l) :=
 (stack_mov l h).mhs (pow_bnd _ hl).1 (pow_bnd _ hl).2
theorem film_hs {f : Flm} (h : f.ok) : Mhs 22 f.mat ∧ Hs 22 f.sin ∧ Hs 22 f.cos ∧ Hs 22 (idx f.ix) := by
 have hm := h.mov.mhs (k := 22) (by decide +kernel) (by decide +kernel)
 refine ⟨hm, ?_, hm.1, ?_⟩
 ·have hs := h.sq_pos
  obtain ⟨i1, i2, p1, p2, q1, q2⟩ := h
  have pq : (f.p * f.q).natAbs ≤ 1000 * 1000 := mul_in (by omega) (by omega)
  have pp : (f.p * f.p).natAbs ≤ 1000 * 1000 := mul_in (by omega) (by omega)
  have qq : (f.q * f.q).natAbs ≤ 1000 * 1000 := mul_in (by omega) (by omega)
  have e : f.sq = f.q * f.q + f.p * f.p := rfl
  refine Hs.divInt _ _ (by omega) ?_ (by omega)
  rw [show 2 * f.p * f.q = 2 * (f.p * f.q) from by grind]; omega
 ·obtain ⟨i1, i2, _⟩ := h
  exact Hs.divInt _ _ (by decide) (by omega) (by omega)
theorem idx_hs {n : Int} (h1 : 10000000 ≤ n) (h2 : n ≤ 40000000) : Hs 8 (idx n) := Hs.divInt _ _ (by decide) (by omega) (by omega)
section
open Go.RowKit
section
variable {P : Program} {o : Oper} {a : Act} {w : World} {K : Act → World → Prop} {Q : Exit → Act → World → Prop}
theorem wp_fresh (T : TypeId) (ho : o.op = .alloc T) (zs : Array Value)
  (hrun : ∀ w, (Instr.alloc T true (.tuple #[])).run P w = .ok (.pointer (some ⟨w.heap.size, 0, none⟩)) (w.alloc (.cells zs T)))
  (h : ∀ V B, w.heap.size ≤ B → Below w.heap.size w V → Box V B T zs → K (a.put o.dst (.pointer (some ⟨B, 0, none⟩))) V) : o.wp P a w K Q := by
 unfold Oper.wp execOp
 simp only [ho, Sem.run_bind, hrun, Result.andThen_ok, Sem.run_pure]
 exact h _ _ (Nat.le_refl _) ((Below.refl _ _).alloc (Nat.le_refl _) _) (Box.new _ _ _)
end
section
variable {P : Program} {ops : Array Oper} {Q : Exit → Act → World → Prop} {md : Region.Mode} {S : World → Prop}
theorem wpAnyH_storeB (B : Nat) (T : TypeId) (i : Nat) {o : Oper} (hi : ops[i]? = some o) (hg : o.guard = none) (hd : o.dst = none) {ty : TypeId} {x y : Operand} (ho : o.op = .store ty x y) (off : Nat) (cells cs new : Array Value) {a : Act} {fuel : Nat} {listed : Array Bool} {w : World}
  (hr : Region.ready md ops listed = [i]) (hS : ∀ w i u, S w → S (w.setCell ⟨B, i, none⟩ u)) (hx : a.eval x = .pointer (some ⟨B, off, none⟩)) (hy : a.eval y = .agg cells)
  (hb : Box w B T cs) (hs : S w) (hi2 : (P.info? ty).map (·.size) = some cells.size) (hoff : off + cells.size ≤ cs.size) (h1 : cells.all (·.oneCell') = true)
  (hn : cs.toList.take off ++ cells.toList ++ cs.toList.drop (off + cells.size) = new.toList)
  (h : ∀ w', KeepBut B w.heap.size w w' → Box w' B T new → S w' → wpAnyH P md ops Q S fuel (listed.setIfInBounds i true) a w') : wpAnyH P md ops Q S (fuel + 1) listed a w := by
 refine wpAnyH_all hr (by simp) fun j hj => ?_
 obtain rfl : j = i := by simpa using hj
 unfold wpOp
 rw [hi]
 have hw : Region.wanted o (yielded ops a.tmps) = true := by simp [Region.wanted, hg]
 simp only [hw, if_true]
 left
 have hb2 := Box.setCells cells.toList off w cs hb (by simpa using hoff)
 have hb3 : Box (w.setCells B off cells.toList) B T new := by simpa [hn] using hb2
 have hs2 := setCells_keeps hS cells.toList off w hs
 refine wp_store_mid ty x y ho B off cells hx hy (hb.there off cells.size hoff) hi2 h1 ?_
 rw [hd]
 exact ⟨hs2, h _ ((KeepBut.refl _ _).setCells _ _ _) hb3 hs2⟩
end
end
section
open Go.RowKit
section
variable {P : Program} {ops : Array Oper} {rest : List Oper} {a : Act} {w : World} {Q : Exit → Act → World → Prop} {T0 T1 T2 T3 : TypeId} {c0 c1 c2 c3 : Array Value}
theorem boxes3l (h : ∀ W, Below w.heap.size w W → w.heap.size + 3 ≤ W.heap.size → Box W w.heap.size T0 c0 → Box W (w.heap.size + 1) T1 c1 → Box W (w.heap.size + 1 + 1) T2 c2 → wpList P ops Q rest a W) :
  wpList P ops Q rest a (((w.alloc (.cells c0 T0)).alloc (.cells c1 T1)).alloc (.cells c2 T2)) := by
 have b1 := Box.new (w.alloc (.cells c0 T0)) T1 c1
 have b2 := Box.new ((w.alloc (.cells c0 T0)).alloc (.cells c1 T1)) T2 c2
 simp only [World.size_alloc] at b1 b2
 exact h _ ((((Below.refl _ _).alloc (Nat.le_refl _) _).alloc (by simp) _).alloc (by simp; omega) _) (by simp) (((Box.new _ _ _).alloc _).alloc _) (b1.alloc _) b2
end
end
section
open Go.RowKit
theorem QV.four {w : World} {C : Array Value} {q : Rat} (h : QV w (.agg C) q) : ∃ x0 x1 x2 x3 : Value, C = #[x0, x1, x2, x3] ∧ x0.oneCell' = true ∧ x1.oneCell' = true ∧ x2.oneCell' = true ∧ x3.oneCell' = true := by
 obtain ⟨p, k, c, p', k', c', e, _, _⟩ := h
 cases e
 exact ⟨_, _, _, _, rfl, rfl, rfl, rfl, rfl⟩
theorem exec_build {P : Program} {S : World → Prop} {oi : Oper} {a : Act} (t : TypeId) (parts : Array (Nat × Operand)) (ho : oi.op = .build t parts) (cells : Array Value)
  (hc : P.built t (parts.map fun (i, x) => (i, a.eval x)).toList = some cells) : ∀ w, S w → (execOp a.eval oi).run P w = .ok (.value (.agg cells)) w := fun w _ => by
 unfold execOp
 have := run_build w t (parts.map fun (i, x) => (i, a.eval x)) cells hc
 simp only [ho, Sem.run_bind]
 first
  | (simp only [this, Result.andThen_ok, Sem.run_pure]; done)
  | (simp [this, Result.andThen_ok, Sem.run_pure])
end
section
open Go.RowKit
def Flm.vals (f : Flm) : Array Value := #[.int .i64 f.ix, .int .i64 f.p, .int .i64 f.q]
structure MV (w : World) (C : Array Value) (m : Mat) : Prop where
 parts : ∃ a0 a1 a2 a3 b0 b1 b2 b3 c0 c1 c2 c3 d0 d1 d2 d3 : Value, C = #[a0, a1, a2, a3, b0, b1, b2, b3, c0, c1, c2, c3, d0, d1, d2, d3] ∧
  QV w (.agg #[a0, a1, a2, a3]) m.a ∧ QV w (.agg #[b0, b1, b2, b3]) m.b ∧ QV w (.agg #[c0, c1, c2, c3]) m.c ∧ QV w (.agg #[d0, d1, d2, d3]) m.d
theorem MV.ext {w w' : World} {C : Array Value} {m : Mat} (h : MV w C m) (hx : Ext w w') : MV w' C m := by
 obtain ⟨a0, a1, a2, a3, b0, b1, b2, b3, c0, c1, c2, c3, d0, d1, d2, d3, rfl, h1, h2, h3, h4⟩ := h.parts
 exact ⟨⟨_, _, _, _, _, _, _, _, _, _, _, _, _, _, _, _, rfl, h1.ext hx, h2.ext hx, h3.ext hx, h4.ext hx⟩⟩
theorem MV.size {w : World} {C : Array Value} {m : Mat} (h : MV w C m) : C.size = 16 := by
 obtain ⟨a0, a1, a2, a3, b0, b1, b2, b3, c0, c1, c2, c3, d0, d1, d2, d3, rfl, h1, h2, h3, h4⟩ := h.parts
 rfl
theorem QV.ones {w : World} {x0 x1 x2 x3 : Value} {q : Rat} (h : QV w (.agg #[x0, x1, x2, x3]) q) : x0.oneCell' = true ∧ x1.oneCell' = true ∧ x2.oneCell' = true ∧ x3.oneCell' = true := by
 obtain ⟨y0, y1, y2, y3, e, h0, h1, h2, h3⟩ := h.four
 cases e
 exact ⟨h0, h1, h2, h3⟩
theorem MV.ones {w : World} {C : Array Value} {m : Mat} (h : MV w C m) : C.all (·.oneCell') = true := by
 obtain ⟨a0, a1, a2, a3, b0, b1, b2, b3, c0, c1, c2, c3, d0, d1, d2, d3, rfl, h1, h2, h3, h4⟩ := h.parts
 obtain ⟨x0, x1, x2, x3⟩ := h1.ones
 obtain ⟨y0, y1, y2, y3⟩ := h2.ones
 obtain ⟨z0, z1, z2, z3⟩ := h3.ones
 obtain ⟨u0, u1, u2, u3⟩ := h4.ones
 simp [*]
theorem pw_ten (k : Nat) : pw k = ((10 ^ (9 * k) : Nat) : Int) := by
 induction k with
 | zero => rfl
 | succ k ih =>
   rw [pw_succ, ih, show 9 * (k + 1) = 9 * k + 9 from by omega, Nat.pow_add, Int.natCast_mul]
   rfl
theorem Hs.fits_of {k n : Nat} {x : Rat} (h : Hs k x) (hn : n = 9 * 600) (hk : k < n) : (x.num.natAbs : Int) < pw 600 ∧ (x.den : Int) < pw 600 := by
 have e : pw 600 = ((10 ^ n : Nat) : Int) := by rw [hn]; exact pw_ten 600
 have hlt : 10 ^ k < 10 ^ n := Nat.pow_lt_pow_right (by decide) hk
 rw [e]
 exact ⟨Int.ofNat_lt.2 (Nat.lt_of_le_of_lt h.1 hlt), Int.ofNat_lt.2 (Nat.lt_of_le_of_lt h.2 hlt)⟩
theorem Hs.fits {k : Nat} {x : Rat} (h : Hs k x) (hk : k ≤ 5399) : Fits x := by
 obtain ⟨n, hn⟩ : ∃ n, n = 9 * 600 := ⟨_, rfl⟩
 exact h.fits_of hn (by omega)
end
section
open Go.RowKit
theorem Box.part {w : World} {B : Nat} {T : TypeId} {cs : Array Value} (b : Box w B T cs) (off : Nat) (part : Array Value) (h : (cs.toList.drop off).take part.size = part.toList) : w.rangeAt B off part.toList := fun j v hv => by
 rw [b.cell, ← Array.getElem?_toList]
 rw [← h, List.getElem?_take] at hv
 split at hv
 ·rw [List.getElem?_drop] at hv
  exact hv
 ·cases hv
structure MFits (x y : Mat) : Prop where
 pr : ∀ u v, (u = x.a ∨ u = x.b ∨ u = x.c ∨ u = x.d) → (v = y.a ∨ v = y.b ∨ v = y.c ∨ v = y.d) → Fits (u * v)
 a : Fits (x.mul y).a
 b : Fits (x.mul y).b
 c : Fits (x.mul y).c
 d : Fits (x.mul y).d
end
section
open Go.RowKit
def LgV (m : Nat) (w : World) (v : Value) (z : Int) : Prop := ∃ p n c f, v = .agg #[.bool (decide (z < 0)), .slice p n c] ∧ SlF w (.slice p n c) n f ∧ Digs f n ∧ vf f n = z.natAbs ∧ n ≤ m
theorem LgV.ext {m : Nat} {w w' : World} {v : Value} {z : Int} (h : LgV m w v z) (hx : Ext w w') : LgV m w' v z := by
 obtain ⟨p, n, c, f, hv, h1, h2⟩ := h
 exact ⟨p, n, c, f, hv, h1.ext hx, h2⟩
theorem LgV.below {m : Nat} {w w' : World} {v : Value} {z : Int} (h : LgV m w v z) (hb : Below w.heap.size w w') : LgV m w' v z := h.ext (.of_below hb)
theorem LgV.mono {m m' : Nat} {w : World} {v : Value} {z : Int} (h : LgV m w v z) (hm : m ≤ m') : LgV m' w v z := by
 obtain ⟨p, n, c, f, hv, h1, h2, h3, h4⟩ := h
 exact ⟨p, n, c, f, hv, h1, h2, h3, by omega⟩
theorem LgV.tight {m k : Nat} {w : World} {v : Value} {z : Int} (h : LgV m w v z) (hz : (z.natAbs : Int) < pw k) : LgV k w v z := by
 obtain ⟨p, n, c, f, hv, h1, h2, h3, h4⟩ := h
 refine ⟨p, n, c, f, hv, h1, h2, h3, ?_⟩
 by_cases hn : n = 0
 ·omega
 have := h2.ge (by omega)
 by_cases hk : n ≤ k
 ·exact hk
 ·have := pw_mono (i := k) (k := n - 1) (by omega)
  omega
theorem LgV.lt {m : Nat} {w : World} {v : Value} {z : Int} (h : LgV m w v z) : (z.natAbs : Int) < pw m := by
 obtain ⟨p, n, c, f, hv, h1, h2, h3, h4⟩ := h
 have := h2.lt
 have := pw_mono h4
 omega
theorem long_eq {z y : Int} {n m : Nat} {f g : Nat → Int} (d1 : Digs f n) (v1 : vf f n = z.natAbs) (d2 : Digs g m) (v2 : vf g m = y.natAbs) :
  z = y ↔ (decide (z < 0) = decide (y < 0) ∧ n = m ∧ ∀ i, i < n → f i = g i) := by
 constructor
 ·rintro rfl
  obtain ⟨rfl, h⟩ := d1.unique d2 (by omega)
  exact ⟨rfl, rfl, h⟩
 ·rintro ⟨h1, rfl, h2⟩
  have e := vf_congr h2
  have h3 : (z < 0 ↔ y < 0) := by simpa using h1
  omega
end
end Go.Mono
namespace Go.Proofs.YtccmnjkgfgnmoaaGreatDoor
open Go.RowKit Go.Mono
theorem r3same_any (s t : Bool) (p q : Option Addr) (n m c1 c2 : Nat) (f g : Nat → Int) (r : Bool) (w : World) (h1 : SlF w (.slice p n c1) n f) (h2 : SlF w (.slice q m c2) m g) (hr : Hid (r = true ↔ (s = t ∧ n = m ∧ ∀ i, i < n → f i = g i))) :
  Calls Tryz.prog 246 #[.agg #[.bool s, .slice p n c1], .agg #[.bool t, .slice q m c2]] w fun e w' => e = .returned (.bool r) ∧ Below w.heap.size w w' := by
 obtain ⟨hc1, hn1, hx1⟩ := h1.opens
 obtain ⟨hc2, hn2, hx2⟩ := h2.opens
 clear h1 h2
 by_cases hst : s = t
 ·subst hst
  by_cases hnm : n = m
  ·subst hnm
   go_enter Tryz.func246, Tryz.ntmps246
   go_wp2
   refine boxes2 fun W hB hs b0 b1 => ?_
   have cb0 := b0.cell
   have lb0 := b0.lt
   have fb0 := b0.frozen
   have cb1 := b1.cell
   have lb1 := b1.lt
   have fb1 := b1.frozen
   go_loopw [5] (fun a wr => ∃ i : Nat, i ≤ n ∧ a = .int .i64 (i : Int) ∧ (∀ j, j < i → f j = g j) ∧ ∃ k, wr = W.drewN k) (fun a _ => (n - intOf a).toNat)
   case atStart => exact ⟨0, Nat.zero_le _, rfl, fun j hj => absurd hj (Nat.not_lt_zero _), 0, rfl⟩
   case round =>
    obtain ⟨i, hi, rfl, heq, k, rfl⟩ := hrel
    replace heq := Lib.hid heq
    by_cases hin : i < n
    ·obtain ⟨b, off, rfl, hb, hcell⟩ := hx1 (by omega)
     obtain ⟨b2, off2, rfl, hb2, hcell2⟩ := hx2 (by omega)
     have a1 := (hB.cell (p := ⟨b, off + i, none⟩) hb).trans (hcell i hin)
     have a2 := (hB.cell (p := ⟨b2, off2 + i, none⟩) hb2).trans (hcell2 i hin)
     have hin' : (i : Int) < n := by omega
     clear hcell hcell2 hx1 hx2
     by_cases hfg : f i = g i
     ·have hq : (f i != g i) = false := by simpa using hfg
      replace hfg := Lib.hid hfg
      go_wp2
      go_quiet (fail)
      go_wp2
      go_roundw
      case rel =>
       refine ⟨i + 1, by omega, by simp, fun j hj => ?_, _, rfl⟩
       by_cases hji : j = i
       ·subst hji; exact hfg.out
       ·exact heq.out j (by omega)
      case measure => simp [intOf]; omega
     ·have hq : (f i != g i) = true := by simpa using hfg
      obtain rfl : r = false := by
       rw [Bool.eq_false_iff]
       intro e
       exact hfg ((hr.out.1 e).2.2 i hin)
      replace hfg := Lib.hid hfg
      go_wp2
      go_quiet (fail)
      go_wp2
      go_ret
      exact ⟨rfl, below_drewN (below_drewN hB _) _⟩
    ·obtain rfl : i = n := by omega
     obtain rfl : r = true := hr.out.2 ⟨by trivial, by trivial, heq.out⟩
     clear hx1 hx2
     go_wp2
     go_ret
     exact ⟨rfl, below_drewN hB _⟩
  ·obtain rfl : r = false := by
    rw [Bool.eq_false_iff]
    intro e
    exact hnm (hr.out.1 e).2.1
   have hnm' : ((n : Int) != (m : Int)) = true := by simp; omega
   clear hx1 hx2
   go_enter Tryz.func246, Tryz.ntmps246
   go_wp2
   go_ret
   exact ⟨rfl, belowAlloc (belowAlloc (Below.refl _ _) _) _⟩
 ·obtain rfl : r = false := by
   rw [Bool.eq_false_iff]
   intro e
   exact hst (hr.out.1 e).1
  have hst' : (s != t) = true := by simpa using hst
  clear hx1 hx2
  go_enter Tryz.func246, Tryz.ntmps246
  go_wp2
  go_ret
  exact ⟨rfl, belowAlloc (belowAlloc (Below.refl _ _) _) _⟩
theorem r3same_ok {m1 m2 : Nat} {v1 v2 : Value} {z y : Int} (w : World) (h1 : LgV m1 w v1 z) (h2 : LgV m2 w v2 y) :
  Calls Tryz.prog 246 #[v1, v2] w fun e w' => e = .returned (.bool (decide (z = y))) ∧ Below w.heap.size w w' := by
 obtain ⟨p, n, c, f, rfl, s1, d1, e1, _⟩ := h1
 obtain ⟨q, m, c', g, rfl, s2, d2, e2, _⟩ := h2
 refine r3same_any _ _ p q n m c c' f g _ w s1 s2 (Lib.hid ?_)
 rw [decide_eq_true_eq]
 exact long_eq d1 e1 d2 e2
section
open Go.Ex
def RdG (w : World) (p : Option Addr) (n c : Nat) (f : Nat → Int) : Prop :=
 n ≤ c ∧ n ≤ 140737488351232 ∧ (0 < n → ∃ b off, p = some ⟨b, off, none⟩ ∧ b < w.heap.size ∧ (∀ i, i < n → w.cell? ⟨b, off + i, none⟩ = some (.int .i64 (f i))))
theorem RdG.below {w w' : World} {p : Option Addr} {n c : Nat} {f : Nat → Int} (h : RdG w p n c f) (hB : Below w.heap.size w w') : RdG w' p n c f := by
 obtain ⟨h1, h2, h3⟩ := h
 refine ⟨h1, h2, fun hn => ?_⟩
 obtain ⟨b, off, hp, hb, hc⟩ := h3 hn
 exact ⟨b, off, hp, Nat.lt_of_lt_of_le hb hB.size, fun i hi => (hB.cell hb).trans (hc i hi)⟩
def OddL (w : World) (p : Option Addr) (n c : Nat) (f : Nat → Int) : Prop := RdG w p n c f ∧ (p = none → c = 0)
def clsU (k : Nat) (j : Nat) (n : Nat) : U :=
 match j with
 | 0 => .emp
 | 1 => .sli k 0 1
 | 2 => .sli k 0 2
 | _ => .slx k 0 3 n
def clsL (f : Nat → Int) : Nat → List U
 | 0 => []
 | 1 => [.sym (f 0)]
 | 2 => [.sym (f 0), .sym (f 1)]
 | _ => [.sym (f 0), .sym (f 1), .sym (f 2)]
def clsC (f : Nat → Int) : Nat → List Value
 | 0 => []
 | 1 => [.int .i64 (f 0)]
 | 2 => [.int .i64 (f 0), .int .i64 (f 1)]
 | _ => [.int .i64 (f 0), .int .i64 (f 1), .int .i64 (f 2)]
def cls (n : Nat) : Nat := if n ≤ 2 then n else 3
theorem clsL_den {D : Den} {ρ : Nm} {w : World} (f : Nat → Int) (j : Nat) : denL D ρ w (clsL f j) (clsC f j) := by
 match j with
 | 0 => exact rfl
 | 1 => exact ⟨[_], [], rfl, rfl, rfl⟩
 | 2 => exact ⟨[_], _, rfl, rfl, [_], [], rfl, rfl, rfl⟩
 | _ + 3 => exact ⟨[_], _, rfl, rfl, [_], _, rfl, rfl, [_], [], rfl, rfl, rfl⟩
theorem odd_view {w : World} {p : Option Addr} {n c : Nat} {f : Nat → Int} (h : OddL w p n c f) : ∃ b off, (0 < n → p = some ⟨b, off, none⟩ ∧ b < w.heap.size ∧ w.rangeAt b off (clsC f (cls n))) := by
 obtain ⟨⟨h1, h2, h3⟩, _⟩ := h
 by_cases hn : 0 < n
 ·obtain ⟨b, off, e, hb, hc⟩ := h3 hn
  refine ⟨b, off, fun _ => ⟨e, hb, fun j v hj => ?_⟩⟩
  have hlt : j < (clsC f (cls n)).length := (List.getElem?_eq_some_iff.1 hj).1
  have hj2 : j < n ∧ v = .int .i64 (f j) := by
   unfold cls at hj hlt
   split at hj
   ·rename_i h2
    rw [if_pos h2] at hlt
    rcases (by omega : n = 1 ∨ n = 2) with rfl | rfl
    ·simp only [clsC, List.length_cons, List.length_nil] at hlt
     obtain rfl : j = 0 := by omega
     exact ⟨by omega, by simpa [clsC] using hj.symm⟩
    ·simp only [clsC, List.length_cons, List.length_nil] at hlt
     rcases (by omega : j = 0 ∨ j = 1) with rfl | rfl
     ·exact ⟨by omega, by simpa [clsC] using hj.symm⟩
     ·exact ⟨by omega, by simpa [clsC] using hj.symm⟩
   ·rename_i h2
    rw [if_neg h2] at hlt
    simp only [clsC, List.length_cons, List.length_nil] at hlt
    rcases (by omega : j = 0 ∨ j = 1 ∨ j = 2) with rfl | rfl | rfl
    ·exact ⟨by omega, by simpa [clsC] using hj.symm⟩
    ·exact ⟨by omega, by simpa [clsC] using hj.symm⟩
    ·exact ⟨by omega, by simpa [clsC] using hj.symm⟩
  rw [hj2.2]
  exact hc j hj2.1
 ·exact ⟨0, 0, fun h => absurd h hn⟩
end
section
open Go.Ex
theorem own_slf {D : Den} {ρ : Nm} {w : World} {bk : List (Nat × Blk)} (hB : BkOk D ρ w w bk) {k len : Nat} (f : Nat → Int) {v : Value} (hu : denU D ρ w (.own k len 1) [v]) {b : Blk} (hl : bk.look k = some b) (hT : b.T = 3) (hd : b.dead = false) (hr : b.ro = false) (hc : b.cells = clsL f len) (h3 : len ≤ 3) :
  SlF w v len f := by
 obtain ⟨B, hB1, g1, g2, g3, g4⟩ := hu
 obtain ⟨B', cs, k1, k2, k3, k4⟩ := hB k b hl hd
 cases k1.symm.trans hB1
 obtain rfl : v = .slice (some ⟨B.blk, 0, none⟩) len B.cap := by simpa using g4
 rw [hc] at k3
 have hcs : cs = clsC f len := by
  have hl2 := k3
  match len, h3 with
  | 0, _ => exact hl2
  | 1, _ => obtain ⟨c1, d1, rfl, e1, e2⟩ := hl2; obtain rfl : c1 = [_] := e1; obtain rfl : d1 = [] := e2; rfl
  | 2, _ => obtain ⟨c1, d1, rfl, e1, c2, d2, rfl, e2, e3⟩ := hl2; obtain rfl : c1 = [_] := e1; obtain rfl : c2 = [_] := e2; obtain rfl : d2 = [] := e3; rfl
  | 3, _ => obtain ⟨c1, d1, rfl, e1, c2, d2, rfl, e2, c3, d3, rfl, e3, e4⟩ := hl2; obtain rfl : c1 = [_] := e1; obtain rfl : c2 = [_] := e2; obtain rfl : c3 = [_] := e3; obtain rfl : d3 = [] := e4; rfl
 rcases k2 with ⟨g, _⟩ | ⟨g, _, rest, _, _, hbox⟩
 ·rw [k4, hr] at g; cases g
 ·refine .inr ⟨B.blk, 0, B.cap, (cs ++ rest).toArray, (0, 0), rfl, g1, by omega, by rw [← hT]; exact hbox.blk, fun i hi => ?_⟩
  rw [Nat.zero_add, hcs]
  match len, h3, hi with
  | 1, _, hi => obtain rfl : i = 0 := (by omega); rfl
  | 2, _, hi => rcases (by omega : i = 0 ∨ i = 1) with rfl | rfl <;> rfl
  | 3, _, hi => rcases (by omega : i = 0 ∨ i = 1 ∨ i = 2) with rfl | rfl | rfl <;> rfl
theorem odd00 (s : Bool) (p q : Option Addr) (c e : Nat) (f g : Nat → Int) (w : World) (hN : OddL w p 0 c f) (hD : OddL w q 0 e g) :
  Calls Tryz.prog 31 #[.agg #[.slice p 0 c, .slice q 0 e, .bool s]] w fun e' w' => ∃ v1 v2, e' = .returned (.agg #[.bool s, v1, .bool false, v2]) ∧ SlF w' v1 0 f ∧ SlF w' v2 0 g ∧ Below w.heap.size w w' := by
 obtain ⟨bN, oN, hvN⟩ := odd_view hN
 obtain ⟨bD, oD, hvD⟩ := odd_view hD
 have hev : ∀ w0 : World, (evF Tryz.prog (w0 := w0) (X := fun _ => False) (D := qDen kZ kZ1) [] [] 3 [] 31 [.agg [clsU 0 0 0, clsU 0 0 0, .val (.bool s)]] [] 0 0 []).map (fun r => (r.v, r.obl, (r.wr.look 99).map (fun b => (b.T, b.dead, b.ro, b.cells)), (r.wr.look 99).map (fun b => (b.T, b.dead, b.ro, b.cells)), r.pan)) =
   some (.a (.agg [.val (.bool s), .val (.slice none 0 0), .val (.bool false), .val (.slice none 0 0)]), [], none, none, none) := fun w0 => by kernel_rfl
 obtain ⟨r, hr, he⟩ := Option.map_eq_some_iff.1 (hev w)
 simp only [Prod.mk.injEq] at he
 obtain ⟨e1, e2, e3, e4, e5⟩ := he
 refine (evRunV (D := qDen kZ kZ1) (d := 3) (vs := []) (orc := []) (args := [.agg [clsU 0 0 0, clsU 0 0 0, .val (.bool s)]]) (vals := [.agg #[.slice p 0 c, .slice q 0 e, .bool s]]) wide_ [] [] [] rfl rfl (.a (.agg [.val (.bool s), .val (.slice none 0 0), .val (.bool false), .val (.slice none 0 0)])) [] r.wr (Eq.trans (congrArg (Option.map fun r => (r.v, r.obl, r.wr, r.pan)) hr) (by rw [Option.map_some, e1, e2, e5])) trivial ?_ ?_).mono ?_
 ·intro v hv
  cases hv
 ·exact ⟨_, [], rfl, ⟨[.slice p 0 c, .slice q 0 e, .bool s], rfl, [_], _, rfl, ⟨p, c, hN.2, rfl⟩, [_], _, rfl, ⟨q, e, hD.2, rfl⟩, [_], [], rfl, ⟨rfl, rfl⟩, rfl⟩, rfl⟩
 ·rintro e' w' ⟨v, ρ', rfl, ⟨cs, rfl, c1, d1, rfl, ⟨rfl, _⟩, c2, d2, rfl, hu1, c3, d3, rfl, ⟨rfl, _⟩, c4, d4, rfl, hu2, hd⟩, hbl, _, hB, _⟩
  obtain rfl : d4 = [] := hd
  obtain ⟨rfl, _⟩ := hu1
  have s0 : SlF w' (.slice none 0 0) 0 f := .inl ⟨rfl, rfl⟩
  obtain ⟨rfl, _⟩ := hu2
  have s1 : SlF w' (.slice none 0 0) 0 g := .inl ⟨rfl, rfl⟩
  exact ⟨_, _, rfl, s0, s1, hbl⟩
theorem odd01 (s : Bool) (p q : Option Addr) (c e : Nat) (f g : Nat → Int) (w : World) (hN : OddL w p 0 c f) (hD : OddL w q 1 e g) :
  Calls Tryz.prog 31 #[.agg #[.slice p 0 c, .slice q 1 e, .bool s]] w fun e' w' => ∃ v1 v2, e' = .returned (.agg #[.bool s, v1, .bool false, v2]) ∧ SlF w' v1 0 f ∧ SlF w' v2 1 g ∧ Below w.heap.size w w' := by
 obtain ⟨bN, oN, hvN⟩ := odd_view hN
 obtain ⟨bD, oD, hvD⟩ := odd_view hD
 obtain ⟨rfl, lD, rD⟩ := hvD (by omega)
 rw [show cls 1 = 1 from rfl] at rD
 have hev : ∀ w0 : World, (evF Tryz.prog (w0 := w0) (X := fun _ => False) (D := qDen kZ kZ1) [] [] 3 [] 31 [.agg [clsU 0 0 0, clsU 0 1 1, .val (.bool s)]] [(0, ⟨3, clsL g 1, true, false, false⟩)] 1 1 []).map (fun r => (r.v, r.obl, (r.wr.look 99).map (fun b => (b.T, b.dead, b.ro, b.cells)), (r.wr.look 3).map (fun b => (b.T, b.dead, b.ro, b.cells)), r.pan)) =
   some (.a (.agg [.val (.bool s), .val (.slice none 0 0), .val (.bool false), .own 3 1 1]), [], none, some (3, false, false, clsL g 1), none) := fun w0 => by kernel_rfl
 obtain ⟨r, hr, he⟩ := Option.map_eq_some_iff.1 (hev w)
 simp only [Prod.mk.injEq] at he
 obtain ⟨e1, e2, e3, e4, e5⟩ := he
 refine (evRunV (D := qDen kZ kZ1) (d := 3) (vs := [⟨3, clsL g 1, bD, oD, clsC g 1⟩]) (orc := []) (args := [.agg [clsU 0 0 0, clsU 0 1 1, .val (.bool s)]]) (vals := [.agg #[.slice p 0 c, .slice (some ⟨bD, oD, none⟩) 1 e, .bool s]]) wide_ [] [] [(0, ⟨3, clsL g 1, true, false, false⟩)] rfl rfl (.a (.agg [.val (.bool s), .val (.slice none 0 0), .val (.bool false), .own 3 1 1])) [] r.wr (Eq.trans (congrArg (Option.map fun r => (r.v, r.obl, r.wr, r.pan)) hr) (by rw [Option.map_some, e1, e2, e5])) trivial ?_ ?_).mono ?_
 ·intro v hv
  obtain rfl : v = _ := by simpa using hv
  exact ⟨lD, rD, clsL_den g 1⟩
 ·exact ⟨_, [], rfl, ⟨[.slice p 0 c, .slice (some ⟨bD, oD, none⟩) 1 e, .bool s], rfl, [_], _, rfl, ⟨p, c, hN.2, rfl⟩, [_], _, rfl, ⟨⟨bD, oD, true, 0, 0⟩, e, rfl, hD.1.1, rfl⟩, [_], [], rfl, ⟨rfl, rfl⟩, rfl⟩, rfl⟩
 ·rintro e' w' ⟨v, ρ', rfl, ⟨cs, rfl, c1, d1, rfl, ⟨rfl, _⟩, c2, d2, rfl, hu1, c3, d3, rfl, ⟨rfl, _⟩, c4, d4, rfl, hu2, hd⟩, hbl, _, hB, _⟩
  obtain rfl : d4 = [] := hd
  obtain ⟨rfl, _⟩ := hu1
  have s0 : SlF w' (.slice none 0 0) 0 f := .inl ⟨rfl, rfl⟩
  obtain ⟨x1, hx1, ex1⟩ := Option.map_eq_some_iff.1 e4
  simp only [Prod.mk.injEq] at ex1
  obtain ⟨y11, y12, y13, y14⟩ := ex1
  obtain ⟨u1, rfl⟩ : ∃ u, c4 = [u] := List.length_eq_one_iff.1 hu2.len
  have s1 := own_slf hB g hu2 (by rw [look_append, hx1]; rfl) y11 y12 y13 y14 (by omega)
  exact ⟨_, _, rfl, s0, s1, hbl⟩
theorem odd02 (s : Bool) (p q : Option Addr) (c e : Nat) (f g : Nat → Int) (w : World) (hN : OddL w p 0 c f) (hD : OddL w q 2 e g) :
  Calls Tryz.prog 31 #[.agg #[.slice p 0 c, .slice q 2 e, .bool s]] w fun e' w' => ∃ v1 v2, e' = .returned (.agg #[.bool s, v1, .bool false, v2]) ∧ SlF w' v1 0 f ∧ SlF w' v2 2 g ∧ Below w.heap.size w w' := by
 obtain ⟨bN, oN, hvN⟩ := odd_view hN
 obtain ⟨bD, oD, hvD⟩ := odd_view hD
 obtain ⟨rfl, lD, rD⟩ := hvD (by omega)
 rw [show cls 2 = 2 from rfl] at rD
 have hev : ∀ w0 : World, (evF Tryz.prog (w0 := w0) (X := fun _ => False) (D := qDen kZ kZ1) [] [] 3 [] 31 [.agg [clsU 0 0 0, clsU 0 2 2, .val (.bool s)]] [(0, ⟨3, clsL g 2, true, false, false⟩)] 1 1 []).map (fun r => (r.v, r.obl, (r.wr.look 99).map (fun b => (b.T, b.dead, b.ro, b.cells)), (r.wr.look 3).map (fun b => (b.T, b.dead, b.ro, b.cells)), r.pan)) =
   some (.a (.agg [.val (.bool s), .val (.slice none 0 0), .val (.bool false), .own 3 2 1]), [], none, some (3, false, false, clsL g 2), none) := fun w0 => by kernel_rfl
 obtain ⟨r, hr, he⟩ := Option.map_eq_some_iff.1 (hev w)
 simp only [Prod.mk.injEq] at he
 obtain ⟨e1, e2, e3, e4, e5⟩ := he
 refine (evRunV (D := qDen kZ kZ1) (d := 3) (vs := [⟨3, clsL g 2, bD, oD, clsC g 2⟩]) (orc := []) (args := [.agg [clsU 0 0 0, clsU 0 2 2, .val (.bool s)]]) (vals := [.agg #[.slice p 0 c, .slice (some ⟨bD, oD, none⟩) 2 e, .bool s]]) wide_ [] [] [(0, ⟨3, clsL g 2, true, false, false⟩)] rfl rfl (.a (.agg [.val (.bool s), .val (.slice none 0 0), .val (.bool false), .own 3 2 1])) [] r.wr (Eq.trans (congrArg (Option.map fun r => (r.v, r.obl, r.wr, r.pan)) hr) (by rw [Option.map_some, e1, e2, e5])) trivial ?_ ?_).mono ?_
 ·intro v hv
  obtain rfl : v = _ := by simpa using hv
  exact ⟨lD, rD, clsL_den g 2⟩
 ·exact ⟨_, [], rfl, ⟨[.slice p 0 c, .slice (some ⟨bD, oD, none⟩) 2 e, .bool s], rfl, [_], _, rfl, ⟨p, c, hN.2, rfl⟩, [_], _, rfl, ⟨⟨bD, oD, true, 0, 0⟩, e, rfl, hD.1.1, rfl⟩, [_], [], rfl, ⟨rfl, rfl⟩, rfl⟩, rfl⟩
 ·rintro e' w' ⟨v, ρ', rfl, ⟨cs, rfl, c1, d1, rfl, ⟨rfl, _⟩, c2, d2, rfl, hu1, c3, d3, rfl, ⟨rfl, _⟩, c4, d4, rfl, hu2, hd⟩, hbl, _, hB, _⟩
  obtain rfl : d4 = [] := hd
  obtain ⟨rfl, _⟩ := hu1
  have s0 : SlF w' (.slice none 0 0) 0 f := .inl ⟨rfl, rfl⟩
  obtain ⟨x1, hx1, ex1⟩ := Option.map_eq_some_iff.1 e4
  simp only [Prod.mk.injEq] at ex1
  obtain ⟨y11, y12, y13, y14⟩ := ex1
  obtain ⟨u1, rfl⟩ : ∃ u, c4 = [u] := List.length_eq_one_iff.1 hu2.len
  have s1 := own_slf hB g hu2 (by rw [look_append, hx1]; rfl) y11 y12 y13 y14 (by omega)
  exact ⟨_, _, rfl, s0, s1, hbl⟩
theorem odd03 (s : Bool) (p q : Option Addr) (m c e : Nat) (f g : Nat → Int) (w : World) (h3m : 3 ≤ m) (hN : OddL w p 0 c f) (hD : OddL w q m e g) :
  Calls Tryz.prog 31 #[.agg #[.slice p 0 c, .slice q m e, .bool s]] w fun e' w' => ∃ v1 v2, e' = .returned (.agg #[.bool s, v1, .bool false, v2]) ∧ SlF w' v1 0 f ∧ SlF w' v2 3 g ∧ Below w.heap.size w w' := by
 obtain ⟨bN, oN, hvN⟩ := odd_view hN
 obtain ⟨bD, oD, hvD⟩ := odd_view hD
 obtain ⟨rfl, lD, rD⟩ := hvD (by omega)
 rw [show cls m = 3 from by unfold cls; rw [if_neg (by omega)]] at rD
 have hev : ∀ w0 : World, (evF Tryz.prog (w0 := w0) (X := fun _ => False) (D := qDen kZ kZ1) [] [] 3 [] 31 [.agg [clsU 0 0 0, clsU 0 3 m, .val (.bool s)]] [(0, ⟨3, clsL g 3, true, false, false⟩)] 1 1 [some false]).map (fun r => (r.v, r.obl, (r.wr.look 99).map (fun b => (b.T, b.dead, b.ro, b.cells)), (r.wr.look 3).map (fun b => (b.T, b.dead, b.ro, b.cells)), r.pan)) =
   some (.a (.agg [.val (.bool s), .val (.slice none 0 0), .val (.bool false), .own 3 3 1]), [(3 : Int) ≤ (m : Int)], none, some (3, false, false, clsL g 3), none) := fun w0 => by kernel_rfl
 obtain ⟨r, hr, he⟩ := Option.map_eq_some_iff.1 (hev w)
 simp only [Prod.mk.injEq] at he
 obtain ⟨e1, e2, e3, e4, e5⟩ := he
 refine (evRunV (D := qDen kZ kZ1) (d := 3) (vs := [⟨3, clsL g 3, bD, oD, clsC g 3⟩]) (orc := [some false]) (args := [.agg [clsU 0 0 0, clsU 0 3 m, .val (.bool s)]]) (vals := [.agg #[.slice p 0 c, .slice (some ⟨bD, oD, none⟩) m e, .bool s]]) wide_ [] [] [(0, ⟨3, clsL g 3, true, false, false⟩)] rfl rfl (.a (.agg [.val (.bool s), .val (.slice none 0 0), .val (.bool false), .own 3 3 1])) [(3 : Int) ≤ (m : Int)] r.wr (Eq.trans (congrArg (Option.map fun r => (r.v, r.obl, r.wr, r.pan)) hr) (by rw [Option.map_some, e1, e2, e5])) ⟨by omega, trivial⟩ ?_ ?_).mono ?_
 ·intro v hv
  obtain rfl : v = _ := by simpa using hv
  exact ⟨lD, rD, clsL_den g 3⟩
 ·exact ⟨_, [], rfl, ⟨[.slice p 0 c, .slice (some ⟨bD, oD, none⟩) m e, .bool s], rfl, [_], _, rfl, ⟨p, c, hN.2, rfl⟩, [_], _, rfl, ⟨⟨bD, oD, true, 0, 0⟩, e, rfl, by omega, hD.1.1, rfl⟩, [_], [], rfl, ⟨rfl, rfl⟩, rfl⟩, rfl⟩
 ·rintro e' w' ⟨v, ρ', rfl, ⟨cs, rfl, c1, d1, rfl, ⟨rfl, _⟩, c2, d2, rfl, hu1, c3, d3, rfl, ⟨rfl, _⟩, c4, d4, rfl, hu2, hd⟩, hbl, _, hB, _⟩
  obtain rfl : d4 = [] := hd
  obtain ⟨rfl, _⟩ := hu1
  have s0 : SlF w' (.slice none 0 0) 0 f := .inl ⟨rfl, rfl⟩
  obtain ⟨x1, hx1, ex1⟩ := Option.map_eq_some_iff.1 e4
  simp only [Prod.mk.injEq] at ex1
  obtain ⟨y11, y12, y13, y14⟩ := ex1
  obtain ⟨u1, rfl⟩ : ∃ u, c4 = [u] := List.length_eq_one_iff.1 hu2.len
  have s1 := own_slf hB g hu2 (by rw [look_append, hx1]; rfl) y11 y12 y13 y14 (by omega)
  exact ⟨_, _, rfl, s0, s1, hbl⟩
theorem odd10 (s : Bool) (p q : Option Addr) (c e : Nat) (f g : Nat → Int) (w : World) (hN : OddL w p 1 c f) (hD : OddL w q 0 e g) :
  Calls Tryz.prog 31 #[.agg #[.slice p 1 c, .slice q 0 e, .bool s]] w fun e' w' => ∃ v1 v2, e' = .returned (.agg #[.bool s, v1, .bool false, v2]) ∧ SlF w' v1 1 f ∧ SlF w' v2 0 g ∧ Below w.heap.size w w' := by
 obtain ⟨bN, oN, hvN⟩ := odd_view hN
 obtain ⟨bD, oD, hvD⟩ := odd_view hD
 obtain ⟨rfl, lN, rN⟩ := hvN (by omega)
 rw [show cls 1 = 1 from rfl] at rN
 have hev : ∀ w0 : World, (evF Tryz.prog (w0 := w0) (X := fun _ => False) (D := qDen kZ kZ1) [] [] 3 [] 31 [.agg [clsU 0 1 1, clsU 1 0 0, .val (.bool s)]] [(0, ⟨3, clsL f 1, true, false, false⟩)] 1 1 []).map (fun r => (r.v, r.obl, (r.wr.look 3).map (fun b => (b.T, b.dead, b.ro, b.cells)), (r.wr.look 99).map (fun b => (b.T, b.dead, b.ro, b.cells)), r.pan)) =
   some (.a (.agg [.val (.bool s), .own 3 1 1, .val (.bool false), .val (.slice none 0 0)]), [], some (3, false, false, clsL f 1), none, none) := fun w0 => by kernel_rfl
 obtain ⟨r, hr, he⟩ := Option.map_eq_some_iff.1 (hev w)
 simp only [Prod.mk.injEq] at he
 obtain ⟨e1, e2, e3, e4, e5⟩ := he
 refine (evRunV (D := qDen kZ kZ1) (d := 3) (vs := [⟨3, clsL f 1, bN, oN, clsC f 1⟩]) (orc := []) (args := [.agg [clsU 0 1 1, clsU 1 0 0, .val (.bool s)]]) (vals := [.agg #[.slice (some ⟨bN, oN, none⟩) 1 c, .slice q 0 e, .bool s]]) wide_ [] [] [(0, ⟨3, clsL f 1, true, false, false⟩)] rfl rfl (.a (.agg [.val (.bool s), .own 3 1 1, .val (.bool false), .val (.slice none 0 0)])) [] r.wr (Eq.trans (congrArg (Option.map fun r => (r.v, r.obl, r.wr, r.pan)) hr) (by rw [Option.map_some, e1, e2, e5])) trivial ?_ ?_).mono ?_
 ·intro v hv
  obtain rfl : v = _ := by simpa using hv
  exact ⟨lN, rN, clsL_den f 1⟩
 ·exact ⟨_, [], rfl, ⟨[.slice (some ⟨bN, oN, none⟩) 1 c, .slice q 0 e, .bool s], rfl, [_], _, rfl, ⟨⟨bN, oN, true, 0, 0⟩, c, rfl, hN.1.1, rfl⟩, [_], _, rfl, ⟨q, e, hD.2, rfl⟩, [_], [], rfl, ⟨rfl, rfl⟩, rfl⟩, rfl⟩
 ·rintro e' w' ⟨v, ρ', rfl, ⟨cs, rfl, c1, d1, rfl, ⟨rfl, _⟩, c2, d2, rfl, hu1, c3, d3, rfl, ⟨rfl, _⟩, c4, d4, rfl, hu2, hd⟩, hbl, _, hB, _⟩
  obtain rfl : d4 = [] := hd
  obtain ⟨x0, hx0, ex0⟩ := Option.map_eq_some_iff.1 e3
  simp only [Prod.mk.injEq] at ex0
  obtain ⟨y01, y02, y03, y04⟩ := ex0
  obtain ⟨u0, rfl⟩ : ∃ u, c2 = [u] := List.length_eq_one_iff.1 hu1.len
  have s0 := own_slf hB f hu1 (by rw [look_append, hx0]; rfl) y01 y02 y03 y04 (by omega)
  obtain ⟨rfl, _⟩ := hu2
  have s1 : SlF w' (.slice none 0 0) 0 g := .inl ⟨rfl, rfl⟩
  exact ⟨_, _, rfl, s0, s1, hbl⟩
theorem odd11 (s : Bool) (p q : Option Addr) (c e : Nat) (f g : Nat → Int) (w : World) (hN : OddL w p 1 c f) (hD : OddL w q 1 e g) :
  Calls Tryz.prog 31 #[.agg #[.slice p 1 c, .slice q 1 e, .bool s]] w fun e' w' => ∃ v1 v2, e' = .returned (.agg #[.bool s, v1, .bool false, v2]) ∧ SlF w' v1 1 f ∧ SlF w' v2 1 g ∧ Below w.heap.size w w' := by
 obtain ⟨bN, oN, hvN⟩ := odd_view hN
 obtain ⟨bD, oD, hvD⟩ := odd_view hD
 obtain ⟨rfl, lN, rN⟩ := hvN (by omega)
 rw [show cls 1 = 1 from rfl] at rN
 obtain ⟨rfl, lD, rD⟩ := hvD (by omega)
 rw [show cls 1 = 1 from rfl] at rD
 have hev : ∀ w0 : World, (evF Tryz.prog (w0 := w0) (X := fun _ => False) (D := qDen kZ kZ1) [] [] 3 [] 31 [.agg [clsU 0 1 1, clsU 1 1 1, .val (.bool s)]] [(0, ⟨3, clsL f 1, true, false, false⟩), (1, ⟨3, clsL g 1, true, false, false⟩)] 2 2 []).map (fun r => (r.v, r.obl, (r.wr.look 4).map (fun b => (b.T, b.dead, b.ro, b.cells)), (r.wr.look 5).map (fun b => (b.T, b.dead, b.ro, b.cells)), r.pan)) =
   some (.a (.agg [.val (.bool s), .own 4 1 1, .val (.bool false), .own 5 1 1]), [], some (3, false, false, clsL f 1), some (3, false, false, clsL g 1), none) := fun w0 => by kernel_rfl
 obtain ⟨r, hr, he⟩ := Option.map_eq_some_iff.1 (hev w)
 simp only [Prod.mk.injEq] at he
 obtain ⟨e1, e2, e3, e4, e5⟩ := he
 refine (evRunV (D := qDen kZ kZ1) (d := 3) (vs := [⟨3, clsL f 1, bN, oN, clsC f 1⟩, ⟨3, clsL g 1, bD, oD, clsC g 1⟩]) (orc := []) (args := [.agg [clsU 0 1 1, clsU 1 1 1, .val (.bool s)]]) (vals := [.agg #[.slice (some ⟨bN, oN, none⟩) 1 c, .slice (some ⟨bD, oD, none⟩) 1 e, .bool s]]) wide_ [] [] [(0, ⟨3, clsL f 1, true, false, false⟩), (1, ⟨3, clsL g 1, true, false, false⟩)] rfl rfl (.a (.agg [.val (.bool s), .own 4 1 1, .val (.bool false), .own 5 1 1])) [] r.wr (Eq.trans (congrArg (Option.map fun r => (r.v, r.obl, r.wr, r.pan)) hr) (by rw [Option.map_some, e1, e2, e5])) trivial ?_ ?_).mono ?_
 ·intro v hv
  simp only [List.mem_cons, List.not_mem_nil, or_false] at hv
  rcases hv with rfl | rfl
  ·exact ⟨lN, rN, clsL_den f 1⟩
  ·exact ⟨lD, rD, clsL_den g 1⟩
 ·exact ⟨_, [], rfl, ⟨[.slice (some ⟨bN, oN, none⟩) 1 c, .slice (some ⟨bD, oD, none⟩) 1 e, .bool s], rfl, [_], _, rfl, ⟨⟨bN, oN, true, 0, 0⟩, c, rfl, hN.1.1, rfl⟩, [_], _, rfl, ⟨⟨bD, oD, true, 0, 0⟩, e, rfl, hD.1.1, rfl⟩, [_], [], rfl, ⟨rfl, rfl⟩, rfl⟩, rfl⟩
 ·rintro e' w' ⟨v, ρ', rfl, ⟨cs, rfl, c1, d1, rfl, ⟨rfl, _⟩, c2, d2, rfl, hu1, c3, d3, rfl, ⟨rfl, _⟩, c4, d4, rfl, hu2, hd⟩, hbl, _, hB, _⟩
  obtain rfl : d4 = [] := hd
  obtain ⟨x0, hx0, ex0⟩ := Option.map_eq_some_iff.1 e3
  simp only [Prod.mk.injEq] at ex0
  obtain ⟨y01, y02, y03, y04⟩ := ex0
  obtain ⟨u0, rfl⟩ : ∃ u, c2 = [u] := List.length_eq_one_iff.1 hu1.len
  have s0 := own_slf hB f hu1 (by rw [look_append, hx0]; rfl) y01 y02 y03 y04 (by omega)
  obtain ⟨x1, hx1, ex1⟩ := Option.map_eq_some_iff.1 e4
  simp only [Prod.mk.injEq] at ex1
  obtain ⟨y11, y12, y13, y14⟩ := ex1
  obtain ⟨u1, rfl⟩ : ∃ u, c4 = [u] := List.length_eq_one_iff.1 hu2.len
  have s1 := own_slf hB g hu2 (by rw [look_append, hx1]; rfl) y11 y12 y13 y14 (by omega)
  exact ⟨_, _, rfl, s0, s1, hbl⟩
theorem odd12 (s : Bool) (p q : Option Addr) (c e : Nat) (f g : Nat → Int) (w : World) (hN : OddL w p 1 c f) (hD : OddL w q 2 e g) :
  Calls Tryz.prog 31 #[.agg #[.slice p 1 c, .slice q 2 e, .bool s]] w fun e' w' => ∃ v1 v2, e' = .returned (.agg #[.bool s, v1, .bool false, v2]) ∧ SlF w' v1 1 f ∧ SlF w' v2 2 g ∧ Below w.heap.size w w' := by
 obtain ⟨bN, oN, hvN⟩ := odd_view hN
 obtain ⟨bD, oD, hvD⟩ := odd_view hD
 obtain ⟨rfl, lN, rN⟩ := hvN (by omega)
 rw [show cls 1 = 1 from rfl] at rN
 obtain ⟨rfl, lD, rD⟩ := hvD (by omega)
 rw [show cls 2 = 2 from rfl] at rD
 have hev : ∀ w0 : World, (evF Tryz.prog (w0 := w0) (X := fun _ => False) (D := qDen kZ kZ1) [] [] 3 [] 31 [.agg [clsU 0 1 1, clsU 1 2 2, .val (.bool s)]] [(0, ⟨3, clsL f 1, true, false, false⟩), (1, ⟨3, clsL g 2, true, false, false⟩)] 2 2 []).map (fun r => (r.v, r.obl, (r.wr.look 4).map (fun b => (b.T, b.dead, b.ro, b.cells)), (r.wr.look 5).map (fun b => (b.T, b.dead, b.ro, b.cells)), r.pan)) =
   some (.a (.agg [.val (.bool s), .own 4 1 1, .val (.bool false), .own 5 2 1]), [], some (3, false, false, clsL f 1), some (3, false, false, clsL g 2), none) := fun w0 => by kernel_rfl
 obtain ⟨r, hr, he⟩ := Option.map_eq_some_iff.1 (hev w)
 simp only [Prod.mk.injEq] at he
 obtain ⟨e1, e2, e3, e4, e5⟩ := he
 refine (evRunV (D := qDen kZ kZ1) (d := 3) (vs := [⟨3, clsL f 1, bN, oN, clsC f 1⟩, ⟨3, clsL g 2, bD, oD, clsC g 2⟩]) (orc := []) (args := [.agg [clsU 0 1 1, clsU 1 2 2, .val (.bool s)]]) (vals := [.agg #[.slice (some ⟨bN, oN, none⟩) 1 c, .slice (some ⟨bD, oD, none⟩) 2 e, .bool s]]) wide_ [] [] [(0, ⟨3, clsL f 1, true, false, false⟩), (1, ⟨3, clsL g 2, true, false, false⟩)] rfl rfl (.a (.agg [.val (.bool s), .own 4 1 1, .val (.bool false), .own 5 2 1])) [] r.wr (Eq.trans (congrArg (Option.map fun r => (r.v, r.obl, r.wr, r.pan)) hr) (by rw [Option.map_some, e1, e2, e5])) trivial ?_ ?_).mono ?_
 ·intro v hv
  simp only [List.mem_cons, List.not_mem_nil, or_false] at hv
  rcases hv with rfl | rfl
  ·exact ⟨lN, rN, clsL_den f 1⟩
  ·exact ⟨lD, rD, clsL_den g 2⟩
 ·exact ⟨_, [], rfl, ⟨[.slice (some ⟨bN, oN, none⟩) 1 c, .slice (some ⟨bD, oD, none⟩) 2 e, .bool s], rfl, [_], _, rfl, ⟨⟨bN, oN, true, 0, 0⟩, c, rfl, hN.1.1, rfl⟩, [_], _, rfl, ⟨⟨bD, oD, true, 0, 0⟩, e, rfl, hD.1.1, rfl⟩, [_], [], rfl, ⟨rfl, rfl⟩, rfl⟩, rfl⟩
 ·rintro e' w' ⟨v, ρ', rfl, ⟨cs, rfl, c1, d1, rfl, ⟨rfl, _⟩, c2, d2, rfl, hu1, c3, d3, rfl, ⟨rfl, _⟩, c4, d4, rfl, hu2, hd⟩, hbl, _, hB, _⟩
  obtain rfl : d4 = [] := hd
  obtain ⟨x0, hx0, ex0⟩ := Option.map_eq_some_iff.1 e3
  simp only [Prod.mk.injEq] at ex0
  obtain ⟨y01, y02, y03, y04⟩ := ex0
  obtain ⟨u0, rfl⟩ : ∃ u, c2 = [u] := List.length_eq_one_iff.1 hu1.len
  have s0 := own_slf hB f hu1 (by rw [look_append, hx0]; rfl) y01 y02 y03 y04 (by omega)
  obtain ⟨x1, hx1, ex1⟩ := Option.map_eq_some_iff.1 e4
  simp only [Prod.mk.injEq] at ex1
  obtain ⟨y11, y12, y13, y14⟩ := ex1
  obtain ⟨u1, rfl⟩ : ∃ u, c4 = [u] := List.length_eq_one_iff.1 hu2.len
  have s1 := own_slf hB g hu2 (by rw [look_append, hx1]; rfl) y11 y12 y13 y14 (by omega)
  exact ⟨_, _, rfl, s0, s1, hbl⟩
theorem odd13 (s : Bool) (p q : Option Addr) (m c e : Nat) (f g : Nat → Int) (w : World) (h3m : 3 ≤ m) (hN : OddL w p 1 c f) (hD : OddL w q m e g) :
  Calls Tryz.prog 31 #[.agg #[.slice p 1 c, .slice q m e, .bool s]] w fun e' w' => ∃ v1 v2, e' = .returned (.agg #[.bool s, v1, .bool false, v2]) ∧ SlF w' v1 1 f ∧ SlF w' v2 3 g ∧ Below w.heap.size w w' := by
 obtain ⟨bN, oN, hvN⟩ := odd_view hN
 obtain ⟨bD, oD, hvD⟩ := odd_view hD
 obtain ⟨rfl, lN, rN⟩ := hvN (by omega)
 rw [show cls 1 = 1 from rfl] at rN
 obtain ⟨rfl, lD, rD⟩ := hvD (by omega)
 rw [show cls m = 3 from by unfold cls; rw [if_neg (by omega)]] at rD
 have hev : ∀ w0 : World, (evF Tryz.prog (w0 := w0) (X := fun _ => False) (D := qDen kZ kZ1) [] [] 3 [] 31 [.agg [clsU 0 1 1, clsU 1 3 m, .val (.bool s)]] [(0, ⟨3, clsL f 1, true, false, false⟩), (1, ⟨3, clsL g 3, true, false, false⟩)] 2 2 [some false]).map (fun r => (r.v, r.obl, (r.wr.look 4).map (fun b => (b.T, b.dead, b.ro, b.cells)), (r.wr.look 5).map (fun b => (b.T, b.dead, b.ro, b.cells)), r.pan)) =
   some (.a (.agg [.val (.bool s), .own 4 1 1, .val (.bool false), .own 5 3 1]), [(3 : Int) ≤ (m : Int)], some (3, false, false, clsL f 1), some (3, false, false, clsL g 3), none) := fun w0 => by kernel_rfl
 obtain ⟨r, hr, he⟩ := Option.map_eq_some_iff.1 (hev w)
 simp only [Prod.mk.injEq] at he
 obtain ⟨e1, e2, e3, e4, e5⟩ := he
 refine (evRunV (D := qDen kZ kZ1) (d := 3) (vs := [⟨3, clsL f 1, bN, oN, clsC f 1⟩, ⟨3, clsL g 3, bD, oD, clsC g 3⟩]) (orc := [some false]) (args := [.agg [clsU 0 1 1, clsU 1 3 m, .val (.bool s)]]) (vals := [.agg #[.slice (some ⟨bN, oN, none⟩) 1 c, .slice (some ⟨bD, oD, none⟩) m e, .bool s]]) wide_ [] [] [(0, ⟨3, clsL f 1, true, false, false⟩), (1, ⟨3, clsL g 3, true, false, false⟩)] rfl rfl (.a (.agg [.val (.bool s), .own 4 1 1, .val (.bool false), .own 5 3 1])) [(3 : Int) ≤ (m : Int)] r.wr (Eq.trans (congrArg (Option.map fun r => (r.v, r.obl, r.wr, r.pan)) hr) (by rw [Option.map_some, e1, e2, e5])) ⟨by omega, trivial⟩ ?_ ?_).mono ?_
 ·intro v hv
  simp only [List.mem_cons, List.not_mem_nil, or_false] at hv
  rcases hv with rfl | rfl
  ·exact ⟨lN, rN, clsL_den f 1⟩
  ·exact ⟨lD, rD, clsL_den g 3⟩
 ·exact ⟨_, [], rfl, ⟨[.slice (some ⟨bN, oN, none⟩) 1 c, .slice (some ⟨bD, oD, none⟩) m e, .bool s], rfl, [_], _, rfl, ⟨⟨bN, oN, true, 0, 0⟩, c, rfl, hN.1.1, rfl⟩, [_], _, rfl, ⟨⟨bD, oD, true, 0, 0⟩, e, rfl, by omega, hD.1.1, rfl⟩, [_], [], rfl, ⟨rfl, rfl⟩, rfl⟩, rfl⟩
 ·rintro e' w' ⟨v, ρ', rfl, ⟨cs, rfl, c1, d1, rfl, ⟨rfl, _⟩, c2, d2, rfl, hu1, c3, d3, rfl, ⟨rfl, _⟩, c4, d4, rfl, hu2, hd⟩, hbl, _, hB, _⟩
  obtain rfl : d4 = [] := hd
  obtain ⟨x0, hx0, ex0⟩ := Option.map_eq_some_iff.1 e3
  simp only [Prod.mk.injEq] at ex0
  obtain ⟨y01, y02, y03, y04⟩ := ex0
  obtain ⟨u0, rfl⟩ : ∃ u, c2 = [u] := List.length_eq_one_iff.1 hu1.len
  have s0 := own_slf hB f hu1 (by rw [look_append, hx0]; rfl) y01 y02 y03 y04 (by omega)
  obtain ⟨x1, hx1, ex1⟩ := Option.map_eq_some_iff.1 e4
  simp only [Prod.mk.injEq] at ex1
  obtain ⟨y11, y12, y13, y14⟩ := ex1
  obtain ⟨u1, rfl⟩ : ∃ u, c4 = [u] := List.length_eq_one_iff.1 hu2.len
  have s1 := own_slf hB g hu2 (by rw [look_append, hx1]; rfl) y11 y12 y13 y14 (by omega)
  exact ⟨_, _, rfl, s0, s1, hbl⟩
theorem odd20 (s : Bool) (p q : Option Addr) (c e : Nat) (f g : Nat → Int) (w : World) (hN : OddL w p 2 c f) (hD : OddL w q 0 e g) :
  Calls Tryz.prog 31 #[.agg #[.slice p 2 c, .slice q 0 e, .bool s]] w fun e' w' => ∃ v1 v2, e' = .returned (.agg #[.bool s, v1, .bool false, v2]) ∧ SlF w' v1 2 f ∧ SlF w' v2 0 g ∧ Below w.heap.size w w' := by
 obtain ⟨bN, oN, hvN⟩ := odd_view hN
 obtain ⟨bD, oD, hvD⟩ := odd_view hD
 obtain ⟨rfl, lN, rN⟩ := hvN (by omega)
 rw [show cls 2 = 2 from rfl] at rN
 have hev : ∀ w0 : World, (evF Tryz.prog (w0 := w0) (X := fun _ => False) (D := qDen kZ kZ1) [] [] 3 [] 31 [.agg [clsU 0 2 2, clsU 1 0 0, .val (.bool s)]] [(0, ⟨3, clsL f 2, true, false, false⟩)] 1 1 []).map (fun r => (r.v, r.obl, (r.wr.look 3).map (fun b => (b.T, b.dead, b.ro, b.cells)), (r.wr.look 99).map (fun b => (b.T, b.dead, b.ro, b.cells)), r.pan)) =
   some (.a (.agg [.val (.bool s), .own 3 2 1, .val (.bool false), .val (.slice none 0 0)]), [], some (3, false, false, clsL f 2), none, none) := fun w0 => by kernel_rfl
 obtain ⟨r, hr, he⟩ := Option.map_eq_some_iff.1 (hev w)
 simp only [Prod.mk.injEq] at he
 obtain ⟨e1, e2, e3, e4, e5⟩ := he
 refine (evRunV (D := qDen kZ kZ1) (d := 3) (vs := [⟨3, clsL f 2, bN, oN, clsC f 2⟩]) (orc := []) (args := [.agg [clsU 0 2 2, clsU 1 0 0, .val (.bool s)]]) (vals := [.agg #[.slice (some ⟨bN, oN, none⟩) 2 c, .slice q 0 e, .bool s]]) wide_ [] [] [(0, ⟨3, clsL f 2, true, false, false⟩)] rfl rfl (.a (.agg [.val (.bool s), .own 3 2 1, .val (.bool false), .val (.slice none 0 0)])) [] r.wr (Eq.trans (congrArg (Option.map fun r => (r.v, r.obl, r.wr, r.pan)) hr) (by rw [Option.map_some, e1, e2, e5])) trivial ?_ ?_).mono ?_
 ·intro v hv
  obtain rfl : v = _ := by simpa using hv
  exact ⟨lN, rN, clsL_den f 2⟩
 ·exact ⟨_, [], rfl, ⟨[.slice (some ⟨bN, oN, none⟩) 2 c, .slice q 0 e, .bool s], rfl, [_], _, rfl, ⟨⟨bN, oN, true, 0, 0⟩, c, rfl, hN.1.1, rfl⟩, [_], _, rfl, ⟨q, e, hD.2, rfl⟩, [_], [], rfl, ⟨rfl, rfl⟩, rfl⟩, rfl⟩
 ·rintro e' w' ⟨v, ρ', rfl, ⟨cs, rfl, c1, d1, rfl, ⟨rfl, _⟩, c2, d2, rfl, hu1, c3, d3, rfl, ⟨rfl, _⟩, c4, d4, rfl, hu2, hd⟩, hbl, _, hB, _⟩
  obtain rfl : d4 = [] := hd
  obtain ⟨x0, hx0, ex0⟩ := Option.map_eq_some_iff.1 e3
  simp only [Prod.mk.injEq] at ex0
  obtain ⟨y01, y02, y03, y04⟩ := ex0
  obtain ⟨u0, rfl⟩ : ∃ u, c2 = [u] := List.length_eq_one_iff.1 hu1.len
  have s0 := own_slf hB f hu1 (by rw [look_append, hx0]; rfl) y01 y02 y03 y04 (by omega)
  obtain ⟨rfl, _⟩ := hu2
  have s1 : SlF w' (.slice none 0 0) 0 g := .inl ⟨rfl, rfl⟩
  exact ⟨_, _, rfl, s0, s1, hbl⟩
theorem odd21 (s : Bool) (p q : Option Addr) (c e : Nat) (f g : Nat → Int) (w : World) (hN : OddL w p 2 c f) (hD : OddL w q 1 e g) :
  Calls Tryz.prog 31 #[.agg #[.slice p 2 c, .slice q 1 e, .bool s]] w fun e' w' => ∃ v1 v2, e' = .returned (.agg #[.bool s, v1, .bool false, v2]) ∧ SlF w' v1 2 f ∧ SlF w' v2 1 g ∧ Below w.heap.size w w' := by
 obtain ⟨bN, oN, hvN⟩ := odd_view hN
 obtain ⟨bD, oD, hvD⟩ := odd_view hD
 obtain ⟨rfl, lN, rN⟩ := hvN (by omega)
 rw [show cls 2 = 2 from rfl] at rN
 obtain ⟨rfl, lD, rD⟩ := hvD (by omega)
 rw [show cls 1 = 1 from rfl] at rD
 have hev : ∀ w0 : World, (evF Tryz.prog (w0 := w0) (X := fun _ => False) (D := qDen kZ kZ1) [] [] 3 [] 31 [.agg [clsU 0 2 2, clsU 1 1 1, .val (.bool s)]] [(0, ⟨3, clsL f 2, true, false, false⟩), (1, ⟨3, clsL g 1, true, false, false⟩)] 2 2 []).map (fun r => (r.v, r.obl, (r.wr.look 4).map (fun b => (b.T, b.dead, b.ro, b.cells)), (r.wr.look 5).map (fun b => (b.T, b.dead, b.ro, b.cells)), r.pan)) =
   some (.a (.agg [.val (.bool s), .own 4 2 1, .val (.bool false), .own 5 1 1]), [], some (3, false, false, clsL f 2), some (3, false, false, clsL g 1), none) := fun w0 => by kernel_rfl
 obtain ⟨r, hr, he⟩ := Option.map_eq_some_iff.1 (hev w)
 simp only [Prod.mk.injEq] at he
 obtain ⟨e1, e2, e3, e4, e5⟩ := he
 refine (evRunV (D := qDen kZ kZ1) (d := 3) (vs := [⟨3, clsL f 2, bN, oN, clsC f 2⟩, ⟨3, clsL g 1, bD, oD, clsC g 1⟩]) (orc := []) (args := [.agg [clsU 0 2 2, clsU 1 1 1, .val (.bool s)]]) (vals := [.agg #[.slice (some ⟨bN, oN, none⟩) 2 c, .slice (some ⟨bD, oD, none⟩) 1 e, .bool s]]) wide_ [] [] [(0, ⟨3, clsL f 2, true, false, false⟩), (1, ⟨3, clsL g 1, true, false, false⟩)] rfl rfl (.a (.agg [.val (.bool s), .own 4 2 1, .val (.bool false), .own 5 1 1])) [] r.wr (Eq.trans (congrArg (Option.map fun r => (r.v, r.obl, r.wr, r.pan)) hr) (by rw [Option.map_some, e1, e2, e5])) trivial ?_ ?_).mono ?_
 ·intro v hv
  simp only [List.mem_cons, List.not_mem_nil, or_false] at hv
  rcases hv with rfl | rfl
  ·exact ⟨lN, rN, clsL_den f 2⟩
  ·exact ⟨lD, rD, clsL_den g 1⟩
 ·exact ⟨_, [], rfl, ⟨[.slice (some ⟨bN, oN, none⟩) 2 c, .slice (some ⟨bD, oD, none⟩) 1 e, .bool s], rfl, [_], _, rfl, ⟨⟨bN, oN, true, 0, 0⟩, c, rfl, hN.1.1, rfl⟩, [_], _, rfl, ⟨⟨bD, oD, true, 0, 0⟩, e, rfl, hD.1.1, rfl⟩, [_], [], rfl, ⟨rfl, rfl⟩, rfl⟩, rfl⟩
 ·rintro e' w' ⟨v, ρ', rfl, ⟨cs, rfl, c1, d1, rfl, ⟨rfl, _⟩, c2, d2, rfl, hu1, c3, d3, rfl, ⟨rfl, _⟩, c4, d4, rfl, hu2, hd⟩, hbl, _, hB, _⟩
  obtain rfl : d4 = [] := hd
  obtain ⟨x0, hx0, ex0⟩ := Option.map_eq_some_iff.1 e3
  simp only [Prod.mk.injEq] at ex0
  obtain ⟨y01, y02, y03, y04⟩ := ex0
  obtain ⟨u0, rfl⟩ : ∃ u, c2 = [u] := List.length_eq_one_iff.1 hu1.len
  have s0 := own_slf hB f hu1 (by rw [look_append, hx0]; rfl) y01 y02 y03 y04 (by omega)
  obtain ⟨x1, hx1, ex1⟩ := Option.map_eq_some_iff.1 e4
  simp only [Prod.mk.injEq] at ex1
  obtain ⟨y11, y12, y13, y14⟩ := ex1
  obtain ⟨u1, rfl⟩ : ∃ u, c4 = [u] := List.length_eq_one_iff.1 hu2.len
  have s1 := own_slf hB g hu2 (by rw [look_append, hx1]; rfl) y11 y12 y13 y14 (by omega)
  exact ⟨_, _, rfl, s0, s1, hbl⟩
theorem odd22 (s : Bool) (p q : Option Addr) (c e : Nat) (f g : Nat → Int) (w : World) (hN : OddL w p 2 c f) (hD : OddL w q 2 e g) :
  Calls Tryz.prog 31 #[.agg #[.slice p 2 c, .slice q 2 e, .bool s]] w fun e' w' => ∃ v1 v2, e' = .returned (.agg #[.bool s, v1, .bool false, v2]) ∧ SlF w' v1 2 f ∧ SlF w' v2 2 g ∧ Below w.heap.size w w' := by
 obtain ⟨bN, oN, hvN⟩ := odd_view hN
 obtain ⟨bD, oD, hvD⟩ := odd_view hD
 obtain ⟨rfl, lN, rN⟩ := hvN (by omega)
 rw [show cls 2 = 2 from rfl] at rN
 obtain ⟨rfl, lD, rD⟩ := hvD (by omega)
 rw [show cls 2 = 2 from rfl] at rD
 have hev : ∀ w0 : World, (evF Tryz.prog (w0 := w0) (X := fun _ => False) (D := qDen kZ kZ1) [] [] 3 [] 31 [.agg [clsU 0 2 2, clsU 1 2 2, .val (.bool s)]] [(0, ⟨3, clsL f 2, true, false, false⟩), (1, ⟨3, clsL g 2, true, false, false⟩)] 2 2 []).map (fun r => (r.v, r.obl, (r.wr.look 4).map (fun b => (b.T, b.dead, b.ro, b.cells)), (r.wr.look 5).map (fun b => (b.T, b.dead, b.ro, b.cells)), r.pan)) =
   some (.a (.agg [.val (.bool s), .own 4 2 1, .val (.bool false), .own 5 2 1]), [], some (3, false, false, clsL f 2), some (3, false, false, clsL g 2), none) := fun w0 => by kernel_rfl
 obtain ⟨r, hr, he⟩ := Option.map_eq_some_iff.1 (hev w)
 simp only [Prod.mk.injEq] at he
 obtain ⟨e1, e2, e3, e4, e5⟩ := he
 refine (evRunV (D := qDen kZ kZ1) (d := 3) (vs := [⟨3, clsL f 2, bN, oN, clsC f 2⟩, ⟨3, clsL g 2, bD, oD, clsC g 2⟩]) (orc := []) (args := [.agg [clsU 0 2 2, clsU 1 2 2, .val (.bool s)]]) (vals := [.agg #[.slice (some ⟨bN, oN, none⟩) 2 c, .slice (some ⟨bD, oD, none⟩) 2 e, .bool s]]) wide_ [] [] [(0, ⟨3, clsL f 2, true, false, false⟩), (1, ⟨3, clsL g 2, true, false, false⟩)] rfl rfl (.a (.agg [.val (.bool s), .own 4 2 1, .val (.bool false), .own 5 2 1])) [] r.wr (Eq.trans (congrArg (Option.map fun r => (r.v, r.obl, r.wr, r.pan)) hr) (by rw [Option.map_some, e1, e2, e5])) trivial ?_ ?_).mono ?_
 ·intro v hv
  simp only [List.mem_cons, List.not_mem_nil, or_false] at hv
  rcases hv with rfl | rfl
  ·exact ⟨lN, rN, clsL_den f 2⟩
  ·exact ⟨lD, rD, clsL_den g 2⟩
 ·exact ⟨_, [], rfl, ⟨[.slice (some ⟨bN, oN, none⟩) 2 c, .slice (some ⟨bD, oD, none⟩) 2 e, .bool s], rfl, [_], _, rfl, ⟨⟨bN, oN, true, 0, 0⟩, c, rfl, hN.1.1, rfl⟩, [_], _, rfl, ⟨⟨bD, oD, true, 0, 0⟩, e, rfl, hD.1.1, rfl⟩, [_], [], rfl, ⟨rfl, rfl⟩, rfl⟩, rfl⟩
 ·rintro e' w' ⟨v, ρ', rfl, ⟨cs, rfl, c1, d1, rfl, ⟨rfl, _⟩, c2, d2, rfl, hu1, c3, d3, rfl, ⟨rfl, _⟩, c4, d4, rfl, hu2, hd⟩, hbl, _, hB, _⟩
  obtain rfl : d4 = [] := hd
  obtain ⟨x0, hx0, ex0⟩ := Option.map_eq_some_iff.1 e3
  simp only [Prod.mk.injEq] at ex0
  obtain ⟨y01, y02, y03, y04⟩ := ex0
  obtain ⟨u0, rfl⟩ : ∃ u, c2 = [u] := List.length_eq_one_iff.1 hu1.len
  have s0 := own_slf hB f hu1 (by rw [look_append, hx0]; rfl) y01 y02 y03 y04 (by omega)
  obtain ⟨x1, hx1, ex1⟩ := Option.map_eq_some_iff.1 e4
  simp only [Prod.mk.injEq] at ex1
  obtain ⟨y11, y12, y13, y14⟩ := ex1
  obtain ⟨u1, rfl⟩ : ∃ u, c4 = [u] := List.length_eq_one_iff.1 hu2.len
  have s1 := own_slf hB g hu2 (by rw [look_append, hx1]; rfl) y11 y12 y13 y14 (by omega)
  exact ⟨_, _, rfl, s0, s1, hbl⟩
theorem odd23 (s : Bool) (p q : Option Addr) (m c e : Nat) (f g : Nat → Int) (w : World) (h3m : 3 ≤ m) (hN : OddL w p 2 c f) (hD : OddL w q m e g) :
  Calls Tryz.prog 31 #[.agg #[.slice p 2 c, .slice q m e, .bool s]] w fun e' w' => ∃ v1 v2, e' = .returned (.agg #[.bool s, v1, .bool false, v2]) ∧ SlF w' v1 2 f ∧ SlF w' v2 3 g ∧ Below w.heap.size w w' := by
 obtain ⟨bN, oN, hvN⟩ := odd_view hN
 obtain ⟨bD, oD, hvD⟩ := odd_view hD
 obtain ⟨rfl, lN, rN⟩ := hvN (by omega)
 rw [show cls 2 = 2 from rfl] at rN
 obtain ⟨rfl, lD, rD⟩ := hvD (by omega)
 rw [show cls m = 3 from by unfold cls; rw [if_neg (by omega)]] at rD
 have hev : ∀ w0 : World, (evF Tryz.prog (w0 := w0) (X := fun _ => False) (D := qDen kZ kZ1) [] [] 3 [] 31 [.agg [clsU 0 2 2, clsU 1 3 m, .val (.bool s)]] [(0, ⟨3, clsL f 2, true, false, false⟩), (1, ⟨3, clsL g 3, true, false, false⟩)] 2 2 [some false]).map (fun r => (r.v, r.obl, (r.wr.look 4).map (fun b => (b.T, b.dead, b.ro, b.cells)), (r.wr.look 5).map (fun b => (b.T, b.dead, b.ro, b.cells)), r.pan)) =
   some (.a (.agg [.val (.bool s), .own 4 2 1, .val (.bool false), .own 5 3 1]), [(3 : Int) ≤ (m : Int)], some (3, false, false, clsL f 2), some (3, false, false, clsL g 3), none) := fun w0 => by kernel_rfl
 obtain ⟨r, hr, he⟩ := Option.map_eq_some_iff.1 (hev w)
 simp only [Prod.mk.injEq] at he
 obtain ⟨e1, e2, e3, e4, e5⟩ := he
 refine (evRunV (D := qDen kZ kZ1) (d := 3) (vs := [⟨3, clsL f 2, bN, oN, clsC f 2⟩, ⟨3, clsL g 3, bD, oD, clsC g 3⟩]) (orc := [some false]) (args := [.agg [clsU 0 2 2, clsU 1 3 m, .val (.bool s)]]) (vals := [.agg #[.slice (some ⟨bN, oN, none⟩) 2 c, .slice (some ⟨bD, oD, none⟩) m e, .bool s]]) wide_ [] [] [(0, ⟨3, clsL f 2, true, false, false⟩), (1, ⟨3, clsL g 3, true, false, false⟩)] rfl rfl (.a (.agg [.val (.bool s), .own 4 2 1, .val (.bool false), .own 5 3 1])) [(3 : Int) ≤ (m : Int)] r.wr (Eq.trans (congrArg (Option.map fun r => (r.v, r.obl, r.wr, r.pan)) hr) (by rw [Option.map_some, e1, e2, e5])) ⟨by omega, trivial⟩ ?_ ?_).mono ?_
 ·intro v hv
  simp only [List.mem_cons, List.not_mem_nil, or_false] at hv
  rcases hv with rfl | rfl
  ·exact ⟨lN, rN, clsL_den f 2⟩
  ·exact ⟨lD, rD, clsL_den g 3⟩
 ·exact ⟨_, [], rfl, ⟨[.slice (some ⟨bN, oN, none⟩) 2 c, .slice (some ⟨bD, oD, none⟩) m e, .bool s], rfl, [_], _, rfl, ⟨⟨bN, oN, true, 0, 0⟩, c, rfl, hN.1.1, rfl⟩, [_], _, rfl, ⟨⟨bD, oD, true, 0, 0⟩, e, rfl, by omega, hD.1.1, rfl⟩, [_], [], rfl, ⟨rfl, rfl⟩, rfl⟩, rfl⟩
 ·rintro e' w' ⟨v, ρ', rfl, ⟨cs, rfl, c1, d1, rfl, ⟨rfl, _⟩, c2, d2, rfl, hu1, c3, d3, rfl, ⟨rfl, _⟩, c4, d4, rfl, hu2, hd⟩, hbl, _, hB, _⟩
  obtain rfl : d4 = [] := hd
  obtain ⟨x0, hx0, ex0⟩ := Option.map_eq_some_iff.1 e3
  simp only [Prod.mk.injEq] at ex0
  obtain ⟨y01, y02, y03, y04⟩ := ex0
  obtain ⟨u0, rfl⟩ : ∃ u, c2 = [u] := List.length_eq_one_iff.1 hu1.len
  have s0 := own_slf hB f hu1 (by rw [look_append, hx0]; rfl) y01 y02 y03 y04 (by omega)
  obtain ⟨x1, hx1, ex1⟩ := Option.map_eq_some_iff.1 e4
  simp only [Prod.mk.injEq] at ex1
  obtain ⟨y11, y12, y13, y14⟩ := ex1
  obtain ⟨u1, rfl⟩ : ∃ u, c4 = [u] := List.length_eq_one_iff.1 hu2.len
  have s1 := own_slf hB g hu2 (by rw [look_append, hx1]; rfl) y11 y12 y13 y14 (by omega)
  exact ⟨_, _, rfl, s0, s1, hbl⟩
theorem odd30 (s : Bool) (p q : Option Addr) (n c e : Nat) (f g : Nat → Int) (w : World) (h3n : 3 ≤ n) (hN : OddL w p n c f) (hD : OddL w q 0 e g) :
  Calls Tryz.prog 31 #[.agg #[.slice p n c, .slice q 0 e, .bool s]] w fun e' w' => ∃ v1 v2, e' = .returned (.agg #[.bool s, v1, .bool false, v2]) ∧ SlF w' v1 3 f ∧ SlF w' v2 0 g ∧ Below w.heap.size w w' := by
 obtain ⟨bN, oN, hvN⟩ := odd_view hN
 obtain ⟨bD, oD, hvD⟩ := odd_view hD
 obtain ⟨rfl, lN, rN⟩ := hvN (by omega)
 rw [show cls n = 3 from by unfold cls; rw [if_neg (by omega)]] at rN
 have hev : ∀ w0 : World, (evF Tryz.prog (w0 := w0) (X := fun _ => False) (D := qDen kZ kZ1) [] [] 3 [] 31 [.agg [clsU 0 3 n, clsU 1 0 0, .val (.bool s)]] [(0, ⟨3, clsL f 3, true, false, false⟩)] 1 1 [some false]).map (fun r => (r.v, r.obl, (r.wr.look 3).map (fun b => (b.T, b.dead, b.ro, b.cells)), (r.wr.look 99).map (fun b => (b.T, b.dead, b.ro, b.cells)), r.pan)) =
   some (.a (.agg [.val (.bool s), .own 3 3 1, .val (.bool false), .val (.slice none 0 0)]), [(3 : Int) ≤ (n : Int)], some (3, false, false, clsL f 3), none, none) := fun w0 => by kernel_rfl
 obtain ⟨r, hr, he⟩ := Option.map_eq_some_iff.1 (hev w)
 simp only [Prod.mk.injEq] at he
 obtain ⟨e1, e2, e3, e4, e5⟩ := he
 refine (evRunV (D := qDen kZ kZ1) (d := 3) (vs := [⟨3, clsL f 3, bN, oN, clsC f 3⟩]) (orc := [some false]) (args := [.agg [clsU 0 3 n, clsU 1 0 0, .val (.bool s)]]) (vals := [.agg #[.slice (some ⟨bN, oN, none⟩) n c, .slice q 0 e, .bool s]]) wide_ [] [] [(0, ⟨3, clsL f 3, true, false, false⟩)] rfl rfl (.a (.agg [.val (.bool s), .own 3 3 1, .val (.bool false), .val (.slice none 0 0)])) [(3 : Int) ≤ (n : Int)] r.wr (Eq.trans (congrArg (Option.map fun r => (r.v, r.obl, r.wr, r.pan)) hr) (by rw [Option.map_some, e1, e2, e5])) ⟨by omega, trivial⟩ ?_ ?_).mono ?_
 ·intro v hv
  obtain rfl : v = _ := by simpa using hv
  exact ⟨lN, rN, clsL_den f 3⟩
 ·exact ⟨_, [], rfl, ⟨[.slice (some ⟨bN, oN, none⟩) n c, .slice q 0 e, .bool s], rfl, [_], _, rfl, ⟨⟨bN, oN, true, 0, 0⟩, c, rfl, by omega, hN.1.1, rfl⟩, [_], _, rfl, ⟨q, e, hD.2, rfl⟩, [_], [], rfl, ⟨rfl, rfl⟩, rfl⟩, rfl⟩
 ·rintro e' w' ⟨v, ρ', rfl, ⟨cs, rfl, c1, d1, rfl, ⟨rfl, _⟩, c2, d2, rfl, hu1, c3, d3, rfl, ⟨rfl, _⟩, c4, d4, rfl, hu2, hd⟩, hbl, _, hB, _⟩
  obtain rfl : d4 = [] := hd
  obtain ⟨x0, hx0, ex0⟩ := Option.map_eq_some_iff.1 e3
  simp only [Prod.mk.injEq] at ex0
  obtain ⟨y01, y02, y03, y04⟩ := ex0
  obtain ⟨u0, rfl⟩ : ∃ u, c2 = [u] := List.length_eq_one_iff.1 hu1.len
  have s0 := own_slf hB f hu1 (by rw [look_append, hx0]; rfl) y01 y02 y03 y04 (by omega)
  obtain ⟨rfl, _⟩ := hu2
  have s1 : SlF w' (.slice none 0 0) 0 g := .inl ⟨rfl, rfl⟩
  exact ⟨_, _, rfl, s0, s1, hbl⟩
theorem odd31 (s : Bool) (p q : Option Addr) (n c e : Nat) (f g : Nat → Int) (w : World) (h3n : 3 ≤ n) (hN : OddL w p n c f) (hD : OddL w q 1 e g) :
  Calls Tryz.prog 31 #[.agg #[.slice p n c, .slice q 1 e, .bool s]] w fun e' w' => ∃ v1 v2, e' = .returned (.agg #[.bool s, v1, .bool false, v2]) ∧ SlF w' v1 3 f ∧ SlF w' v2 1 g ∧ Below w.heap.size w w' := by
 obtain ⟨bN, oN, hvN⟩ := odd_view hN
 obtain ⟨bD, oD, hvD⟩ := odd_view hD
 obtain ⟨rfl, lN, rN⟩ := hvN (by omega)
 rw [show cls n = 3 from by unfold cls; rw [if_neg (by omega)]] at rN
 obtain ⟨rfl, lD, rD⟩ := hvD (by omega)
 rw [show cls 1 = 1 from rfl] at rD
 have hev : ∀ w0 : World, (evF Tryz.prog (w0 := w0) (X := fun _ => False) (D := qDen kZ kZ1) [] [] 3 [] 31 [.agg [clsU 0 3 n, clsU 1 1 1, .val (.bool s)]] [(0, ⟨3, clsL f 3, true, false, false⟩), (1, ⟨3, clsL g 1, true, false, false⟩)] 2 2 [some false]).map (fun r => (r.v, r.obl, (r.wr.look 4).map (fun b => (b.T, b.dead, b.ro, b.cells)), (r.wr.look 5).map (fun b => (b.T, b.dead, b.ro, b.cells)), r.pan)) =
   some (.a (.agg [.val (.bool s), .own 4 3 1, .val (.bool false), .own 5 1 1]), [(3 : Int) ≤ (n : Int)], some (3, false, false, clsL f 3), some (3, false, false, clsL g 1), none) := fun w0 => by kernel_rfl
 obtain ⟨r, hr, he⟩ := Option.map_eq_some_iff.1 (hev w)
 simp only [Prod.mk.injEq] at he
 obtain ⟨e1, e2, e3, e4, e5⟩ := he
 refine (evRunV (D := qDen kZ kZ1) (d := 3) (vs := [⟨3, clsL f 3, bN, oN, clsC f 3⟩, ⟨3, clsL g 1, bD, oD, clsC g 1⟩]) (orc := [some false]) (args := [.agg [clsU 0 3 n, clsU 1 1 1, .val (.bool s)]]) (vals := [.agg #[.slice (some ⟨bN, oN, none⟩) n c, .slice (some ⟨bD, oD, none⟩) 1 e, .bool s]]) wide_ [] [] [(0, ⟨3, clsL f 3, true, false, false⟩), (1, ⟨3, clsL g 1, true, false, false⟩)] rfl rfl (.a (.agg [.val (.bool s), .own 4 3 1, .val (.bool false), .own 5 1 1])) [(3 : Int) ≤ (n : Int)] r.wr (Eq.trans (congrArg (Option.map fun r => (r.v, r.obl, r.wr, r.pan)) hr) (by rw [Option.map_some, e1, e2, e5])) ⟨by omega, trivial⟩ ?_ ?_).mono ?_
 ·intro v hv
  simp only [List.mem_cons, List.not_mem_nil, or_false] at hv
  rcases hv with rfl | rfl
  ·exact ⟨lN, rN, clsL_den f 3⟩
  ·exact ⟨lD, rD, clsL_den g 1⟩
 ·exact ⟨_, [], rfl, ⟨[.slice (some ⟨bN, oN, none⟩) n c, .slice (some ⟨bD, oD, none⟩) 1 e, .bool s], rfl, [_], _, rfl, ⟨⟨bN, oN, true, 0, 0⟩, c, rfl, by omega, hN.1.1, rfl⟩, [_], _, rfl, ⟨⟨bD, oD, true, 0, 0⟩, e, rfl, hD.1.1, rfl⟩, [_], [], rfl, ⟨rfl, rfl⟩, rfl⟩, rfl⟩
 ·rintro e' w' ⟨v, ρ', rfl, ⟨cs, rfl, c1, d1, rfl, ⟨rfl, _⟩, c2, d2, rfl, hu1, c3, d3, rfl, ⟨rfl, _⟩, c4, d4, rfl, hu2, hd⟩, hbl, _, hB, _⟩
  obtain rfl : d4 = [] := hd
  obtain ⟨x0, hx0, ex0⟩ := Option.map_eq_some_iff.1 e3
  simp only [Prod.mk.injEq] at ex0
  obtain ⟨y01, y02, y03, y04⟩ := ex0
  obtain ⟨u0, rfl⟩ : ∃ u, c2 = [u] := List.length_eq_one_iff.1 hu1.len
  have s0 := own_slf hB f hu1 (by rw [look_append, hx0]; rfl) y01 y02 y03 y04 (by omega)
  obtain ⟨x1, hx1, ex1⟩ := Option.map_eq_some_iff.1 e4
  simp only [Prod.mk.injEq] at ex1
  obtain ⟨y11, y12, y13, y14⟩ := ex1
  obtain ⟨u1, rfl⟩ : ∃ u, c4 = [u] := List.length_eq_one_iff.1 hu2.len
  have s1 := own_slf hB g hu2 (by rw [look_append, hx1]; rfl) y11 y12 y13 y14 (by omega)
  exact ⟨_, _, rfl, s0, s1, hbl⟩
theorem odd32 (s : Bool) (p q : Option Addr) (n c e : Nat) (f g : Nat → Int) (w : World) (h3n : 3 ≤ n) (hN : OddL w p n c f) (hD : OddL w q 2 e g) :
  Calls Tryz.prog 31 #[.agg #[.slice p n c, .slice q 2 e, .bool s]] w fun e' w' => ∃ v1 v2, e' = .returned (.agg #[.bool s, v1, .bool false, v2]) ∧ SlF w' v1 3 f ∧ SlF w' v2 2 g ∧ Below w.heap.size w w' := by
 obtain ⟨bN, oN, hvN⟩ := odd_view hN
 obtain ⟨bD, oD, hvD⟩ := odd_view hD
 obtain ⟨rfl, lN, rN⟩ := hvN (by omega)
 rw [show cls n = 3 from by unfold cls; rw [if_neg (by omega)]] at rN
 obtain ⟨rfl, lD, rD⟩ := hvD (by omega)
 rw [show cls 2 = 2 from rfl] at rD
 have hev : ∀ w0 : World, (evF Tryz.prog (w0 := w0) (X := fun _ => False) (D := qDen kZ kZ1) [] [] 3 [] 31 [.agg [clsU 0 3 n, clsU 1 2 2, .val (.bool s)]] [(0, ⟨3, clsL f 3, true, false, false⟩), (1, ⟨3, clsL g 2, true, false, false⟩)] 2 2 [some false]).map (fun r => (r.v, r.obl, (r.wr.look 4).map (fun b => (b.T, b.dead, b.ro, b.cells)), (r.wr.look 5).map (fun b => (b.T, b.dead, b.ro, b.cells)), r.pan)) =
   some (.a (.agg [.val (.bool s), .own 4 3 1, .val (.bool false), .own 5 2 1]), [(3 : Int) ≤ (n : Int)], some (3, false, false, clsL f 3), some (3, false, false, clsL g 2), none) := fun w0 => by kernel_rfl
 obtain ⟨r, hr, he⟩ := Option.map_eq_some_iff.1 (hev w)
 simp only [Prod.mk.injEq] at he
 obtain ⟨e1, e2, e3, e4, e5⟩ := he
 refine (evRunV (D := qDen kZ kZ1) (d := 3) (vs := [⟨3, clsL f 3, bN, oN, clsC f 3⟩, ⟨3, clsL g 2, bD, oD, clsC g 2⟩]) (orc := [some false]) (args := [.agg [clsU 0 3 n, clsU 1 2 2, .val (.bool s)]]) (vals := [.agg #[.slice (some ⟨bN, oN, none⟩) n c, .slice (some ⟨bD, oD, none⟩) 2 e, .bool s]]) wide_ [] [] [(0, ⟨3, clsL f 3, true, false, false⟩), (1, ⟨3, clsL g 2, true, false, false⟩)] rfl rfl (.a (.agg [.val (.bool s), .own 4 3 1, .val (.bool false), .own 5 2 1])) [(3 : Int) ≤ (n : Int)] r.wr (Eq.trans (congrArg (Option.map fun r => (r.v, r.obl, r.wr, r.pan)) hr) (by rw [Option.map_some, e1, e2, e5])) ⟨by omega, trivial⟩ ?_ ?_).mono ?_
 ·intro v hv
  simp only [List.mem_cons, List.not_mem_nil, or_false] at hv
  rcases hv with rfl | rfl
  ·exact ⟨lN, rN, clsL_den f 3⟩
  ·exact ⟨lD, rD, clsL_den g 2⟩
 ·exact ⟨_, [], rfl, ⟨[.slice (some ⟨bN, oN, none⟩) n c, .slice (some ⟨bD, oD, none⟩) 2 e, .bool s], rfl, [_], _, rfl, ⟨⟨bN, oN, true, 0, 0⟩, c, rfl, by omega, hN.1.1, rfl⟩, [_], _, rfl, ⟨⟨bD, oD, true, 0, 0⟩, e, rfl, hD.1.1, rfl⟩, [_], [], rfl, ⟨rfl, rfl⟩, rfl⟩, rfl⟩
 ·rintro e' w' ⟨v, ρ', rfl, ⟨cs, rfl, c1, d1, rfl, ⟨rfl, _⟩, c2, d2, rfl, hu1, c3, d3, rfl, ⟨rfl, _⟩, c4, d4, rfl, hu2, hd⟩, hbl, _, hB, _⟩
  obtain rfl : d4 = [] := hd
  obtain ⟨x0, hx0, ex0⟩ := Option.map_eq_some_iff.1 e3
  simp only [Prod.mk.injEq] at ex0
  obtain ⟨y01, y02, y03, y04⟩ := ex0
  obtain ⟨u0, rfl⟩ : ∃ u, c2 = [u] := List.length_eq_one_iff.1 hu1.len
  have s0 := own_slf hB f hu1 (by rw [look_append, hx0]; rfl) y01 y02 y03 y04 (by omega)
  obtain ⟨x1, hx1, ex1⟩ := Option.map_eq_some_iff.1 e4
  simp only [Prod.mk.injEq] at ex1
  obtain ⟨y11, y12, y13, y14⟩ := ex1
  obtain ⟨u1, rfl⟩ : ∃ u, c4 = [u] := List.length_eq_one_iff.1 hu2.len
  have s1 := own_slf hB g hu2 (by rw [look_append, hx1]; rfl) y11 y12 y13 y14 (by omega)
  exact ⟨_, _, rfl, s0, s1, hbl⟩
theorem odd33 (s : Bool) (p q : Option Addr) (n m c e : Nat) (f g : Nat → Int) (w : World) (h3n : 3 ≤ n) (h3m : 3 ≤ m) (hN : OddL w p n c f) (hD : OddL w q m e g) :
  Calls Tryz.prog 31 #[.agg #[.slice p n c, .slice q m e, .bool s]] w fun e' w' => ∃ v1 v2, e' = .returned (.agg #[.bool s, v1, .bool false, v2]) ∧ SlF w' v1 3 f ∧ SlF w' v2 3 g ∧ Below w.heap.size w w' := by
 obtain ⟨bN, oN, hvN⟩ := odd_view hN
 obtain ⟨bD, oD, hvD⟩ := odd_view hD
 obtain ⟨rfl, lN, rN⟩ := hvN (by omega)
 rw [show cls n = 3 from by unfold cls; rw [if_neg (by omega)]] at rN
 obtain ⟨rfl, lD, rD⟩ := hvD (by omega)
 rw [show cls m = 3 from by unfold cls; rw [if_neg (by omega)]] at rD
 have hev : ∀ w0 : World, (evF Tryz.prog (w0 := w0) (X := fun _ => False) (D := qDen kZ kZ1) [] [] 3 [] 31 [.agg [clsU 0 3 n, clsU 1 3 m, .val (.bool s)]] [(0, ⟨3, clsL f 3, true, false, false⟩), (1, ⟨3, clsL g 3, true, false, false⟩)] 2 2 [some false, some false]).map (fun r => (r.v, r.obl, (r.wr.look 4).map (fun b => (b.T, b.dead, b.ro, b.cells)), (r.wr.look 5).map (fun b => (b.T, b.dead, b.ro, b.cells)), r.pan)) =
   some (.a (.agg [.val (.bool s), .own 4 3 1, .val (.bool false), .own 5 3 1]), [(3 : Int) ≤ (n : Int), (3 : Int) ≤ (m : Int)], some (3, false, false, clsL f 3), some (3, false, false, clsL g 3), none) := fun w0 => by kernel_rfl
 obtain ⟨r, hr, he⟩ := Option.map_eq_some_iff.1 (hev w)
 simp only [Prod.mk.injEq] at he
 obtain ⟨e1, e2, e3, e4, e5⟩ := he
 refine (evRunV (D := qDen kZ kZ1) (d := 3) (vs := [⟨3, clsL f 3, bN, oN, clsC f 3⟩, ⟨3, clsL g 3, bD, oD, clsC g 3⟩]) (orc := [some false, some false]) (args := [.agg [clsU 0 3 n, clsU 1 3 m, .val (.bool s)]]) (vals := [.agg #[.slice (some ⟨bN, oN, none⟩) n c, .slice (some ⟨bD, oD, none⟩) m e, .bool s]]) wide_ [] [] [(0, ⟨3, clsL f 3, true, false, false⟩), (1, ⟨3, clsL g 3, true, false, false⟩)] rfl rfl (.a (.agg [.val (.bool s), .own 4 3 1, .val (.bool false), .own 5 3 1])) [(3 : Int) ≤ (n : Int), (3 : Int) ≤ (m : Int)] r.wr (Eq.trans (congrArg (Option.map fun r => (r.v, r.obl, r.wr, r.pan)) hr) (by rw [Option.map_some, e1, e2, e5])) ⟨by omega, by omega, trivial⟩ ?_ ?_).mono ?_
 ·intro v hv
  simp only [List.mem_cons, List.not_mem_nil, or_false] at hv
  rcases hv with rfl | rfl
  ·exact ⟨lN, rN, clsL_den f 3⟩
  ·exact ⟨lD, rD, clsL_den g 3⟩
 ·exact ⟨_, [], rfl, ⟨[.slice (some ⟨bN, oN, none⟩) n c, .slice (some ⟨bD, oD, none⟩) m e, .bool s], rfl, [_], _, rfl, ⟨⟨bN, oN, true, 0, 0⟩, c, rfl, by omega, hN.1.1, rfl⟩, [_], _, rfl, ⟨⟨bD, oD, true, 0, 0⟩, e, rfl, by omega, hD.1.1, rfl⟩, [_], [], rfl, ⟨rfl, rfl⟩, rfl⟩, rfl⟩
 ·rintro e' w' ⟨v, ρ', rfl, ⟨cs, rfl, c1, d1, rfl, ⟨rfl, _⟩, c2, d2, rfl, hu1, c3, d3, rfl, ⟨rfl, _⟩, c4, d4, rfl, hu2, hd⟩, hbl, _, hB, _⟩
  obtain rfl : d4 = [] := hd
  obtain ⟨x0, hx0, ex0⟩ := Option.map_eq_some_iff.1 e3
  simp only [Prod.mk.injEq] at ex0
  obtain ⟨y01, y02, y03, y04⟩ := ex0
  obtain ⟨u0, rfl⟩ : ∃ u, c2 = [u] := List.length_eq_one_iff.1 hu1.len
  have s0 := own_slf hB f hu1 (by rw [look_append, hx0]; rfl) y01 y02 y03 y04 (by omega)
  obtain ⟨x1, hx1, ex1⟩ := Option.map_eq_some_iff.1 e4
  simp only [Prod.mk.injEq] at ex1
  obtain ⟨y11, y12, y13, y14⟩ := ex1
  obtain ⟨u1, rfl⟩ : ∃ u, c4 = [u] := List.length_eq_one_iff.1 hu2.len
  have s1 := own_slf hB g hu2 (by rw [look_append, hx1]; rfl) y11 y12 y13 y14 (by omega)
  exact ⟨_, _, rfl, s0, s1, hbl⟩
theorem oddQuot_ok (s : Bool) (p q : Option Addr) (n m c e : Nat) (f g : Nat → Int) (w : World) (hN : OddL w p n c f) (hD : OddL w q m e g) :
  Calls Tryz.prog 31 #[.agg #[.slice p n c, .slice q m e, .bool s]] w fun e' w' => ∃ v1 v2, e' = .returned (.agg #[.bool s, v1, .bool false, v2]) ∧ SlF w' v1 (min n 3) f ∧ SlF w' v2 (min m 3) g ∧ Below w.heap.size w w' := by
 rcases (by omega : n = 0 ∨ n = 1 ∨ n = 2 ∨ 3 ≤ n) with rfl | rfl | rfl | hn <;> rcases (by omega : m = 0 ∨ m = 1 ∨ m = 2 ∨ 3 ≤ m) with rfl | rfl | rfl | hm
 ·exact odd00 s p q c e f g w  hN hD
 ·exact odd01 s p q c e f g w  hN hD
 ·exact odd02 s p q c e f g w  hN hD
 ·rw [Nat.min_eq_right hm]; exact odd03 s p q m c e f g w hm hN hD
 ·exact odd10 s p q c e f g w  hN hD
 ·exact odd11 s p q c e f g w  hN hD
 ·exact odd12 s p q c e f g w  hN hD
 ·rw [Nat.min_eq_right hm]; exact odd13 s p q m c e f g w hm hN hD
 ·exact odd20 s p q c e f g w  hN hD
 ·exact odd21 s p q c e f g w  hN hD
 ·exact odd22 s p q c e f g w  hN hD
 ·rw [Nat.min_eq_right hm]; exact odd23 s p q m c e f g w hm hN hD
 ·rw [Nat.min_eq_right hn]; exact odd30 s p q n c e f g w hn hN hD
 ·rw [Nat.min_eq_right hn]; exact odd31 s p q n c e f g w hn hN hD
 ·rw [Nat.min_eq_right hn]; exact odd32 s p q n c e f g w hn hN hD
 ·rw [Nat.min_eq_right hn]; rw [Nat.min_eq_right hm]; exact odd33 s p q n m c e f g w hn hm hN hD
end
end Go.Proofs.YtccmnjkgfgnmoaaGreatDoor
namespace Go.Mono
open Go.RowKit
theorem LgV.cells {m : Nat} {w : World} {v : Value} {z : Int} (h : LgV m w v z) : ∃ C : Array Value, v = .agg C ∧ C.size = 2 ∧ C.all (·.oneCell') = true := by
 obtain ⟨p, n, c, f, rfl, _⟩ := h
 exact ⟨_, rfl, rfl, by simp [Value.oneCell']⟩
theorem OwnF.lg {w : World} {base : Nat} {v : Value} {n m : Nat} {f : Nat → Int} {z : Int} (h : OwnF w base v n f) (hd : Digs f n) (hv : vf f n = z.natAbs) (hm : n ≤ m) (hm6 : m ≤ 1000000) : LgV m w (.agg #[.bool (decide (z < 0)), v]) z := by
 obtain ⟨p, c, rfl⟩ := h.shape
 exact ⟨p, n, c, f, rfl, h.sl (by omega), hd, hv, hm⟩
theorem wrapId {z : Int} (h1 : -9223372036854775808 ≤ z) (h2 : z ≤ 9223372036854775807) : IntKind.i64.wrap z = z := by
 simp [IntKind.wrap, IntKind.signed, IntKind.bits]
 omega
theorem long_ones (b : Bool) (p : Option Addr) (n c : Nat) : (#[.bool b, .slice p n c] : Array Value).all (·.oneCell') = true := by simp [Value.oneCell']
end Go.Mono
namespace Go.Proofs.YtccmnjkgfgnmoaaGreatDoor
open Go.RowKit Go.Mono
theorem r3minus_ok {m : Nat} {v : Value} {z : Int} (w : World) (h : LgV m w v z) (hm : m ≤ 100000) :
  Calls Tryz.prog 297 #[v] w fun e w' => ∃ v', e = .returned v' ∧ LgV m w' v' (-z) ∧ Below w.heap.size w w' := by
 obtain ⟨p, n, c, f, rfl, s1, d1, e1, l1⟩ := h
 have hb1 : (!decide (z < 0)) = decide (0 ≤ z) := by
  rw [Bool.eq_iff_iff]; simp
 have hsg : (decide (0 ≤ z) && decide (0 < vf f n)) = decide (-z < 0) := by
  rw [Bool.eq_iff_iff]; simp; omega
 rw [e1] at hsg
 generalize decide (z < 0) = sz at *
 go_enter Tryz.func297, Tryz.ntmps297
 go_wp2_with fail
 refine boxes2c fun W hB hs b0 b1 => ?_
 refine (r3made_ok _ p n c f W (s1.ext (.of_below hB)) (by omega) d1.lo d1.hi).mono ?_
 rintro e W1 ⟨v', rfl, ho, d2, e2, hb⟩
 replace b1 := b1.below hb
 replace hB := belowCall hB hb
 rw [e1, hsg]
 have hlg := ho.lg (z := -z) (m := m) d2 (by rw [e2, e1, Int.natAbs_neg]) (by have := trimN_le f n; omega) (by omega)
 generalize decide (-z < 0) = ng at *
 obtain ⟨p', c', rfl⟩ := ho.shape
 clear ho hb b0 hsg
 go_wp2_with first | (refine wpList_store_box rfl 33 _ _ rfl (w.heap.size + 1) 0 33 _ #[.bool ng, .slice p' (trimN f n) c'] #[.bool ng, .slice p' (trimN f n) c'] rfl rfl b1 sizeLong (Nat.le_of_ble_eq_true rfl) (long_ones _ _ _ _) (whole_new rfl) ?_; intro W2 hk b2)
 have hb2 := hk.below hB (by omega) hB.size
 refine bodyPost_ret (b2.results rfl _ _ rfl Tryz.underlying33 rfl sizeLong) rfl ⟨_, rfl, hlg.ext (hk.ext b1 (by decide)), hb2⟩
theorem r3of_ok (z : Int) (w : World) (h1 : -9223372036854775808 ≤ z) (h2 : z ≤ 9223372036854775807) :
  Calls Tryz.prog 240 #[.int .i64 z] w fun e w' => ∃ v, e = .returned v ∧ LgV 3 w' v z ∧ Below w.heap.size w w' := by
 obtain ⟨sz, hsz⟩ : ∃ sz, decide (z < 0) = sz := ⟨_, rfl⟩
 go_enter Tryz.func240, Tryz.ntmps240
 go_wp2_with fail
 refine boxes1 fun W hB hs b0 => ?_
 replace hsz := Lib.hid hsz
 go_loopw [0, 3] (fun a v wr => ∃ (k : Nat) (f : Nat → Int) (r : Int), a = .int .i64 r ∧ OwnF wr (w.heap.size + 1) v k f ∧ Box wr w.heap.size 33 #[.bool false, .slice none 0 0] ∧ OfInv z r k f ∧ Below w.heap.size w wr ∧ w.heap.size + 1 ≤ wr.heap.size) (fun a _ _ => (intOf a).natAbs)
 case atStart => exact ⟨0, _, z, rfl, OwnF.nil _ _ _, b0, OfInv.start z, hB, hs⟩
 case round =>
  clear b0 hB hs
  obtain ⟨k, f, r, rfl, ho, b0, hI, hB, hs⟩ := hrel
  have hr := hI.bound h1 h2
  obtain ⟨p, c, rfl⟩ := ho.shape
  by_cases h0 : r = 0
  ·subst h0
   have hv := hI.val
   have hd : Digs f k := ⟨hI.lo, hI.hi, hI.top rfl⟩
   have hk3 : k ≤ 3 := by
    by_cases h : k ≤ 3
    ·exact h
    ·have := hd.ge (by omega)
     have h3 := pw_mono (i := 3) (k := k - 1) (by omega)
     have e3 : pw 3 = 1000000000000000000000000000 := by decide
     simp at hv
     omega
   have hv' : vf f k = z.natAbs := by simpa using hv
   go_wp2_with fail
   refine (r3made_ok sz p k c f wr (ho.sl (by omega)) (by omega) hI.lo hI.hi).mono ?_
   rintro e W1 ⟨v', rfl, ho2, d2, e2, hb⟩
   replace b0 := b0.below hb
   have hB1 := belowCall hB hb
   have hneg : (sz && decide (0 < vf f k)) = decide (z < 0) := by
    rw [← hsz.out, hv', Bool.eq_iff_iff]; simp; omega
   rw [hneg]
   have hlg := ho2.lg (z := z) (m := 3) d2 (by rw [e2, hv']) (by have := trimN_le f k; omega) (by omega)
   rw [hsz.out] at hlg ⊢
   obtain ⟨p', c', rfl⟩ := ho2.shape
   have hw1 := hb.size
   clear ho ho2 hb hneg hI hv hv' d2 e2 hB
   go_wp2_with first | (refine wpList_store_box rfl 33 _ _ rfl w.heap.size 0 33 _ #[.bool sz, .slice p' (trimN f k) c'] #[.bool sz, .slice p' (trimN f k) c'] rfl rfl b0 sizeLong (Nat.le_of_ble_eq_true rfl) (long_ones _ _ _ _) (whole_new rfl) ?_; intro W2 hk b2)
   have hb2 := hk.below hB1 (by omega) hB1.size
   refine bodyPost_ret (b2.results rfl _ _ rfl Tryz.underlying33 rfl sizeLong) rfl ⟨_, rfl, hlg.ext (hk.ext b0 (by decide)), hb2⟩
  ·have hk := hI.small h1 h2 h0
   have hst := hI.step h0
   have h0' : (r != 0) = true := by simpa using h0
   have hmm : (r.tmod 1000000000).natAbs < 1000000000 := by rw [Int.natAbs_tmod]; exact Nat.mod_lt _ (by decide)
   have hm1 : -1000000000 < r.tmod 1000000000 := by omega
   have hm2 : r.tmod 1000000000 < 1000000000 := by omega
   have hdd : (r.tdiv 1000000000).natAbs = r.natAbs / 1000000000 := by rw [Int.natAbs_tdiv]; rfl
   have hw : wrap64 (r.tdiv 1000000000) = r.tdiv 1000000000 := by unfold wrap64; omega
   replace h0 := Lib.hid h0
   by_cases hneg : r.tmod 1000000000 < 0
   all_goals
    go_wp2_with (at_builtin; (refine wpList_append_ints _ rfl _ _ 26 rfl Tryz.underlying26 infoInt (w.heap.size + 1) (.slice p k c) k f rfl ?_ (some ⟨wr.heap.size, 0, none⟩) 1 1 (fun _ => ((r.tmod 1000000000).natAbs : Int)) rfl ?_ ?_ ?_ ?_); (exact (ho.below ((Below.refl _ _).alloc (Nat.le_refl _) _))); (exact (slF_lit wr _ _ (by omega))); omega; (simp; omega); (intro v' w1 ho' hg))
    obtain ⟨p', c', rfl⟩ := ho'.shape
    have hz := ((Below.refl (w.heap.size + 1) wr).alloc hs (.cells _ 3)).grown hg (by simp; omega) (fun k hk => ho.low k hk)
    replace b0 := b0.low hz (by omega)
    go_wp2
    go_roundw
    case rel =>
     refine ⟨k + 1, _, r.tdiv 1000000000, rfl, ho', b0, hst, hB.trans (hz.mono (by omega)), ?_⟩
     have := hz.size
     omega
    case measure =>
     have := h0.out
     show (r.tdiv 1000000000).natAbs < r.natAbs
     rw [hdd]; exact Nat.div_lt_self (by omega) (by decide)
end Go.Proofs.YtccmnjkgfgnmoaaGreatDoor
