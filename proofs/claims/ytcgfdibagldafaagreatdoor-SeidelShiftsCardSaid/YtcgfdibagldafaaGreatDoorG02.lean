/- Drafted fractions, and the opening of a law's arguments. Part 2 of 6. No condition beside the row. -/
import Derived.Test.YtcgfdibagldafaaGreatDoorA01
import Derived.Test.YtcgfdibagldafaaGreatDoorA02
import Derived.Test.YtcgfdibagldafaaGreatDoorG01
set_option linter.unusedVariables false
set_option linter.unusedSimpArgs false
set_option maxRecDepth 100000
set_option maxHeartbeats 4000000
namespace Go.Mono
open Go.RowKit
section
theorem OwnF.lower {w : World} {base base' : Nat} {v : Value} {n : Nat} {f : Nat → Int} (h : OwnF w base v n f) (hb : base' ≤ base) : OwnF w base' v n f := by
 obtain ⟨hl, h | ⟨g, cap, cur, hv, hb', hh, hr⟩⟩ := h
 ·exact ⟨hl, .inl h⟩
 ·exact ⟨hl, .inr ⟨g, cap, cur, hv, Nat.le_trans hb hb', hh, hr⟩⟩
theorem wp_push_int {P : Program} {w : World} {o : Oper} {a : Act} {K : Act → World → Prop} {Q : Exit → Act → World → Prop} (s x : Operand) (t : TypeId) (ho : o.op = .call { callee := .builtin .append, args := #[s, x], argTypes := #[t, t] })
  (h1 : P.underlying t = some (.slice 3)) (h2 : (P.info? 3).map (fun i => (i.zero, i.size, i.bytes)) = some (some (.int .i64 0), 1, 8))
  (base : Nat) (v : Value) (n : Nat) (f : Nat → Int) (hs : a.eval s = v) (hown : OwnF w base v n f) (B : Nat) (y : Int) (hx : a.eval x = .slice (some ⟨B, 0, none⟩) 1 1) (hb : Box w B 3 #[.int .i64 y]) (hn : n ≤ 1000000) (hbase : base ≤ w.heap.size)
  (h : ∀ v' w', OwnF w' base v' (n + 1) (fun i => if i < n then f i else y) → w.grownBy w' v.ownBlock → K (a.put o.dst v') w') : o.wp P a w K Q := by
 obtain ⟨i, hi, hz, hs1, hb1⟩ := info_parts h2
 refine wp_append_own w s x t ho base 3 i (.int .i64 0) 1 8 h1 hi hz hs1 hb1 rfl (by decide) v n _ hs hown ⟨B, 0, none⟩ 1 1 [.int .i64 y] hx rfl ?_ (by simp [Value.oneCell']) (by simp [maxLen]; omega) (by omega) hbase ?_
 ·intro j u hj
  match j, hj with
  | 0, hj =>
    have := hb.cell 0
    simp at hj
    subst hj
    simpa [Addr.add] using this
  | j + 1, hj => simp at hj
 ·intro v' w' h3 h4 _
  refine h v' w' ?_ h4
  have e : (List.range n).map (fun i => Value.int .i64 (f i)) ++ [.int .i64 y] = (List.range (n + 1)).map fun i => .int .i64 (if i < n then f i else y) := by
   rw [List.range_succ, List.map_append]
   congr 1
   ·exact List.map_congr_left fun i hi => by rw [if_pos (List.mem_range.1 hi)]
   ·simp
  unfold OwnF
  rw [← e]
  exact h3
section
variable {P : Program} {ops : Array Oper} {Q : Exit → Act → World → Prop} {md : Region.Mode} {S : World → Prop}
theorem wpAnyH_storeA (B : Nat) (T : TypeId) (i : Nat) {o : Oper} (hi : ops[i]? = some o) (hg : o.guard = none) (hd : o.dst = none) {ty : TypeId} {x y : Operand} (ho : o.op = .store ty x y) (off : Nat) (cells cs new : Array Value) {a : Act} {fuel : Nat} {listed : Array Bool} {w : World}
  (hr : Region.ready md ops listed = [i]) (hS : ∀ w i u, S w → S (w.setCell ⟨B, i, none⟩ u)) (hx : a.eval x = .pointer (some ⟨B, off, none⟩)) (hy : a.eval y = .agg cells)
  (hb : Box w B T cs) (hs : S w) (hi2 : (P.info? ty).map (·.size) = some cells.size) (hoff : off + cells.size ≤ cs.size) (h1 : cells.all (·.oneCell') = true)
  (hn : cs.toList.take off ++ cells.toList ++ cs.toList.drop (off + cells.size) = new.toList)
  (h : ∀ w', KeepBut B w.heap.size w w' → Box w' B T new → S w' → wpAnyH P md ops Q S fuel (listed.setIfInBounds i true) a w') : wpAnyH P md ops Q S (fuel + 1) listed a w := by
 refine wpAnyH_all hr (by simp) fun j hj => ?_
 obtain rfl : j = i := by simpa using hj
 unfold wpOp
 rw [hi]
 have hw : Region.wanted o (yielded ops a.tmps) = true := by simp [Region.wanted, hg]
 simp only [hw, if_true]
 left
 have hb2 := Box.setCells cells.toList off w cs hb (by simpa using hoff)
 have hb3 : Box (w.setCells B off cells.toList) B T new := by simpa [hn] using hb2
 have hs2 := setCells_keeps hS cells.toList off w hs
 refine wp_store_mid ty x y ho B off cells hx hy (hb.there off cells.size hoff) hi2 h1 ?_
 rw [hd]
 exact ⟨hs2, h _ ((KeepBut.refl _ _).setCells _ _ _) hb3 hs2⟩
end
theorem wpList_assign_as {P : Program} {ops : Array Oper} {rest : List Oper} {op : Oper} {a : Act} {w : World} {Q : Exit → Act → World → Prop} {v : Value} (hg : op.guard = none) (x : Operand) (ho : op.op = .assign x) (hx : a.eval x = v)
  (h : wpList P ops Q rest (a.put op.dst v) w) : wpList P ops Q (op :: rest) a w :=
 wpList_step fun K hK => by
  have hw : Region.wanted op (yielded ops a.tmps) = true := by simp [Region.wanted, hg]
  simp only [hw, if_true]
  unfold Oper.wp execOp
  simp only [ho, hx, Sem.run_bind, Result.andThen_ok, Sem.run_pure]
  exact hK _ _ h
theorem wpList_known {P : Program} {ops : Array Oper} {rest : List Oper} {op : Oper} {a : Act} {w : World} {Q : Exit → Act → World → Prop} {v : Value} (hg : op.guard = none) (hx : (execOp a.eval op).run P w = .ok (.value v) w)
  (h : wpList P ops Q rest (a.put op.dst v) w) : wpList P ops Q (op :: rest) a w :=
 wpList_step fun K hK => by
  have hw : Region.wanted op (yielded ops a.tmps) = true := by simp [Region.wanted, hg]
  simp only [hw, if_true]
  unfold Oper.wp
  rw [hx, Oper.upon_value]
  exact hK _ _ h
theorem wpList_min2 {P : Program} {ops : Array Oper} {rest : List Oper} {op : Oper} {a : Act} {w : World} {Q : Exit → Act → World → Prop} (hg : op.guard = none) (x y : Operand) (T : Array TypeId) (ho : op.op = .call { callee := .builtin .min, args := #[x, y], argTypes := T })
  (m k L : Nat) (hx : a.eval x = .int .i64 (m : Int)) (hy : a.eval y = .int .i64 (k : Int)) (hL : min m k = L) (h : wpList P ops Q rest (a.put op.dst (.int .i64 (L : Int))) w) : wpList P ops Q (op :: rest) a w := by
 refine wpList_known hg ?_ h
 subst hL
 unfold execOp
 simp only [ho, resolve, invoke, builtin, Sem.run_bind, Sem.run_pure, Result.andThen_ok, List.map_toArray, List.map_cons, List.map_nil, hx, hy]
 by_cases hmk : m ≤ k
 ·have hmk' : (m : Int) ≤ k := by omega
  rw [Nat.min_eq_left hmk]
  simp [Builtin.min_, Builtin.min2, hmk', Result.andThen]
  omega
 ·have hmk' : ¬ (m : Int) ≤ k := by omega
  rw [Nat.min_eq_right (by omega)]
  simp [Builtin.min_, Builtin.min2, hmk', Result.andThen]
  omega
end
theorem vf_cons (f : Nat → Int) (k : Nat) : vf f (k + 1) = f 0 + 1000000000 * vf (fun j => f (j + 1)) k := by
 have := vf_split f 1 k
 rw [Nat.add_comm 1 k] at this
 rw [this]
 simp only [vf, pw, Int.zero_add, Int.mul_one, Int.one_mul]
 congr 2
 exact vf_congr fun i _ => by rw [Nat.add_comm]
def shl (x : Int) (f : Nat → Int) : Nat → Int := fun j => if j = 0 then x else f (j - 1)
theorem vf_shl (x : Int) (f : Nat → Int) (k : Nat) : vf (shl x f) (k + 1) = x + 1000000000 * vf f k := by
 rw [vf_cons]
 congr 2
structure ParI (f : Nat → Int) (n : Nat) (B : Int) (i : Nat) (q : Nat → Int) (R : Int) : Prop where
 eq : vf (fun j => f (i + j)) (n - i) = vf (fun j => q (i + j)) (n - i) * B + R
 r0 : 0 ≤ R
 r1 : R < B
 lo : ∀ j, i ≤ j → j < n → 0 ≤ q j
 hi : ∀ j, i ≤ j → j < n → q j < 1000000000
theorem ParI.start (f q : Nat → Int) (n : Nat) {B : Int} (hB : 0 < B) : ParI f n B n q 0 :=
 ⟨by simp [vf], Int.le_refl _, hB, fun j h1 h2 => by omega, fun j h1 h2 => by omega⟩
theorem ParI.next {f q : Nat → Int} {n i : Nat} {B R c R' : Int} (H : ParI f n B (i + 1) q R) (hi : i < n) (hc0 : 0 ≤ c) (hc1 : c < 1000000000) (hr0 : 0 ≤ R') (hr1 : R' < B) (he : f i + 1000000000 * R = c * B + R') :
  ParI f n B i (fun j => if j = i then c else q j) R' := by
 refine ⟨?_, hr0, hr1, fun j h1 h2 => ?_, fun j h1 h2 => ?_⟩
 ·obtain ⟨k, hk⟩ : ∃ k, n - i = k + 1 := ⟨n - i - 1, by omega⟩
  have e := H.eq
  rw [show n - (i + 1) = k by omega] at e
  rw [hk, vf_cons, vf_cons]
  simp only [Nat.add_zero, if_true]
  have e1 : vf (fun j => f (i + (j + 1))) k = vf (fun j => f (i + 1 + j)) k := vf_congr fun j _ => by rw [show i + (j + 1) = i + 1 + j by omega]
  have e2 : vf (fun j => if i + (j + 1) = i then c else q (i + (j + 1))) k = vf (fun j => q (i + 1 + j)) k := vf_congr fun j _ => by rw [if_neg (by omega), show i + (j + 1) = i + 1 + j by omega]
  rw [e1, e2, e]
  generalize vf (fun j => q (i + 1 + j)) k = Q at *
  grind
 ·split
  ·exact hc0
  ·exact H.lo j (by omega) h2
 ·split
  ·exact hc1
  ·exact H.hi j (by omega) h2
theorem ParI.done {f q : Nat → Int} {n : Nat} {B R : Int} (H : ParI f n B 0 q R) : vf q n = vf f n / B ∧ R = vf f n % B := by
 have e := H.eq
 simp only [Nat.sub_zero, Nat.zero_add] at e
 have h0 := H.r0
 have h1 := H.r1
 have hB : 0 < B := by omega
 rw [e, Int.add_comm, Int.add_mul_ediv_right _ _ (by omega), Int.ediv_eq_zero_of_lt h0 h1, Int.zero_add, Int.add_mul_emod_self_right, Int.emod_eq_of_lt h0 h1]
 exact ⟨rfl, rfl⟩
theorem tdiv_parts (a b : Int) (hb : b ≠ 0) : ((a.natAbs : Int) / b.natAbs = (a.tdiv b).natAbs) ∧ ((a.natAbs : Int) % b.natAbs = (a.tmod b).natAbs) ∧
  ((decide (a < 0) != decide (b < 0)) && decide (0 < ((a.tdiv b).natAbs : Int))) = decide (a.tdiv b < 0) ∧ (decide (a < 0) && decide (0 < ((a.tmod b).natAbs : Int))) = decide (a.tmod b < 0) := by
 have h1 : (a.natAbs : Int) / b.natAbs = (a.tdiv b).natAbs := by rw [Int.natAbs_tdiv]; norm_cast
 have h2 : (a.natAbs : Int) % b.natAbs = (a.tmod b).natAbs := by
  have : (a.tmod b).natAbs = a.natAbs % b.natAbs := Int.natAbs_tmod a b
  rw [this]; norm_cast
 refine ⟨h1, h2, ?_, ?_⟩
 ·by_cases h0 : a.tdiv b = 0
  ·simp [h0]
  ·have hpos : 0 < ((a.tdiv b).natAbs : Int) := by omega
   rw [decide_eq_true hpos, Bool.and_true]
   rw [Bool.eq_iff_iff]
   simp only [bne_iff_ne, ne_eq, decide_eq_decide, decide_eq_true_eq]
   rcases Int.lt_trichotomy a 0 with ha | ha | ha
   ·rcases Int.lt_or_gt_of_ne hb with hb' | hb'
    ·have := Int.tdiv_nonneg_of_nonpos_of_nonpos (Int.le_of_lt ha) (Int.le_of_lt hb')
     omega
    ·have := Int.tdiv_nonneg (a := -a) (b := b) (by omega) (Int.le_of_lt hb')
     rw [Int.neg_tdiv] at this
     omega
   ·subst ha; simp at h0
   ·rcases Int.lt_or_gt_of_ne hb with hb' | hb'
    ·have := Int.tdiv_nonneg (a := a) (b := -b) (Int.le_of_lt ha) (by omega)
     rw [Int.tdiv_neg] at this
     omega
    ·have := Int.tdiv_nonneg (Int.le_of_lt ha) (Int.le_of_lt hb')
     omega
 ·by_cases h0 : a.tmod b = 0
  ·simp [h0]
  ·have hpos : 0 < ((a.tmod b).natAbs : Int) := by omega
   rw [decide_eq_true hpos, Bool.and_true]
   rw [Bool.eq_iff_iff]
   simp only [decide_eq_true_eq]
   by_cases ha : a < 0
   ·have := Int.tmod_nonneg (a := -a) b (by omega)
    rw [Int.neg_tmod] at this
    omega
   ·have := Int.tmod_nonneg (a := a) b (by omega)
    omega
section
section
variable {P : Program} {ops : Array Oper} {rest : List Oper} {o1 o2 o3 o4 : Oper} {a : Act} {w : World} {Q : Exit → Act → World → Prop}
theorem wpList_put1 (T : TypeId) (d : Tmp) (y : Operand) (C zs : Array Value) (g1 : o1.guard = none) (h1 : o1.op = .alloc T) (e1 : o1.dst = some d) (g2 : o2.guard = none) (h2 : o2.op = .store T (.tmp d) y) (e2 : o2.dst = none)
  (hrun : ∀ w, (Instr.alloc T true (.tuple #[])).run P w = .ok (.pointer (some ⟨w.heap.size, 0, none⟩)) (w.alloc (.cells zs T)))
  (hx : ∀ p, (a.put (some d) p).eval (.tmp d) = p) (hy : ∀ p, (a.put (some d) p).eval y = .agg C) (hi : (P.info? T).map (·.size) = some C.size) (hs : zs.size = C.size) (ho : C.all (·.oneCell') = true)
  (h : ∀ W B, w.heap.size ≤ B → Below w.heap.size w W → Box W B T C → wpList P ops Q rest (a.put (some d) (.pointer (some ⟨B, 0, none⟩))) W) : wpList P ops Q (o1 :: o2 :: rest) a w := by
 refine wpList_new g1 T h1 zs hrun ?_
 intro W1 B hle hb b1
 rw [e1]
 refine wpList_store_box g2 T (.tmp d) y h2 B 0 T zs C C (hx _) (hy _) b1 hi (by rw [Nat.zero_add]; exact Nat.le_of_eq hs.symm) ho (whole_new hs) ?_
 intro W2 hk b2
 rw [e2]
 exact h W2 B hle (hk.below hb hle hb.size) b2
theorem wpList_put2 (T : TypeId) (d d' : Tmp) (y y' : Operand) (C C' zs : Array Value) (g1 : o1.guard = none) (h1 : o1.op = .alloc T) (e1 : o1.dst = some d) (g2 : o2.guard = none) (h2 : o2.op = .alloc T) (e2 : o2.dst = some d')
  (g3 : o3.guard = none) (h3 : o3.op = .store T (.tmp d) y) (e3 : o3.dst = none) (g4 : o4.guard = none) (h4 : o4.op = .store T (.tmp d') y') (e4 : o4.dst = none)
  (hrun : ∀ w, (Instr.alloc T true (.tuple #[])).run P w = .ok (.pointer (some ⟨w.heap.size, 0, none⟩)) (w.alloc (.cells zs T)))
  (hx : ∀ p p', ((a.put (some d) p).put (some d') p').eval (.tmp d) = p) (hx' : ∀ p p', ((a.put (some d) p).put (some d') p').eval (.tmp d') = p') (hy : ∀ p p', ((a.put (some d) p).put (some d') p').eval y = .agg C) (hy' : ∀ p p', ((a.put (some d) p).put (some d') p').eval y' = .agg C')
  (hi : (P.info? T).map (·.size) = some zs.size) (hs : zs.size = C.size) (hs' : zs.size = C'.size) (ho : C.all (·.oneCell') = true) (ho' : C'.all (·.oneCell') = true)
  (h : ∀ W B B', w.heap.size ≤ B → w.heap.size ≤ B' → B ≠ B' → Below w.heap.size w W → Box W B T C → Box W B' T C' → wpList P ops Q rest ((a.put (some d) (.pointer (some ⟨B, 0, none⟩))).put (some d') (.pointer (some ⟨B', 0, none⟩))) W) : wpList P ops Q (o1 :: o2 :: o3 :: o4 :: rest) a w := by
 refine wpList_new g1 T h1 zs hrun ?_
 intro W1 B hle hb b1
 rw [e1]
 have hB1 := b1.lt
 refine wpList_new g2 T h2 zs hrun ?_
 intro W2 B' hle' hb' b1'
 rw [e2]
 have hBB : B ≠ B' := by omega
 have b12 := b1.below hb'
 refine wpList_store_box g3 T (.tmp d) y h3 B 0 T zs C C (hx _ _) (hy _ _) b12 (by rw [← hs]; exact hi) (by rw [Nat.zero_add]; exact Nat.le_of_eq hs.symm) ho (whole_new hs) ?_
 intro W3 hk b2
 rw [e3]
 have b13 := hk.box b1' b1'.lt (fun h => hBB h.symm)
 refine wpList_store_box g4 T (.tmp d') y' h4 B' 0 T zs C' C' (hx' _ _) (hy' _ _) b13 (by rw [← hs']; exact hi) (by rw [Nat.zero_add]; exact Nat.le_of_eq hs'.symm) ho' (whole_new hs') ?_
 intro W4 hk4 b4
 rw [e4]
 have b5 := hk4.box b2 b2.lt hBB
 have hw1 := belowCall hb hb'
 have hw3 := hk.below hw1 hle hw1.size
 exact h W4 B B' hle (by have := hb.size; omega) hBB (hk4.below hw3 (by have := hb.size; omega) hw3.size) b5 b4
end
end
section
structure Fa where
 i : Nat
 d : Tmp
 T : TypeId
 zs : Array Value
def setL : List (Fa × Option Nat) → Array Bool → Array Bool
 | [], l => l
 | q :: r, l => match q.2 with
   | some _ => setL r (l.setIfInBounds q.1.i true)
   | none => setL r l
def setA : List (Fa × Option Nat) → Act → Act
 | [], a => a
 | q :: r, a => match q.2 with
   | some B => setA r (a.put (some q.1.d) (.pointer (some ⟨B, 0, none⟩)))
   | none => setA r a
def cnt : List (Fa × Option Nat) → Nat
 | [] => 0
 | q :: r => (match q.2 with
   | some _ => 1
   | none => 0) + cnt r
def pend : List (Fa × Option Nat) → List Nat
 | [] => []
 | q :: r => match q.2 with
   | some _ => pend r
   | none => q.1.i :: pend r
def okA (N : Nat) (w : World) (qs : List (Fa × Option Nat)) : Prop :=
 (∀ q ∈ qs, ∀ B, q.2 = some B → N ≤ B ∧ Box w B q.1.T q.1.zs) ∧ qs.Pairwise fun x y => ∀ B, x.2 = some B → y.2 ≠ some B
def norm (q : Fa × Option Nat) : Fa × Option Nat := (q.1, q.2.map fun _ => 0)
def allPats : List Fa → List (List (Fa × Option Nat))
 | [] => [[]]
 | f :: r => (allPats r).flatMap fun qs => [(f, none) :: qs, (f, some 0) :: qs]
theorem mem_allPats : ∀ qs : List (Fa × Option Nat), qs.map norm ∈ allPats (qs.map (·.1))
 | [] => by simp [allPats]
 | (f, o) :: r => by
   simp only [List.map_cons, allPats, List.mem_flatMap]
   refine ⟨_, mem_allPats r, ?_⟩
   cases o <;> simp [norm]
theorem setL_norm : ∀ (qs : List (Fa × Option Nat)) (l : Array Bool), setL (qs.map norm) l = setL qs l
 | [], _ => rfl
 | (f, none) :: r, l => setL_norm r l
 | (f, some _) :: r, l => setL_norm r _
theorem pend_norm : ∀ qs : List (Fa × Option Nat), pend (qs.map norm) = pend qs
 | [] => rfl
 | (f, none) :: r => congrArg (f.i :: ·) (pend_norm r)
 | (f, some _) :: r => pend_norm r
theorem set_comm (l : Array Bool) (i j : Nat) : (l.setIfInBounds i true).setIfInBounds j true = (l.setIfInBounds j true).setIfInBounds i true := by
 by_cases h : i = j
 ·subst h; rfl
 ·exact Array.setIfInBounds_comm _ _ h
theorem setL_set (i : Nat) : ∀ (qs : List (Fa × Option Nat)) (l : Array Bool), setL qs (l.setIfInBounds i true) = (setL qs l).setIfInBounds i true
 | [], _ => rfl
 | (f, none) :: r, l => setL_set i r l
 | (f, some _) :: r, l => by
   show setL r ((l.setIfInBounds i true).setIfInBounds f.i true) = (setL r (l.setIfInBounds f.i true)).setIfInBounds i true
   rw [set_comm, setL_set i r]
theorem setA_put (d : Tmp) (v : Value) : ∀ (qs : List (Fa × Option Nat)) (a : Act), (∀ q ∈ qs, q.1.d ≠ d) → setA qs (a.put (some d) v) = (setA qs a).put (some d) v
 | [], _, _ => rfl
 | (f, none) :: r, a, h => setA_put d v r a fun q hq => h q (List.mem_cons_of_mem _ hq)
 | (f, some B) :: r, a, h => by
   show setA r ((a.put (some d) v).put (some f.d) _) = (setA r (a.put (some f.d) _)).put (some d) v
   rw [Act.put_comm a v _ (by
    intro e he; cases he
    intro hh; cases hh
    exact h (f, some B) (List.mem_cons_self ..) rfl), setA_put d v r _ fun q hq => h q (List.mem_cons_of_mem _ hq)]
theorem setL_app : ∀ (p q : List (Fa × Option Nat)) (l : Array Bool), setL (p ++ q) l = setL q (setL p l)
 | [], _, _ => rfl
 | (f, none) :: r, q, l => setL_app r q l
 | (f, some _) :: r, q, l => setL_app r q _
theorem setA_app : ∀ (p q : List (Fa × Option Nat)) (a : Act), setA (p ++ q) a = setA q (setA p a)
 | [], _, _ => rfl
 | (f, none) :: r, q, a => setA_app r q a
 | (f, some _) :: r, q, a => setA_app r q _
theorem cnt_app : ∀ p q : List (Fa × Option Nat), cnt (p ++ q) = cnt p + cnt q
 | [], q => by simp [cnt]
 | (f, o) :: r, q => by simp only [List.cons_append, cnt, cnt_app r q, Nat.add_assoc]
theorem cnt_le : ∀ p : List (Fa × Option Nat), cnt p ≤ p.length
 | [] => Nat.le_refl _
 | (f, none) :: r => by have := cnt_le r; simp only [cnt, List.length_cons]; omega
 | (f, some _) :: r => by have := cnt_le r; simp only [cnt, List.length_cons]; omega
theorem pend_split {j : Nat} : ∀ qs : List (Fa × Option Nat), j ∈ pend qs → ∃ p f r, qs = p ++ (f, none) :: r ∧ f.i = j
 | [], h => by cases h
 | (f, none) :: r, h => by
   rcases List.mem_cons.1 h with h | h
   ·exact ⟨[], f, r, rfl, h.symm⟩
   ·obtain ⟨p, g, s, rfl, hg⟩ := pend_split r h
    exact ⟨(f, none) :: p, g, s, rfl, hg⟩
 | (f, some B) :: r, h => by
   obtain ⟨p, g, s, rfl, hg⟩ := pend_split r h
   exact ⟨(f, some B) :: p, g, s, rfl, hg⟩
theorem cnt_lt : ∀ (p : List (Fa × Option Nat)) (f : Fa) (r : List (Fa × Option Nat)), cnt (p ++ (f, none) :: r) < (p ++ (f, none) :: r).length := fun p f r => by
 have h1 := cnt_le p
 have h2 := cnt_le r
 simp only [cnt_app, cnt, List.length_append, List.length_cons]
 omega
theorem okA.below {N : Nat} {w w' : World} {qs : List (Fa × Option Nat)} (h : okA N w qs) (hb : Below w.heap.size w w') : okA N w' qs :=
 ⟨fun q hq B hB => ⟨(h.1 q hq B hB).1, (h.1 q hq B hB).2.below hb⟩, h.2⟩
theorem okA.fresh {N : Nat} {w : World} {p r : List (Fa × Option Nat)} {f : Fa} (h : okA N w (p ++ (f, none) :: r)) (hN : N ≤ w.heap.size) :
  okA N (w.alloc (.cells f.zs f.T)) (p ++ (f, some w.heap.size) :: r) := by
 have lt : ∀ q, q ∈ p ∨ q ∈ r → q.2 ≠ some w.heap.size := fun q hq he => by
  have hq' : q ∈ p ++ (f, none) :: r := by rcases hq with hq | hq <;> simp [hq]
  exact Nat.lt_irrefl _ (h.1 q hq' _ he).2.lt
 constructor
 ·intro q hq B hB
  rw [List.mem_append, List.mem_cons] at hq
  rcases hq with hq | rfl | hq
  ·have := h.1 q (by simp [hq]) B hB
   exact ⟨this.1, this.2.alloc _⟩
  ·cases hB
   exact ⟨hN, Box.new _ _ _⟩
  ·have := h.1 q (by simp [hq]) B hB
   exact ⟨this.1, this.2.alloc _⟩
 ·have h2 := h.2
  rw [List.pairwise_append, List.pairwise_cons] at h2 ⊢
  refine ⟨h2.1, ⟨fun q hq B hB => ?_, h2.2.1.2⟩, fun x hx y hy => ?_⟩
  ·cases hB
   exact lt q (.inr hq)
  ·rcases List.mem_cons.1 hy with rfl | hy
   ·intro B hB hh
    cases hh
    exact lt x (.inl hx) hB
   ·exact h2.2.2 x hx y (List.mem_cons_of_mem _ hy)
section
variable {P : Program} {ops : Array Oper} {Q : Exit → Act → World → Prop} {md : Region.Mode} {S : World → Prop}
structure FaOk (P : Program) (ops : Array Oper) (f : Fa) : Prop where
 op : ∃ o, ops[f.i]? = some o ∧ o.guard = none ∧ o.op = .alloc f.T ∧ o.dst = some f.d
 run : ∀ w, (Instr.alloc f.T true (.tuple #[])).run P w = .ok (.pointer (some ⟨w.heap.size, 0, none⟩)) (w.alloc (.cells f.zs f.T))
def FaAll (P : Program) (ops : Array Oper) (ps : List Fa) : Prop := (∀ f ∈ ps, FaOk P ops f) ∧ (ps.map (·.d)).Nodup
def Fl (P : Program) (md : Region.Mode) (ops : Array Oper) (Q : Exit → Act → World → Prop) (S : World → Prop) (N : Nat) (ps : List Fa) (F : Nat) (listed : Array Bool) (a : Act) (V : World) : Prop :=
 ∀ qs w, qs.map (·.1) = ps → Below V.heap.size V w → S w → okA N w qs → wpAnyH P md ops Q S (F - cnt qs) (setL qs listed) (setA qs a) w
def blind (ops : Array Oper) (ps : List Fa) (o : Oper) : Bool := ps.all fun f => !(o.looksAt ops).contains f.d
theorem exec_setA (hs : Region.noSelect ops = true) {i : Nat} {o : Oper} (hi : ops[i]? = some o) : ∀ (qs : List (Fa × Option Nat)) (a : Act), blind ops (qs.map (·.1)) o = true →
  execOp (setA qs a).eval o = execOp a.eval o ∧ Region.wanted o (yielded ops (setA qs a).tmps) = Region.wanted o (yielded ops a.tmps)
 | [], _, _ => ⟨rfl, rfl⟩
 | (f, none) :: r, a, h => exec_setA hs hi r a (by
   simp only [blind, List.map_cons, List.all_cons, Bool.and_eq_true] at h ⊢
   exact h.2)
 | (f, some B) :: r, a, h => by
   simp only [blind, List.map_cons, List.all_cons, Bool.and_eq_true] at h
   have ih := exec_setA hs hi r (a.put (some f.d) (.pointer (some ⟨B, 0, none⟩))) h.2
   have hd : ∀ d, some f.d = some d → d ∉ o.looksAt ops := fun d hd => by
    cases hd
    simpa using h.1
   exact ⟨ih.1.trans (execOp_put o (Region.noSelect_spec hs i o · · hi) a _ _ hd), ih.2.trans (wanted_put o a _ _ hd)⟩
def shapeAt (md : Region.Mode) (ops : Array Oper) (ps : List Fa) (listed : Array Bool) (i : Nat) : Bool :=
 (allPats ps).all fun qs => (Region.ready md ops (setL qs listed)).contains i && (Region.ready md ops (setL qs listed)).all fun j => j == i || (pend qs).contains j
def shapeEnd (md : Region.Mode) (ops : Array Oper) (ps : List Fa) (listed : Array Bool) : Bool :=
 (allPats ps).all fun qs => (pend qs).isEmpty || ((!(Region.ready md ops (setL qs listed)).isEmpty) && (Region.ready md ops (setL qs listed)).all fun j => (pend qs).contains j)
def freeAt (md : Region.Mode) (ops : Array Oper) (ps : List Fa) (listed : Array Bool) (i : Nat) : Bool :=
 (allPats ps).all fun qs => (Region.ready md ops (setL qs listed)).contains i && Region.free md ops (setL qs listed) i
theorem Fl.alloc {ps : List Fa} {k : Nat} {listed : Array Bool} {a : Act} {w : World} (hfa : FaAll P ops ps) {p : List (Fa × Option Nat)} {f : Fa} {r : List (Fa × Option Nat)} (hq : (p ++ (f, none) :: r).map (·.1) = ps)
  (h : wpAnyH P md ops Q S k (setL (p ++ (f, some w.heap.size) :: r) listed) (setA (p ++ (f, some w.heap.size) :: r) a) (w.alloc (.cells f.zs f.T)))
  (hS : S (w.alloc (.cells f.zs f.T))) :
  wpOp P ops Q f.i (fun a' w' => S w' ∧ wpAnyH P md ops Q S k ((setL (p ++ (f, none) :: r) listed).setIfInBounds f.i true) a' w') (setA (p ++ (f, none) :: r) a) w := by
 have hmem : f ∈ ps := by rw [← hq]; simp
 obtain ⟨⟨o, ho, hg, hop, hd⟩, hrun⟩ := hfa.1 f hmem
 unfold wpOp
 simp only [ho]
 have hw : Region.wanted o (yielded ops (setA (p ++ (f, none) :: r) a).tmps) = true := by simp [Region.wanted, hg]
 rw [if_pos hw]
 left
 unfold Oper.wp execOp
 simp only [hop, Sem.run_bind, hrun, Result.andThen_ok, Sem.run_pure, Oper.upon_value, hd]
 refine ⟨hS, ?_⟩
 have hnd := hfa.2
 rw [← hq] at hnd
 simp only [List.map_append, List.map_cons, List.nodup_append, List.nodup_cons] at hnd
 have hr : ∀ q ∈ r, q.1.d ≠ f.d := fun q hq' he => hnd.2.1.1 (by
  rw [← he]
  exact List.mem_map_of_mem (List.mem_map_of_mem hq'))
 have e1 : (setL (p ++ (f, none) :: r) listed).setIfInBounds f.i true = setL (p ++ (f, some w.heap.size) :: r) listed := by
  rw [setL_app, setL_app]
  show (setL r (setL p listed)).setIfInBounds f.i true = setL r ((setL p listed).setIfInBounds f.i true)
  rw [setL_set]
 have e2 : (setA (p ++ (f, none) :: r) a).put (some f.d) (.pointer (some ⟨w.heap.size, 0, none⟩)) = setA (p ++ (f, some w.heap.size) :: r) a := by
  rw [setA_app, setA_app]
  show (setA r (setA p a)).put (some f.d) _ = setA r ((setA p a).put (some f.d) _)
  rw [setA_put _ _ r _ hr]
 rw [e1, e2]
 exact h
theorem Fl.start {F : Nat} {listed : Array Bool} {a : Act} {V : World} (ps : List Fa) (h : Fl P md ops Q S V.heap.size ps F listed a V) (hS : S V := by assumption) : wpAnyH P md ops Q S F listed a V := by
 have hl : ∀ ps : List Fa, (setL (ps.map fun f => (f, none)) listed = listed ∧ setA (ps.map fun f => (f, none)) a = a ∧ cnt (ps.map fun f => (f, none)) = 0) := by
  intro ps
  induction ps with
  | nil => exact ⟨rfl, rfl, rfl⟩
  | cons f r ih => exact ⟨ih.1, ih.2.1, by simp only [List.map_cons, cnt, ih.2.2]⟩
 have := h (ps.map fun f => (f, none)) V (by rw [List.map_map]; exact List.map_id _) (Below.refl _ _) hS ⟨fun q hq B hB => (by
  obtain ⟨f, _, rfl⟩ := List.mem_map.1 hq
  cases hB), (by
  rw [List.pairwise_map]
  exact List.pairwise_of_forall fun _ _ B hB => nomatch hB)⟩
 rw [(hl ps).1, (hl ps).2.1, (hl ps).2.2] at this
 exact this
theorem pat_of {ps : List Fa} {g : List (Fa × Option Nat) → Bool} (h : (allPats ps).all g = true) {qs : List (Fa × Option Nat)} (hq : qs.map (·.1) = ps) : g (qs.map norm) = true := by
 have := mem_allPats qs
 rw [hq] at this
 exact List.all_eq_true.1 h _ this
theorem Fl.call (i : Nat) (d : Tmp) {o : Oper} {f : FuncId} {args : Array Value} {R : World → Ending → World → Prop} {N F : Nat} {ps : List Fa} {listed : Array Bool} {a : Act} {V : World}
  (hC : ∀ w, Below V.heap.size V w → Calls P f args w (R w))
  (h : ∀ w, Below V.heap.size V w → S w → ∀ e w', R w e w' → match e with
   | .returned v => Below w.heap.size w w' ∧ Fl P md ops Q S N ps F (listed.setIfInBounds i true) (a.put (some d) v) w'
   | _ => False)
  (hfa : FaAll P ops ps := by assumption) (hSt : ∀ w w', S w → Below w.heap.size w w' → S w' := by first | exact (fun w w' h k => belowS (belowCall (And.right h) k)) | exact (fun w w' h k => KeepBut.S (KeepBut.call (And.right h) k)) | exact (fun w w' h k => belowCall h k)) (hN : N ≤ V.heap.size := by assumption)
  (ho : ops[i]? = some o := by rfl) (hd : o.dst = some d := by rfl) (hs : Region.noSelect ops = true := by as_aux_lemma => kernel_rfl)
  (hsh : shapeAt md ops ps listed i = true := by as_aux_lemma => kernel_rfl) (hbl : blind ops ps o = true := by as_aux_lemma => kernel_rfl) (hnd : (ps.map (·.d)).contains d = false := by as_aux_lemma => kernel_rfl) (hF : Nat.ble ps.length F = true := by rfl)
  (hw : Region.wanted o (yielded ops a.tmps) = true := by as_aux_lemma => kernel_rfl)
  (hx : ∀ w, (execOp a.eval o).run P w = .ok (.enter f args) w := by as_aux_lemma => (intro _; kernel_rfl)) : Fl P md ops Q S N ps (F + 1) listed a V := by
 have hF' := Nat.le_of_ble_eq_true hF
 have main : ∀ n qs w, qs.length - cnt qs = n → qs.map (·.1) = ps → Below V.heap.size V w → S w → okA N w qs → wpAnyH P md ops Q S (F + 1 - cnt qs) (setL qs listed) (setA qs a) w := by
  intro n
  induction n with
  | zero => ?_
  | succ n ih => ?_
  all_goals
   intro qs w hn hq hV hS hok
   have hlen : qs.length = ps.length := by rw [← hq, List.length_map]
   have hc := cnt_le qs
   have hsp := pat_of hsh hq
   simp only [setL_norm, pend_norm, Bool.and_eq_true, List.all_eq_true, Bool.or_eq_true, beq_iff_eq, List.contains_iff_mem] at hsp
   rw [show F + 1 - cnt qs = (F - cnt qs) + 1 by omega]
   refine ⟨fun h0 => (by rw [h0] at hsp; exact absurd hsp.1 (by simp)), fun j hj => ?_⟩
   rcases hsp.2 j hj with rfl | hp
   ·have hb := exec_setA hs ho qs a (by rw [hq]; exact hbl)
    unfold wpOp
    simp only [ho]
    rw [if_pos (hb.2.trans hw)]
    left
    unfold Oper.wp
    rw [hb.1, hx w, Oper.upon_enter]
    refine (hC w hV).mono ?_
    intro e w' hR
    have := h w hV hS e w' hR
    cases e with
    | returned v =>
      have hS' := hSt w w' hS this.1
      have k := this.2 qs w' hq (Below.refl _ _) hS' (hok.below this.1)
      rw [setL_set, setA_put d v qs a (by
       intro q hq' he
       have : d ∈ ps.map (·.d) := by
        rw [← hq, ← he]
        exact List.mem_map_of_mem (List.mem_map_of_mem hq')
       simp [this] at hnd)] at k
      rw [hd]
      exact ⟨hS', k⟩
    | _ => exact this.elim
   ·obtain ⟨p, g, r, rfl, rfl⟩ := pend_split qs hp
    have hlt := cnt_lt p g r
    first
     | (exfalso; omega)
     | refine Fl.alloc hfa hq ?_ (hSt _ _ hS ((Below.refl _ _).alloc (Nat.le_refl _) _))
       have hcn : cnt (p ++ (g, some w.heap.size) :: r) = cnt (p ++ (g, none) :: r) + 1 := by simp only [cnt_app, cnt]; omega
       have hl2 : (p ++ (g, some w.heap.size) :: r).length = (p ++ (g, none) :: r).length := by simp
       have := ih (p ++ (g, some w.heap.size) :: r) (w.alloc (.cells g.zs g.T)) (by omega) (by rw [← hq]; simp) (belowAlloc hV _) (hSt _ _ hS ((Below.refl _ _).alloc (Nat.le_refl _) _)) (hok.fresh (Nat.le_trans hN hV.size))
       rw [hcn] at this
       rw [show F - cnt (p ++ (g, none) :: r) = F + 1 - (cnt (p ++ (g, none) :: r) + 1) by omega]
       exact this
 exact fun qs w => main _ qs w rfl
theorem Fl.take (i : Nat) (d : Tmp) {o : Oper} {v : Value} {N F : Nat} {ps : List Fa} {listed : Array Bool} {a a' : Act} {V : World}
  (h : Fl P md ops Q S N ps F (listed.setIfInBounds i true) a' V)
  (ho : ops[i]? = some o := by rfl) (hd : o.dst = some d := by rfl) (hs : Region.noSelect ops = true := by as_aux_lemma => kernel_rfl)
  (hfr : freeAt md ops ps listed i = true := by as_aux_lemma => kernel_rfl) (hbl : blind ops ps o = true := by as_aux_lemma => kernel_rfl) (hnd : (ps.map (·.d)).contains d = false := by as_aux_lemma => kernel_rfl) (hF : Nat.ble ps.length F = true := by rfl)
  (hw : Region.wanted o (yielded ops a.tmps) = true := by as_aux_lemma => kernel_rfl)
  (hv : ∀ w, S w → (execOp a.eval o).run P w = .ok (.value v) w := by (intro w hSw; (try dsimp only at hSw); go_simp; all_goals with_reducible rfl))
  (hQ : ∀ c a w, Q (.panic c) (a.put (some d) v) w → Q (.panic c) a w := by exact (fun _ _ _ h => h))
  (ha : a.put (some d) v = a' := by (simp only [Act.put, List.setIfInBounds_toArray, List.set_cons_zero, List.set_cons_succ]; rfl)) : Fl P md ops Q S N ps (F + 1) listed a V := by
 subst ha
 intro qs w hq hV hS hok
 have hF' := Nat.le_of_ble_eq_true hF
 have hlen : qs.length = ps.length := by rw [← hq, List.length_map]
 have hc := cnt_le qs
 have hsp := pat_of hfr hq
 simp only [setL_norm, Bool.and_eq_true] at hsp
 have hb := exec_setA hs ho qs a (by rw [hq]; exact hbl)
 have k := h qs w hq hV hS hok
 rw [setL_set, setA_put d v qs a (by
  intro q hq' he
  have : d ∈ ps.map (·.d) := by
   rw [← hq, ← he]
   exact List.mem_map_of_mem (List.mem_map_of_mem hq')
  simp [this] at hnd)] at k
 rw [show F + 1 - cnt qs = (F - cnt qs) + 1 by omega]
 refine wpAnyH_take ho hs hsp.2 hsp.1 (by rw [hd]; exact hQ) (Or.inl ⟨hb.2.trans hw, fun w' hS' => ?_⟩) hS (by rw [hd]; exact k)
 rw [hb.1]
 exact hv w' hS'
theorem Fl.close {N F : Nat} {ps : List Fa} {listed : Array Bool} {a : Act} {V : World}
  (h : ∀ qs w, qs.map (·.1) = ps → pend qs = [] → Below V.heap.size V w → S w → okA N w qs → wpAnyH P md ops Q S (F - cnt qs) (setL qs listed) (setA qs a) w)
  (hfa : FaAll P ops ps) (hSt : ∀ w w', S w → Below w.heap.size w w' → S w') (hN : N ≤ V.heap.size)
  (hsh : shapeEnd md ops ps listed = true) (hF : Nat.ble ps.length F = true) : Fl P md ops Q S N ps F listed a V := by
 have hF' := Nat.le_of_ble_eq_true hF
 have main : ∀ n qs w, qs.length - cnt qs = n → qs.map (·.1) = ps → Below V.heap.size V w → S w → okA N w qs → wpAnyH P md ops Q S (F - cnt qs) (setL qs listed) (setA qs a) w := by
  intro n
  induction n with
  | zero => ?_
  | succ n ih => ?_
  all_goals
   intro qs w hn hq hV hS hok
   by_cases hp0 : pend qs = []
   ·exact h qs w hq hp0 hV hS hok
   have hlen : qs.length = ps.length := by rw [← hq, List.length_map]
   have hc := cnt_le qs
   have hsp := pat_of hsh hq
   simp only [setL_norm, pend_norm, Bool.or_eq_true, Bool.and_eq_true, List.all_eq_true, List.contains_iff_mem, List.isEmpty_iff, hp0, false_or, Bool.not_eq_true', List.isEmpty_eq_false_iff] at hsp
   obtain ⟨j0, hj0⟩ := List.exists_mem_of_ne_nil _ hp0
   obtain ⟨p0, g0, r0, rfl, _⟩ := pend_split qs hj0
   have hlt := cnt_lt p0 g0 r0
   rw [show F - cnt (p0 ++ (g0, none) :: r0) = (F - cnt (p0 ++ (g0, none) :: r0) - 1) + 1 by omega]
   refine ⟨fun h0 => absurd h0 hsp.1, fun j hj => ?_⟩
   obtain ⟨p, g, r, he, rfl⟩ := pend_split _ (hsp.2 j hj)
   first
    | (exfalso; omega)
    | rw [he] at hq hok hn hc hlt ⊢
      refine Fl.alloc hfa hq ?_ (hSt _ _ hS ((Below.refl _ _).alloc (Nat.le_refl _) _))
      have hcn : cnt (p ++ (g, some w.heap.size) :: r) = cnt (p ++ (g, none) :: r) + 1 := by simp only [cnt_app, cnt]; omega
      have hl2 : (p ++ (g, some w.heap.size) :: r).length = (p ++ (g, none) :: r).length := by simp
      have := ih (p ++ (g, some w.heap.size) :: r) (w.alloc (.cells g.zs g.T)) (by omega) (by rw [← hq]; simp) (belowAlloc hV _) (hSt _ _ hS ((Below.refl _ _).alloc (Nat.le_refl _) _)) (hok.fresh (Nat.le_trans hN hV.size))
      rw [hcn] at this
      rw [show F - cnt (p ++ (g, none) :: r) - 1 = F - (cnt (p ++ (g, none) :: r) + 1) by omega]
      exact this
 exact fun qs w => main _ qs w rfl
end
end
section
section
variable {P : Program} {ops : Array Oper} {Q : Exit → Act → World → Prop} {md : Region.Mode} {S : World → Prop}
theorem FaOk.of {i : Nat} {d : Tmp} {T : TypeId} {zs : Array Value} (run : ∀ w, (Instr.alloc T true (.tuple #[])).run P w = .ok (.pointer (some ⟨w.heap.size, 0, none⟩)) (w.alloc (.cells zs T)))
  (op : ∃ o, ops[i]? = some o ∧ o.guard = none ∧ o.op = .alloc T ∧ o.dst = some d := by exact ⟨_, rfl, rfl, rfl, rfl⟩) : FaOk P ops ⟨i, d, T, zs⟩ := ⟨op, run⟩
theorem FaAll.nil : FaAll P ops [] := ⟨fun _ h => (nomatch h), List.nodup_nil⟩
theorem FaAll.cons {f : Fa} {ps : List Fa} (h : FaOk P ops f) (k : FaAll P ops ps) (hn : (ps.map (·.d)).contains f.d = false := by rfl) : FaAll P ops (f :: ps) :=
 ⟨fun g hg => (List.mem_cons.1 hg).elim (fun e => e ▸ h) (fun hg => k.1 g hg), (by
  rw [List.map_cons, List.nodup_cons]
  exact ⟨fun hm => (by simp [hm] at hn), k.2⟩)⟩
theorem Fl.open {F : Nat} {listed : Array Bool} {a : Act} {V : World} (ps : List Fa) (hfa : FaAll P ops ps) (h : FaAll P ops ps → Fl P md ops Q S V.heap.size ps F listed a V) (hS : S V := by assumption) : wpAnyH P md ops Q S F listed a V :=
 Fl.start ps (h hfa) hS
theorem Fl.pt {N F : Nat} {ps : List Fa} {listed : Array Bool} {a a' : Act} {V : World} (h : Fl P md ops Q S N ps F listed a' V) (ha : a = a' := by (simp only [Act.put, List.setIfInBounds_toArray, List.set_cons_zero, List.set_cons_succ]; rfl)) : Fl P md ops Q S N ps F listed a V := by
 subst ha
 exact h
section
variable {N F : Nat} {listed : Array Bool} {a : Act} {V : World} {i1 i2 i3 i4 : Nat} {d1 d2 d3 d4 : Tmp} {T1 T2 T3 T4 : TypeId} {z1 z2 z3 z4 : Array Value}
theorem Fl.close1 (h : ∀ B1 w, Below V.heap.size V w → S w → N ≤ B1 → Box w B1 T1 z1 → wpAnyH P md ops Q S F (listed.setIfInBounds i1 true) (a.put (some d1) (.pointer (some ⟨B1, 0, none⟩))) w)
  (hfa : FaAll P ops [⟨i1, d1, T1, z1⟩] := by assumption) (hSt : ∀ w w', S w → Below w.heap.size w w' → S w' := by first | exact (fun w w' h k => belowS (belowCall (And.right h) k)) | exact (fun w w' h k => KeepBut.S (KeepBut.call (And.right h) k)) | exact (fun w w' h k => belowCall h k)) (hN : N ≤ V.heap.size := by assumption)
  (hsh : shapeEnd md ops [⟨i1, d1, T1, z1⟩] listed = true := by as_aux_lemma => kernel_rfl) : Fl P md ops Q S N [⟨i1, d1, T1, z1⟩] (F + 1) listed a V := by
 refine Fl.close (fun qs w hq hp hV hS hok => ?_) hfa hSt hN hsh (Nat.ble_eq_true_of_le (by simp))
 match qs, hq with
 | [(_, o1)], hq =>
   cases hq
   cases o1 with
   | none => cases hp
   | some B1 =>
     have b1 := hok.1 _ (List.mem_cons_self ..) _ rfl
     exact h B1 w hV hS b1.1 b1.2
theorem Fl.close2 (h : ∀ B1 B2 w, Below V.heap.size V w → S w → N ≤ B1 → N ≤ B2 → B1 ≠ B2 → Box w B1 T1 z1 → Box w B2 T2 z2 → wpAnyH P md ops Q S F ((listed.setIfInBounds i1 true).setIfInBounds i2 true) ((a.put (some d1) (.pointer (some ⟨B1, 0, none⟩))).put (some d2) (.pointer (some ⟨B2, 0, none⟩))) w)
  (hfa : FaAll P ops [⟨i1, d1, T1, z1⟩, ⟨i2, d2, T2, z2⟩] := by assumption) (hSt : ∀ w w', S w → Below w.heap.size w w' → S w' := by first | exact (fun w w' h k => belowS (belowCall (And.right h) k)) | exact (fun w w' h k => KeepBut.S (KeepBut.call (And.right h) k)) | exact (fun w w' h k => belowCall h k)) (hN : N ≤ V.heap.size := by assumption)
  (hsh : shapeEnd md ops [⟨i1, d1, T1, z1⟩, ⟨i2, d2, T2, z2⟩] listed = true := by as_aux_lemma => kernel_rfl) : Fl P md ops Q S N [⟨i1, d1, T1, z1⟩, ⟨i2, d2, T2, z2⟩] (F + 2) listed a V := by
 refine Fl.close (fun qs w hq hp hV hS hok => ?_) hfa hSt hN hsh (Nat.ble_eq_true_of_le (by simp))
 match qs, hq with
 | [(_, o1), (_, o2)], hq =>
   cases hq
   cases o1 with
   | none => cases hp
   | some B1 =>
     cases o2 with
     | none => cases hp
     | some B2 =>
       have b1 := hok.1 _ (List.mem_cons_self ..) _ rfl
       have b2 := hok.1 _ (List.mem_cons_of_mem _ (List.mem_cons_self ..)) _ rfl
       have hne := List.rel_of_pairwise_cons hok.2 (List.mem_cons_self ..) B1 rfl
       exact h B1 B2 w hV hS b1.1 b2.1 (fun he => hne (by rw [he])) b1.2 b2.2
theorem Fl.close3 (h : ∀ B1 B2 B3 w, Below V.heap.size V w → S w → N ≤ B1 → N ≤ B2 → N ≤ B3 → B1 ≠ B2 → B1 ≠ B3 → B2 ≠ B3 → Box w B1 T1 z1 → Box w B2 T2 z2 → Box w B3 T3 z3 → wpAnyH P md ops Q S F (((listed.setIfInBounds i1 true).setIfInBounds i2 true).setIfInBounds i3 true) (((a.put (some d1) (.pointer (some ⟨B1, 0, none⟩))).put (some d2) (.pointer (some ⟨B2, 0, none⟩))).put (some d3) (.pointer (some ⟨B3, 0, none⟩))) w)
  (hfa : FaAll P ops [⟨i1, d1, T1, z1⟩, ⟨i2, d2, T2, z2⟩, ⟨i3, d3, T3, z3⟩] := by assumption) (hSt : ∀ w w', S w → Below w.heap.size w w' → S w' := by first | exact (fun w w' h k => belowS (belowCall (And.right h) k)) | exact (fun w w' h k => KeepBut.S (KeepBut.call (And.right h) k)) | exact (fun w w' h k => belowCall h k)) (hN : N ≤ V.heap.size := by assumption)
  (hsh : shapeEnd md ops [⟨i1, d1, T1, z1⟩, ⟨i2, d2, T2, z2⟩, ⟨i3, d3, T3, z3⟩] listed = true := by as_aux_lemma => kernel_rfl) : Fl P md ops Q S N [⟨i1, d1, T1, z1⟩, ⟨i2, d2, T2, z2⟩, ⟨i3, d3, T3, z3⟩] (F + 3) listed a V := by
 refine Fl.close (fun qs w hq hp hV hS hok => ?_) hfa hSt hN hsh (Nat.ble_eq_true_of_le (by simp))
 match qs, hq with
 | [(_, o1), (_, o2), (_, o3)], hq =>
   cases hq
   cases o1 with
   | none => cases hp
   | some B1 =>
     cases o2 with
     | none => cases hp
     | some B2 =>
       cases o3 with
       | none => cases hp
       | some B3 =>
         have b1 := hok.1 _ (List.mem_cons_self ..) _ rfl
         have b2 := hok.1 _ (List.mem_cons_of_mem _ (List.mem_cons_self ..)) _ rfl
         have b3 := hok.1 _ (List.mem_cons_of_mem _ (List.mem_cons_of_mem _ (List.mem_cons_self ..))) _ rfl
         have n1 := List.rel_of_pairwise_cons hok.2 (List.mem_cons_self ..) B1 rfl
         have n2 := List.rel_of_pairwise_cons hok.2 (List.mem_cons_of_mem _ (List.mem_cons_self ..)) B1 rfl
         have n3 := List.rel_of_pairwise_cons (List.Pairwise.of_cons hok.2) (List.mem_cons_self ..) B2 rfl
         exact h B1 B2 B3 w hV hS b1.1 b2.1 b3.1 (fun he => n1 (by rw [he])) (fun he => n2 (by rw [he])) (fun he => n3 (by rw [he])) b1.2 b2.2 b3.2
end
end
end
def Flm.join (f g : Flm) : Flm := ⟨f.ix, f.p * g.q + g.p * f.q, f.q * g.q - f.p * g.p⟩
theorem sq_join (f g : Flm) : (f.join g).sq = f.sq * g.sq := by
 unfold Flm.join Flm.sq; grind
theorem ratcast_mul_ne {n m : Int} (h : n ≠ 0) (g : m ≠ 0) : ((n * m : Int) : Rat) ≠ 0 := ratcast_ne (by
 intro e
 rcases Int.mul_eq_zero.1 e with h1 | h1
 ·exact h h1
 ·exact g h1)
theorem cos_join {f g : Flm} (hf : f.sq ≠ 0) (hg : g.sq ≠ 0) : (f.join g).cos = f.cos * g.cos - f.sin * g.sin := by
 unfold Flm.cos Flm.sin
 rw [sq_join, Rat.divInt_mul_divInt, Rat.divInt_mul_divInt, Rat.divInt_sub_divInt _ _ (by intro e; rcases Int.mul_eq_zero.1 e with h | h <;> contradiction) (by intro e; rcases Int.mul_eq_zero.1 e with h | h <;> contradiction), ← Int.sub_mul,
  Rat.divInt_mul_right (by intro e; rcases Int.mul_eq_zero.1 e with h | h <;> contradiction)]
 congr 1
 unfold Flm.join; grind
theorem sin_join {f g : Flm} (hf : f.sq ≠ 0) (hg : g.sq ≠ 0) : (f.join g).sin = f.sin * g.cos + f.cos * g.sin := by
 unfold Flm.cos Flm.sin
 rw [sq_join, Rat.divInt_mul_divInt, Rat.divInt_mul_divInt, Rat.divInt_add_divInt _ _ (by intro e; rcases Int.mul_eq_zero.1 e with h | h <;> contradiction) (by intro e; rcases Int.mul_eq_zero.1 e with h | h <;> contradiction), ← Int.add_mul,
  Rat.divInt_mul_right (by intro e; rcases Int.mul_eq_zero.1 e with h | h <;> contradiction)]
 congr 1
 unfold Flm.join; grind
theorem mat_join {f g : Flm} (hf : f.sq ≠ 0) (hg : g.sq ≠ 0) (hi : g.ix = f.ix) (h0 : f.ix ≠ 0) : f.mat.mul g.mat = (f.join g).mat := by
 have e1 := cos_join hf hg
 have e2 := sin_join hf hg
 have e3 : (f.join g).ix = f.ix := rfl
 have hn := idx_ne h0
 apply Mat.ext <;> simp only [Mat.mul, Flm.mat, e1, e2, e3, hi] <;> grind
theorem mat_none (n q : Int) (hq : q ≠ 0) : (Flm.mk n 0 q).mat = Mat.one := by
 have hqq : q * q ≠ 0 := by intro e; rcases Int.mul_eq_zero.1 e with h | h <;> contradiction
 have h1 : (Flm.mk n 0 q).cos = 1 := by
  simp only [Flm.cos, Flm.sq, Int.mul_zero, Int.sub_zero, Int.add_zero]
  rw [Rat.divInt_eq_div]
  have := ratcast_ne hqq
  grind
 have h2 : (Flm.mk n 0 q).sin = 0 := by
  simp only [Flm.sin, Int.mul_zero, Int.zero_mul]
  exact Rat.zero_divInt _
 apply Mat.ext <;> simp only [Flm.mat, Mat.one, h1, h2] <;> grind
theorem ends_ahead (n m c s : Rat) (x : Mat) (hc : c * c + s * s = 1) (hn : n ≠ 0) : big n m (Mat.mul ⟨c, s / n, n * s, c⟩ x) = big n m x ∧ low n m (Mat.mul ⟨c, s / n, n * s, c⟩ x) = low n m x := by
 obtain ⟨t, ht⟩ : ∃ t, s / n = t := ⟨_, rfl⟩
 have hs : s = n * t := by grind
 have e1 : ∀ X Y : Rat, (c * X - s * Y) * (c * X - s * Y) + (c * Y + s * X) * (c * Y + s * X) = X * X + Y * Y := by
  intro X Y
  have : (c * X - s * Y) * (c * X - s * Y) + (c * Y + s * X) * (c * Y + s * X) = (c * c + s * s) * (X * X + Y * Y) := by grind
  rw [this, hc]; grind
 constructor
 ·have := e1 (n * x.a + m * x.d) (n * m * x.b + x.c)
  unfold big
  simp only [Mat.mul, ht]
  rw [← this]
  have p1 : n * (c * x.a - t * x.c) + m * (c * x.d - n * s * x.b) = c * (n * x.a + m * x.d) - s * (n * m * x.b + x.c) := by rw [hs]; grind
  have p2 : n * m * (c * x.b + t * x.d) + (n * s * x.a + c * x.c) = c * (n * m * x.b + x.c) + s * (n * x.a + m * x.d) := by rw [hs]; grind
  rw [p1, p2]
 ·have := e1 (n * x.a - m * x.d) (x.c - n * m * x.b)
  unfold low
  simp only [Mat.mul, ht]
  have q : (n * m * x.b - x.c) * (n * m * x.b - x.c) = (x.c - n * m * x.b) * (x.c - n * m * x.b) := by grind
  rw [q, ← this]
  have p1 : n * (c * x.a - t * x.c) - m * (c * x.d - n * s * x.b) = c * (n * x.a - m * x.d) - s * (x.c - n * m * x.b) := by rw [hs]; grind
  have p2 : n * m * (c * x.b + t * x.d) - (n * s * x.a + c * x.c) = -(c * (x.c - n * m * x.b) + s * (n * x.a - m * x.d)) := by rw [hs]; grind
  rw [p1, p2]
  grind
theorem ends_behind (n m c s : Rat) (x : Mat) (hc : c * c + s * s = 1) (hm : m ≠ 0) : big n m (x.mul ⟨c, s / m, m * s, c⟩) = big n m x ∧ low n m (x.mul ⟨c, s / m, m * s, c⟩) = low n m x := by
 have h := ends_ahead m n c s x.turn hc hm
 have hb : ∀ y : Mat, big m n y.turn = big n m y := fun y => by unfold big Mat.turn; grind
 have hl : ∀ y : Mat, low m n y.turn = low n m y := fun y => by unfold low Mat.turn; grind
 have e : (x.mul ⟨c, s / m, m * s, c⟩).turn = Mat.mul ⟨c, s / m, m * s, c⟩ x.turn := by rw [Mat.turn_mul]; rfl
 rw [← hb, ← hl, e, h.1, h.2, hb, hl]
 exact ⟨rfl, rfl⟩
theorem stack_ends (n m : Int) (f g : Flm) (l : List Flm) (hn : n ≠ 0) (hm : m ≠ 0) (hf : f.ix = n) (hg : g.ix = m) (hf0 : f.sq ≠ 0) (hg0 : g.sq ≠ 0) :
  back (idx n) (idx m) (stackM (f :: (l ++ [g]))) = back (idx n) (idx m) (stackM l) ∧ through (idx n) (idx m) (stackM (f :: (l ++ [g]))) = through (idx n) (idx m) (stackM l) := by
 rw [stackM_cons, stackM_snoc]
 have a := ends_ahead (idx n) (idx m) f.cos f.sin ((stackM l).mul g.mat) (f.cs hf0) (idx_ne hn)
 have b := ends_behind (idx n) (idx m) g.cos g.sin (stackM l) (g.cs hg0) (idx_ne hm)
 have ef : f.mat = ⟨f.cos, f.sin / idx n, idx n * f.sin, f.cos⟩ := by unfold Flm.mat; rw [hf]
 have eg : g.mat = ⟨g.cos, g.sin / idx m, idx m * g.sin, g.cos⟩ := by unfold Flm.mat; rw [hg]
 rw [← ef] at a
 rw [← eg] at b
 unfold back through
 rw [a.1, a.2, b.1, b.2]
 exact ⟨rfl, rfl⟩
end Go.Mono
namespace Go.Proofs.YtcgfdibagldafaaGreatDoor
open Go.RowKit Go.Mono Go.Ex
theorem own_slf {D : Den} {ρ : Nm} {w : World} {bk : List (Nat × Blk)} (hB : BkOk D ρ w w bk) {k len : Nat} (f : Nat → Int) {v : Value} (hu : denU D ρ w (.own k len 1) [v]) {b : Blk} (hl : bk.look k = some b) (hT : b.T = 3) (hd : b.dead = false) (hr : b.ro = false) (hc : b.cells = clsL f len) (h3 : len ≤ 3) :
  SlF w v len f := by
 obtain ⟨B, hB1, g1, g2, g3, g4⟩ := hu
 obtain ⟨B', cs, k1, k2, k3, k4⟩ := hB k b hl hd
 cases k1.symm.trans hB1
 obtain rfl : v = .slice (some ⟨B.blk, 0, none⟩) len B.cap := by simpa using g4
 rw [hc] at k3
 have hcs : cs = clsC f len := by
  have hl2 := k3
  match len, h3 with
  | 0, _ => exact hl2
  | 1, _ => obtain ⟨c1, d1, rfl, e1, e2⟩ := hl2; obtain rfl : c1 = [_] := e1; obtain rfl : d1 = [] := e2; rfl
  | 2, _ => obtain ⟨c1, d1, rfl, e1, c2, d2, rfl, e2, e3⟩ := hl2; obtain rfl : c1 = [_] := e1; obtain rfl : c2 = [_] := e2; obtain rfl : d2 = [] := e3; rfl
  | 3, _ => obtain ⟨c1, d1, rfl, e1, c2, d2, rfl, e2, c3, d3, rfl, e3, e4⟩ := hl2; obtain rfl : c1 = [_] := e1; obtain rfl : c2 = [_] := e2; obtain rfl : c3 = [_] := e3; obtain rfl : d3 = [] := e4; rfl
 rcases k2 with ⟨g, _⟩ | ⟨g, _, rest, _, _, hbox⟩
 ·rw [k4, hr] at g; cases g
 ·refine .inr ⟨B.blk, 0, B.cap, (cs ++ rest).toArray, (0, 0), rfl, g1, by omega, by rw [← hT]; exact hbox.blk, fun i hi => ?_⟩
  rw [Nat.zero_add, hcs]
  match len, h3, hi with
  | 1, _, hi => obtain rfl : i = 0 := (by omega); rfl
  | 2, _, hi => rcases (by omega : i = 0 ∨ i = 1) with rfl | rfl <;> rfl
  | 3, _, hi => rcases (by omega : i = 0 ∨ i = 1 ∨ i = 2) with rfl | rfl | rfl <;> rfl
theorem odd00 (s : Bool) (p q : Option Addr) (c e : Nat) (f g : Nat → Int) (w : World) (hN : OddL w p 0 c f) (hD : OddL w q 0 e g) :
  Calls Tryz.prog 24 #[.agg #[.slice p 0 c, .slice q 0 e, .bool s]] w fun e' w' => ∃ v1 v2, e' = .returned (.agg #[.bool s, v1, .bool false, v2]) ∧ SlF w' v1 0 f ∧ SlF w' v2 0 g ∧ Below w.heap.size w w' := by
 obtain ⟨bN, oN, hvN⟩ := odd_view hN
 obtain ⟨bD, oD, hvD⟩ := odd_view hD
 have hev : ∀ w0 : World, (evF Tryz.prog (w0 := w0) (X := fun _ => False) (D := qDen kZ kZ1) [] [] 3 [] 24 [.agg [clsU 0 0 0, clsU 0 0 0, .val (.bool s)]] [] 0 0 []).map (fun r => (r.v, r.obl, (r.wr.look 99).map (fun b => (b.T, b.dead, b.ro, b.cells)), (r.wr.look 99).map (fun b => (b.T, b.dead, b.ro, b.cells)), r.pan)) =
   some (.a (.agg [.val (.bool s), .val (.slice none 0 0), .val (.bool false), .val (.slice none 0 0)]), [], none, none, none) := fun w0 => by kernel_rfl
 obtain ⟨r, hr, he⟩ := Option.map_eq_some_iff.1 (hev w)
 simp only [Prod.mk.injEq] at he
 obtain ⟨e1, e2, e3, e4, e5⟩ := he
 refine (evRunV (D := qDen kZ kZ1) (d := 3) (vs := []) (orc := []) (args := [.agg [clsU 0 0 0, clsU 0 0 0, .val (.bool s)]]) (vals := [.agg #[.slice p 0 c, .slice q 0 e, .bool s]]) wide_ [] [] [] rfl rfl (.a (.agg [.val (.bool s), .val (.slice none 0 0), .val (.bool false), .val (.slice none 0 0)])) [] r.wr (Eq.trans (congrArg (Option.map fun r => (r.v, r.obl, r.wr, r.pan)) hr) (by rw [Option.map_some, e1, e2, e5])) trivial ?_ ?_).mono ?_
 ·intro v hv
  cases hv
 ·exact ⟨_, [], rfl, ⟨[.slice p 0 c, .slice q 0 e, .bool s], rfl, [_], _, rfl, ⟨p, c, hN.2, rfl⟩, [_], _, rfl, ⟨q, e, hD.2, rfl⟩, [_], [], rfl, ⟨rfl, rfl⟩, rfl⟩, rfl⟩
 ·rintro e' w' ⟨v, ρ', rfl, ⟨cs, rfl, c1, d1, rfl, ⟨rfl, _⟩, c2, d2, rfl, hu1, c3, d3, rfl, ⟨rfl, _⟩, c4, d4, rfl, hu2, hd⟩, hbl, _, hB, _⟩
  obtain rfl : d4 = [] := hd
  obtain ⟨rfl, _⟩ := hu1
  have s0 : SlF w' (.slice none 0 0) 0 f := .inl ⟨rfl, rfl⟩
  obtain ⟨rfl, _⟩ := hu2
  have s1 : SlF w' (.slice none 0 0) 0 g := .inl ⟨rfl, rfl⟩
  exact ⟨_, _, rfl, s0, s1, hbl⟩
theorem odd01 (s : Bool) (p q : Option Addr) (c e : Nat) (f g : Nat → Int) (w : World) (hN : OddL w p 0 c f) (hD : OddL w q 1 e g) :
  Calls Tryz.prog 24 #[.agg #[.slice p 0 c, .slice q 1 e, .bool s]] w fun e' w' => ∃ v1 v2, e' = .returned (.agg #[.bool s, v1, .bool false, v2]) ∧ SlF w' v1 0 f ∧ SlF w' v2 1 g ∧ Below w.heap.size w w' := by
 obtain ⟨bN, oN, hvN⟩ := odd_view hN
 obtain ⟨bD, oD, hvD⟩ := odd_view hD
 obtain ⟨rfl, lD, rD⟩ := hvD (by omega)
 rw [show cls 1 = 1 from rfl] at rD
 have hev : ∀ w0 : World, (evF Tryz.prog (w0 := w0) (X := fun _ => False) (D := qDen kZ kZ1) [] [] 3 [] 24 [.agg [clsU 0 0 0, clsU 0 1 1, .val (.bool s)]] [(0, ⟨3, clsL g 1, true, false, false⟩)] 1 1 []).map (fun r => (r.v, r.obl, (r.wr.look 99).map (fun b => (b.T, b.dead, b.ro, b.cells)), (r.wr.look 3).map (fun b => (b.T, b.dead, b.ro, b.cells)), r.pan)) =
   some (.a (.agg [.val (.bool s), .val (.slice none 0 0), .val (.bool false), .own 3 1 1]), [], none, some (3, false, false, clsL g 1), none) := fun w0 => by kernel_rfl
 obtain ⟨r, hr, he⟩ := Option.map_eq_some_iff.1 (hev w)
 simp only [Prod.mk.injEq] at he
 obtain ⟨e1, e2, e3, e4, e5⟩ := he
 refine (evRunV (D := qDen kZ kZ1) (d := 3) (vs := [⟨3, clsL g 1, bD, oD, clsC g 1⟩]) (orc := []) (args := [.agg [clsU 0 0 0, clsU 0 1 1, .val (.bool s)]]) (vals := [.agg #[.slice p 0 c, .slice (some ⟨bD, oD, none⟩) 1 e, .bool s]]) wide_ [] [] [(0, ⟨3, clsL g 1, true, false, false⟩)] rfl rfl (.a (.agg [.val (.bool s), .val (.slice none 0 0), .val (.bool false), .own 3 1 1])) [] r.wr (Eq.trans (congrArg (Option.map fun r => (r.v, r.obl, r.wr, r.pan)) hr) (by rw [Option.map_some, e1, e2, e5])) trivial ?_ ?_).mono ?_
 ·intro v hv
  obtain rfl : v = _ := by simpa using hv
  exact ⟨lD, rD, clsL_den g 1⟩
 ·exact ⟨_, [], rfl, ⟨[.slice p 0 c, .slice (some ⟨bD, oD, none⟩) 1 e, .bool s], rfl, [_], _, rfl, ⟨p, c, hN.2, rfl⟩, [_], _, rfl, ⟨⟨bD, oD, true, 0, 0⟩, e, rfl, hD.1.1, rfl⟩, [_], [], rfl, ⟨rfl, rfl⟩, rfl⟩, rfl⟩
 ·rintro e' w' ⟨v, ρ', rfl, ⟨cs, rfl, c1, d1, rfl, ⟨rfl, _⟩, c2, d2, rfl, hu1, c3, d3, rfl, ⟨rfl, _⟩, c4, d4, rfl, hu2, hd⟩, hbl, _, hB, _⟩
  obtain rfl : d4 = [] := hd
  obtain ⟨rfl, _⟩ := hu1
  have s0 : SlF w' (.slice none 0 0) 0 f := .inl ⟨rfl, rfl⟩
  obtain ⟨x1, hx1, ex1⟩ := Option.map_eq_some_iff.1 e4
  simp only [Prod.mk.injEq] at ex1
  obtain ⟨y11, y12, y13, y14⟩ := ex1
  obtain ⟨u1, rfl⟩ : ∃ u, c4 = [u] := List.length_eq_one_iff.1 hu2.len
  have s1 := own_slf hB g hu2 (by rw [look_append, hx1]; rfl) y11 y12 y13 y14 (by omega)
  exact ⟨_, _, rfl, s0, s1, hbl⟩
theorem odd02 (s : Bool) (p q : Option Addr) (c e : Nat) (f g : Nat → Int) (w : World) (hN : OddL w p 0 c f) (hD : OddL w q 2 e g) :
  Calls Tryz.prog 24 #[.agg #[.slice p 0 c, .slice q 2 e, .bool s]] w fun e' w' => ∃ v1 v2, e' = .returned (.agg #[.bool s, v1, .bool false, v2]) ∧ SlF w' v1 0 f ∧ SlF w' v2 2 g ∧ Below w.heap.size w w' := by
 obtain ⟨bN, oN, hvN⟩ := odd_view hN
 obtain ⟨bD, oD, hvD⟩ := odd_view hD
 obtain ⟨rfl, lD, rD⟩ := hvD (by omega)
 rw [show cls 2 = 2 from rfl] at rD
 have hev : ∀ w0 : World, (evF Tryz.prog (w0 := w0) (X := fun _ => False) (D := qDen kZ kZ1) [] [] 3 [] 24 [.agg [clsU 0 0 0, clsU 0 2 2, .val (.bool s)]] [(0, ⟨3, clsL g 2, true, false, false⟩)] 1 1 []).map (fun r => (r.v, r.obl, (r.wr.look 99).map (fun b => (b.T, b.dead, b.ro, b.cells)), (r.wr.look 3).map (fun b => (b.T, b.dead, b.ro, b.cells)), r.pan)) =
   some (.a (.agg [.val (.bool s), .val (.slice none 0 0), .val (.bool false), .own 3 2 1]), [], none, some (3, false, false, clsL g 2), none) := fun w0 => by kernel_rfl
 obtain ⟨r, hr, he⟩ := Option.map_eq_some_iff.1 (hev w)
 simp only [Prod.mk.injEq] at he
 obtain ⟨e1, e2, e3, e4, e5⟩ := he
 refine (evRunV (D := qDen kZ kZ1) (d := 3) (vs := [⟨3, clsL g 2, bD, oD, clsC g 2⟩]) (orc := []) (args := [.agg [clsU 0 0 0, clsU 0 2 2, .val (.bool s)]]) (vals := [.agg #[.slice p 0 c, .slice (some ⟨bD, oD, none⟩) 2 e, .bool s]]) wide_ [] [] [(0, ⟨3, clsL g 2, true, false, false⟩)] rfl rfl (.a (.agg [.val (.bool s), .val (.slice none 0 0), .val (.bool false), .own 3 2 1])) [] r.wr (Eq.trans (congrArg (Option.map fun r => (r.v, r.obl, r.wr, r.pan)) hr) (by rw [Option.map_some, e1, e2, e5])) trivial ?_ ?_).mono ?_
 ·intro v hv
  obtain rfl : v = _ := by simpa using hv
  exact ⟨lD, rD, clsL_den g 2⟩
 ·exact ⟨_, [], rfl, ⟨[.slice p 0 c, .slice (some ⟨bD, oD, none⟩) 2 e, .bool s], rfl, [_], _, rfl, ⟨p, c, hN.2, rfl⟩, [_], _, rfl, ⟨⟨bD, oD, true, 0, 0⟩, e, rfl, hD.1.1, rfl⟩, [_], [], rfl, ⟨rfl, rfl⟩, rfl⟩, rfl⟩
 ·rintro e' w' ⟨v, ρ', rfl, ⟨cs, rfl, c1, d1, rfl, ⟨rfl, _⟩, c2, d2, rfl, hu1, c3, d3, rfl, ⟨rfl, _⟩, c4, d4, rfl, hu2, hd⟩, hbl, _, hB, _⟩
  obtain rfl : d4 = [] := hd
  obtain ⟨rfl, _⟩ := hu1
  have s0 : SlF w' (.slice none 0 0) 0 f := .inl ⟨rfl, rfl⟩
  obtain ⟨x1, hx1, ex1⟩ := Option.map_eq_some_iff.1 e4
  simp only [Prod.mk.injEq] at ex1
  obtain ⟨y11, y12, y13, y14⟩ := ex1
  obtain ⟨u1, rfl⟩ : ∃ u, c4 = [u] := List.length_eq_one_iff.1 hu2.len
  have s1 := own_slf hB g hu2 (by rw [look_append, hx1]; rfl) y11 y12 y13 y14 (by omega)
  exact ⟨_, _, rfl, s0, s1, hbl⟩
theorem odd03 (s : Bool) (p q : Option Addr) (m c e : Nat) (f g : Nat → Int) (w : World) (h3m : 3 ≤ m) (hN : OddL w p 0 c f) (hD : OddL w q m e g) :
  Calls Tryz.prog 24 #[.agg #[.slice p 0 c, .slice q m e, .bool s]] w fun e' w' => ∃ v1 v2, e' = .returned (.agg #[.bool s, v1, .bool false, v2]) ∧ SlF w' v1 0 f ∧ SlF w' v2 3 g ∧ Below w.heap.size w w' := by
 obtain ⟨bN, oN, hvN⟩ := odd_view hN
 obtain ⟨bD, oD, hvD⟩ := odd_view hD
 obtain ⟨rfl, lD, rD⟩ := hvD (by omega)
 rw [show cls m = 3 from by unfold cls; rw [if_neg (by omega)]] at rD
 have hev : ∀ w0 : World, (evF Tryz.prog (w0 := w0) (X := fun _ => False) (D := qDen kZ kZ1) [] [] 3 [] 24 [.agg [clsU 0 0 0, clsU 0 3 m, .val (.bool s)]] [(0, ⟨3, clsL g 3, true, false, false⟩)] 1 1 [some false]).map (fun r => (r.v, r.obl, (r.wr.look 99).map (fun b => (b.T, b.dead, b.ro, b.cells)), (r.wr.look 3).map (fun b => (b.T, b.dead, b.ro, b.cells)), r.pan)) =
   some (.a (.agg [.val (.bool s), .val (.slice none 0 0), .val (.bool false), .own 3 3 1]), [(3 : Int) ≤ (m : Int)], none, some (3, false, false, clsL g 3), none) := fun w0 => by kernel_rfl
 obtain ⟨r, hr, he⟩ := Option.map_eq_some_iff.1 (hev w)
 simp only [Prod.mk.injEq] at he
 obtain ⟨e1, e2, e3, e4, e5⟩ := he
 refine (evRunV (D := qDen kZ kZ1) (d := 3) (vs := [⟨3, clsL g 3, bD, oD, clsC g 3⟩]) (orc := [some false]) (args := [.agg [clsU 0 0 0, clsU 0 3 m, .val (.bool s)]]) (vals := [.agg #[.slice p 0 c, .slice (some ⟨bD, oD, none⟩) m e, .bool s]]) wide_ [] [] [(0, ⟨3, clsL g 3, true, false, false⟩)] rfl rfl (.a (.agg [.val (.bool s), .val (.slice none 0 0), .val (.bool false), .own 3 3 1])) [(3 : Int) ≤ (m : Int)] r.wr (Eq.trans (congrArg (Option.map fun r => (r.v, r.obl, r.wr, r.pan)) hr) (by rw [Option.map_some, e1, e2, e5])) ⟨by omega, trivial⟩ ?_ ?_).mono ?_
 ·intro v hv
  obtain rfl : v = _ := by simpa using hv
  exact ⟨lD, rD, clsL_den g 3⟩
 ·exact ⟨_, [], rfl, ⟨[.slice p 0 c, .slice (some ⟨bD, oD, none⟩) m e, .bool s], rfl, [_], _, rfl, ⟨p, c, hN.2, rfl⟩, [_], _, rfl, ⟨⟨bD, oD, true, 0, 0⟩, e, rfl, by omega, hD.1.1, rfl⟩, [_], [], rfl, ⟨rfl, rfl⟩, rfl⟩, rfl⟩
 ·rintro e' w' ⟨v, ρ', rfl, ⟨cs, rfl, c1, d1, rfl, ⟨rfl, _⟩, c2, d2, rfl, hu1, c3, d3, rfl, ⟨rfl, _⟩, c4, d4, rfl, hu2, hd⟩, hbl, _, hB, _⟩
  obtain rfl : d4 = [] := hd
  obtain ⟨rfl, _⟩ := hu1
  have s0 : SlF w' (.slice none 0 0) 0 f := .inl ⟨rfl, rfl⟩
  obtain ⟨x1, hx1, ex1⟩ := Option.map_eq_some_iff.1 e4
  simp only [Prod.mk.injEq] at ex1
  obtain ⟨y11, y12, y13, y14⟩ := ex1
  obtain ⟨u1, rfl⟩ : ∃ u, c4 = [u] := List.length_eq_one_iff.1 hu2.len
  have s1 := own_slf hB g hu2 (by rw [look_append, hx1]; rfl) y11 y12 y13 y14 (by omega)
  exact ⟨_, _, rfl, s0, s1, hbl⟩
theorem odd10 (s : Bool) (p q : Option Addr) (c e : Nat) (f g : Nat → Int) (w : World) (hN : OddL w p 1 c f) (hD : OddL w q 0 e g) :
  Calls Tryz.prog 24 #[.agg #[.slice p 1 c, .slice q 0 e, .bool s]] w fun e' w' => ∃ v1 v2, e' = .returned (.agg #[.bool s, v1, .bool false, v2]) ∧ SlF w' v1 1 f ∧ SlF w' v2 0 g ∧ Below w.heap.size w w' := by
 obtain ⟨bN, oN, hvN⟩ := odd_view hN
 obtain ⟨bD, oD, hvD⟩ := odd_view hD
 obtain ⟨rfl, lN, rN⟩ := hvN (by omega)
 rw [show cls 1 = 1 from rfl] at rN
 have hev : ∀ w0 : World, (evF Tryz.prog (w0 := w0) (X := fun _ => False) (D := qDen kZ kZ1) [] [] 3 [] 24 [.agg [clsU 0 1 1, clsU 1 0 0, .val (.bool s)]] [(0, ⟨3, clsL f 1, true, false, false⟩)] 1 1 []).map (fun r => (r.v, r.obl, (r.wr.look 3).map (fun b => (b.T, b.dead, b.ro, b.cells)), (r.wr.look 99).map (fun b => (b.T, b.dead, b.ro, b.cells)), r.pan)) =
   some (.a (.agg [.val (.bool s), .own 3 1 1, .val (.bool false), .val (.slice none 0 0)]), [], some (3, false, false, clsL f 1), none, none) := fun w0 => by kernel_rfl
 obtain ⟨r, hr, he⟩ := Option.map_eq_some_iff.1 (hev w)
 simp only [Prod.mk.injEq] at he
 obtain ⟨e1, e2, e3, e4, e5⟩ := he
 refine (evRunV (D := qDen kZ kZ1) (d := 3) (vs := [⟨3, clsL f 1, bN, oN, clsC f 1⟩]) (orc := []) (args := [.agg [clsU 0 1 1, clsU 1 0 0, .val (.bool s)]]) (vals := [.agg #[.slice (some ⟨bN, oN, none⟩) 1 c, .slice q 0 e, .bool s]]) wide_ [] [] [(0, ⟨3, clsL f 1, true, false, false⟩)] rfl rfl (.a (.agg [.val (.bool s), .own 3 1 1, .val (.bool false), .val (.slice none 0 0)])) [] r.wr (Eq.trans (congrArg (Option.map fun r => (r.v, r.obl, r.wr, r.pan)) hr) (by rw [Option.map_some, e1, e2, e5])) trivial ?_ ?_).mono ?_
 ·intro v hv
  obtain rfl : v = _ := by simpa using hv
  exact ⟨lN, rN, clsL_den f 1⟩
 ·exact ⟨_, [], rfl, ⟨[.slice (some ⟨bN, oN, none⟩) 1 c, .slice q 0 e, .bool s], rfl, [_], _, rfl, ⟨⟨bN, oN, true, 0, 0⟩, c, rfl, hN.1.1, rfl⟩, [_], _, rfl, ⟨q, e, hD.2, rfl⟩, [_], [], rfl, ⟨rfl, rfl⟩, rfl⟩, rfl⟩
 ·rintro e' w' ⟨v, ρ', rfl, ⟨cs, rfl, c1, d1, rfl, ⟨rfl, _⟩, c2, d2, rfl, hu1, c3, d3, rfl, ⟨rfl, _⟩, c4, d4, rfl, hu2, hd⟩, hbl, _, hB, _⟩
  obtain rfl : d4 = [] := hd
  obtain ⟨x0, hx0, ex0⟩ := Option.map_eq_some_iff.1 e3
  simp only [Prod.mk.injEq] at ex0
  obtain ⟨y01, y02, y03, y04⟩ := ex0
  obtain ⟨u0, rfl⟩ : ∃ u, c2 = [u] := List.length_eq_one_iff.1 hu1.len
  have s0 := own_slf hB f hu1 (by rw [look_append, hx0]; rfl) y01 y02 y03 y04 (by omega)
  obtain ⟨rfl, _⟩ := hu2
  have s1 : SlF w' (.slice none 0 0) 0 g := .inl ⟨rfl, rfl⟩
  exact ⟨_, _, rfl, s0, s1, hbl⟩
theorem odd11 (s : Bool) (p q : Option Addr) (c e : Nat) (f g : Nat → Int) (w : World) (hN : OddL w p 1 c f) (hD : OddL w q 1 e g) :
  Calls Tryz.prog 24 #[.agg #[.slice p 1 c, .slice q 1 e, .bool s]] w fun e' w' => ∃ v1 v2, e' = .returned (.agg #[.bool s, v1, .bool false, v2]) ∧ SlF w' v1 1 f ∧ SlF w' v2 1 g ∧ Below w.heap.size w w' := by
 obtain ⟨bN, oN, hvN⟩ := odd_view hN
 obtain ⟨bD, oD, hvD⟩ := odd_view hD
 obtain ⟨rfl, lN, rN⟩ := hvN (by omega)
 rw [show cls 1 = 1 from rfl] at rN
 obtain ⟨rfl, lD, rD⟩ := hvD (by omega)
 rw [show cls 1 = 1 from rfl] at rD
 have hev : ∀ w0 : World, (evF Tryz.prog (w0 := w0) (X := fun _ => False) (D := qDen kZ kZ1) [] [] 3 [] 24 [.agg [clsU 0 1 1, clsU 1 1 1, .val (.bool s)]] [(0, ⟨3, clsL f 1, true, false, false⟩), (1, ⟨3, clsL g 1, true, false, false⟩)] 2 2 []).map (fun r => (r.v, r.obl, (r.wr.look 4).map (fun b => (b.T, b.dead, b.ro, b.cells)), (r.wr.look 5).map (fun b => (b.T, b.dead, b.ro, b.cells)), r.pan)) =
   some (.a (.agg [.val (.bool s), .own 4 1 1, .val (.bool false), .own 5 1 1]), [], some (3, false, false, clsL f 1), some (3, false, false, clsL g 1), none) := fun w0 => by kernel_rfl
 obtain ⟨r, hr, he⟩ := Option.map_eq_some_iff.1 (hev w)
 simp only [Prod.mk.injEq] at he
 obtain ⟨e1, e2, e3, e4, e5⟩ := he
 refine (evRunV (D := qDen kZ kZ1) (d := 3) (vs := [⟨3, clsL f 1, bN, oN, clsC f 1⟩, ⟨3, clsL g 1, bD, oD, clsC g 1⟩]) (orc := []) (args := [.agg [clsU 0 1 1, clsU 1 1 1, .val (.bool s)]]) (vals := [.agg #[.slice (some ⟨bN, oN, none⟩) 1 c, .slice (some ⟨bD, oD, none⟩) 1 e, .bool s]]) wide_ [] [] [(0, ⟨3, clsL f 1, true, false, false⟩), (1, ⟨3, clsL g 1, true, false, false⟩)] rfl rfl (.a (.agg [.val (.bool s), .own 4 1 1, .val (.bool false), .own 5 1 1])) [] r.wr (Eq.trans (congrArg (Option.map fun r => (r.v, r.obl, r.wr, r.pan)) hr) (by rw [Option.map_some, e1, e2, e5])) trivial ?_ ?_).mono ?_
 ·intro v hv
  simp only [List.mem_cons, List.not_mem_nil, or_false] at hv
  rcases hv with rfl | rfl
  ·exact ⟨lN, rN, clsL_den f 1⟩
  ·exact ⟨lD, rD, clsL_den g 1⟩
 ·exact ⟨_, [], rfl, ⟨[.slice (some ⟨bN, oN, none⟩) 1 c, .slice (some ⟨bD, oD, none⟩) 1 e, .bool s], rfl, [_], _, rfl, ⟨⟨bN, oN, true, 0, 0⟩, c, rfl, hN.1.1, rfl⟩, [_], _, rfl, ⟨⟨bD, oD, true, 0, 0⟩, e, rfl, hD.1.1, rfl⟩, [_], [], rfl, ⟨rfl, rfl⟩, rfl⟩, rfl⟩
 ·rintro e' w' ⟨v, ρ', rfl, ⟨cs, rfl, c1, d1, rfl, ⟨rfl, _⟩, c2, d2, rfl, hu1, c3, d3, rfl, ⟨rfl, _⟩, c4, d4, rfl, hu2, hd⟩, hbl, _, hB, _⟩
  obtain rfl : d4 = [] := hd
  obtain ⟨x0, hx0, ex0⟩ := Option.map_eq_some_iff.1 e3
  simp only [Prod.mk.injEq] at ex0
  obtain ⟨y01, y02, y03, y04⟩ := ex0
  obtain ⟨u0, rfl⟩ : ∃ u, c2 = [u] := List.length_eq_one_iff.1 hu1.len
  have s0 := own_slf hB f hu1 (by rw [look_append, hx0]; rfl) y01 y02 y03 y04 (by omega)
  obtain ⟨x1, hx1, ex1⟩ := Option.map_eq_some_iff.1 e4
  simp only [Prod.mk.injEq] at ex1
  obtain ⟨y11, y12, y13, y14⟩ := ex1
  obtain ⟨u1, rfl⟩ : ∃ u, c4 = [u] := List.length_eq_one_iff.1 hu2.len
  have s1 := own_slf hB g hu2 (by rw [look_append, hx1]; rfl) y11 y12 y13 y14 (by omega)
  exact ⟨_, _, rfl, s0, s1, hbl⟩
theorem odd12 (s : Bool) (p q : Option Addr) (c e : Nat) (f g : Nat → Int) (w : World) (hN : OddL w p 1 c f) (hD : OddL w q 2 e g) :
  Calls Tryz.prog 24 #[.agg #[.slice p 1 c, .slice q 2 e, .bool s]] w fun e' w' => ∃ v1 v2, e' = .returned (.agg #[.bool s, v1, .bool false, v2]) ∧ SlF w' v1 1 f ∧ SlF w' v2 2 g ∧ Below w.heap.size w w' := by
 obtain ⟨bN, oN, hvN⟩ := odd_view hN
 obtain ⟨bD, oD, hvD⟩ := odd_view hD
 obtain ⟨rfl, lN, rN⟩ := hvN (by omega)
 rw [show cls 1 = 1 from rfl] at rN
 obtain ⟨rfl, lD, rD⟩ := hvD (by omega)
 rw [show cls 2 = 2 from rfl] at rD
 have hev : ∀ w0 : World, (evF Tryz.prog (w0 := w0) (X := fun _ => False) (D := qDen kZ kZ1) [] [] 3 [] 24 [.agg [clsU 0 1 1, clsU 1 2 2, .val (.bool s)]] [(0, ⟨3, clsL f 1, true, false, false⟩), (1, ⟨3, clsL g 2, true, false, false⟩)] 2 2 []).map (fun r => (r.v, r.obl, (r.wr.look 4).map (fun b => (b.T, b.dead, b.ro, b.cells)), (r.wr.look 5).map (fun b => (b.T, b.dead, b.ro, b.cells)), r.pan)) =
   some (.a (.agg [.val (.bool s), .own 4 1 1, .val (.bool false), .own 5 2 1]), [], some (3, false, false, clsL f 1), some (3, false, false, clsL g 2), none) := fun w0 => by kernel_rfl
 obtain ⟨r, hr, he⟩ := Option.map_eq_some_iff.1 (hev w)
 simp only [Prod.mk.injEq] at he
 obtain ⟨e1, e2, e3, e4, e5⟩ := he
 refine (evRunV (D := qDen kZ kZ1) (d := 3) (vs := [⟨3, clsL f 1, bN, oN, clsC f 1⟩, ⟨3, clsL g 2, bD, oD, clsC g 2⟩]) (orc := []) (args := [.agg [clsU 0 1 1, clsU 1 2 2, .val (.bool s)]]) (vals := [.agg #[.slice (some ⟨bN, oN, none⟩) 1 c, .slice (some ⟨bD, oD, none⟩) 2 e, .bool s]]) wide_ [] [] [(0, ⟨3, clsL f 1, true, false, false⟩), (1, ⟨3, clsL g 2, true, false, false⟩)] rfl rfl (.a (.agg [.val (.bool s), .own 4 1 1, .val (.bool false), .own 5 2 1])) [] r.wr (Eq.trans (congrArg (Option.map fun r => (r.v, r.obl, r.wr, r.pan)) hr) (by rw [Option.map_some, e1, e2, e5])) trivial ?_ ?_).mono ?_
 ·intro v hv
  simp only [List.mem_cons, List.not_mem_nil, or_false] at hv
  rcases hv with rfl | rfl
  ·exact ⟨lN, rN, clsL_den f 1⟩
  ·exact ⟨lD, rD, clsL_den g 2⟩
 ·exact ⟨_, [], rfl, ⟨[.slice (some ⟨bN, oN, none⟩) 1 c, .slice (some ⟨bD, oD, none⟩) 2 e, .bool s], rfl, [_], _, rfl, ⟨⟨bN, oN, true, 0, 0⟩, c, rfl, hN.1.1, rfl⟩, [_], _, rfl, ⟨⟨bD, oD, true, 0, 0⟩, e, rfl, hD.1.1, rfl⟩, [_], [], rfl, ⟨rfl, rfl⟩, rfl⟩, rfl⟩
 ·rintro e' w' ⟨v, ρ', rfl, ⟨cs, rfl, c1, d1, rfl, ⟨rfl, _⟩, c2, d2, rfl, hu1, c3, d3, rfl, ⟨rfl, _⟩, c4, d4, rfl, hu2, hd⟩, hbl, _, hB, _⟩
  obtain rfl : d4 = [] := hd
  obtain ⟨x0, hx0, ex0⟩ := Option.map_eq_some_iff.1 e3
  simp only [Prod.mk.injEq] at ex0
  obtain ⟨y01, y02, y03, y04⟩ := ex0
  obtain ⟨u0, rfl⟩ : ∃ u, c2 = [u] := List.length_eq_one_iff.1 hu1.len
  have s0 := own_slf hB f hu1 (by rw [look_append, hx0]; rfl) y01 y02 y03 y04 (by omega)
  obtain ⟨x1, hx1, ex1⟩ := Option.map_eq_some_iff.1 e4
  simp only [Prod.mk.injEq] at ex1
  obtain ⟨y11, y12, y13, y14⟩ := ex1
  obtain ⟨u1, rfl⟩ : ∃ u, c4 = [u] := List.length_eq_one_iff.1 hu2.len
  have s1 := own_slf hB g hu2 (by rw [look_append, hx1]; rfl) y11 y12 y13 y14 (by omega)
  exact ⟨_, _, rfl, s0, s1, hbl⟩
theorem odd13 (s : Bool) (p q : Option Addr) (m c e : Nat) (f g : Nat → Int) (w : World) (h3m : 3 ≤ m) (hN : OddL w p 1 c f) (hD : OddL w q m e g) :
  Calls Tryz.prog 24 #[.agg #[.slice p 1 c, .slice q m e, .bool s]] w fun e' w' => ∃ v1 v2, e' = .returned (.agg #[.bool s, v1, .bool false, v2]) ∧ SlF w' v1 1 f ∧ SlF w' v2 3 g ∧ Below w.heap.size w w' := by
 obtain ⟨bN, oN, hvN⟩ := odd_view hN
 obtain ⟨bD, oD, hvD⟩ := odd_view hD
 obtain ⟨rfl, lN, rN⟩ := hvN (by omega)
 rw [show cls 1 = 1 from rfl] at rN
 obtain ⟨rfl, lD, rD⟩ := hvD (by omega)
 rw [show cls m = 3 from by unfold cls; rw [if_neg (by omega)]] at rD
 have hev : ∀ w0 : World, (evF Tryz.prog (w0 := w0) (X := fun _ => False) (D := qDen kZ kZ1) [] [] 3 [] 24 [.agg [clsU 0 1 1, clsU 1 3 m, .val (.bool s)]] [(0, ⟨3, clsL f 1, true, false, false⟩), (1, ⟨3, clsL g 3, true, false, false⟩)] 2 2 [some false]).map (fun r => (r.v, r.obl, (r.wr.look 4).map (fun b => (b.T, b.dead, b.ro, b.cells)), (r.wr.look 5).map (fun b => (b.T, b.dead, b.ro, b.cells)), r.pan)) =
   some (.a (.agg [.val (.bool s), .own 4 1 1, .val (.bool false), .own 5 3 1]), [(3 : Int) ≤ (m : Int)], some (3, false, false, clsL f 1), some (3, false, false, clsL g 3), none) := fun w0 => by kernel_rfl
 obtain ⟨r, hr, he⟩ := Option.map_eq_some_iff.1 (hev w)
 simp only [Prod.mk.injEq] at he
 obtain ⟨e1, e2, e3, e4, e5⟩ := he
 refine (evRunV (D := qDen kZ kZ1) (d := 3) (vs := [⟨3, clsL f 1, bN, oN, clsC f 1⟩, ⟨3, clsL g 3, bD, oD, clsC g 3⟩]) (orc := [some false]) (args := [.agg [clsU 0 1 1, clsU 1 3 m, .val (.bool s)]]) (vals := [.agg #[.slice (some ⟨bN, oN, none⟩) 1 c, .slice (some ⟨bD, oD, none⟩) m e, .bool s]]) wide_ [] [] [(0, ⟨3, clsL f 1, true, false, false⟩), (1, ⟨3, clsL g 3, true, false, false⟩)] rfl rfl (.a (.agg [.val (.bool s), .own 4 1 1, .val (.bool false), .own 5 3 1])) [(3 : Int) ≤ (m : Int)] r.wr (Eq.trans (congrArg (Option.map fun r => (r.v, r.obl, r.wr, r.pan)) hr) (by rw [Option.map_some, e1, e2, e5])) ⟨by omega, trivial⟩ ?_ ?_).mono ?_
 ·intro v hv
  simp only [List.mem_cons, List.not_mem_nil, or_false] at hv
  rcases hv with rfl | rfl
  ·exact ⟨lN, rN, clsL_den f 1⟩
  ·exact ⟨lD, rD, clsL_den g 3⟩
 ·exact ⟨_, [], rfl, ⟨[.slice (some ⟨bN, oN, none⟩) 1 c, .slice (some ⟨bD, oD, none⟩) m e, .bool s], rfl, [_], _, rfl, ⟨⟨bN, oN, true, 0, 0⟩, c, rfl, hN.1.1, rfl⟩, [_], _, rfl, ⟨⟨bD, oD, true, 0, 0⟩, e, rfl, by omega, hD.1.1, rfl⟩, [_], [], rfl, ⟨rfl, rfl⟩, rfl⟩, rfl⟩
 ·rintro e' w' ⟨v, ρ', rfl, ⟨cs, rfl, c1, d1, rfl, ⟨rfl, _⟩, c2, d2, rfl, hu1, c3, d3, rfl, ⟨rfl, _⟩, c4, d4, rfl, hu2, hd⟩, hbl, _, hB, _⟩
  obtain rfl : d4 = [] := hd
  obtain ⟨x0, hx0, ex0⟩ := Option.map_eq_some_iff.1 e3
  simp only [Prod.mk.injEq] at ex0
  obtain ⟨y01, y02, y03, y04⟩ := ex0
  obtain ⟨u0, rfl⟩ : ∃ u, c2 = [u] := List.length_eq_one_iff.1 hu1.len
  have s0 := own_slf hB f hu1 (by rw [look_append, hx0]; rfl) y01 y02 y03 y04 (by omega)
  obtain ⟨x1, hx1, ex1⟩ := Option.map_eq_some_iff.1 e4
  simp only [Prod.mk.injEq] at ex1
  obtain ⟨y11, y12, y13, y14⟩ := ex1
  obtain ⟨u1, rfl⟩ : ∃ u, c4 = [u] := List.length_eq_one_iff.1 hu2.len
  have s1 := own_slf hB g hu2 (by rw [look_append, hx1]; rfl) y11 y12 y13 y14 (by omega)
  exact ⟨_, _, rfl, s0, s1, hbl⟩
theorem odd20 (s : Bool) (p q : Option Addr) (c e : Nat) (f g : Nat → Int) (w : World) (hN : OddL w p 2 c f) (hD : OddL w q 0 e g) :
  Calls Tryz.prog 24 #[.agg #[.slice p 2 c, .slice q 0 e, .bool s]] w fun e' w' => ∃ v1 v2, e' = .returned (.agg #[.bool s, v1, .bool false, v2]) ∧ SlF w' v1 2 f ∧ SlF w' v2 0 g ∧ Below w.heap.size w w' := by
 obtain ⟨bN, oN, hvN⟩ := odd_view hN
 obtain ⟨bD, oD, hvD⟩ := odd_view hD
 obtain ⟨rfl, lN, rN⟩ := hvN (by omega)
 rw [show cls 2 = 2 from rfl] at rN
 have hev : ∀ w0 : World, (evF Tryz.prog (w0 := w0) (X := fun _ => False) (D := qDen kZ kZ1) [] [] 3 [] 24 [.agg [clsU 0 2 2, clsU 1 0 0, .val (.bool s)]] [(0, ⟨3, clsL f 2, true, false, false⟩)] 1 1 []).map (fun r => (r.v, r.obl, (r.wr.look 3).map (fun b => (b.T, b.dead, b.ro, b.cells)), (r.wr.look 99).map (fun b => (b.T, b.dead, b.ro, b.cells)), r.pan)) =
   some (.a (.agg [.val (.bool s), .own 3 2 1, .val (.bool false), .val (.slice none 0 0)]), [], some (3, false, false, clsL f 2), none, none) := fun w0 => by kernel_rfl
 obtain ⟨r, hr, he⟩ := Option.map_eq_some_iff.1 (hev w)
 simp only [Prod.mk.injEq] at he
 obtain ⟨e1, e2, e3, e4, e5⟩ := he
 refine (evRunV (D := qDen kZ kZ1) (d := 3) (vs := [⟨3, clsL f 2, bN, oN, clsC f 2⟩]) (orc := []) (args := [.agg [clsU 0 2 2, clsU 1 0 0, .val (.bool s)]]) (vals := [.agg #[.slice (some ⟨bN, oN, none⟩) 2 c, .slice q 0 e, .bool s]]) wide_ [] [] [(0, ⟨3, clsL f 2, true, false, false⟩)] rfl rfl (.a (.agg [.val (.bool s), .own 3 2 1, .val (.bool false), .val (.slice none 0 0)])) [] r.wr (Eq.trans (congrArg (Option.map fun r => (r.v, r.obl, r.wr, r.pan)) hr) (by rw [Option.map_some, e1, e2, e5])) trivial ?_ ?_).mono ?_
 ·intro v hv
  obtain rfl : v = _ := by simpa using hv
  exact ⟨lN, rN, clsL_den f 2⟩
 ·exact ⟨_, [], rfl, ⟨[.slice (some ⟨bN, oN, none⟩) 2 c, .slice q 0 e, .bool s], rfl, [_], _, rfl, ⟨⟨bN, oN, true, 0, 0⟩, c, rfl, hN.1.1, rfl⟩, [_], _, rfl, ⟨q, e, hD.2, rfl⟩, [_], [], rfl, ⟨rfl, rfl⟩, rfl⟩, rfl⟩
 ·rintro e' w' ⟨v, ρ', rfl, ⟨cs, rfl, c1, d1, rfl, ⟨rfl, _⟩, c2, d2, rfl, hu1, c3, d3, rfl, ⟨rfl, _⟩, c4, d4, rfl, hu2, hd⟩, hbl, _, hB, _⟩
  obtain rfl : d4 = [] := hd
  obtain ⟨x0, hx0, ex0⟩ := Option.map_eq_some_iff.1 e3
  simp only [Prod.mk.injEq] at ex0
  obtain ⟨y01, y02, y03, y04⟩ := ex0
  obtain ⟨u0, rfl⟩ : ∃ u, c2 = [u] := List.length_eq_one_iff.1 hu1.len
  have s0 := own_slf hB f hu1 (by rw [look_append, hx0]; rfl) y01 y02 y03 y04 (by omega)
  obtain ⟨rfl, _⟩ := hu2
  have s1 : SlF w' (.slice none 0 0) 0 g := .inl ⟨rfl, rfl⟩
  exact ⟨_, _, rfl, s0, s1, hbl⟩
theorem odd21 (s : Bool) (p q : Option Addr) (c e : Nat) (f g : Nat → Int) (w : World) (hN : OddL w p 2 c f) (hD : OddL w q 1 e g) :
  Calls Tryz.prog 24 #[.agg #[.slice p 2 c, .slice q 1 e, .bool s]] w fun e' w' => ∃ v1 v2, e' = .returned (.agg #[.bool s, v1, .bool false, v2]) ∧ SlF w' v1 2 f ∧ SlF w' v2 1 g ∧ Below w.heap.size w w' := by
 obtain ⟨bN, oN, hvN⟩ := odd_view hN
 obtain ⟨bD, oD, hvD⟩ := odd_view hD
 obtain ⟨rfl, lN, rN⟩ := hvN (by omega)
 rw [show cls 2 = 2 from rfl] at rN
 obtain ⟨rfl, lD, rD⟩ := hvD (by omega)
 rw [show cls 1 = 1 from rfl] at rD
 have hev : ∀ w0 : World, (evF Tryz.prog (w0 := w0) (X := fun _ => False) (D := qDen kZ kZ1) [] [] 3 [] 24 [.agg [clsU 0 2 2, clsU 1 1 1, .val (.bool s)]] [(0, ⟨3, clsL f 2, true, false, false⟩), (1, ⟨3, clsL g 1, true, false, false⟩)] 2 2 []).map (fun r => (r.v, r.obl, (r.wr.look 4).map (fun b => (b.T, b.dead, b.ro, b.cells)), (r.wr.look 5).map (fun b => (b.T, b.dead, b.ro, b.cells)), r.pan)) =
   some (.a (.agg [.val (.bool s), .own 4 2 1, .val (.bool false), .own 5 1 1]), [], some (3, false, false, clsL f 2), some (3, false, false, clsL g 1), none) := fun w0 => by kernel_rfl
 obtain ⟨r, hr, he⟩ := Option.map_eq_some_iff.1 (hev w)
 simp only [Prod.mk.injEq] at he
 obtain ⟨e1, e2, e3, e4, e5⟩ := he
 refine (evRunV (D := qDen kZ kZ1) (d := 3) (vs := [⟨3, clsL f 2, bN, oN, clsC f 2⟩, ⟨3, clsL g 1, bD, oD, clsC g 1⟩]) (orc := []) (args := [.agg [clsU 0 2 2, clsU 1 1 1, .val (.bool s)]]) (vals := [.agg #[.slice (some ⟨bN, oN, none⟩) 2 c, .slice (some ⟨bD, oD, none⟩) 1 e, .bool s]]) wide_ [] [] [(0, ⟨3, clsL f 2, true, false, false⟩), (1, ⟨3, clsL g 1, true, false, false⟩)] rfl rfl (.a (.agg [.val (.bool s), .own 4 2 1, .val (.bool false), .own 5 1 1])) [] r.wr (Eq.trans (congrArg (Option.map fun r => (r.v, r.obl, r.wr, r.pan)) hr) (by rw [Option.map_some, e1, e2, e5])) trivial ?_ ?_).mono ?_
 ·intro v hv
  simp only [List.mem_cons, List.not_mem_nil, or_false] at hv
  rcases hv with rfl | rfl
  ·exact ⟨lN, rN, clsL_den f 2⟩
  ·exact ⟨lD, rD, clsL_den g 1⟩
 ·exact ⟨_, [], rfl, ⟨[.slice (some ⟨bN, oN, none⟩) 2 c, .slice (some ⟨bD, oD, none⟩) 1 e, .bool s], rfl, [_], _, rfl, ⟨⟨bN, oN, true, 0, 0⟩, c, rfl, hN.1.1, rfl⟩, [_], _, rfl, ⟨⟨bD, oD, true, 0, 0⟩, e, rfl, hD.1.1, rfl⟩, [_], [], rfl, ⟨rfl, rfl⟩, rfl⟩, rfl⟩
 ·rintro e' w' ⟨v, ρ', rfl, ⟨cs, rfl, c1, d1, rfl, ⟨rfl, _⟩, c2, d2, rfl, hu1, c3, d3, rfl, ⟨rfl, _⟩, c4, d4, rfl, hu2, hd⟩, hbl, _, hB, _⟩
  obtain rfl : d4 = [] := hd
  obtain ⟨x0, hx0, ex0⟩ := Option.map_eq_some_iff.1 e3
  simp only [Prod.mk.injEq] at ex0
  obtain ⟨y01, y02, y03, y04⟩ := ex0
  obtain ⟨u0, rfl⟩ : ∃ u, c2 = [u] := List.length_eq_one_iff.1 hu1.len
  have s0 := own_slf hB f hu1 (by rw [look_append, hx0]; rfl) y01 y02 y03 y04 (by omega)
  obtain ⟨x1, hx1, ex1⟩ := Option.map_eq_some_iff.1 e4
  simp only [Prod.mk.injEq] at ex1
  obtain ⟨y11, y12, y13, y14⟩ := ex1
  obtain ⟨u1, rfl⟩ : ∃ u, c4 = [u] := List.length_eq_one_iff.1 hu2.len
  have s1 := own_slf hB g hu2 (by rw [look_append, hx1]; rfl) y11 y12 y13 y14 (by omega)
  exact ⟨_, _, rfl, s0, s1, hbl⟩
theorem odd22 (s : Bool) (p q : Option Addr) (c e : Nat) (f g : Nat → Int) (w : World) (hN : OddL w p 2 c f) (hD : OddL w q 2 e g) :
  Calls Tryz.prog 24 #[.agg #[.slice p 2 c, .slice q 2 e, .bool s]] w fun e' w' => ∃ v1 v2, e' = .returned (.agg #[.bool s, v1, .bool false, v2]) ∧ SlF w' v1 2 f ∧ SlF w' v2 2 g ∧ Below w.heap.size w w' := by
 obtain ⟨bN, oN, hvN⟩ := odd_view hN
 obtain ⟨bD, oD, hvD⟩ := odd_view hD
 obtain ⟨rfl, lN, rN⟩ := hvN (by omega)
 rw [show cls 2 = 2 from rfl] at rN
 obtain ⟨rfl, lD, rD⟩ := hvD (by omega)
 rw [show cls 2 = 2 from rfl] at rD
 have hev : ∀ w0 : World, (evF Tryz.prog (w0 := w0) (X := fun _ => False) (D := qDen kZ kZ1) [] [] 3 [] 24 [.agg [clsU 0 2 2, clsU 1 2 2, .val (.bool s)]] [(0, ⟨3, clsL f 2, true, false, false⟩), (1, ⟨3, clsL g 2, true, false, false⟩)] 2 2 []).map (fun r => (r.v, r.obl, (r.wr.look 4).map (fun b => (b.T, b.dead, b.ro, b.cells)), (r.wr.look 5).map (fun b => (b.T, b.dead, b.ro, b.cells)), r.pan)) =
   some (.a (.agg [.val (.bool s), .own 4 2 1, .val (.bool false), .own 5 2 1]), [], some (3, false, false, clsL f 2), some (3, false, false, clsL g 2), none) := fun w0 => by kernel_rfl
 obtain ⟨r, hr, he⟩ := Option.map_eq_some_iff.1 (hev w)
 simp only [Prod.mk.injEq] at he
 obtain ⟨e1, e2, e3, e4, e5⟩ := he
 refine (evRunV (D := qDen kZ kZ1) (d := 3) (vs := [⟨3, clsL f 2, bN, oN, clsC f 2⟩, ⟨3, clsL g 2, bD, oD, clsC g 2⟩]) (orc := []) (args := [.agg [clsU 0 2 2, clsU 1 2 2, .val (.bool s)]]) (vals := [.agg #[.slice (some ⟨bN, oN, none⟩) 2 c, .slice (some ⟨bD, oD, none⟩) 2 e, .bool s]]) wide_ [] [] [(0, ⟨3, clsL f 2, true, false, false⟩), (1, ⟨3, clsL g 2, true, false, false⟩)] rfl rfl (.a (.agg [.val (.bool s), .own 4 2 1, .val (.bool false), .own 5 2 1])) [] r.wr (Eq.trans (congrArg (Option.map fun r => (r.v, r.obl, r.wr, r.pan)) hr) (by rw [Option.map_some, e1, e2, e5])) trivial ?_ ?_).mono ?_
 ·intro v hv
  simp only [List.mem_cons, List.not_mem_nil, or_false] at hv
  rcases hv with rfl | rfl
  ·exact ⟨lN, rN, clsL_den f 2⟩
  ·exact ⟨lD, rD, clsL_den g 2⟩
 ·exact ⟨_, [], rfl, ⟨[.slice (some ⟨bN, oN, none⟩) 2 c, .slice (some ⟨bD, oD, none⟩) 2 e, .bool s], rfl, [_], _, rfl, ⟨⟨bN, oN, true, 0, 0⟩, c, rfl, hN.1.1, rfl⟩, [_], _, rfl, ⟨⟨bD, oD, true, 0, 0⟩, e, rfl, hD.1.1, rfl⟩, [_], [], rfl, ⟨rfl, rfl⟩, rfl⟩, rfl⟩
 ·rintro e' w' ⟨v, ρ', rfl, ⟨cs, rfl, c1, d1, rfl, ⟨rfl, _⟩, c2, d2, rfl, hu1, c3, d3, rfl, ⟨rfl, _⟩, c4, d4, rfl, hu2, hd⟩, hbl, _, hB, _⟩
  obtain rfl : d4 = [] := hd
  obtain ⟨x0, hx0, ex0⟩ := Option.map_eq_some_iff.1 e3
  simp only [Prod.mk.injEq] at ex0
  obtain ⟨y01, y02, y03, y04⟩ := ex0
  obtain ⟨u0, rfl⟩ : ∃ u, c2 = [u] := List.length_eq_one_iff.1 hu1.len
  have s0 := own_slf hB f hu1 (by rw [look_append, hx0]; rfl) y01 y02 y03 y04 (by omega)
  obtain ⟨x1, hx1, ex1⟩ := Option.map_eq_some_iff.1 e4
  simp only [Prod.mk.injEq] at ex1
  obtain ⟨y11, y12, y13, y14⟩ := ex1
  obtain ⟨u1, rfl⟩ : ∃ u, c4 = [u] := List.length_eq_one_iff.1 hu2.len
  have s1 := own_slf hB g hu2 (by rw [look_append, hx1]; rfl) y11 y12 y13 y14 (by omega)
  exact ⟨_, _, rfl, s0, s1, hbl⟩
theorem odd23 (s : Bool) (p q : Option Addr) (m c e : Nat) (f g : Nat → Int) (w : World) (h3m : 3 ≤ m) (hN : OddL w p 2 c f) (hD : OddL w q m e g) :
  Calls Tryz.prog 24 #[.agg #[.slice p 2 c, .slice q m e, .bool s]] w fun e' w' => ∃ v1 v2, e' = .returned (.agg #[.bool s, v1, .bool false, v2]) ∧ SlF w' v1 2 f ∧ SlF w' v2 3 g ∧ Below w.heap.size w w' := by
 obtain ⟨bN, oN, hvN⟩ := odd_view hN
 obtain ⟨bD, oD, hvD⟩ := odd_view hD
 obtain ⟨rfl, lN, rN⟩ := hvN (by omega)
 rw [show cls 2 = 2 from rfl] at rN
 obtain ⟨rfl, lD, rD⟩ := hvD (by omega)
 rw [show cls m = 3 from by unfold cls; rw [if_neg (by omega)]] at rD
 have hev : ∀ w0 : World, (evF Tryz.prog (w0 := w0) (X := fun _ => False) (D := qDen kZ kZ1) [] [] 3 [] 24 [.agg [clsU 0 2 2, clsU 1 3 m, .val (.bool s)]] [(0, ⟨3, clsL f 2, true, false, false⟩), (1, ⟨3, clsL g 3, true, false, false⟩)] 2 2 [some false]).map (fun r => (r.v, r.obl, (r.wr.look 4).map (fun b => (b.T, b.dead, b.ro, b.cells)), (r.wr.look 5).map (fun b => (b.T, b.dead, b.ro, b.cells)), r.pan)) =
   some (.a (.agg [.val (.bool s), .own 4 2 1, .val (.bool false), .own 5 3 1]), [(3 : Int) ≤ (m : Int)], some (3, false, false, clsL f 2), some (3, false, false, clsL g 3), none) := fun w0 => by kernel_rfl
 obtain ⟨r, hr, he⟩ := Option.map_eq_some_iff.1 (hev w)
 simp only [Prod.mk.injEq] at he
 obtain ⟨e1, e2, e3, e4, e5⟩ := he
 refine (evRunV (D := qDen kZ kZ1) (d := 3) (vs := [⟨3, clsL f 2, bN, oN, clsC f 2⟩, ⟨3, clsL g 3, bD, oD, clsC g 3⟩]) (orc := [some false]) (args := [.agg [clsU 0 2 2, clsU 1 3 m, .val (.bool s)]]) (vals := [.agg #[.slice (some ⟨bN, oN, none⟩) 2 c, .slice (some ⟨bD, oD, none⟩) m e, .bool s]]) wide_ [] [] [(0, ⟨3, clsL f 2, true, false, false⟩), (1, ⟨3, clsL g 3, true, false, false⟩)] rfl rfl (.a (.agg [.val (.bool s), .own 4 2 1, .val (.bool false), .own 5 3 1])) [(3 : Int) ≤ (m : Int)] r.wr (Eq.trans (congrArg (Option.map fun r => (r.v, r.obl, r.wr, r.pan)) hr) (by rw [Option.map_some, e1, e2, e5])) ⟨by omega, trivial⟩ ?_ ?_).mono ?_
 ·intro v hv
  simp only [List.mem_cons, List.not_mem_nil, or_false] at hv
  rcases hv with rfl | rfl
  ·exact ⟨lN, rN, clsL_den f 2⟩
  ·exact ⟨lD, rD, clsL_den g 3⟩
 ·exact ⟨_, [], rfl, ⟨[.slice (some ⟨bN, oN, none⟩) 2 c, .slice (some ⟨bD, oD, none⟩) m e, .bool s], rfl, [_], _, rfl, ⟨⟨bN, oN, true, 0, 0⟩, c, rfl, hN.1.1, rfl⟩, [_], _, rfl, ⟨⟨bD, oD, true, 0, 0⟩, e, rfl, by omega, hD.1.1, rfl⟩, [_], [], rfl, ⟨rfl, rfl⟩, rfl⟩, rfl⟩
 ·rintro e' w' ⟨v, ρ', rfl, ⟨cs, rfl, c1, d1, rfl, ⟨rfl, _⟩, c2, d2, rfl, hu1, c3, d3, rfl, ⟨rfl, _⟩, c4, d4, rfl, hu2, hd⟩, hbl, _, hB, _⟩
  obtain rfl : d4 = [] := hd
  obtain ⟨x0, hx0, ex0⟩ := Option.map_eq_some_iff.1 e3
  simp only [Prod.mk.injEq] at ex0
  obtain ⟨y01, y02, y03, y04⟩ := ex0
  obtain ⟨u0, rfl⟩ : ∃ u, c2 = [u] := List.length_eq_one_iff.1 hu1.len
  have s0 := own_slf hB f hu1 (by rw [look_append, hx0]; rfl) y01 y02 y03 y04 (by omega)
  obtain ⟨x1, hx1, ex1⟩ := Option.map_eq_some_iff.1 e4
  simp only [Prod.mk.injEq] at ex1
  obtain ⟨y11, y12, y13, y14⟩ := ex1
  obtain ⟨u1, rfl⟩ : ∃ u, c4 = [u] := List.length_eq_one_iff.1 hu2.len
  have s1 := own_slf hB g hu2 (by rw [look_append, hx1]; rfl) y11 y12 y13 y14 (by omega)
  exact ⟨_, _, rfl, s0, s1, hbl⟩
theorem odd30 (s : Bool) (p q : Option Addr) (n c e : Nat) (f g : Nat → Int) (w : World) (h3n : 3 ≤ n) (hN : OddL w p n c f) (hD : OddL w q 0 e g) :
  Calls Tryz.prog 24 #[.agg #[.slice p n c, .slice q 0 e, .bool s]] w fun e' w' => ∃ v1 v2, e' = .returned (.agg #[.bool s, v1, .bool false, v2]) ∧ SlF w' v1 3 f ∧ SlF w' v2 0 g ∧ Below w.heap.size w w' := by
 obtain ⟨bN, oN, hvN⟩ := odd_view hN
 obtain ⟨bD, oD, hvD⟩ := odd_view hD
 obtain ⟨rfl, lN, rN⟩ := hvN (by omega)
 rw [show cls n = 3 from by unfold cls; rw [if_neg (by omega)]] at rN
 have hev : ∀ w0 : World, (evF Tryz.prog (w0 := w0) (X := fun _ => False) (D := qDen kZ kZ1) [] [] 3 [] 24 [.agg [clsU 0 3 n, clsU 1 0 0, .val (.bool s)]] [(0, ⟨3, clsL f 3, true, false, false⟩)] 1 1 [some false]).map (fun r => (r.v, r.obl, (r.wr.look 3).map (fun b => (b.T, b.dead, b.ro, b.cells)), (r.wr.look 99).map (fun b => (b.T, b.dead, b.ro, b.cells)), r.pan)) =
   some (.a (.agg [.val (.bool s), .own 3 3 1, .val (.bool false), .val (.slice none 0 0)]), [(3 : Int) ≤ (n : Int)], some (3, false, false, clsL f 3), none, none) := fun w0 => by kernel_rfl
 obtain ⟨r, hr, he⟩ := Option.map_eq_some_iff.1 (hev w)
 simp only [Prod.mk.injEq] at he
 obtain ⟨e1, e2, e3, e4, e5⟩ := he
 refine (evRunV (D := qDen kZ kZ1) (d := 3) (vs := [⟨3, clsL f 3, bN, oN, clsC f 3⟩]) (orc := [some false]) (args := [.agg [clsU 0 3 n, clsU 1 0 0, .val (.bool s)]]) (vals := [.agg #[.slice (some ⟨bN, oN, none⟩) n c, .slice q 0 e, .bool s]]) wide_ [] [] [(0, ⟨3, clsL f 3, true, false, false⟩)] rfl rfl (.a (.agg [.val (.bool s), .own 3 3 1, .val (.bool false), .val (.slice none 0 0)])) [(3 : Int) ≤ (n : Int)] r.wr (Eq.trans (congrArg (Option.map fun r => (r.v, r.obl, r.wr, r.pan)) hr) (by rw [Option.map_some, e1, e2, e5])) ⟨by omega, trivial⟩ ?_ ?_).mono ?_
 ·intro v hv
  obtain rfl : v = _ := by simpa using hv
  exact ⟨lN, rN, clsL_den f 3⟩
 ·exact ⟨_, [], rfl, ⟨[.slice (some ⟨bN, oN, none⟩) n c, .slice q 0 e, .bool s], rfl, [_], _, rfl, ⟨⟨bN, oN, true, 0, 0⟩, c, rfl, by omega, hN.1.1, rfl⟩, [_], _, rfl, ⟨q, e, hD.2, rfl⟩, [_], [], rfl, ⟨rfl, rfl⟩, rfl⟩, rfl⟩
 ·rintro e' w' ⟨v, ρ', rfl, ⟨cs, rfl, c1, d1, rfl, ⟨rfl, _⟩, c2, d2, rfl, hu1, c3, d3, rfl, ⟨rfl, _⟩, c4, d4, rfl, hu2, hd⟩, hbl, _, hB, _⟩
  obtain rfl : d4 = [] := hd
  obtain ⟨x0, hx0, ex0⟩ := Option.map_eq_some_iff.1 e3
  simp only [Prod.mk.injEq] at ex0
  obtain ⟨y01, y02, y03, y04⟩ := ex0
  obtain ⟨u0, rfl⟩ : ∃ u, c2 = [u] := List.length_eq_one_iff.1 hu1.len
  have s0 := own_slf hB f hu1 (by rw [look_append, hx0]; rfl) y01 y02 y03 y04 (by omega)
  obtain ⟨rfl, _⟩ := hu2
  have s1 : SlF w' (.slice none 0 0) 0 g := .inl ⟨rfl, rfl⟩
  exact ⟨_, _, rfl, s0, s1, hbl⟩
theorem odd31 (s : Bool) (p q : Option Addr) (n c e : Nat) (f g : Nat → Int) (w : World) (h3n : 3 ≤ n) (hN : OddL w p n c f) (hD : OddL w q 1 e g) :
  Calls Tryz.prog 24 #[.agg #[.slice p n c, .slice q 1 e, .bool s]] w fun e' w' => ∃ v1 v2, e' = .returned (.agg #[.bool s, v1, .bool false, v2]) ∧ SlF w' v1 3 f ∧ SlF w' v2 1 g ∧ Below w.heap.size w w' := by
 obtain ⟨bN, oN, hvN⟩ := odd_view hN
 obtain ⟨bD, oD, hvD⟩ := odd_view hD
 obtain ⟨rfl, lN, rN⟩ := hvN (by omega)
 rw [show cls n = 3 from by unfold cls; rw [if_neg (by omega)]] at rN
 obtain ⟨rfl, lD, rD⟩ := hvD (by omega)
 rw [show cls 1 = 1 from rfl] at rD
 have hev : ∀ w0 : World, (evF Tryz.prog (w0 := w0) (X := fun _ => False) (D := qDen kZ kZ1) [] [] 3 [] 24 [.agg [clsU 0 3 n, clsU 1 1 1, .val (.bool s)]] [(0, ⟨3, clsL f 3, true, false, false⟩), (1, ⟨3, clsL g 1, true, false, false⟩)] 2 2 [some false]).map (fun r => (r.v, r.obl, (r.wr.look 4).map (fun b => (b.T, b.dead, b.ro, b.cells)), (r.wr.look 5).map (fun b => (b.T, b.dead, b.ro, b.cells)), r.pan)) =
   some (.a (.agg [.val (.bool s), .own 4 3 1, .val (.bool false), .own 5 1 1]), [(3 : Int) ≤ (n : Int)], some (3, false, false, clsL f 3), some (3, false, false, clsL g 1), none) := fun w0 => by kernel_rfl
 obtain ⟨r, hr, he⟩ := Option.map_eq_some_iff.1 (hev w)
 simp only [Prod.mk.injEq] at he
 obtain ⟨e1, e2, e3, e4, e5⟩ := he
 refine (evRunV (D := qDen kZ kZ1) (d := 3) (vs := [⟨3, clsL f 3, bN, oN, clsC f 3⟩, ⟨3, clsL g 1, bD, oD, clsC g 1⟩]) (orc := [some false]) (args := [.agg [clsU 0 3 n, clsU 1 1 1, .val (.bool s)]]) (vals := [.agg #[.slice (some ⟨bN, oN, none⟩) n c, .slice (some ⟨bD, oD, none⟩) 1 e, .bool s]]) wide_ [] [] [(0, ⟨3, clsL f 3, true, false, false⟩), (1, ⟨3, clsL g 1, true, false, false⟩)] rfl rfl (.a (.agg [.val (.bool s), .own 4 3 1, .val (.bool false), .own 5 1 1])) [(3 : Int) ≤ (n : Int)] r.wr (Eq.trans (congrArg (Option.map fun r => (r.v, r.obl, r.wr, r.pan)) hr) (by rw [Option.map_some, e1, e2, e5])) ⟨by omega, trivial⟩ ?_ ?_).mono ?_
 ·intro v hv
  simp only [List.mem_cons, List.not_mem_nil, or_false] at hv
  rcases hv with rfl | rfl
  ·exact ⟨lN, rN, clsL_den f 3⟩
  ·exact ⟨lD, rD, clsL_den g 1⟩
 ·exact ⟨_, [], rfl, ⟨[.slice (some ⟨bN, oN, none⟩) n c, .slice (some ⟨bD, oD, none⟩) 1 e, .bool s], rfl, [_], _, rfl, ⟨⟨bN, oN, true, 0, 0⟩, c, rfl, by omega, hN.1.1, rfl⟩, [_], _, rfl, ⟨⟨bD, oD, true, 0, 0⟩, e, rfl, hD.1.1, rfl⟩, [_], [], rfl, ⟨rfl, rfl⟩, rfl⟩, rfl⟩
 ·rintro e' w' ⟨v, ρ', rfl, ⟨cs, rfl, c1, d1, rfl, ⟨rfl, _⟩, c2, d2, rfl, hu1, c3, d3, rfl, ⟨rfl, _⟩, c4, d4, rfl, hu2, hd⟩, hbl, _, hB, _⟩
  obtain rfl : d4 = [] := hd
  obtain ⟨x0, hx0, ex0⟩ := Option.map_eq_some_iff.1 e3
  simp only [Prod.mk.injEq] at ex0
  obtain ⟨y01, y02, y03, y04⟩ := ex0
  obtain ⟨u0, rfl⟩ : ∃ u, c2 = [u] := List.length_eq_one_iff.1 hu1.len
  have s0 := own_slf hB f hu1 (by rw [look_append, hx0]; rfl) y01 y02 y03 y04 (by omega)
  obtain ⟨x1, hx1, ex1⟩ := Option.map_eq_some_iff.1 e4
  simp only [Prod.mk.injEq] at ex1
  obtain ⟨y11, y12, y13, y14⟩ := ex1
  obtain ⟨u1, rfl⟩ : ∃ u, c4 = [u] := List.length_eq_one_iff.1 hu2.len
  have s1 := own_slf hB g hu2 (by rw [look_append, hx1]; rfl) y11 y12 y13 y14 (by omega)
  exact ⟨_, _, rfl, s0, s1, hbl⟩
theorem odd32 (s : Bool) (p q : Option Addr) (n c e : Nat) (f g : Nat → Int) (w : World) (h3n : 3 ≤ n) (hN : OddL w p n c f) (hD : OddL w q 2 e g) :
  Calls Tryz.prog 24 #[.agg #[.slice p n c, .slice q 2 e, .bool s]] w fun e' w' => ∃ v1 v2, e' = .returned (.agg #[.bool s, v1, .bool false, v2]) ∧ SlF w' v1 3 f ∧ SlF w' v2 2 g ∧ Below w.heap.size w w' := by
 obtain ⟨bN, oN, hvN⟩ := odd_view hN
 obtain ⟨bD, oD, hvD⟩ := odd_view hD
 obtain ⟨rfl, lN, rN⟩ := hvN (by omega)
 rw [show cls n = 3 from by unfold cls; rw [if_neg (by omega)]] at rN
 obtain ⟨rfl, lD, rD⟩ := hvD (by omega)
 rw [show cls 2 = 2 from rfl] at rD
 have hev : ∀ w0 : World, (evF Tryz.prog (w0 := w0) (X := fun _ => False) (D := qDen kZ kZ1) [] [] 3 [] 24 [.agg [clsU 0 3 n, clsU 1 2 2, .val (.bool s)]] [(0, ⟨3, clsL f 3, true, false, false⟩), (1, ⟨3, clsL g 2, true, false, false⟩)] 2 2 [some false]).map (fun r => (r.v, r.obl, (r.wr.look 4).map (fun b => (b.T, b.dead, b.ro, b.cells)), (r.wr.look 5).map (fun b => (b.T, b.dead, b.ro, b.cells)), r.pan)) =
   some (.a (.agg [.val (.bool s), .own 4 3 1, .val (.bool false), .own 5 2 1]), [(3 : Int) ≤ (n : Int)], some (3, false, false, clsL f 3), some (3, false, false, clsL g 2), none) := fun w0 => by kernel_rfl
 obtain ⟨r, hr, he⟩ := Option.map_eq_some_iff.1 (hev w)
 simp only [Prod.mk.injEq] at he
 obtain ⟨e1, e2, e3, e4, e5⟩ := he
 refine (evRunV (D := qDen kZ kZ1) (d := 3) (vs := [⟨3, clsL f 3, bN, oN, clsC f 3⟩, ⟨3, clsL g 2, bD, oD, clsC g 2⟩]) (orc := [some false]) (args := [.agg [clsU 0 3 n, clsU 1 2 2, .val (.bool s)]]) (vals := [.agg #[.slice (some ⟨bN, oN, none⟩) n c, .slice (some ⟨bD, oD, none⟩) 2 e, .bool s]]) wide_ [] [] [(0, ⟨3, clsL f 3, true, false, false⟩), (1, ⟨3, clsL g 2, true, false, false⟩)] rfl rfl (.a (.agg [.val (.bool s), .own 4 3 1, .val (.bool false), .own 5 2 1])) [(3 : Int) ≤ (n : Int)] r.wr (Eq.trans (congrArg (Option.map fun r => (r.v, r.obl, r.wr, r.pan)) hr) (by rw [Option.map_some, e1, e2, e5])) ⟨by omega, trivial⟩ ?_ ?_).mono ?_
 ·intro v hv
  simp only [List.mem_cons, List.not_mem_nil, or_false] at hv
  rcases hv with rfl | rfl
  ·exact ⟨lN, rN, clsL_den f 3⟩
  ·exact ⟨lD, rD, clsL_den g 2⟩
 ·exact ⟨_, [], rfl, ⟨[.slice (some ⟨bN, oN, none⟩) n c, .slice (some ⟨bD, oD, none⟩) 2 e, .bool s], rfl, [_], _, rfl, ⟨⟨bN, oN, true, 0, 0⟩, c, rfl, by omega, hN.1.1, rfl⟩, [_], _, rfl, ⟨⟨bD, oD, true, 0, 0⟩, e, rfl, hD.1.1, rfl⟩, [_], [], rfl, ⟨rfl, rfl⟩, rfl⟩, rfl⟩
 ·rintro e' w' ⟨v, ρ', rfl, ⟨cs, rfl, c1, d1, rfl, ⟨rfl, _⟩, c2, d2, rfl, hu1, c3, d3, rfl, ⟨rfl, _⟩, c4, d4, rfl, hu2, hd⟩, hbl, _, hB, _⟩
  obtain rfl : d4 = [] := hd
  obtain ⟨x0, hx0, ex0⟩ := Option.map_eq_some_iff.1 e3
  simp only [Prod.mk.injEq] at ex0
  obtain ⟨y01, y02, y03, y04⟩ := ex0
  obtain ⟨u0, rfl⟩ : ∃ u, c2 = [u] := List.length_eq_one_iff.1 hu1.len
  have s0 := own_slf hB f hu1 (by rw [look_append, hx0]; rfl) y01 y02 y03 y04 (by omega)
  obtain ⟨x1, hx1, ex1⟩ := Option.map_eq_some_iff.1 e4
  simp only [Prod.mk.injEq] at ex1
  obtain ⟨y11, y12, y13, y14⟩ := ex1
  obtain ⟨u1, rfl⟩ : ∃ u, c4 = [u] := List.length_eq_one_iff.1 hu2.len
  have s1 := own_slf hB g hu2 (by rw [look_append, hx1]; rfl) y11 y12 y13 y14 (by omega)
  exact ⟨_, _, rfl, s0, s1, hbl⟩
theorem odd33 (s : Bool) (p q : Option Addr) (n m c e : Nat) (f g : Nat → Int) (w : World) (h3n : 3 ≤ n) (h3m : 3 ≤ m) (hN : OddL w p n c f) (hD : OddL w q m e g) :
  Calls Tryz.prog 24 #[.agg #[.slice p n c, .slice q m e, .bool s]] w fun e' w' => ∃ v1 v2, e' = .returned (.agg #[.bool s, v1, .bool false, v2]) ∧ SlF w' v1 3 f ∧ SlF w' v2 3 g ∧ Below w.heap.size w w' := by
 obtain ⟨bN, oN, hvN⟩ := odd_view hN
 obtain ⟨bD, oD, hvD⟩ := odd_view hD
 obtain ⟨rfl, lN, rN⟩ := hvN (by omega)
 rw [show cls n = 3 from by unfold cls; rw [if_neg (by omega)]] at rN
 obtain ⟨rfl, lD, rD⟩ := hvD (by omega)
 rw [show cls m = 3 from by unfold cls; rw [if_neg (by omega)]] at rD
 have hev : ∀ w0 : World, (evF Tryz.prog (w0 := w0) (X := fun _ => False) (D := qDen kZ kZ1) [] [] 3 [] 24 [.agg [clsU 0 3 n, clsU 1 3 m, .val (.bool s)]] [(0, ⟨3, clsL f 3, true, false, false⟩), (1, ⟨3, clsL g 3, true, false, false⟩)] 2 2 [some false, some false]).map (fun r => (r.v, r.obl, (r.wr.look 4).map (fun b => (b.T, b.dead, b.ro, b.cells)), (r.wr.look 5).map (fun b => (b.T, b.dead, b.ro, b.cells)), r.pan)) =
   some (.a (.agg [.val (.bool s), .own 4 3 1, .val (.bool false), .own 5 3 1]), [(3 : Int) ≤ (n : Int), (3 : Int) ≤ (m : Int)], some (3, false, false, clsL f 3), some (3, false, false, clsL g 3), none) := fun w0 => by kernel_rfl
 obtain ⟨r, hr, he⟩ := Option.map_eq_some_iff.1 (hev w)
 simp only [Prod.mk.injEq] at he
 obtain ⟨e1, e2, e3, e4, e5⟩ := he
 refine (evRunV (D := qDen kZ kZ1) (d := 3) (vs := [⟨3, clsL f 3, bN, oN, clsC f 3⟩, ⟨3, clsL g 3, bD, oD, clsC g 3⟩]) (orc := [some false, some false]) (args := [.agg [clsU 0 3 n, clsU 1 3 m, .val (.bool s)]]) (vals := [.agg #[.slice (some ⟨bN, oN, none⟩) n c, .slice (some ⟨bD, oD, none⟩) m e, .bool s]]) wide_ [] [] [(0, ⟨3, clsL f 3, true, false, false⟩), (1, ⟨3, clsL g 3, true, false, false⟩)] rfl rfl (.a (.agg [.val (.bool s), .own 4 3 1, .val (.bool false), .own 5 3 1])) [(3 : Int) ≤ (n : Int), (3 : Int) ≤ (m : Int)] r.wr (Eq.trans (congrArg (Option.map fun r => (r.v, r.obl, r.wr, r.pan)) hr) (by rw [Option.map_some, e1, e2, e5])) ⟨by omega, by omega, trivial⟩ ?_ ?_).mono ?_
 ·intro v hv
  simp only [List.mem_cons, List.not_mem_nil, or_false] at hv
  rcases hv with rfl | rfl
  ·exact ⟨lN, rN, clsL_den f 3⟩
  ·exact ⟨lD, rD, clsL_den g 3⟩
 ·exact ⟨_, [], rfl, ⟨[.slice (some ⟨bN, oN, none⟩) n c, .slice (some ⟨bD, oD, none⟩) m e, .bool s], rfl, [_], _, rfl, ⟨⟨bN, oN, true, 0, 0⟩, c, rfl, by omega, hN.1.1, rfl⟩, [_], _, rfl, ⟨⟨bD, oD, true, 0, 0⟩, e, rfl, by omega, hD.1.1, rfl⟩, [_], [], rfl, ⟨rfl, rfl⟩, rfl⟩, rfl⟩
 ·rintro e' w' ⟨v, ρ', rfl, ⟨cs, rfl, c1, d1, rfl, ⟨rfl, _⟩, c2, d2, rfl, hu1, c3, d3, rfl, ⟨rfl, _⟩, c4, d4, rfl, hu2, hd⟩, hbl, _, hB, _⟩
  obtain rfl : d4 = [] := hd
  obtain ⟨x0, hx0, ex0⟩ := Option.map_eq_some_iff.1 e3
  simp only [Prod.mk.injEq] at ex0
  obtain ⟨y01, y02, y03, y04⟩ := ex0
  obtain ⟨u0, rfl⟩ : ∃ u, c2 = [u] := List.length_eq_one_iff.1 hu1.len
  have s0 := own_slf hB f hu1 (by rw [look_append, hx0]; rfl) y01 y02 y03 y04 (by omega)
  obtain ⟨x1, hx1, ex1⟩ := Option.map_eq_some_iff.1 e4
  simp only [Prod.mk.injEq] at ex1
  obtain ⟨y11, y12, y13, y14⟩ := ex1
  obtain ⟨u1, rfl⟩ : ∃ u, c4 = [u] := List.length_eq_one_iff.1 hu2.len
  have s1 := own_slf hB g hu2 (by rw [look_append, hx1]; rfl) y11 y12 y13 y14 (by omega)
  exact ⟨_, _, rfl, s0, s1, hbl⟩
theorem oddQuot_ok (s : Bool) (p q : Option Addr) (n m c e : Nat) (f g : Nat → Int) (w : World) (hN : OddL w p n c f) (hD : OddL w q m e g) :
  Calls Tryz.prog 24 #[.agg #[.slice p n c, .slice q m e, .bool s]] w fun e' w' => ∃ v1 v2, e' = .returned (.agg #[.bool s, v1, .bool false, v2]) ∧ SlF w' v1 (min n 3) f ∧ SlF w' v2 (min m 3) g ∧ Below w.heap.size w w' := by
 rcases (by omega : n = 0 ∨ n = 1 ∨ n = 2 ∨ 3 ≤ n) with rfl | rfl | rfl | hn <;> rcases (by omega : m = 0 ∨ m = 1 ∨ m = 2 ∨ 3 ≤ m) with rfl | rfl | rfl | hm
 ·exact odd00 s p q c e f g w  hN hD
 ·exact odd01 s p q c e f g w  hN hD
 ·exact odd02 s p q c e f g w  hN hD
 ·rw [Nat.min_eq_right hm]; exact odd03 s p q m c e f g w hm hN hD
 ·exact odd10 s p q c e f g w  hN hD
 ·exact odd11 s p q c e f g w  hN hD
 ·exact odd12 s p q c e f g w  hN hD
 ·rw [Nat.min_eq_right hm]; exact odd13 s p q m c e f g w hm hN hD
 ·exact odd20 s p q c e f g w  hN hD
 ·exact odd21 s p q c e f g w  hN hD
 ·exact odd22 s p q c e f g w  hN hD
 ·rw [Nat.min_eq_right hm]; exact odd23 s p q m c e f g w hm hN hD
 ·rw [Nat.min_eq_right hn]; exact odd30 s p q n c e f g w hn hN hD
 ·rw [Nat.min_eq_right hn]; exact odd31 s p q n c e f g w hn hN hD
 ·rw [Nat.min_eq_right hn]; exact odd32 s p q n c e f g w hn hN hD
 ·rw [Nat.min_eq_right hn]; rw [Nat.min_eq_right hm]; exact odd33 s p q n m c e f g w hn hm hN hD
end Go.Proofs.YtcgfdibagldafaaGreatDoor
namespace Go.Mono
open Go.RowKit
theorem trimN_pos {f : Nat → Int} {k : Nat} (h0 : ∀ i, i < k → 0 ≤ f i) (h1 : ∀ i, i < k → f i < 1000000000) : (0 < trimN f k) ↔ 0 < vf f k := by
 obtain ⟨a, b⟩ := trimN_can h0 h1
 rw [← b]
 exact a.pos.symm
theorem trimN_last {f : Nat → Int} {k : Nat} (h : ¬ (0 < k ∧ f (k - 1) = 0)) : trimN f k = k := by
 by_cases hk : 0 < k
 ·exact trimN_ne f k hk (fun e => h ⟨hk, e⟩)
 ·obtain rfl : k = 0 := by omega
  rfl
end Go.Mono
namespace Go.Proofs.YtcgfdibagldafaaGreatDoor
open Go.RowKit Go.Mono
theorem sizeLong : (Tryz.prog.info? 50).map (·.size) = some 2 := by kernel_rfl
theorem r3made_core (neg nb : Bool) (p : Option Addr) (n c K : Nat) (f : Nat → Int) (w : World) (h : SlF w (.slice p n c) n f) (hn6 : n ≤ 1000000) (hK : Hid (trimN f n = K)) (hN : Hid ((neg && decide (0 < K)) = nb)) :
  Calls Tryz.prog 209 #[.bool neg, .slice p n c] w fun e w' => ∃ v, e = .returned (.agg #[.bool nb, v]) ∧ OwnF w' w.heap.size v K f ∧ Below w.heap.size w w' := by
 obtain ⟨hc, hn, hx⟩ := h.opens
 have hsl := h
 clear h
 go_enter Tryz.func209, Tryz.ntmps209
 go_wp2_with fail
 refine boxes1 fun W hB hs b0 => ?_
 go_loopw [5] (fun a wr => ∃ k : Nat, k ≤ n ∧ a = .int .i64 (k : Int) ∧ trimN f k = trimN f n ∧ wr = W) (fun a _ => (intOf a).toNat)
 case atStart => exact ⟨n, Nat.le_refl _, rfl, rfl, rfl⟩
 case round =>
  obtain ⟨k, hk, rfl, ht, hWe⟩ := hrel
  obtain rfl : W = wr := hWe.symm
  have HT := Lib.hid ht; clear ht
  by_cases h0 : 0 < k ∧ f (k - 1) = 0
  ·obtain ⟨hk0, hz⟩ := h0
   obtain ⟨b, off, rfl, hb, hcell⟩ := hx (by omega)
   have hcl := (hB.cell (p := ⟨b, off + (k - 1), none⟩) hb).trans (hcell (k - 1) (by omega))
   rw [hz] at hcl
   obtain ⟨k, rfl⟩ : ∃ j, k = j + 1 := ⟨k - 1, by omega⟩
   have hz' := trimN_zero f (k + 1) hk0 hz
   simp only [Nat.add_sub_cancel] at hcl hz'
   replace hz' := Lib.hid hz'
   replace hz := Lib.hid hz
   clear hcell hx
   go_wp2
   go_roundw
   case rel => exact ⟨k, by omega, by simp, by rw [← hz'.out]; exact HT.out, trivial⟩
   case measure => simp [intOf]
  ·have hk' := trimN_last h0
   obtain rfl : k = K := by rw [← hK.out, ← HT.out, hk']
   clear hK hk' HT
   have hw0 := hB.size
   by_cases hk0 : 0 < k
   ·have hz : ¬ f (k - 1) = 0 := fun e => h0 ⟨hk0, e⟩
    obtain ⟨b, off, rfl, hb, hcell⟩ := hx (by omega)
    have hcl := (hB.cell (p := ⟨b, off + (k - 1), none⟩) hb).trans (hcell (k - 1) (by omega))
    obtain ⟨k, rfl⟩ : ∃ j, k = j + 1 := ⟨k - 1, by omega⟩
    simp only [Nat.add_sub_cancel] at hcl hz
    have hz2 : (f k == 0) = false := by simpa using hz
    replace hz := Lib.hid hz
    clear h0
    cases neg
    all_goals
     go_wp2
     go_loopw [7] (fun a W2 => ∃ (i : Nat) (v : Value), i ≤ k + 1 ∧ a = .int .i64 (i : Int) ∧ OwnF W2 (W.heap.size + 1) v i f ∧ Box W2 W.heap.size 50 #[.bool nb, v] ∧ Box W2 w.heap.size 50 #[.bool false, .slice none 0 0] ∧ Below w.heap.size w W2 ∧ W.heap.size + 1 ≤ W2.heap.size) (fun a _ => (k + 1 - intOf a).toNat)
     case atStart => exact ⟨0, _, Nat.zero_le _, rfl, OwnF.nil _ _ _, by rw [← hN.out]; exact Box.new _ _ _, b0.alloc _, belowAlloc hB _, by simp⟩
     case round =>
      obtain ⟨i, v, hi, rfl, ho, b1, b2, hB2, hs2⟩ := hrel
      by_cases hik : i < k + 1
      ·have hci := (hB2.cell (p := ⟨b, off + i, none⟩) hb).trans (hcell i (by omega))
       have hik' : (i : Int) < k + 1 := by omega
       obtain ⟨pv, cv, rfl⟩ := ho.shape
       have hin : i < n := by omega
       have hin' : (i : Int) < n := by omega
       have bX1 := b1.drew
       have bX2 := b2.drew
       have hoX := ho.below (Below.refl wr.heap.size wr).drew
       have hBX := hB2.drew
       have hX1 : wr.drew.cell? ⟨W.heap.size, 1, none⟩ = some (.slice pv i cv) := bX1.cell 1
       have hX2 : wr.drew.cell? ⟨b, off + i, none⟩ = some (.int .i64 (f i)) := hci
       have hsX : W.heap.size + 1 ≤ wr.drew.heap.size := hs2
       clear hcell hx hcl b1 b2 ho hci
       go_wp2_with fail
       refine wp_region_held_drew (S := fun w' => Below w.heap.size w w') (by as_aux_lemma => kernel_rfl) hBX (fun hHeld => ?_)
       generalize wr.drew = X0 at *
       refine tk 0 (some 33) ?_
       refine tk 2 (some 35) ?_
       refine tk 3 (some 36) ?_
       refine tk 4 (some 37) ?_
       refine Mono.fork2 1 5 ?_ ?_
       ·intro K hK
        refine Mono.arma (some 34) hK (.slice pv i cv) X0 hHeld (fun hHeld => Mono.pt ?_) rfl (by as_aux_lemma => kernel_rfl) (by go_simp)
        clear hK K
        refine Mono.sta 5 (some 38) (.int .i64 (f i)) X0 hHeld (fun hHeld => Mono.pt ?_) rfl rfl (by as_aux_lemma => kernel_rfl) (by as_aux_lemma => kernel_rfl) (by go_simp)
        refine Mono.sta 6 (some 39) (.slice (some ⟨X0.heap.size, 0, none⟩) 1 1) (X0.alloc (.cells #[.int .i64 (f i)] 3)) (belowAlloc hHeld _) (fun hHeld => Mono.pt ?_)
        refine Mono.st 7 ?_
        intro K hK
        rw [if_pos (by as_aux_lemma => kernel_rfl)]
        refine wp_push_int (.tmp 34) (.tmp 39) 48 rfl Tryz.underlying48 infoInt (W.heap.size + 1) (.slice pv i cv) i f rfl (hoX.below (belowAlloc (Below.refl _ _) _)) X0.heap.size (f i) rfl (Box.new _ _ _) (by omega) (by simp; omega) ?_
        intro v' X1 ho' hg
        have hz : Below (W.heap.size + 1) X0 X1 := ((Below.refl (W.heap.size + 1) X0).alloc hsX _).grown hg (by simp; omega) (fun k hk => hoX.low k hk)
        obtain ⟨p', c', rfl⟩ := ho'.shape
        have b1' := bX1.low hz (by omega)
        have b2' := bX2.low hz (by omega)
        have hB1 := hBX.trans (hz.mono (by omega))
        have hs1 := hz.size
        refine hK.out _ _ hB1 (fun hHeld => Mono.pt ?_)
        clear hK K hg hz bX1 bX2 hoX hBX hX1 hX2
        refine tk 8 (some 41) ?_
        have cb1 := b1'.cell
        have fb1 := b1'.frozen
        have lb1 := b1'.lt
        refine Mono.st 9 ?_
        intro K hK
        go_simp
        refine kp hK (belowSet hB1 (by omega) _ _) (fun hHeld => ?_)
        clear hK K
        refine wpAnyH_done (by as_aux_lemma => kernel_rfl) ?_ _
        go_wp2
        go_roundw
        case rel =>
         refine ⟨i + 1, _, by omega, by simp, ?_, b1'.set 1 _, b2'.other _ _ (by show w.heap.size ≠ W.heap.size; omega), hHeld, by simp; omega⟩
         refine OwnF.congr (ho'.set _ _ (by show W.heap.size < _; omega)) fun j hj => ?_
         by_cases hji : j < i
         ·rw [if_pos hji]
         ·rw [if_neg hji]
          congr 1; omega
        case measure => simp [intOf]; omega
       ·intro K hK
        refine Mono.arma (some 38) hK (.int .i64 (f i)) X0 hHeld (fun hHeld => Mono.pt ?_) rfl (by as_aux_lemma => kernel_rfl) (by go_simp)
        clear hK K
        refine Mono.fork2 1 6 ?_ ?_
        ·intro K hK
         refine Mono.arma (some 34) hK (.slice pv i cv) X0 hHeld (fun hHeld => Mono.pt ?_) rfl (by as_aux_lemma => kernel_rfl) (by go_simp)
         clear hK K
         refine Mono.sta 6 (some 39) (.slice (some ⟨X0.heap.size, 0, none⟩) 1 1) (X0.alloc (.cells #[.int .i64 (f i)] 3)) (belowAlloc hHeld _) (fun hHeld => Mono.pt ?_)
         refine Mono.st 7 ?_
         intro K hK
         rw [if_pos (by as_aux_lemma => kernel_rfl)]
         refine wp_push_int (.tmp 34) (.tmp 39) 48 rfl Tryz.underlying48 infoInt (W.heap.size + 1) (.slice pv i cv) i f rfl (hoX.below (belowAlloc (Below.refl _ _) _)) X0.heap.size (f i) rfl (Box.new _ _ _) (by omega) (by simp; omega) ?_
         intro v' X1 ho' hg
         have hz : Below (W.heap.size + 1) X0 X1 := ((Below.refl (W.heap.size + 1) X0).alloc hsX _).grown hg (by simp; omega) (fun k hk => hoX.low k hk)
         obtain ⟨p', c', rfl⟩ := ho'.shape
         have b1' := bX1.low hz (by omega)
         have b2' := bX2.low hz (by omega)
         have hB1 := hBX.trans (hz.mono (by omega))
         have hs1 := hz.size
         refine hK.out _ _ hB1 (fun hHeld => Mono.pt ?_)
         clear hK K hg hz bX1 bX2 hoX hBX hX1 hX2
         refine tk 8 (some 41) ?_
         have cb1 := b1'.cell
         have fb1 := b1'.frozen
         have lb1 := b1'.lt
         refine Mono.st 9 ?_
         intro K hK
         go_simp
         refine kp hK (belowSet hB1 (by omega) _ _) (fun hHeld => ?_)
         clear hK K
         refine wpAnyH_done (by as_aux_lemma => kernel_rfl) ?_ _
         go_wp2
         go_roundw
         case rel =>
          refine ⟨i + 1, _, by omega, by simp, ?_, b1'.set 1 _, b2'.other _ _ (by show w.heap.size ≠ W.heap.size; omega), hHeld, by simp; omega⟩
          refine OwnF.congr (ho'.set _ _ (by show W.heap.size < _; omega)) fun j hj => ?_
          by_cases hji : j < i
          ·rw [if_pos hji]
          ·rw [if_neg hji]
           congr 1; omega
         case measure => simp [intOf]; omega
        ·intro K hK
         have hX1' : (X0.alloc (.cells #[.int .i64 (f i)] 3)).cell? ⟨W.heap.size, 1, none⟩ = some (.slice pv i cv) := (bX1.alloc _).cell 1
         refine Mono.arma (some 39) hK (.slice (some ⟨X0.heap.size, 0, none⟩) 1 1) (X0.alloc (.cells #[.int .i64 (f i)] 3)) (belowAlloc hHeld _) (fun hHeld => Mono.pt ?_)
         clear hK K
         refine Mono.sta 1 (some 34) (.slice pv i cv) (X0.alloc (.cells #[.int .i64 (f i)] 3)) hHeld (fun hHeld => Mono.pt ?_) rfl rfl (by as_aux_lemma => kernel_rfl) (by as_aux_lemma => kernel_rfl) (by go_simp)
         refine Mono.st 7 ?_
         intro K hK
         rw [if_pos (by as_aux_lemma => kernel_rfl)]
         refine wp_push_int (.tmp 34) (.tmp 39) 48 rfl Tryz.underlying48 infoInt (W.heap.size + 1) (.slice pv i cv) i f rfl (hoX.below (belowAlloc (Below.refl _ _) _)) X0.heap.size (f i) rfl (Box.new _ _ _) (by omega) (by simp; omega) ?_
         intro v' X1 ho' hg
         have hz : Below (W.heap.size + 1) X0 X1 := ((Below.refl (W.heap.size + 1) X0).alloc hsX _).grown hg (by simp; omega) (fun k hk => hoX.low k hk)
         obtain ⟨p', c', rfl⟩ := ho'.shape
         have b1' := bX1.low hz (by omega)
         have b2' := bX2.low hz (by omega)
         have hB1 := hBX.trans (hz.mono (by omega))
         have hs1 := hz.size
         refine hK.out _ _ hB1 (fun hHeld => Mono.pt ?_)
         clear hK K hg hz bX1 bX2 hoX hBX hX1 hX2
         refine tk 8 (some 41) ?_
         have cb1 := b1'.cell
         have fb1 := b1'.frozen
         have lb1 := b1'.lt
         refine Mono.st 9 ?_
         intro K hK
         go_simp
         refine kp hK (belowSet hB1 (by omega) _ _) (fun hHeld => ?_)
         clear hK K
         refine wpAnyH_done (by as_aux_lemma => kernel_rfl) ?_ _
         go_wp2
         go_roundw
         case rel =>
          refine ⟨i + 1, _, by omega, by simp, ?_, b1'.set 1 _, b2'.other _ _ (by show w.heap.size ≠ W.heap.size; omega), hHeld, by simp; omega⟩
          refine OwnF.congr (ho'.set _ _ (by show W.heap.size < _; omega)) fun j hj => ?_
          by_cases hji : j < i
          ·rw [if_pos hji]
          ·rw [if_neg hji]
           congr 1; omega
         case measure => simp [intOf]; omega
      ·obtain rfl : i = k + 1 := by omega
       obtain ⟨pv, cv, rfl⟩ := ho.shape
       have hlong := sizeLong
       have cb1 := b1.cell
       have lb1 := b1.lt
       have fb1 := b1.frozen
       have cb2 := b2.cell
       have lb2 := b2.lt
       have fb2 := b2.frozen
       clear hcell hx hcl
       go_wp2
       have b4 := (b2.set 0 (.bool nb)).set 1 (.slice pv (k + 1) cv)
       refine bodyPost_ret (b4.results rfl _ _ rfl Tryz.underlying50 rfl sizeLong) rfl ⟨.slice pv (k + 1) cv, rfl, ?_, belowSet (belowSet hB2 (Nat.le_refl _) _ _) (Nat.le_refl _) _ _⟩
       exact ((ho.set _ _ (by show w.heap.size < _; omega)).set _ _ (by show w.heap.size < _; omega)).lower (by omega)
   ·obtain rfl : k = 0 := by omega
    cases neg
    all_goals
     go_wp2
     go_loopw [7] (fun a W2 => a = .int .i64 0 ∧ Box W2 W.heap.size 50 #[.bool nb, .slice none 0 0] ∧ Box W2 w.heap.size 50 #[.bool false, .slice none 0 0] ∧ Below w.heap.size w W2) (fun a _ => 0)
     case atStart => exact ⟨rfl, by rw [← hN.out]; exact Box.new _ _ _, b0.alloc _, belowAlloc hB _⟩
     case round =>
      obtain ⟨rfl, b1, b2, hB2⟩ := hrel
      have cb1 := b1.cell
      have lb1 := b1.lt
      have fb1 := b1.frozen
      have cb2 := b2.cell
      have lb2 := b2.lt
      have fb2 := b2.frozen
      clear hx
      go_wp2
      have b4 := (b2.set 0 (.bool nb)).set 1 (.slice none 0 0)
      refine bodyPost_ret (b4.results rfl _ _ rfl Tryz.underlying50 rfl sizeLong) rfl ⟨.slice none 0 0, rfl, OwnF.nil _ _ _, belowSet (belowSet hB2 (Nat.le_refl _) _ _) (Nat.le_refl _) _ _⟩
theorem r3made_ok (neg : Bool) (p : Option Addr) (n c : Nat) (f : Nat → Int) (w : World) (h : SlF w (.slice p n c) n f) (hn6 : n ≤ 1000000) (f0 : ∀ i, i < n → 0 ≤ f i) (f1 : ∀ i, i < n → f i < 1000000000) :
  Calls Tryz.prog 209 #[.bool neg, .slice p n c] w fun e w' => ∃ v, e = .returned (.agg #[.bool (neg && decide (0 < vf f n)), v]) ∧ OwnF w' w.heap.size v (trimN f n) f ∧ Digs f (trimN f n) ∧ vf f (trimN f n) = vf f n ∧ Below w.heap.size w w' := by
 obtain ⟨d1, d2⟩ := trimN_can f0 f1
 have hp := trimN_pos f0 f1
 refine (r3made_core neg (neg && decide (0 < vf f n)) p n c (trimN f n) f w h hn6 (Lib.hid rfl) (Lib.hid (by simp only [hp]))).mono ?_
 rintro e w' ⟨v, rfl, ho, hb⟩
 exact ⟨v, rfl, ho, d1, d2, hb⟩
end Go.Proofs.YtcgfdibagldafaaGreatDoor
