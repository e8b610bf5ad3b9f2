/- Part 6 of 52 of the proof that the law ParaxialKnown returns true, whatever stands in memory, if the two listed variables hold what the text lays: contracts of the functions that it reaches. No condition beside the row. -/
import Derived.Deep.MidRow
import Derived.Laws.Rows
import Derived.Laws.ResultCell
import Derived.Test.YtepodcocemmejaaGreatDoorA02
import Derived.Test.YtepodcocemmejaaGreatDoorA04
import Derived.Test.YtepodcocemmejaaGreatDoorA05
set_option linter.unusedVariables false
set_option linter.unusedSimpArgs false
namespace Go.Mono
theorem cmpV_spec {f g : Nat → Int} {n m : Nat} (hf : Digs f n) (hg : Digs g m) : (cmpV f n g m < 0 ↔ vf f n < vf g m) ∧ (cmpV f n g m = 0 ↔ vf f n = vf g m) := by
  unfold cmpV
  by_cases h : n = m
  · subst h
    rw [if_pos rfl]
    exact cmpDown_spec hf.lo hf.hi hg.lo hg.hi (cmpDown f g) rfl fun k => rfl
  · rw [if_neg h]
    rcases Nat.lt_or_gt_of_ne h with h1 | h1
    · have a1 := hf.lt
      have a2 := hg.ge (by omega)
      have a3 := pw_mono (i := n) (k := m - 1) (by omega)
      omega
    · have a1 := hg.lt
      have a2 := hf.ge (by omega)
      have a3 := pw_mono (i := m) (k := n - 1) (by omega)
      omega
end Go.Mono
namespace Go.Proofs.YtepodcocemmejaaGreatDoor
open Go.RowKit Go.Mono
theorem cmp_sz (m1 m2 : Nat) (w wf : World) (hx : Ext wf w) (p q : Option Addr) (n m c1 c2 : Nat) (N M : Int) (h1 : Sz m1 wf (.slice p n c1) N) (h2 : Sz m2 wf (.slice q m c2) M) :
    Calls Tryz.prog 148 #[.slice p n c1, .slice q m c2] w fun e w' => ∃ c : Int, (e = .returned (.int .i64 c) ∧ ∃ k, w' = w.drewN k) ∧ (c < 0 ↔ N < M) ∧ (c = 0 ↔ N = M) := by
  obtain ⟨n, f, s1, d1, rfl, l1, rfl⟩ := (h1.ext hx).sl
  obtain ⟨m, g, s2, d2, rfl, l2, rfl⟩ := (h2.ext hx).sl
  refine (cmp_any p q n m c1 c2 f g w s1 s2 d1.lo d1.hi d2.lo d2.hi).mono ?_
  intro e w' h
  exact ⟨_, h, cmpV_spec d1 d2⟩
set_option maxRecDepth 100000 in
set_option maxHeartbeats 1000000 in
/-- Over: the dividend is less -/
theorem over_less (m1 m2 : Nat) (w wf : World) (hx : Ext wf w) (p q : Option Addr) (n m c1 c2 : Nat) (N M : Int) (h1 : Sz m1 wf (.slice p n c1) N) (h2 : Sz m2 wf (.slice q m c2) M) (hlt : N < M) :
    Calls Tryz.prog 164 #[.slice p n c1, .slice q m c2] w fun e w' => e = .returned (.tuple #[.slice none 0 0, .slice p n c1]) ∧ ∃ k, w' = w.drewN k := by
  have hc := cmp_sz m1 m2 w wf hx p q n m c1 c2 N M h1 h2
  clear h1 h2
  go_enter Tryz.func164, Tryz.ntmps164
  go_wp2_with (go_at_call 148; refine hc.mono ?_; rintro e w' ⟨c, ⟨rfl, k, rfl⟩, hc1, hc2⟩; have hc0 : c < 0 := hc1.2 hlt; clear hc1 hc2)
  go_ret2
  exact ⟨rfl, _, rfl⟩
end Go.Proofs.YtepodcocemmejaaGreatDoor
namespace Go.Mono
open Go.RowKit
theorem Box.range {w : World} {B : Nat} {T : TypeId} {cs : Array Value} (b : Box w B T cs) : w.rangeAt B 0 cs.toList := fun j v hv => by
  rw [Nat.zero_add, b.cell, ← Array.getElem?_toList]
  exact hv
theorem Box.there {w : World} {B : Nat} {T : TypeId} {cs : Array Value} (b : Box w B T cs) (o n : Nat) (hn : o + n ≤ cs.size) : w.there B o n := fun j hj => by
  refine ⟨?_, b.frozen _⟩
  rw [b.cell]
  simp; omega
theorem Box.setCells {B : Nat} {T : TypeId} : ∀ (vs : List Value) (o : Nat) (w : World) (cs : Array Value), Box w B T cs → o + vs.length ≤ cs.size →
    Box (w.setCells B o vs) B T (cs.toList.take o ++ vs ++ cs.toList.drop (o + vs.length)).toArray
  | [], o, w, cs, h, _ => by simpa [World.setCells] using h
  | v :: r, o, w, cs, h, hn => by
    rw [World.setCells]
    have hn' : o + (r.length + 1) ≤ cs.size := by simpa using hn
    have := Box.setCells r (o + 1) _ _ (h.set o v) (by simp; omega)
    refine cast (congrArg _ ?_) this
    apply congrArg
    apply List.ext_getElem?
    intro i
    simp only [List.getElem?_append, List.length_append, List.length_take, List.length_drop, Array.toList_setIfInBounds, List.length_set, List.length_cons, Array.length_toList, List.getElem?_take, List.getElem?_drop, List.getElem?_set]
    by_cases h1 : i < o
    · simp [show i < min (o + 1) cs.size by omega, show i < min o cs.size by omega, show i < min (o + 1) cs.size + r.length by omega, show i < min o cs.size + (r.length + 1) by omega, show i < o + 1 by omega, h1, show ¬ o = i by omega]
    · by_cases h2 : i = o
      · subst h2
        simp [show i < min (i + 1) cs.size by omega, show ¬ i < min i cs.size by omega, show i < min (i + 1) cs.size + r.length by omega, show i < min i cs.size + (r.length + 1) by omega, show i < cs.size by omega, show min i cs.size = i by omega]
      · by_cases h3 : i < o + 1 + r.length
        · have e1 : i - min (o + 1) cs.size = i - (o + 1) := by omega
          have e2 : i - min o cs.size = (i - (o + 1)) + 1 := by omega
          simp [show ¬ i < min (o + 1) cs.size by omega, show ¬ i < min o cs.size by omega, show i < min (o + 1) cs.size + r.length by omega, show i < min o cs.size + (r.length + 1) by omega, e1, e2]
        · have e1 : o + 1 + r.length + (i - (min (o + 1) cs.size + r.length)) = i := by omega
          have e2 : o + (r.length + 1) + (i - (min o cs.size + (r.length + 1))) = i := by omega
          simp [show ¬ i < min (o + 1) cs.size + r.length by omega, show ¬ i < min o cs.size + (r.length + 1) by omega, e1, e2, show ¬ o = i by omega]
theorem KeepBut.setCells {R N : Nat} {W : World} : ∀ (vs : List Value) (o : Nat) (w : World), KeepBut R N W w → KeepBut R N W (w.setCells R o vs)
  | [], _, _, h => h
  | v :: r, o, w, h => by
    rw [World.setCells]
    exact KeepBut.setCells r (o + 1) _ (h.set o v)
section
variable {P : Program} {ops : Array Oper} {rest : List Oper} {o : Oper} {a : Act} {w : World} {Q : Exit → Act → World → Prop}
/-- a fresh variable: its world as a letter -/
theorem wpList_new (hg : o.guard = none) (T : TypeId) (ho : o.op = .alloc T) (zs : Array Value)
    (hrun : ∀ w, (Instr.alloc T true (.tuple #[])).run P w = .ok (.pointer (some ⟨w.heap.size, 0, none⟩)) (w.alloc (.cells zs T)))
    (h : ∀ W B, w.heap.size ≤ B → Below w.heap.size w W → Box W B T zs → wpList P ops Q rest (a.put o.dst (.pointer (some ⟨B, 0, none⟩))) W) : wpList P ops Q (o :: rest) a w := by
  refine wpList_plain hg fun K hK => ?_
  unfold Oper.wp execOp
  simp only [ho, Sem.run_bind, hrun, Result.andThen_ok, Sem.run_pure]
  exact hK _ _ (h _ _ (Nat.le_refl _) ((Below.refl _ _).alloc (Nat.le_refl _) _) (Box.new _ _ _))
/-- a struct is made -/
theorem wpList_build2 (hg : o.guard = none) (t : TypeId) (parts : Array (Nat × Operand)) (ho : o.op = .build t parts) (cells : Array Value)
    (hc : P.built t (parts.map fun (i, x) => (i, a.eval x)).toList = some cells) (h : wpList P ops Q rest (a.put o.dst (.agg cells)) w) : wpList P ops Q (o :: rest) a w :=
  wpList_build hg t parts ho (by rw [hc]; rfl) (by rw [hc]; exact h)
/-- a whole struct is read -/
theorem wpList_load_box (hg : o.guard = none) (ty : TypeId) (x : Operand) (ho : o.op = .load ty x) (B : Nat) (hx : a.eval x = .pointer (some ⟨B, 0, none⟩)) (T : TypeId) (cells : Array Value) (hb : Box w B T cells)
    (d : TypeDesc) (hu : P.underlying ty = some d) (hd : d.isRow = true) (hi : (P.info? ty).map (·.size) = some cells.size)
    (h : wpList P ops Q rest (a.put o.dst (.agg cells)) w) : wpList P ops Q (o :: rest) a w :=
  wpList_load_mid hg ty x ho B 0 hx cells.toList d hb.range hu hd (by simpa using hi) (by simpa using h)
/-- values are stored into a part of a box -/
theorem wpList_store_box (hg : o.guard = none) (ty : TypeId) (x y : Operand) (ho : o.op = .store ty x y) (B off : Nat) (T : TypeId) (old cells new : Array Value) (hx : a.eval x = .pointer (some ⟨B, off, none⟩)) (hy : a.eval y = .agg cells)
    (hb : Box w B T old) (hi : (P.info? ty).map (·.size) = some cells.size) (hold : off + cells.size ≤ old.size) (h1 : cells.all (·.oneCell') = true)
    (hn : old.toList.take off ++ cells.toList ++ old.toList.drop (off + cells.size) = new.toList)
    (h : ∀ W, KeepBut B w.heap.size w W → Box W B T new → wpList P ops Q rest (a.put o.dst undef) W) : wpList P ops Q (o :: rest) a w := by
  refine wpList_store_mid hg ty x y ho B off cells hx hy (hb.there off cells.size hold) hi h1 (h _ ((KeepBut.refl _ _).setCells _ _ _) ?_)
  have := Box.setCells cells.toList off w old hb (by simpa using hold)
  simpa [hn] using this
end
section
variable {P : Program} {ops : Array Oper} {rest : List Oper} {a : Act} {w : World} {Q : Exit → Act → World → Prop} {T0 T1 T2 : TypeId} {c0 c1 c2 : Array Value}
theorem boxes1l (h : ∀ W, Below w.heap.size w W → w.heap.size + 1 ≤ W.heap.size → Box W w.heap.size T0 c0 → wpList P ops Q rest a W) : wpList P ops Q rest a (w.alloc (.cells c0 T0)) :=
  h _ ((Below.refl _ _).alloc (Nat.le_refl _) _) (by simp) (Box.new _ _ _)
theorem boxes2l (h : ∀ W, Below w.heap.size w W → w.heap.size + 2 ≤ W.heap.size → Box W w.heap.size T0 c0 → Box W (w.heap.size + 1) T1 c1 → wpList P ops Q rest a W) : wpList P ops Q rest a ((w.alloc (.cells c0 T0)).alloc (.cells c1 T1)) := by
  refine h _ (((Below.refl _ _).alloc (Nat.le_refl _) _).alloc (by simp) _) (by simp) ((Box.new _ _ _).alloc _) ?_
  have := Box.new (w.alloc (.cells c0 T0)) T1 c1
  rwa [World.size_alloc] at this
end
/-- the result lies in a box -/
theorem Box.results {P : Program} {w : World} {B : Nat} {T : TypeId} {cs : Array Value} (b : Box w B T cs) {fn : Func} {p : Tmp} {ty : TypeId} (h : fn.results = #[.cell p ty]) (tmps : Array Value) (d : TypeDesc)
    (ht : tmps.getD p undef = .pointer (some ⟨B, 0, none⟩)) (hu : P.underlying ty = some d) (hd : d.isRow = true) (hi : (P.info? ty).map (·.size) = some cs.size) : (results fn tmps).run P w = .ok (.agg cs) w := by
  refine results_cell_row h tmps w B T cs (0, 0) d ht b.blk hu ?_ hi
  cases d <;> simp_all [TypeDesc.isRow]
theorem setCells_keeps {S : World → Prop} {B : Nat} (hS : ∀ w i u, S w → S (w.setCell ⟨B, i, none⟩ u)) : ∀ (vs : List Value) (o : Nat) (w : World), S w → S (w.setCells B o vs)
  | [], _, _, h => h
  | v :: r, o, w, h => by
    rw [World.setCells]
    exact setCells_keeps hS r (o + 1) _ (hS _ _ _ h)
section
variable {P : Program} {ops : Array Oper} {Q : Exit → Act → World → Prop} {md : Region.Mode} {S : World → Prop}
/-- a store of some cells that comes up alone -/
theorem wpAnyH_storeN (B : Nat) (T : TypeId) (i : Nat) {o : Oper} (hi : ops[i]? = some o) (hg : o.guard = none) (hd : o.dst = none) {ty : TypeId} {x y : Operand} (ho : o.op = .store ty x y) (off : Nat) (cells cs new : Array Value) {a : Act} {fuel : Nat} {listed : Array Bool} {w : World}
    (hr : Region.ready md ops listed = [i]) (hS : ∀ w i u, S w → S (w.setCell ⟨B, i, none⟩ u)) (hx : a.eval x = .pointer (some ⟨B, off, none⟩)) (hy : a.eval y = .agg cells)
    (hb : Box w B T cs) (hs : S w) (hi2 : (P.info? ty).map (·.size) = some cells.size) (hoff : off + cells.size ≤ cs.size) (h1 : cells.all (·.oneCell') = true)
    (hn : cs.toList.take off ++ cells.toList ++ cs.toList.drop (off + cells.size) = new.toList)
    (h : ∀ w', Box w' B T new → S w' → wpAnyH P md ops Q S fuel (listed.setIfInBounds i true) a w') : wpAnyH P md ops Q S (fuel + 1) listed a w := by
  refine wpAnyH_all hr (by simp) fun j hj => ?_
  obtain rfl : j = i := by simpa using hj
  unfold wpOp
  rw [hi]
  have hw : Region.wanted o (yielded ops a.tmps) = true := by simp [Region.wanted, hg]
  simp only [hw, if_true]
  left
  have hb2 := Box.setCells cells.toList off w cs hb (by simpa using hoff)
  have hb3 : Box (w.setCells B off cells.toList) B T new := by simpa [hn] using hb2
  have hs2 := setCells_keeps hS cells.toList off w hs
  refine wp_store_mid ty x y ho B off cells hx hy (hb.there off cells.size hoff) hi2 h1 ?_
  rw [hd]
  exact ⟨hs2, h _ hb3 hs2⟩
end
/-- the load of a whole struct, wherever S says that it lies -/
theorem exec_load {P : Program} {S : World → Prop} {oi : Oper} {a : Act} (ty : TypeId) (x : Operand) (ho : oi.op = .load ty x) (b o : Nat) (hx : a.eval x = .pointer (some ⟨b, o, none⟩)) (cells : Array Value) (hc : ∀ w, S w → w.rangeAt b o cells.toList)
    (d : TypeDesc) (hu : P.underlying ty = some d) (hd : d.isRow = true) (hi : (P.info? ty).map (·.size) = some cells.size) : ∀ w, S w → (execOp a.eval oi).run P w = .ok (.value (.agg cells)) w := fun w hS => by
  unfold execOp
  simp only [ho, hx, Sem.run_bind, run_loadAt_mid w b o ty cells.toList d (hc w hS) hu hd (by simpa using hi), Result.andThen_ok, Sem.run_pure]
end Go.Mono
namespace Go.Proofs.YtepodcocemmejaaGreatDoor
open Go.RowKit Go.Mono
set_option maxRecDepth 100000 in
set_option maxHeartbeats 1000000 in
/-- Over: a divisor of one digit -/
theorem over_one (m1 : Nat) (w wf : World) (hx : Ext wf w) (p q : Option Addr) (n c1 c2 : Nat) (N M : Int) (h1 : Sz m1 wf (.slice p n c1) N) (h2 : Sz 1 wf (.slice q 1 c2) M) (hM : 0 < M) (hle : M ≤ N) (hm1 : m1 ≤ 1000000) :
    Calls Tryz.prog 164 #[.slice p n c1, .slice q 1 c2] w fun e w' => ∃ p1 k1 c1 p2 k2 c2, e = .returned (.tuple #[.slice p1 k1 c1, .slice p2 k2 c2]) ∧ Sz m1 w' (.slice p1 k1 c1) (N / M) ∧ Sz 1 w' (.slice p2 k2 c2) (N % M) ∧ Below w.heap.size w w' := by
  have hc := cmp_sz m1 1 w wf hx p q n 1 c1 c2 N M h1 h2
  obtain ⟨n', g, s2, d2, hv2, l2, rfl⟩ := (h2.ext hx).sl
  obtain ⟨_, _, hx2⟩ := s2.opens
  obtain ⟨b, off, rfl, hb2, hcell⟩ := hx2 (by omega)
  have a1 := hcell 0 (by omega)
  rw [Nat.add_zero] at a1
  have eM : g 0 = M := by rw [← hv2]; simp [vf, pw]
  rw [eM] at a1
  have M1 : M < 1000000000 := by rw [← eM]; exact d2.hi 0 (by omega)
  have h1' := h1.ext hx
  clear hcell hx2 h1 h2 s2 d2 hv2 eM hx
  go_enter Tryz.func164, Tryz.ntmps164
  go_wp2_with (go_at_call 148; refine hc.mono ?_; rintro e w' ⟨c, ⟨rfl, k, rfl⟩, hc1, hc2⟩; have hc0 : ¬ c < 0 := fun h => by have := hc1.1 h; omega)
  have hp := part_sz m1 (w.drewN k) w ((Ext.refl w).below (below_drewN (Below.refl _ _) k)) p n c1 N M h1' hm1 hM M1
  go_wp2_with (go_at_call 189; refine hp.mono ?_; rintro e w1 ⟨p1, k1, c3, rfl, hs1, hb1⟩)
  have hB : Below w.heap.size w w1 := (below_drewN (Below.refl _ _) k).trans hb1
  have hr0 : RowF (w1.alloc (.cells #[.int .i64 (N % M)] 3)) w1.heap.size 1 (fun _ => N % M) := ⟨#[.int .i64 (N % M)], by show (w1.heap.push _)[w1.heap.size]? = _; simp, by simp, fun i hi => by obtain rfl : i = 0 := by omega
                                                                                                                                                                                                  simp⟩
  have hs2 := hr0.slice (by omega) 1 (Nat.le_refl _) 1 (Nat.le_refl _)
  have r0 := Int.emod_nonneg N (show M ≠ 0 by omega)
  have r1 := Int.emod_lt_of_pos N hM
  obtain ⟨q1, q2⟩ := trimN_can (f := fun _ => N % M) (k := 1) (fun _ _ => r0) (fun _ _ => by omega)
  have q3 := trimN_le (fun _ => N % M) 1
  have q4 : vf (fun _ => N % M) 1 = N % M := by simp [vf, pw]
  have q5 := Lib.hid (q2.trans q4)
  clear q2 q4
  go_wp2_with (go_at_call 163; refine (trim_any _ _ _ _ _ hs2).mono ?_; rintro e w2 ⟨rfl, rfl⟩)
  go_ret2
  exact ⟨_, _, _, _, _, _, rfl, hs1.ext ((Ext.refl _).alloc _), ⟨_, _, hs2.take _ q3, q1, q5.out, q3⟩, hB.alloc hB.size _⟩
end Go.Proofs.YtepodcocemmejaaGreatDoor
namespace Go.Mono
open Go.RowKit
section
variable {F : Fence} {n : Nat} {P : Program} {ops : Array Oper} {rest : List Oper} {o : Oper} {a : Act} {w : World} {Q : Exit → Act → World → Prop}
theorem wpListIn_new (hg : o.guard = none) (T : TypeId) (ho : o.op = .alloc T) (zs : Array Value)
    (hrun : ∀ w, (Instr.alloc T true (.tuple #[])).run P w = .ok (.pointer (some ⟨w.heap.size, 0, none⟩)) (w.alloc (.cells zs T)))
    (h : ∀ W B, w.heap.size ≤ B → Below w.heap.size w W → Box W B T zs → wpListIn F n P ops Q rest (a.put o.dst (.pointer (some ⟨B, 0, none⟩))) W) : wpListIn F n P ops Q (o :: rest) a w := by
  refine wpListIn_plain hg fun K hK => ?_
  unfold Oper.wpIn
  refine ⟨by simp [Oper.about, ho], ?_⟩
  rw [Oper.semAt_plain F _ _ (by rw [ho]; intro c hc'; cases hc')]
  unfold execOp
  simp only [ho, Sem.run_bind, hrun, Result.andThen_ok, Sem.run_pure]
  exact hK _ _ (h _ _ (Nat.le_refl _) ((Below.refl _ _).alloc (Nat.le_refl _) _) (Box.new _ _ _))
theorem wpListIn_load_mid (hg : o.guard = none) (ty : TypeId) (x : Operand) (ho : o.op = .load ty x)
    (b off : Nat) (hx : a.eval x = .pointer (some ⟨b, off, none⟩)) (cs : List Value) (d : TypeDesc) (hc : w.rangeAt b off cs)
    (hu : P.underlying ty = some d) (hd : d.isRow = true) (hi : (P.info? ty).map (·.size) = some cs.length)
    (h : wpListIn F n P ops Q rest (a.put o.dst (.agg cs.toArray)) w) : wpListIn F n P ops Q (o :: rest) a w := by
  refine wpListIn_plain hg fun K hK => ?_
  unfold Oper.wpIn
  refine ⟨by simp [Oper.about, ho], ?_⟩
  rw [Oper.semAt_plain F _ _ (by rw [ho]; intro c hc'; cases hc')]
  unfold execOp
  simp only [ho, hx, Sem.run_bind, run_loadAt_mid w b off ty cs d hc hu hd hi, Result.andThen_ok, Sem.run_pure]
  exact hK _ _ h
theorem wpListIn_load_box (hg : o.guard = none) (ty : TypeId) (x : Operand) (ho : o.op = .load ty x) (B : Nat) (hx : a.eval x = .pointer (some ⟨B, 0, none⟩)) (T : TypeId) (cells : Array Value) (hb : Box w B T cells)
    (d : TypeDesc) (hu : P.underlying ty = some d) (hd : d.isRow = true) (hi : (P.info? ty).map (·.size) = some cells.size)
    (h : wpListIn F n P ops Q rest (a.put o.dst (.agg cells)) w) : wpListIn F n P ops Q (o :: rest) a w :=
  wpListIn_load_mid hg ty x ho B 0 hx cells.toList d hb.range hu hd (by simpa using hi) (by simpa using h)
theorem wpListIn_store_box (hg : o.guard = none) (ty : TypeId) (x y : Operand) (ho : o.op = .store ty x y) (B off : Nat) (T : TypeId) (old cells new : Array Value) (hx : a.eval x = .pointer (some ⟨B, off, none⟩)) (hy : a.eval y = .agg cells)
    (hb : Box w B T old) (hi : (P.info? ty).map (·.size) = some cells.size) (hold : off + cells.size ≤ old.size) (h1 : cells.all (·.oneCell') = true)
    (hn : old.toList.take off ++ cells.toList ++ old.toList.drop (off + cells.size) = new.toList)
    (h : ∀ W, KeepBut B w.heap.size w W → KeepsOthers w W → Box W B T new → wpListIn F n P ops Q rest (a.put o.dst undef) W) : wpListIn F n P ops Q (o :: rest) a w := by
  refine wpListIn_plain hg fun K hK => ?_
  unfold Oper.wpIn
  refine ⟨by simp [Oper.about, ho], ?_⟩
  rw [Oper.semAt_plain F _ _ (by rw [ho]; intro c hc'; cases hc')]
  unfold execOp
  simp only [ho, hx, hy, Sem.run_bind, run_storeAt_mid w B off ty cells (hb.there off cells.size hold) hi h1, Result.andThen_ok, Sem.run_pure]
  refine hK _ _ (h _ ((KeepBut.refl _ _).setCells _ _ _) (setCells_keeps (S := fun V => KeepsOthers w V) (B := B) (fun V i u hV => hV.trans (.setCell _ _ _)) _ _ _ (.refl _)) ?_)
  have := Box.setCells cells.toList off w old hb (by simpa using hold)
  simpa [hn] using this
end
/-- a box after a whole store into it, whatever it held -/
theorem whole_new {old cells : Array Value} (h : old.size = cells.size) : old.toList.take 0 ++ cells.toList ++ old.toList.drop (0 + cells.size) = cells.toList := by
  simp [← h]
end Go.Mono
