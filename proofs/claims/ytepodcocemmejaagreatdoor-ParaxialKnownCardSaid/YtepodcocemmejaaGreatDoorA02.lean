/- Part 2 of 52 of the proof that the law ParaxialKnown returns true, whatever stands in memory, if the two listed variables hold what the text lays: contracts of the functions that it reaches. No condition beside the row. -/
import Derived.Laws.CopyOwn
import Derived.Laws.AppendOwnNone
import Derived.Test.YtepodcocemmejaaGreatDoorA01
set_option linter.unusedVariables false
set_option linter.unusedSimpArgs false
namespace Go.Mono
open Go.RowKit
/-- block g is a row of n ints of the function's own, the numbers f -/
def RowF (w : World) (g n : Nat) (f : Nat → Int) : Prop := ∃ cs, w.heap[g]? = some (.cells cs 3 (0, 0)) ∧ n ≤ cs.size ∧ ∀ i, i < n → cs[i]? = some (.int .i64 (f i))
theorem RowF.lt {w : World} {g n : Nat} {f : Nat → Int} (h : RowF w g n f) : g < w.heap.size := by obtain ⟨cs, h, _⟩ := h; exact lt_of_some h
theorem RowF.cell {w : World} {g n : Nat} {f : Nat → Int} (h : RowF w g n f) (i : Nat) (hi : i < n) : w.cell? ⟨g, i, none⟩ = some (.int .i64 (f i)) := by
  obtain ⟨cs, h1, h2, h3⟩ := h
  simp [World.cell?, h1, h3 i hi]
theorem RowF.frozen {w : World} {g n : Nat} {f : Nat → Int} (h : RowF w g n f) (i : Nat) : w.frozen? ⟨g, i, none⟩ = false := by
  obtain ⟨cs, h1, h2, h3⟩ := h
  simp [World.frozen?, h1]
theorem RowF.set {w : World} {g n : Nat} {f : Nat → Int} (h : RowF w g n f) (i : Nat) (x : Int) : RowF (w.setCell ⟨g, i, none⟩ (.int .i64 x)) g n (fun j => if j = i then x else f j) := by
  obtain ⟨cs, h1, h2, h3⟩ := h
  refine ⟨cs.setIfInBounds i (.int .i64 x), ?_, by simpa using h2, fun j hj => ?_⟩
  · show (w.heap.modify g _)[g]? = _
    simp [Array.getElem?_modify, h1]
  · rw [Array.getElem?_setIfInBounds]
    by_cases e : i = j
    · subst e; simp [show i < cs.size by omega]
    · have e2 : ¬ j = i := fun h => e h.symm
      simp only [e2, if_false]; rw [if_neg e]; exact h3 j hj
theorem RowF.other {w : World} {g n : Nat} {f : Nat → Int} (h : RowF w g n f) (a : Addr) (u : Value) (hne : g ≠ a.block) : RowF (w.setCell a u) g n f := by
  obtain ⟨cs, h1, h2⟩ := h
  exact ⟨cs, (Below.heap_setCell w a u g hne).trans h1, h2⟩
theorem RowF.below {w w' : World} {g n : Nat} {f : Nat → Int} (h : RowF w g n f) (hb : Below w.heap.size w w') : RowF w' g n f := by
  have hl := h.lt
  obtain ⟨cs, h1, h2⟩ := h
  exact ⟨cs, (hb.block g hl).trans h1, h2⟩
theorem RowF.drewN {w : World} {g n : Nat} {f : Nat → Int} (h : RowF w g n f) (k : Nat) : RowF (w.drewN k) g n f := h
theorem RowF.congr {w : World} {g n : Nat} {f f' : Nat → Int} (h : RowF w g n f) (he : ∀ i, i < n → f i = f' i) : RowF w g n f' := by
  obtain ⟨cs, h1, h2, h3⟩ := h
  exact ⟨cs, h1, h2, fun i hi => by rw [h3 i hi, he i hi]⟩
theorem RowF.slice {w : World} {g n : Nat} {f : Nat → Int} (h : RowF w g n f) (hn : n ≤ 140737488351232) (k : Nat) (hk : k ≤ n) (cap : Nat) (hc : k ≤ cap) : SlF w (.slice (some ⟨g, 0, none⟩) k cap) k f := by
  obtain ⟨cs, h1, h2, h3⟩ := h
  exact .inr ⟨g, 0, cap, cs, _, rfl, hc, by omega, h1, fun i hi => by rw [Nat.zero_add]; exact h3 i (by omega)⟩
theorem RowF.le {w : World} {g n : Nat} {f : Nat → Int} (h : RowF w g n f) (k : Nat) (hk : k ≤ n) : RowF w g k f := by
  obtain ⟨cs, h1, h2, h3⟩ := h
  exact ⟨cs, h1, by omega, fun i hi => h3 i (by omega)⟩
/-- an own slice of ints, which may grow -/
def OwnF (w : World) (base : Nat) (v : Value) (n : Nat) (f : Nat → Int) : Prop := w.ownsRow base 3 1 v n ((List.range n).map fun i => .int .i64 (f i))
theorem OwnF.nil (w : World) (base : Nat) (f : Nat → Int) : OwnF w base (.slice none 0 0) 0 f := World.ownsRow_nil _ _ _ _
theorem OwnF.congr {w : World} {base : Nat} {v : Value} {n : Nat} {f f' : Nat → Int} (h : OwnF w base v n f) (he : ∀ i, i < n → f i = f' i) : OwnF w base v n f' := by
  unfold OwnF at h ⊢
  rwa [List.map_congr_left (g := fun i => Value.int .i64 (f' i)) (fun i hi => by rw [he i (List.mem_range.1 hi)])] at h
theorem OwnF.open {w : World} {base : Nat} {v : Value} {n : Nat} {f : Nat → Int} (h : OwnF w base v n f) :
    (v = .slice none 0 0 ∧ n = 0) ∨ ∃ g cap, v = .slice (some ⟨g, 0, none⟩) n cap ∧ base ≤ g ∧ n ≤ cap ∧ RowF w g n f := by
  obtain ⟨hl, h | ⟨g, cap, cur, hv, hb, hh, hn, hm, hs, ht⟩⟩ := h
  · exact .inl h
  · refine .inr ⟨g, cap, hv, hb, hn, cur, hh, by omega, fun i hi => ?_⟩
    have e : (cur.toList.take (n * 1))[i]? = ((List.range n).map fun i => Value.int .i64 (f i))[i]? := by rw [ht]
    rw [List.getElem?_take_of_lt (by omega)] at e
    simpa [hi] using e
theorem OwnF.sl {w : World} {base : Nat} {v : Value} {n : Nat} {f : Nat → Int} (h : OwnF w base v n f) (hn : n ≤ 140737488351232) : SlF w v n f := by
  rcases h.open with h | ⟨g, cap, rfl, _, hc, hr⟩
  · exact .inl h
  · exact hr.slice hn n (Nat.le_refl _) cap hc
theorem OwnF.shape {w : World} {base : Nat} {v : Value} {n : Nat} {f : Nat → Int} (h : OwnF w base v n f) : ∃ p c, v = .slice p n c := by
  rcases h.open with ⟨rfl, rfl⟩ | ⟨g, cap, rfl, _⟩
  · exact ⟨_, _, rfl⟩
  · exact ⟨_, _, rfl⟩
theorem SlF.congr {w : World} {v : Value} {n : Nat} {f f' : Nat → Int} (h : SlF w v n f) (he : ∀ i, i < n → f i = f' i) : SlF w v n f' := by
  rcases h with h | ⟨b, off, cap, cs, fr, h1, h2, h3, h4, h5⟩
  · exact .inl h
  · exact .inr ⟨b, off, cap, cs, fr, h1, h2, h3, h4, fun i hi => by rw [h5 i hi, he i hi]⟩
/-- only the row r has changed -/
structure OnlyRow (r : Nat) (w w' : World) : Prop where
  os : w'.os = w.os
  tape : w'.tape = w.tape
  output : w'.output = w.output
  size : w'.heap.size = w.heap.size
  block : ∀ k, k ≠ r → w'.heap[k]? = w.heap[k]?
theorem OnlyRow.refl (r : Nat) (w : World) : OnlyRow r w w := ⟨rfl, rfl, rfl, rfl, fun _ _ => rfl⟩
theorem OnlyRow.trans {r : Nat} {a b c : World} (h : OnlyRow r a b) (k : OnlyRow r b c) : OnlyRow r a c := ⟨k.os.trans h.os, k.tape.trans h.tape, k.output.trans h.output, k.size.trans h.size, fun i hi => (k.block i hi).trans (h.block i hi)⟩
theorem OnlyRow.set {r : Nat} {a w : World} (h : OnlyRow r a w) (i : Nat) (u : Value) : OnlyRow r a (w.setCell ⟨r, i, none⟩ u) :=
  h.trans ⟨rfl, rfl, rfl, by show (w.heap.modify _ _).size = _; simp, fun k hk => Below.heap_setCell w _ u k hk⟩
theorem OnlyRow.drewN {r : Nat} {a w : World} (h : OnlyRow r a w) (n : Nat) : OnlyRow r a (w.drewN n) := ⟨h.os, h.tape, h.output, h.size, h.block⟩
theorem OnlyRow.row {r : Nat} {a w : World} (h : OnlyRow r a w) {s n : Nat} {f : Nat → Int} (hs : RowF a s n f) (hne : s ≠ r) : RowF w s n f := by
  obtain ⟨cs, h1, h2⟩ := hs
  exact ⟨cs, (h.block s hne).trans h1, h2⟩
theorem OnlyRow.below {r B : Nat} {w0 a w : World} (h : OnlyRow r a w) (hb : Below B w0 a) (hB : B ≤ r) : Below B w0 w :=
  hb.trans ⟨h.os, h.tape, h.output, Nat.le_of_eq h.size.symm, fun k hk => h.block k (by omega)⟩
section
variable {P : Program} {ops : Array Oper} {rest : List Oper} {o : Oper} {a : Act} {Q : Exit → Act → World → Prop}
/-- 'make([]int, n)' -/
theorem wpList_make_ints (w : World) (hg : o.guard = none) (l c : Operand) (t : TypeId) (hop : o.op = Op.makeSlice t l c)
    (h1 : P.underlying t = some (.slice 3)) (h2 : (P.info? 3).map (fun i => (i.zero, i.size, i.bytes)) = some (some (.int .i64 0), 1, 8))
    (L C : Int) (n : Nat) (hl : a.eval l = .int .i64 L) (hc : a.eval c = .int .i64 C) (hL : L = (n : Int)) (hC : C = (n : Int)) (hn : n ≤ 17592186044416)
    (hK : ∀ w', RowF w' w.heap.size n (fun _ => 0) → Below w.heap.size w w' → wpList P ops Q rest (a.put o.dst (.slice (some ⟨w.heap.size, 0, none⟩) n n)) w') :
    wpList P ops Q (o :: rest) a w := by
  obtain ⟨i, hi, hz, hs, hb⟩ := info_parts h2
  refine wpList_plain hg fun K hK' => ?_
  subst hL hC
  have hr := run_make (P := P) w t 3 i (.int .i64 0) h1 hi hz .i64 .i64 n n (by omega) (Int.le_refl _) (by rw [hb]; omega) (by omega)
  simp only [Int.toNat_natCast, hs] at hr
  unfold Oper.wp
  simp [execOp, hop, hl, hc, hr, Result.andThen]
  refine hK' _ _ (hK _ ⟨madeCells #[.int .i64 0] n, ?_, by simp [madeCells], fun j hj => ?_⟩ ((Below.refl _ _).alloc (Nat.le_refl _) _))
  · show (w.heap.push _)[w.heap.size]? = _
    simp [Value.cells]
  · simp [madeCells, hj, Nat.mod_one]
/-- 'copy(out, a)' at the beginning of an own row -/
theorem wpList_copy_ints (w : World) (hg : o.guard = none) (d s : Operand) (dT sT : TypeId) (ho : o.op = .call { callee := .builtin .copy, args := #[d, s], argTypes := #[dT, sT] })
    (hu : P.underlying dT = some (.slice 3)) (hsz : (P.info? 3).map (·.size) = some 1)
    (g N cap R : Nat) (h : Nat → Int) (p : Option Addr) (n c : Nat) (f : Nat → Int) (hd : a.eval d = .slice (some ⟨g, 0, none⟩) N cap) (hs : a.eval s = .slice p n c)
    (hrow : RowF w g R h) (hsrc : SlF w (.slice p n c) n f) (hnN : n ≤ N) (hNR : N ≤ R) (B : Nat) (w0 : World) (hb : Below B w0 w) (hBg : B ≤ g)
    (hK : ∀ w', RowF w' g R (fun j => if j < n then f j else h j) → Below B w0 w' → wpList P ops Q rest (a.put o.dst (goInt n)) w') :
    wpList P ops Q (o :: rest) a w := by
  obtain ⟨cs, h1, h2, h3⟩ := hrow
  have hlen : ((List.range n).map fun i => Value.int .i64 (f i)).length = n := by simp
  refine wpList_copy_splice (w := w) hg d s dT sT ho 3 hu hsz _ _ N cap n c hd hs g 0 cs.toList 3 (by simpa using h1) ((List.range n).map fun i => Value.int .i64 (f i)) (by rw [hlen]; exact (Nat.min_eq_left hnN).symm) ?_ (by rw [hlen]; simp; omega) ?_ B w0 hb hBg ?_
  · intro hp
    rw [hlen] at hp
    obtain ⟨_, _, hx⟩ := hsrc.opens
    obtain ⟨b, off, rfl, _, hcell⟩ := hx hp
    refine ⟨rfl, _, rfl, fun j v hj => ?_⟩
    simp only [List.getElem?_map, Option.map_eq_some_iff] at hj
    obtain ⟨i, hi, rfl⟩ := hj
    obtain ⟨hlt, he⟩ := List.getElem?_eq_some_iff.1 hi
    simp at hlt he
    subst he
    have := hcell j hlt
    by_cases h0 : j = 0
    · subst h0; simpa [Addr.add] using this
    · simpa [Addr.add, h0] using this
  · intro v hv
    simp at hv
    obtain ⟨i, _, rfl⟩ := hv
    rfl
  · intro w' hw' hb'
    rw [hlen]
    refine hK w' ⟨_, hw'.out, ?_, fun j hj => ?_⟩ hb'
    · simp [splice]; omega
    · simp only [splice, List.take_zero, List.nil_append, Nat.zero_add, hlen]
      simp only [List.getElem?_toArray, List.getElem?_append, List.length_map, List.length_range, List.getElem?_drop]
      by_cases hjn : j < n
      · simp [hjn]
      · simp only [hjn, if_false]
        rw [show n + (j - n) = j by omega]
        simpa using h3 j hj
/-- 'append(v, x...)' onto an own slice, x any slice of ints -/
theorem wpList_append_ints (w : World) (hg : o.guard = none) (s x : Operand) (t : TypeId) (ho : o.op = .call { callee := .builtin .append, args := #[s, x], argTypes := #[t, t] })
    (h1 : P.underlying t = some (.slice 3)) (h2 : (P.info? 3).map (fun i => (i.zero, i.size, i.bytes)) = some (some (.int .i64 0), 1, 8))
    (base : Nat) (v : Value) (n : Nat) (f : Nat → Int) (hs : a.eval s = v) (hown : OwnF w base v n f)
    (p : Option Addr) (m c : Nat) (g : Nat → Int) (hx : a.eval x = .slice p m c) (hsl : SlF w (.slice p m c) m g) (hb : n + m ≤ 17592186044416) (hbase : base ≤ w.heap.size)
    (hK : ∀ v' w', OwnF w' base v' (n + m) (fun i => if i < n then f i else g (i - n)) → w.grownBy w' v.ownBlock → wpList P ops Q rest (a.put o.dst v') w') :
    wpList P ops Q (o :: rest) a w := by
  obtain ⟨i, hi, hz, hs1, hb1⟩ := info_parts h2
  have key : ∀ (k l : Nat) (f g : Nat → Int), ((List.range k).map fun i => Value.int .i64 (f i)) ++ ((List.range l).map fun i => Value.int .i64 (g i)) = (List.range (k + l)).map fun i => Value.int .i64 (if i < k then f i else g (i - k)) := by
    intro k l f g
    rw [List.range_add, List.map_append]
    congr 1
    · refine List.map_congr_left fun i hi => ?_
      rw [if_pos (List.mem_range.1 hi)]
    · rw [List.map_map]
      refine List.map_congr_left fun i _ => ?_
      simp only [Function.comp]
      rw [if_neg (by omega), show k + i - k = i by omega]
  rcases hsl with ⟨hv, rfl⟩ | ⟨b, off, cap, cs, fr, hv, hc, hc2, hh, hcs⟩
  · refine wpList_append_own_none hg s x t ho base 3 i 1 h1 hi v n _ hs hown (hx.trans hv) ?_
    exact hK v w (hown.congr fun i hi => by rw [if_pos hi]) ⟨rfl, rfl, rfl, Nat.le_refl _, fun _ _ _ => rfl⟩
  · simp only [Value.slice.injEq] at hv
    obtain ⟨rfl, _, rfl⟩ := hv
    refine wpList_append_own w hg s x t ho base 3 i (.int .i64 0) 1 8 h1 hi hz hs1 hb1 rfl (by decide) v n _ hs hown ⟨b, off, none⟩ m c ((List.range m).map fun i => Value.int .i64 (g i)) hx (by simp) ?_ ?_ (by simp [maxLen]; omega) (by omega) hbase ?_
    · intro j u hj
      simp only [List.getElem?_map, Option.map_eq_some_iff] at hj
      obtain ⟨i, hi, rfl⟩ := hj
      obtain ⟨hlt, he⟩ := List.getElem?_eq_some_iff.1 hi
      simp at hlt he
      subst he
      have : w.cell? ⟨b, off + j, none⟩ = some (.int .i64 (g j)) := by simp [World.cell?, hh, hcs j hlt]
      by_cases h0 : j = 0
      · subst h0; simpa [Addr.add] using this
      · simpa [Addr.add, h0] using this
    · intro u hu
      simp at hu
      obtain ⟨i, _, rfl⟩ := hu
      rfl
    · intro v' w' h3 h4 _
      rw [key] at h3
      exact hK v' w' h3 h4
end
end Go.Mono
namespace Go.Mono
def cmpDown (f g : Nat → Int) : Nat → Int
  | 0 => 0
  | k + 1 => if f k = g k then cmpDown f g k else f k - g k
def cmpV (f : Nat → Int) (n : Nat) (g : Nat → Int) (m : Nat) : Int := if n = m then cmpDown f g n else (n : Int) - m
theorem cmpDown_eq (f g : Nat → Int) (k : Nat) (hk : 0 < k) (h : f (k - 1) = g (k - 1)) : cmpDown f g k = cmpDown f g (k - 1) := by
  obtain ⟨k, rfl⟩ : ∃ j, k = j + 1 := ⟨k - 1, by omega⟩
  simp only [Nat.add_sub_cancel] at h ⊢
  rw [cmpDown, if_pos h]
theorem cmpDown_ne (f g : Nat → Int) (k : Nat) (hk : 0 < k) (h : ¬ f (k - 1) = g (k - 1)) : cmpDown f g k = f (k - 1) - g (k - 1) := by
  obtain ⟨k, rfl⟩ : ∃ j, k = j + 1 := ⟨k - 1, by omega⟩
  simp only [Nat.add_sub_cancel] at h ⊢
  rw [cmpDown, if_neg h]
end Go.Mono
namespace Go.Proofs.YtepodcocemmejaaGreatDoor
open Go.RowKit Go.Mono
set_option maxHeartbeats 400000 in
theorem cmp_any (p q : Option Addr) (n m c1 c2 : Nat) (f g : Nat → Int) (w : World) (h1 : SlF w (.slice p n c1) n f) (h2 : SlF w (.slice q m c2) m g)
    (f0 : ∀ i, i < n → 0 ≤ f i) (f1 : ∀ i, i < n → f i < 1000000000) (g0 : ∀ i, i < m → 0 ≤ g i) (g1 : ∀ i, i < m → g i < 1000000000) :
    Calls Tryz.prog 148 #[.slice p n c1, .slice q m c2] w fun e w' => e = .returned (.int .i64 (cmpV f n g m)) ∧ ∃ k, w' = w.drewN k := by
  obtain ⟨hc1, hn1, hx1⟩ := h1.opens
  obtain ⟨hc2, hn2, hx2⟩ := h2.opens
  clear h1 h2
  by_cases hnm : n = m
  · subst hnm
    go_enter Tryz.func148, Tryz.ntmps148
    go_wp2
    go_loopw [5] (fun a wr => ∃ k : Nat, k ≤ n ∧ a = .int .i64 ((k : Int) - 1) ∧ cmpDown f g k = cmpDown f g n ∧ ∃ j, wr = w.drewN j) (fun a _ => (intOf a + 1).toNat)
    case atStart => exact ⟨n, Nat.le_refl _, rfl, rfl, 0, rfl⟩
    case round =>
      obtain ⟨k, hk, rfl, ht, j, rfl⟩ := hrel
      have HT := Lib.hid ht; clear ht
      by_cases h0 : 0 < k
      · obtain ⟨b, off, rfl, hb, hcell⟩ := hx1 (by omega)
        obtain ⟨b2, off2, rfl, hb2, hcell2⟩ := hx2 (by omega)
        have a1 := hcell (k-1) (by omega)
        have a2 := hcell2 (k-1) (by omega)
        have b1 := f0 (k-1) (by omega)
        have b2 := f1 (k-1) (by omega)
        have b3 := g0 (k-1) (by omega)
        have b4 := g1 (k-1) (by omega)
        clear hcell hcell2 hx1 hx2 f0 f1 g0 g1
        obtain ⟨k, rfl⟩ : ∃ j, k = j + 1 := ⟨k-1, by omega⟩
        simp only [Nat.add_sub_cancel] at a1 a2 b1 b2 b3 b4
        rw [show ((k + 1 : Nat) : Int) - 1 = (k : Int) by omega]
        have HE := cmpDown_eq f g (k + 1) (by omega)
        have HN := cmpDown_ne f g (k + 1) (by omega)
        simp only [Nat.add_sub_cancel] at HE HN
        replace HE := Lib.hid HE
        replace HN := Lib.hid HN
        by_cases hfg : f k = g k
        · have hq : (f k != g k) = false := by simpa using hfg
          have HF := Lib.hid hfg; clear hfg
          go_wp2
          go_quiet (fail)
          go_wp2
          go_roundw
          case rel => exact ⟨k, by omega, rfl, by rw [← HT.out, HE.out HF.out], _, rfl⟩
          case measure => simp [intOf]
        · have hq : (f k != g k) = true := by simpa using hfg
          have HF := Lib.hid hfg; clear hfg
          go_wp2
          go_quiet (fail)
          go_wp2
          go_quiet (fail)
          go_wp2
          go_ret
          exact ⟨by rw [cmpV, if_pos rfl, ← HT.out, HN.out HF.out]; rfl, _, by rw [World.drewN_drewN, World.drewN_drewN]⟩
      · obtain rfl : k = 0 := by omega
        go_wp2
        go_ret
        exact ⟨by rw [cmpV, if_pos rfl, ← HT.out]; rfl, _, rfl⟩
  · have hnm' : ((n : Int) != (m : Int)) = true := by simp; omega
    go_enter Tryz.func148, Tryz.ntmps148
    go_wp2
    go_ret
    refine ⟨by rw [cmpV, if_neg hnm]; rfl, 0, rfl⟩
end Go.Proofs.YtepodcocemmejaaGreatDoor
namespace Go.Mono
theorem cmpDown_spec {f g : Nat → Int} {n : Nat} (f0 : ∀ i, i < n → 0 ≤ f i) (f1 : ∀ i, i < n → f i < 1000000000) (g0 : ∀ i, i < n → 0 ≤ g i) (g1 : ∀ i, i < n → g i < 1000000000) (cd : Nat → Int)
    (h0 : cd 0 = 0) (hs : ∀ k, cd (k + 1) = if f k = g k then cd k else f k - g k) : (cd n < 0 ↔ vf f n < vf g n) ∧ (cd n = 0 ↔ vf f n = vf g n) := by
  induction n with
  | zero => rw [h0]; simp [vf]
  | succ n ih =>
    have h1 := ih (fun i hi => f0 i (by omega)) (fun i hi => f1 i (by omega)) (fun i hi => g0 i (by omega)) (fun i hi => g1 i (by omega))
    rw [hs, vf_succ, vf_succ]
    by_cases e : f n = g n
    · rw [if_pos e, e]; omega
    · rw [if_neg e]
      have a1 := vf_nonneg (f := f) (k := n) fun i hi => f0 i (by omega)
      have a2 := vf_nonneg (f := g) (k := n) fun i hi => g0 i (by omega)
      have b1 := vf_lt (f := f) (k := n) fun i hi => f1 i (by omega)
      have b2 := vf_lt (f := g) (k := n) fun i hi => g1 i (by omega)
      rcases Int.lt_or_gt_of_ne e with h | h
      · have : (f n + 1) * pw n ≤ g n * pw n := Int.mul_le_mul_of_nonneg_right (by omega) (Int.le_of_lt (pw_pos n))
        rw [Int.add_mul] at this; omega
      · have : (g n + 1) * pw n ≤ f n * pw n := Int.mul_le_mul_of_nonneg_right (by omega) (Int.le_of_lt (pw_pos n))
        rw [Int.add_mul] at this; omega
/-- the borrowing loop of a difference, before place i -/
def MinusInv (n : Nat) (S : Int) (i : Nat) (h : Nat → Int) : Prop :=
  vf h n = S ∧ (∀ j, j < i → 0 ≤ h j ∧ h j < 1000000000) ∧ (∀ j, i ≤ j → j < n → (if j = i then -1000000000 else -999999999) ≤ h j ∧ h j < 1000000000)
theorem vf_sub (f g : Nat → Int) (k : Nat) : vf (fun j => f j - g j) k = vf f k - vf g k := by
  induction k with
  | zero => rfl
  | succ k ih => rw [vf_succ, vf_succ, vf_succ, ih]; grind
theorem MinusInv.start {n m : Nat} {f g : Nat → Int} (hmn : m ≤ n) (f0 : ∀ i, i < n → 0 ≤ f i) (f1 : ∀ i, i < n → f i < 1000000000) (g0 : ∀ i, i < m → 0 ≤ g i) (g1 : ∀ i, i < m → g i < 1000000000) :
    MinusInv n (vf f n - vf g m) 0 (fun j => f j - (if j < m then g j else 0)) := by
  refine ⟨?_, fun j hj => by omega, fun j _ hj => ?_⟩
  · rw [vf_sub, vf_ext (by omega)]
  · have a := f0 j hj
    have b := f1 j hj
    by_cases hm : j < m
    · have c := g0 j hm
      have d := g1 j hm
      simp only [hm, if_true]; split <;> omega
    · simp only [hm, if_false]; split <;> omega
theorem MinusInv.last {n i : Nat} {S : Int} {h : Nat → Int} (H : MinusInv n S i h) (hS : 0 ≤ S) (hi : i < n) (hc : h i < 0) : i + 1 < n := by
  obtain ⟨a, b, c⟩ := H
  rcases Nat.lt_or_ge (i + 1) n with h1 | h1
  · exact h1
  · obtain rfl : n = i + 1 := by omega
    rw [vf_succ] at a
    have h2 := vf_lt (f := h) (k := i) fun j hj => (b j hj).2
    have h3 : h i * pw i ≤ (-1) * pw i := Int.mul_le_mul_of_nonneg_right (by omega) (Int.le_of_lt (pw_pos i))
    omega
theorem MinusInv.bd {n i : Nat} {S : Int} {h : Nat → Int} (H : MinusInv n S i h) (hi : i < n) : -1000000000 ≤ h i ∧ h i < 1000000000 ∧ (i + 1 < n → -999999999 ≤ h (i + 1) ∧ h (i + 1) < 1000000000) := by
  obtain ⟨a, b, c⟩ := H
  have h0 := c i (Nat.le_refl _) hi
  rw [if_pos rfl] at h0
  refine ⟨h0.1, h0.2, fun h2 => ?_⟩
  have := c (i + 1) (by omega) h2
  rwa [if_neg (by omega)] at this
theorem MinusInv.carry {n i : Nat} {S : Int} {h : Nat → Int} (H : MinusInv n S i h) (hi : i + 1 < n) (hc : h i < 0) :
    MinusInv n S (i + 1) (fun j => if j = i + 1 then h (i + 1) - 1 else if j = i then h i + 1000000000 else h j) := by
  have hb := H.bd (by omega)
  obtain ⟨a, b, c⟩ := H
  refine ⟨?_, fun j hj => ?_, fun j hj hjn => ?_⟩
  · have e1 : (fun j => if j = i + 1 then h (i + 1) - 1 else if j = i then h i + 1000000000 else h j) = fun j => if j = i + 1 then h (i + 1) - 1 else (fun j => if j = i then h i + 1000000000 else h j) j := rfl
    rw [e1, vf_set, vf_set, a, if_pos (by omega), if_pos (by omega)]
    simp only [show ¬ i + 1 = i by omega, if_false, pw_succ]
    grind
  · show 0 ≤ (if j = i + 1 then _ else _) ∧ (if j = i + 1 then _ else _) < _
    rw [if_neg (by omega)]
    split
    · omega
    · exact b j (by omega)
  · show _ ≤ (if j = i + 1 then _ else _) ∧ (if j = i + 1 then _ else _) < _
    have := c j (by omega) hjn
    rw [if_neg (by omega)] at this
    by_cases e : j = i + 1
    · subst e; rw [if_pos rfl, if_pos rfl]; omega
    · rw [if_neg e, if_neg e, if_neg (by omega)]; exact this
theorem MinusInv.plain {n i : Nat} {S : Int} {h : Nat → Int} (H : MinusInv n S i h) (hi : i < n) (hc : 0 ≤ h i) : MinusInv n S (i + 1) h := by
  have hb := H.bd hi
  obtain ⟨a, b, c⟩ := H
  refine ⟨a, fun j hj => ?_, fun j hj hjn => ?_⟩
  · rcases Nat.lt_or_ge j i with h | h
    · exact b j h
    · obtain rfl : j = i := by omega
      omega
  · have := c j (by omega) hjn
    rw [if_neg (by omega)] at this
    split <;> omega
theorem MinusInv.done {n : Nat} {S : Int} {h : Nat → Int} (H : MinusInv n S n h) : Digs h (trimN h n) ∧ vf h (trimN h n) = S := by
  obtain ⟨a, b, c⟩ := H
  have := trimN_can (f := h) (k := n) (fun i hi => (b i hi).1) (fun i hi => (b i hi).2)
  rwa [a] at this
/-- the loops of a product: rounds i outside, k inside, with a carry -/
structure TimesInv (n m : Nat) (f g : Nat → Int) (i k : Nat) (h : Nat → Int) (c : Int) : Prop where
  lo : ∀ j, j < n + m → 0 ≤ h j
  hi : ∀ j, j < n + m → h j < 1000000000
  above : ∀ j, i + m ≤ j → j < n + m → h j = 0
  c0 : 0 ≤ c
  c1 : c < 1000000000
  val : vf h (n + m) + c * pw (i + k) = vf f i * vf g m + f i * pw i * vf g k
theorem mul_bd {x y : Int} (x0 : 0 ≤ x) (x1 : x < 1000000000) (y0 : 0 ≤ y) (y1 : y < 1000000000) : 0 ≤ x * y ∧ x * y ≤ 999999998000000001 := by
  refine ⟨Int.mul_nonneg x0 y0, ?_⟩
  have h1 : x * y ≤ 999999999 * y := Int.mul_le_mul_of_nonneg_right (by omega) y0
  omega
theorem TimesInv.step {n m : Nat} {f g : Nat → Int} {i k : Nat} {h : Nat → Int} {c : Int} (H : TimesInv n m f g i k h c) (hi : i < n) (hk : k < m)
    (f0 : 0 ≤ f i) (f1 : f i < 1000000000) (g0 : 0 ≤ g k) (g1 : g k < 1000000000) :
    TimesInv n m f g i (k + 1) (fun j => if j = i + k then (h (i + k) + f i * g k + c) % 1000000000 else h j) ((h (i + k) + f i * g k + c) / 1000000000) := by
  have hb := mul_bd f0 f1 g0 g1
  have a1 := H.lo (i + k) (by omega)
  have a2 := H.hi (i + k) (by omega)
  have a3 := H.c0
  have a4 := H.c1
  have hv := H.val
  generalize hx : h (i + k) + f i * g k + c = x
  have hq : x = 1000000000 * (x / 1000000000) + x % 1000000000 := (Int.mul_ediv_add_emod x 1000000000).symm
  refine ⟨fun j hj => ?_, fun j hj => ?_, fun j hj hjn => ?_, by omega, by omega, ?_⟩
  · show 0 ≤ if j = i + k then _ else _
    split
    · omega
    · exact H.lo j hj
  · show (if j = i + k then _ else _) < _
    split
    · omega
    · exact H.hi j hj
  · show (if j = i + k then _ else _) = _
    rw [if_neg (by omega)]; exact H.above j hj hjn
  · rw [vf_set, if_pos (by omega), vf_succ, ← Nat.add_assoc, pw_succ]
    have hp := pw_add i k
    generalize x / 1000000000 = q at hq ⊢
    generalize x % 1000000000 = r at hq ⊢
    generalize vf h (n + m) = V at hv ⊢
    generalize vf f i * vf g m = W at hv ⊢
    rw [hp] at hv ⊢
    subst hq
    grind
theorem TimesInv.outer {n m : Nat} {f g : Nat → Int} {i : Nat} {h : Nat → Int} {c : Int} (H : TimesInv n m f g i m h c) (hi : i < n) :
    TimesInv n m f g (i + 1) 0 (fun j => if j = i + m then c else h j) 0 := by
  have a3 := H.c0
  have a4 := H.c1
  have hv := H.val
  have hz := H.above (i + m) (Nat.le_refl _) (by omega)
  refine ⟨fun j hj => ?_, fun j hj => ?_, fun j hj hjn => ?_, by omega, by omega, ?_⟩
  · show 0 ≤ if j = i + m then _ else _
    split
    · omega
    · exact H.lo j hj
  · show (if j = i + m then _ else _) < _
    split
    · omega
    · exact H.hi j hj
  · show (if j = i + m then _ else _) = _
    rw [if_neg (by omega)]; exact H.above j (by omega) hjn
  · rw [vf_set, if_pos (by omega), hz, vf_succ]
    simp only [vf]
    generalize vf h (n + m) = V at hv ⊢
    grind
theorem TimesInv.start {n m : Nat} {f g : Nat → Int} : TimesInv n m f g 0 0 (fun _ => 0) 0 :=
  ⟨fun _ _ => by simp, fun _ _ => by simp, fun _ _ _ => rfl, by simp, by simp, by rw [vf_zero fun _ _ => rfl]; simp [vf]⟩
theorem TimesInv.done {n m : Nat} {f g : Nat → Int} {h : Nat → Int} (H : TimesInv n m f g n 0 h 0) : Digs h (trimN h (n + m)) ∧ vf h (trimN h (n + m)) = vf f n * vf g m := by
  have := trimN_can (f := h) (k := n + m) H.lo H.hi
  have hv := H.val
  simp [vf] at hv
  rwa [hv] at this
/-- multiplication by a digit -/
structure ByInv (n : Nat) (f : Nat → Int) (d : Int) (i : Nat) (h : Nat → Int) (c : Int) : Prop where
  lo : ∀ j, j < n + 1 → 0 ≤ h j
  hi : ∀ j, j < n + 1 → h j < 1000000000
  above : ∀ j, i ≤ j → j < n + 1 → h j = 0
  c0 : 0 ≤ c
  c1 : c < 1000000000
  val : vf h (n + 1) + c * pw i = vf f i * d
theorem ByInv.start {n : Nat} {f : Nat → Int} {d : Int} : ByInv n f d 0 (fun _ => 0) 0 :=
  ⟨fun _ _ => by simp, fun _ _ => by simp, fun _ _ _ => rfl, by simp, by simp, by rw [vf_zero fun _ _ => rfl]; simp [vf]⟩
theorem ByInv.step {n : Nat} {f : Nat → Int} {d : Int} {i : Nat} {h : Nat → Int} {c : Int} (H : ByInv n f d i h c) (hi : i < n)
    (f0 : 0 ≤ f i) (f1 : f i < 1000000000) (g0 : 0 ≤ d) (g1 : d < 1000000000) :
    ByInv n f d (i + 1) (fun j => if j = i then (f i * d + c) % 1000000000 else h j) ((f i * d + c) / 1000000000) := by
  have hb := mul_bd f0 f1 g0 g1
  have a3 := H.c0
  have a4 := H.c1
  have hv := H.val
  have hz := H.above i (Nat.le_refl _) (by omega)
  generalize hx : f i * d + c = x
  have hq : x = 1000000000 * (x / 1000000000) + x % 1000000000 := (Int.mul_ediv_add_emod x 1000000000).symm
  refine ⟨fun j hj => ?_, fun j hj => ?_, fun j hj hjn => ?_, by omega, by omega, ?_⟩
  · show 0 ≤ if j = i then _ else _
    split
    · omega
    · exact H.lo j hj
  · show (if j = i then _ else _) < _
    split
    · omega
    · exact H.hi j hj
  · show (if j = i then _ else _) = _
    rw [if_neg (by omega)]; exact H.above j (by omega) hjn
  · rw [vf_set, if_pos (by omega), hz, vf_succ f i, pw_succ]
    generalize x / 1000000000 = q at hq ⊢
    generalize x % 1000000000 = r at hq ⊢
    generalize vf h (n + 1) = V at hv ⊢
    subst hq
    grind
theorem ByInv.done {n : Nat} {f : Nat → Int} {d : Int} {h : Nat → Int} {c : Int} (H : ByInv n f d n h c) :
    (∀ j, j < n + 1 → 0 ≤ (if j = n then c else h j)) ∧ (∀ j, j < n + 1 → (if j = n then c else h j) < 1000000000) ∧ vf (fun j => if j = n then c else h j) (n + 1) = vf f n * d := by
  have a3 := H.c0
  have a4 := H.c1
  have hv := H.val
  have hz := H.above n (Nat.le_refl _) (by omega)
  refine ⟨fun j hj => ?_, fun j hj => ?_, ?_⟩
  · split
    · omega
    · exact H.lo j hj
  · split
    · omega
    · exact H.hi j hj
  · rw [vf_set, if_pos (by omega), hz]; grind
/-- division by a digit: the places from i on are done -/
structure PartInv (n : Nat) (f : Nat → Int) (d : Int) (i : Nat) (h : Nat → Int) (r : Int) : Prop where
  lo : ∀ j, j < n → 0 ≤ h j
  hi : ∀ j, j < n → h j < 1000000000
  below : ∀ j, j < i → h j = 0
  r0 : 0 ≤ r
  r1 : r < d
  val : vf f n = vf f i + r * pw i + d * vf h n
theorem PartInv.start {n : Nat} {f : Nat → Int} {d : Int} (hd : 0 < d) : PartInv n f d n (fun _ => 0) 0 :=
  ⟨fun _ _ => by simp, fun _ _ => by simp, fun _ _ => rfl, by simp, hd, by rw [vf_zero (f := fun _ => 0) fun _ _ => rfl]; simp⟩
theorem PartInv.step {n : Nat} {f : Nat → Int} {d : Int} {i : Nat} {h : Nat → Int} {r : Int} (H : PartInv n f d (i + 1) h r) (hi : i < n)
    (f0 : 0 ≤ f i) (f1 : f i < 1000000000) :
    PartInv n f d i (fun j => if j = i then (r * 1000000000 + f i) / d else h j) ((r * 1000000000 + f i) % d) := by
  have a3 := H.r0
  have a4 := H.r1
  have hv := H.val
  have hz := H.below i (by omega)
  have hd : 0 < d := by omega
  generalize hx : r * 1000000000 + f i = x
  have hq : x = d * (x / d) + x % d := (Int.mul_ediv_add_emod x d).symm
  have q0 : 0 ≤ x / d := Int.ediv_nonneg (by omega) (by omega)
  have q1 : x / d < 1000000000 := Int.ediv_lt_of_lt_mul hd (by omega)
  have r0 := Int.emod_nonneg x (show d ≠ 0 by omega)
  have r1 := Int.emod_lt_of_pos x hd
  refine ⟨fun j hj => ?_, fun j hj => ?_, fun j hj => ?_, r0, r1, ?_⟩
  · show 0 ≤ if j = i then _ else _
    split
    · omega
    · exact H.lo j hj
  · show (if j = i then _ else _) < _
    split
    · omega
    · exact H.hi j hj
  · show (if j = i then _ else _) = _
    rw [if_neg (by omega)]; exact H.below j (by omega)
  · rw [vf_set, if_pos hi, hz]
    rw [vf_succ, pw_succ] at hv
    generalize x / d = q at hq ⊢
    generalize x % d = s at hq ⊢
    generalize vf h n = V at hv ⊢
    generalize vf f n = W at hv ⊢
    grind
theorem PartInv.done {n : Nat} {f : Nat → Int} {d : Int} {h : Nat → Int} {r : Int} (H : PartInv n f d 0 h r) : Digs h (trimN h n) ∧ vf f n = d * vf h (trimN h n) + r := by
  have := trimN_can (f := h) (k := n) H.lo H.hi
  have hv := H.val
  simp [vf, pw] at hv
  rw [this.2]
  exact ⟨this.1, by omega⟩
end Go.Mono
namespace Go.Proofs.YtepodcocemmejaaGreatDoor
open Go.RowKit Go.Mono
set_option maxHeartbeats 400000 in
theorem trim_any (p : Option Addr) (n cap : Nat) (f : Nat → Int) (w : World) (h : SlF w (.slice p n cap) n f) :
    Calls Tryz.prog 163 #[.slice p n cap] w fun e w' => e = .returned (.slice p (trimN f n) cap) ∧ w = w' := by
  obtain ⟨hc, hn, hx⟩ := h.opens
  clear h
  go_enter Tryz.func163, Tryz.ntmps163
  go_wp2
  go_loop [0] (fun a => ∃ k : Nat, k ≤ n ∧ a = .slice p k cap ∧ trimN f k = trimN f n) (fun a => match a with | .slice _ k _ => k | _ => 0)
  case atStart => exact ⟨_, Nat.le_refl _, rfl, rfl⟩
  case round =>
    obtain ⟨k, hk, rfl, ht⟩ := hrel
    have HT := Lib.hid ht; clear ht
    by_cases h0 : 0 < k
    · obtain ⟨b, off, rfl, hb, hcell⟩ := hx (by omega)
      have hc := hcell (k-1) (by omega)
      clear hcell hx
      by_cases hz : f (k-1) = 0
      · have hz' : (f (k-1) == 0) = true := by simpa using hz
        have HZ := Lib.hid hz; clear hz
        go_wp2
        refine ⟨⟨k-1, by omega, rfl, ?_⟩, by simp; omega⟩
        rw [← HT.out, trimN_zero f k h0 HZ.out]
      · have hz' : (f (k-1) == 0) = false := by simpa using hz
        have HZ := Lib.hid hz; clear hz
        go_wp2
        go_ret
        exact ⟨by rw [show trimN f n = k by rw [← HT.out, trimN_ne f k h0 HZ.out]]; rfl, rfl⟩
    · obtain rfl : k = 0 := by omega
      go_wp2
      go_ret
      exact ⟨by rw [← HT.out]; rfl, rfl⟩
end Go.Proofs.YtepodcocemmejaaGreatDoor
