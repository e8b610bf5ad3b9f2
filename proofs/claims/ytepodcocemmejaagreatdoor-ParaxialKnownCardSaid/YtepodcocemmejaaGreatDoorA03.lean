/- Part 3 of 52 of the proof that the law ParaxialKnown returns true, whatever stands in memory, if the two listed variables hold what the text lays: contracts of the functions that it reaches. No condition beside the row. -/
import Derived.Test.YtepodcocemmejaaGreatDoorA01
import Derived.Test.YtepodcocemmejaaGreatDoorA02
set_option linter.unusedVariables false
set_option linter.unusedSimpArgs false
namespace Go.Mono
open Go.RowKit
/-- a box of the function's own -/
structure Box (w : World) (B : Nat) (T : TypeId) (cs : Array Value) : Prop where
  blk : w.heap[B]? = some (.cells cs T (0, 0))
section
variable {w w' : World} {B : Nat} {T : TypeId} {cs : Array Value}
theorem Box.lt (h : Box w B T cs) : B < w.heap.size := lt_of_some h.blk
theorem Box.cell (h : Box w B T cs) : ∀ i, w.cell? ⟨B, i, none⟩ = cs[i]? := fun i => by simp [World.cell?, h.blk]
theorem Box.frozen (h : Box w B T cs) : ∀ i, w.frozen? ⟨B, i, none⟩ = false := fun i => by simp [World.frozen?, h.blk]
theorem Box.below (h : Box w B T cs) (hb : Below w.heap.size w w') : Box w' B T cs := ⟨(hb.block B h.lt).trans h.blk⟩
theorem Box.drew (h : Box w B T cs) : Box w.drew B T cs := ⟨h.blk⟩
theorem Box.new (w : World) (T : TypeId) (cs : Array Value) : Box (w.alloc (.cells cs T)) w.heap.size T cs := ⟨by show (w.heap.push _)[w.heap.size]? = _; simp⟩
theorem Box.alloc (h : Box w B T cs) (o : Obj) : Box (w.alloc o) B T cs := h.below ((Below.refl _ _).alloc (Nat.le_refl _) o)
theorem Box.set (h : Box w B T cs) (i : Nat) (u : Value) : Box (w.setCell ⟨B, i, none⟩ u) B T (cs.setIfInBounds i u) :=
  ⟨by show (w.heap.modify B _)[B]? = _; simp [Array.getElem?_modify, h.blk]⟩
theorem Box.other (h : Box w B T cs) (a : Addr) (u : Value) (hne : B ≠ a.block) : Box (w.setCell a u) B T cs := ⟨(Below.heap_setCell w a u B hne).trans h.blk⟩
theorem Ext.set {a : World} (h : Ext a w) (hb : Box w B T cs) (hT : T ≠ 3) (i : Nat) (u : Value) : Ext a (w.setCell ⟨B, i, none⟩ u) := by
  refine h.trans ⟨by show _ ≤ (w.heap.modify _ _).size; simp, fun k cs' fr hk => ?_⟩
  refine (Below.heap_setCell w _ u k ?_).trans hk
  rintro rfl
  have e := hb.blk
  rw [hk] at e
  simp at e
  exact hT e.2.1.symm
end
/-- blocks below N but R lie as they lay in W -/
structure KeepBut (R N : Nat) (W w : World) : Prop where
  os : w.os = W.os
  tape : w.tape = W.tape
  output : w.output = W.output
  size : N ≤ w.heap.size
  block : ∀ k, k < N → k ≠ R → w.heap[k]? = W.heap[k]?
section
variable {R N : Nat} {W w w' : World}
theorem KeepBut.refl (R : Nat) (W : World) : KeepBut R W.heap.size W W := ⟨rfl, rfl, rfl, Nat.le_refl _, fun _ _ _ => rfl⟩
theorem KeepBut.drew (h : KeepBut R N W w) : KeepBut R N W w.drew := ⟨h.os, h.tape, h.output, h.size, h.block⟩
theorem KeepBut.drewN (h : KeepBut R N W w) (k : Nat) : KeepBut R N W (w.drewN k) := ⟨h.os, h.tape, h.output, h.size, h.block⟩
theorem KeepBut.call (h : KeepBut R N W w) (hb : Below w.heap.size w w') : KeepBut R N W w' :=
  ⟨hb.os.trans h.os, hb.tape.trans h.tape, hb.output.trans h.output, Nat.le_trans h.size hb.size, fun k hk hR => (hb.block k (Nat.lt_of_lt_of_le hk h.size)).trans (h.block k hk hR)⟩
theorem KeepBut.alloc (h : KeepBut R N W w) (o : Obj) : KeepBut R N W (w.alloc o) := h.call ((Below.refl _ _).alloc (Nat.le_refl _) o)
theorem KeepBut.set (h : KeepBut R N W w) (i : Nat) (u : Value) : KeepBut R N W (w.setCell ⟨R, i, none⟩ u) :=
  ⟨h.os, h.tape, h.output, by show N ≤ (w.heap.modify _ _).size; simpa using h.size, fun k hk hR => (Below.heap_setCell w _ u k hR).trans (h.block k hk hR)⟩
theorem KeepBut.cell (h : KeepBut R N W w) : ∀ b o, b < N → b ≠ R → w.cell? ⟨b, o, none⟩ = W.cell? ⟨b, o, none⟩ :=
  fun b o hb hR => World.cell?_of_block (a := ⟨b, o, none⟩) (h.block b hb hR)
theorem KeepBut.S (h : KeepBut R N W w) : (∀ b o, b < N → b ≠ R → w.cell? ⟨b, o, none⟩ = W.cell? ⟨b, o, none⟩) ∧ KeepBut R N W w := ⟨h.cell, h⟩
theorem KeepBut.ext (h : KeepBut R W.heap.size W w) {T : TypeId} {cs : Array Value} (hb : Box W R T cs) (hT : T ≠ 3) : Ext W w := by
  refine ⟨h.size, fun k cs' fr hk => (h.block k (lt_of_some hk) ?_).trans hk⟩
  rintro rfl
  have e := hb.blk
  rw [hk] at e
  simp at e
  exact hT e.2.1.symm
theorem KeepBut.below (h : KeepBut R N W w) {w0 : World} (hB : Below w0.heap.size w0 W) (hR : w0.heap.size ≤ R) (hN : w0.heap.size ≤ N) : Below w0.heap.size w0 w :=
  ⟨h.os.trans hB.os, h.tape.trans hB.tape, h.output.trans hB.output, Nat.le_trans hN h.size, fun k hk => (h.block k (by omega) (by omega)).trans (hB.block k hk)⟩
theorem KeepBut.box (h : KeepBut R N W w) {B : Nat} {T : TypeId} {cs : Array Value} (hb : Box W B T cs) (hN : B < N) (hR : B ≠ R) : Box w B T cs := ⟨(h.block B hN hR).trans hb.blk⟩
end
/-- the boxes that a function lays at its beginning -/
theorem boxes1 {P : Program} {c : Code} {Q : Exit → Act → World → Prop} {a : Act} {w : World} {T0 : TypeId} {c0 : Array Value}
    (h : ∀ W, Below w.heap.size w W → w.heap.size + 1 ≤ W.heap.size → Box W w.heap.size T0 c0 → c.wp P Q a W) : c.wp P Q a (w.alloc (.cells c0 T0)) :=
  h _ ((Below.refl _ _).alloc (Nat.le_refl _) _) (by simp) (Box.new _ _ _)
theorem boxes2 {P : Program} {c : Code} {Q : Exit → Act → World → Prop} {a : Act} {w : World} {T0 T1 : TypeId} {c0 c1 : Array Value}
    (h : ∀ W, Below w.heap.size w W → w.heap.size + 2 ≤ W.heap.size → Box W w.heap.size T0 c0 → Box W (w.heap.size + 1) T1 c1 → c.wp P Q a W) : c.wp P Q a ((w.alloc (.cells c0 T0)).alloc (.cells c1 T1)) := by
  refine h _ (((Below.refl _ _).alloc (Nat.le_refl _) _).alloc (by simp) _) (by simp) ((Box.new _ _ _).alloc _) ?_
  have := Box.new (w.alloc (.cells c0 T0)) T1 c1
  rwa [World.size_alloc] at this
theorem boxes3 {P : Program} {c : Code} {Q : Exit → Act → World → Prop} {a : Act} {w : World} {T0 T1 T2 : TypeId} {c0 c1 c2 : Array Value}
    (h : ∀ W, Below w.heap.size w W → w.heap.size + 3 ≤ W.heap.size → Box W w.heap.size T0 c0 → Box W (w.heap.size + 1) T1 c1 → Box W (w.heap.size + 1 + 1) T2 c2 → c.wp P Q a W) :
    c.wp P Q a (((w.alloc (.cells c0 T0)).alloc (.cells c1 T1)).alloc (.cells c2 T2)) := by
  have b1 := Box.new (w.alloc (.cells c0 T0)) T1 c1
  have b2 := Box.new ((w.alloc (.cells c0 T0)).alloc (.cells c1 T1)) T2 c2
  simp only [World.size_alloc] at b1 b2
  exact h _ ((((Below.refl _ _).alloc (Nat.le_refl _) _).alloc (by simp) _).alloc (by simp; omega) _) (by simp) (((Box.new _ _ _).alloc _).alloc _) (b1.alloc _) b2
section
variable {P : Program} {f : FuncId} {args : Array Value} {R : Ending → World → Prop} {w : World} {T0 T1 T2 : TypeId} {c0 c1 c2 : Array Value}
theorem boxes1c (h : ∀ W, Below w.heap.size w W → w.heap.size + 1 ≤ W.heap.size → Box W w.heap.size T0 c0 → Calls P f args W R) : Calls P f args (w.alloc (.cells c0 T0)) R :=
  h _ ((Below.refl _ _).alloc (Nat.le_refl _) _) (by simp) (Box.new _ _ _)
theorem boxes2c (h : ∀ W, Below w.heap.size w W → w.heap.size + 2 ≤ W.heap.size → Box W w.heap.size T0 c0 → Box W (w.heap.size + 1) T1 c1 → Calls P f args W R) : Calls P f args ((w.alloc (.cells c0 T0)).alloc (.cells c1 T1)) R := by
  refine h _ (((Below.refl _ _).alloc (Nat.le_refl _) _).alloc (by simp) _) (by simp) ((Box.new _ _ _).alloc _) ?_
  have := Box.new (w.alloc (.cells c0 T0)) T1 c1
  rwa [World.size_alloc] at this
theorem boxes3c (h : ∀ W, Below w.heap.size w W → w.heap.size + 3 ≤ W.heap.size → Box W w.heap.size T0 c0 → Box W (w.heap.size + 1) T1 c1 → Box W (w.heap.size + 1 + 1) T2 c2 → Calls P f args W R) :
    Calls P f args (((w.alloc (.cells c0 T0)).alloc (.cells c1 T1)).alloc (.cells c2 T2)) R := by
  have b1 := Box.new (w.alloc (.cells c0 T0)) T1 c1
  have b2 := Box.new ((w.alloc (.cells c0 T0)).alloc (.cells c1 T1)) T2 c2
  simp only [World.size_alloc] at b1 b2
  exact h _ ((((Below.refl _ _).alloc (Nat.le_refl _) _).alloc (by simp) _).alloc (by simp; omega) _) (by simp) (((Box.new _ _ _).alloc _).alloc _) (b1.alloc _) b2
end
theorem belowS {W w : World} (h : Below W.heap.size W w) : (∀ b o, b < W.heap.size → w.cell? ⟨b, o, none⟩ = W.cell? ⟨b, o, none⟩) ∧ Below W.heap.size W w := ⟨fun _ _ hb => h.cell hb, h⟩
theorem belowCall {w w1 w2 : World} (h : Below w.heap.size w w1) (k : Below w1.heap.size w1 w2) : Below w.heap.size w w2 := h.trans (k.mono h.size)
theorem belowAlloc {w w1 : World} (h : Below w.heap.size w w1) (o : Obj) : Below w.heap.size w (w1.alloc o) := h.alloc h.size o
theorem belowSet {w w1 : World} (h : Below w.heap.size w w1) {B : Nat} (hB : w.heap.size ≤ B) (i : Nat) (u : Value) : Below w.heap.size w (w1.setCell ⟨B, i, none⟩ u) := h.setCell (p := ⟨B, i, none⟩) hB u
/-- the sign of an integer, of which 0 has any -/
def Sg (s : Bool) (z : Int) : Prop := (s = true → z ≤ 0) ∧ (s = false → 0 ≤ z)
theorem Sg.mul {s : Bool} {z y : Int} (h : Sg s z) (hy : 0 ≤ y) : Sg s (z * y) :=
  ⟨fun e => by have := Int.mul_le_mul_of_nonneg_right (h.1 e) hy; simpa using this, fun e => Int.mul_nonneg (h.2 e) hy⟩
theorem natAbs_mul_pos {z y : Int} (hy : 0 ≤ y) : ((z * y).natAbs : Int) = z.natAbs * y := by
  rw [Int.natAbs_mul, Int.natCast_mul]
  congr 1
  omega
theorem Sg.div {s : Bool} {z y : Int} (h : Sg s z) (hy : 0 < y) : Sg s (z / y) :=
  ⟨fun e => by have := Int.ediv_le_ediv hy (h.1 e); simpa using this, fun e => Int.ediv_nonneg (h.2 e) (Int.le_of_lt hy)⟩
end Go.Mono
namespace Go.Proofs.YtepodcocemmejaaGreatDoor
open Go.RowKit Go.Mono
theorem infoInt : (Tryz.prog.info? 3).map (fun i => (i.zero, i.size, i.bytes)) = some (some (.int .i64 0), 1, 8) := by kernel_rfl
theorem sizeInt : (Tryz.prog.info? 3).map (·.size) = some 1 := by kernel_rfl
set_option maxRecDepth 100000 in
set_option maxHeartbeats 1000000 in
theorem times_any (p q : Option Addr) (n m c1 c2 : Nat) (f g : Nat → Int) (w : World) (h1 : SlF w (.slice p n c1) n f) (h2 : SlF w (.slice q m c2) m g)
    (f0 : ∀ i, i < n → 0 ≤ f i) (f1 : ∀ i, i < n → f i < 1000000000) (g0 : ∀ i, i < m → 0 ≤ g i) (g1 : ∀ i, i < m → g i < 1000000000) (hn : n ≤ 1000000) (hm : m ≤ 1000000) :
    Calls Tryz.prog 118 #[.slice p n c1, .slice q m c2] w fun e w' => ∃ b k h, e = .returned (.slice (some ⟨b, 0, none⟩) k (n + m)) ∧ SlF w' (.slice (some ⟨b, 0, none⟩) k (n + m)) k h ∧ Digs h k ∧ vf h k = vf f n * vf g m ∧ k ≤ n + m ∧ Below w.heap.size w w' := by
  obtain ⟨hc1, hn1, hx1⟩ := h1.opens
  obtain ⟨hc2, hn2, hx2⟩ := h2.opens
  clear h1 h2
  go_enter Tryz.func118, Tryz.ntmps118
  go_wp2_with (at_make; refine wpList_make_ints _ rfl _ _ 132 rfl Tryz.underlying132 infoInt _ _ (n + m) rfl rfl (by simp) (by simp) (by omega) ?_; intro w1 r1 b1; have s1 := b1.size; have L1 := r1.lt)
  go_loopw [20] (fun a wr => ∃ i : Nat, i ≤ n ∧ a = .int .i64 i ∧ Below w.heap.size w wr ∧ ∃ h, RowF wr w.heap.size (n + m) h ∧ TimesInv n m f g i 0 h 0) (fun a _ => n - (intOf a).toNat)
  case atStart => exact ⟨0, Nat.zero_le _, rfl, b1, _, r1, TimesInv.start⟩
  case round =>
    clear b1 s1 L1 r1
    obtain ⟨i, hi, rfl, hb, h, hr, HT⟩ := hrel
    by_cases hlt : i < n
    · obtain ⟨b, off, rfl, hbs, hcell⟩ := hx1 (by omega)
      have a1 := (hb.cell (p := ⟨b, off + i, none⟩) hbs).trans (hcell i hlt)
      have fi0 := f0 i hlt
      have fi1 := f1 i hlt
      clear hcell hx1
      go_wp2
      go_loopw [8, 27] (fun c a wr => ∃ k : Nat, k ≤ m ∧ a = .int .i64 k ∧ Below w.heap.size w wr ∧ ∃ h cc, c = .int .i64 cc ∧ RowF wr w.heap.size (n + m) h ∧ TimesInv n m f g i k h cc) (fun _ a _ => m - (intOf a).toNat)
      case atStart => exact ⟨0, Nat.zero_le _, rfl, hb, _, _, rfl, hr, HT⟩
      case round =>
        clear hb hr HT a1
        obtain ⟨k, hk, rfl, hb, h, cc, rfl, hr, HT⟩ := hrel
        by_cases hlk : k < m
        · obtain ⟨b2, off2, rfl, hbs2, hcell2⟩ := hx2 (by omega)
          have a1 := (hb.cell (p := ⟨b2, off2 + k, none⟩) hbs2).trans (hcell2 k hlk)
          have gk0 := g0 k hlk
          have gk1 := g1 k hlk
          have a2 := hr.cell (i + k) (by omega)
          have a3 := hr.frozen (i + k)
          have d1 := HT.lo (i + k) (by omega)
          have d2 := HT.hi (i + k) (by omega)
          have d3 := HT.c0
          have d4 := HT.c1
          obtain ⟨d5, d6⟩ := mul_bd fi0 fi1 gk0 gk1
          clear hcell2 hx2 f0 f1 g0 g1
          go_wp2
          go_roundw
          case rel => exact ⟨k + 1, by omega, by go_num, hb.setCell (p := ⟨w.heap.size, i + k, none⟩) (Nat.le_refl _) _, _, _, rfl, hr.set (i + k) _, HT.step hlt hlk fi0 fi1 gk0 gk1⟩
          case measure => simp [intOf]; omega
        · obtain rfl : k = m := by omega
          have d3 := HT.c0
          have d4 := HT.c1
          have a2 := hr.cell (i + k) (by omega)
          have a3 := hr.frozen (i + k)
          clear hlk hk hx2 f0 f1 g0 g1
          go_wp2
          go_roundw
          case rel => exact ⟨i + 1, by omega, by go_num, hb.setCell (p := ⟨w.heap.size, i + k, none⟩) (Nat.le_refl _) _, _, hr.set (i + k) _, HT.outer hlt⟩
          case measure => simp [intOf]; omega
    · obtain rfl : i = n := by omega
      clear hlt hi hx1 hx2
      have hs := hr.slice (by omega) (i + m) (Nat.le_refl _) (i + m) (Nat.le_refl _)
      obtain ⟨c1', c2'⟩ := HT.done
      have hle := trimN_le h (i + m)
      replace c2' := Lib.hid c2'
      go_wp2_with (go_at_call 163; refine (trim_any _ _ _ h _ hs).mono ?_; rintro e w' ⟨rfl, rfl⟩)
      go_ret
      exact ⟨_, _, h, rfl, hs.take _ hle, c1', c2'.out, hle, hb⟩
theorem times_sz (m1 m2 : Nat) (w wf : World) (hx : Ext wf w) (p q : Option Addr) (n m c1 c2 : Nat) (N M : Int) (h1 : Sz m1 wf (.slice p n c1) N) (h2 : Sz m2 wf (.slice q m c2) M) (hm1 : m1 ≤ 1000000) (hm2 : m2 ≤ 1000000) :
    Calls Tryz.prog 118 #[.slice p n c1, .slice q m c2] w fun e w' => ∃ p k c, e = .returned (.slice p k c) ∧ Sz (m1 + m2) w' (.slice p k c) (N * M) ∧ Below w.heap.size w w' := by
  obtain ⟨n, f, s1, d1, rfl, l1, rfl⟩ := (h1.ext hx).sl
  obtain ⟨m, g, s2, d2, rfl, l2, rfl⟩ := (h2.ext hx).sl
  refine (times_any p q n m c1 c2 f g w s1 s2 d1.lo d1.hi d2.lo d2.hi (by omega) (by omega)).mono ?_
  rintro e w' ⟨b, k, h, rfl, hs, hd, hv, hk, hb⟩
  exact ⟨_, _, _, rfl, ⟨k, h, hs, hd, hv, by omega⟩, hb⟩
end Go.Proofs.YtepodcocemmejaaGreatDoor
namespace Go.Mono
theorem mle {a b c : Int} (h : a ≤ b) (hc : 0 ≤ c) : a * c ≤ b * c := Int.mul_le_mul_of_nonneg_right h hc
/-- the numbers of an estimate: V has the highest digits v1, v2, U has u2, u1, u0 -/
structure Est (p vl v2 v1 ul u0 u1 u2 V U : Int) : Prop where
  p0 : 0 < p
  vl0 : 0 ≤ vl
  vl1 : vl < p
  v20 : 0 ≤ v2
  v21 : v2 < 1000000000
  v10 : 0 < v1
  v11 : v1 < 1000000000
  ul0 : 0 ≤ ul
  ul1 : ul < p
  u00 : 0 ≤ u0
  u01 : u0 < 1000000000
  u10 : 0 ≤ u1
  u11 : u1 < 1000000000
  u20 : 0 ≤ u2
  hV : V = vl + v2 * p + v1 * (1000000000 * p)
  hU : U = ul + u0 * p + u1 * (1000000000 * p) + u2 * (1000000000 * (1000000000 * p))
  lt : U < V * 1000000000
section
variable {p vl v2 v1 ul u0 u1 u2 V U : Int}
theorem Est.U_lt (E : Est p vl v2 v1 ul u0 u1 u2 V U) : U < ((u2 * 1000000000 + u1) * 1000000000 + u0 + 1) * p := by
  rw [E.hU]
  have := E.ul1
  grind
theorem Est.U_ge (E : Est p vl v2 v1 ul u0 u1 u2 V U) : ((u2 * 1000000000 + u1) * 1000000000 + u0) * p ≤ U := by
  rw [E.hU]
  have := E.ul0
  grind
theorem Est.V_ge (E : Est p vl v2 v1 ul u0 u1 u2 V U) : (v1 * 1000000000 + v2) * p ≤ V := by
  rw [E.hV]
  have := E.vl0
  grind
theorem Est.V_lt (E : Est p vl v2 v1 ul u0 u1 u2 V U) : V < (v1 * 1000000000 + v2 + 1) * p := by
  rw [E.hV]
  have := E.vl1
  grind
theorem Est.V_pos (E : Est p vl v2 v1 ul u0 u1 u2 V U) : 0 < V := by
  have h1 := E.V_ge
  have h2 := mle (show 1 ≤ v1 * 1000000000 + v2 by have := E.v10; have := E.v20; omega) (Int.le_of_lt E.p0)
  have := E.p0
  omega
/-- the highest digit of U is at most that of V -/
theorem Est.u2_le (E : Est p vl v2 v1 ul u0 u1 u2 V U) : u2 ≤ v1 := by
  rcases Int.lt_or_le v1 u2 with h | h
  · have h1 := E.U_ge
    have h2 := E.V_lt
    have h3 := E.lt
    have h4 := mle (show (v1 * 1000000000 + v2 + 1) * 1000000000 ≤ (u2 * 1000000000 + u1) * 1000000000 + u0 by have := E.v21; have := E.u10; have := E.u00; omega) (Int.le_of_lt E.p0)
    have h5 : (v1 * 1000000000 + v2 + 1) * 1000000000 * p = (v1 * 1000000000 + v2 + 1) * p * 1000000000 := by grind
    omega
  · exact h
/-- a digit, and the rest, so that the true digit is not greater -/
structure EstInv (V U v1 top d rest : Int) : Prop where
  top : top = d * v1 + rest
  r0 : 0 ≤ rest
  d0 : 0 ≤ d
  d1 : d < 2000000000
  big : U < (d + 1) * V
theorem Est.d_lt (E : Est p vl v2 v1 ul u0 u1 u2 V U) {d rest : Int} (h : u2 * 1000000000 + u1 = d * v1 + rest) (hr : 0 ≤ rest) : d < 2000000000 := by
  rcases Int.lt_or_le d 2000000000 with h1 | h1
  · exact h1
  · have h2 := mle h1 (Int.le_of_lt E.v10)
    have := E.u2_le
    have := E.u11
    have := E.v10
    omega
theorem Est.init (E : Est p vl v2 v1 ul u0 u1 u2 V U) : EstInv V U v1 (u2 * 1000000000 + u1) ((u2 * 1000000000 + u1) / v1) ((u2 * 1000000000 + u1) % v1) := by
  generalize ht : u2 * 1000000000 + u1 = t
  have t0 : 0 ≤ t := by have := E.u20; have := E.u10; omega
  have h1 : t = t / v1 * v1 + t % v1 := by rw [Int.mul_comm]; exact (Int.mul_ediv_add_emod t v1).symm
  have h2 := Int.emod_nonneg t (show v1 ≠ 0 by have := E.v10; omega)
  have h3 := Int.emod_lt_of_pos t E.v10
  have h4 : 0 ≤ t / v1 := Int.ediv_nonneg t0 (Int.le_of_lt E.v10)
  refine ⟨h1, h2, h4, E.d_lt (ht.trans h1) h2, ?_⟩
  generalize t / v1 = d at h1 h4 ⊢
  generalize t % v1 = r at h1 h2 h3
  have a1 := E.U_lt
  rw [ht] at a1
  have a2 : (t + 1) * (1000000000 * p) ≤ ((d + 1) * v1) * (1000000000 * p) := mle (by grind) (by have := E.p0; omega)
  have a3 : (t * 1000000000 + u0 + 1) * p ≤ ((t + 1) * 1000000000) * p := mle (by have := E.u01; omega) (Int.le_of_lt E.p0)
  have a4 : (v1 * (1000000000 * p)) * (d + 1) ≤ V * (d + 1) := mle (by have := E.hV; have := E.vl0; have := mle E.v20 (Int.le_of_lt E.p0); omega) (by omega)
  have a5 : ((t + 1) * 1000000000) * p = (t + 1) * (1000000000 * p) := by grind
  have a6 : ((d + 1) * v1) * (1000000000 * p) = (v1 * (1000000000 * p)) * (d + 1) := by grind
  have a7 : V * (d + 1) = (d + 1) * V := by grind
  omega
/-- an estimate that the test finds too great -/
theorem Est.step (E : Est p vl v2 v1 ul u0 u1 u2 V U) {d rest : Int} (I : EstInv V U v1 (u2 * 1000000000 + u1) d rest) (h : 1000000000 ≤ d ∨ rest * 1000000000 + u0 < d * v2) :
    EstInv V U v1 (u2 * 1000000000 + u1) (d - 1) (rest + v1) := by
  have hV := E.V_pos
  have hbig : U < d * V := by
    rcases h with h | h
    · have := E.lt
      have := mle h (Int.le_of_lt hV)
      have : V * 1000000000 = 1000000000 * V := by grind
      omega
    · have a1 := E.U_lt
      have a2 : ((v1 * 1000000000 + v2) * p) * d ≤ V * d := mle E.V_ge I.d0
      have a3 : ((u2 * 1000000000 + u1) * 1000000000 + u0 + 1) * p ≤ (d * v1 * 1000000000 + d * v2) * p := mle (by have := I.top; omega) (Int.le_of_lt E.p0)
      have a4 : (d * v1 * 1000000000 + d * v2) * p = ((v1 * 1000000000 + v2) * p) * d := by grind
      have a5 : V * d = d * V := by grind
      omega
  have hd : 1 ≤ d := by
    rcases Int.lt_or_le 0 d with h1 | h1
    · omega
    · obtain rfl : d = 0 := by have := I.d0; omega
      have := I.r0
      have := E.u00
      simp at h; omega
  refine ⟨by have := I.top; grind, by have := I.r0; have := E.v10; omega, by omega, by have := I.d1; omega, ?_⟩
  rw [show d - 1 + 1 = d by omega]; exact hbig
/-- an estimate that the test lets by is at most one too great -/
theorem Est.done (E : Est p vl v2 v1 ul u0 u1 u2 V U) {d rest : Int} (I : EstInv V U v1 (u2 * 1000000000 + u1) d rest) (h1 : d < 1000000000) (h2 : d * v2 ≤ rest * 1000000000 + u0) : d * V < U + V := by
  have a1 := E.U_ge
  have a2 : V * d ≤ ((v1 * 1000000000 + v2 + 1) * p) * d := mle (Int.le_of_lt E.V_lt) I.d0
  have a3 : (d * v1 * 1000000000 + d * v2) * p ≤ ((u2 * 1000000000 + u1) * 1000000000 + u0) * p := mle (by have := I.top; omega) (Int.le_of_lt E.p0)
  have a4 : ((v1 * 1000000000 + v2 + 1) * p) * d = (d * v1 * 1000000000 + d * v2) * p + d * p := by grind
  have a5 : d * p ≤ 999999999 * p := mle (by omega) (Int.le_of_lt E.p0)
  have a6 : (1000000000 * 1) * p ≤ (v1 * 1000000000 + v2) * p := mle (by have := E.v10; have := E.v20; omega) (Int.le_of_lt E.p0)
  have a7 := E.V_ge
  have a8 : V * d = d * V := by grind
  have := E.p0
  omega
/-- the test is not asked again where the rest is great -/
theorem Est.brk (E : Est p vl v2 v1 ul u0 u1 u2 V U) {d rest : Int} (I : EstInv V U v1 (u2 * 1000000000 + u1) d rest) (h : 1000000000 ≤ rest) : d < 1000000000 ∧ d * v2 ≤ rest * 1000000000 + u0 := by
  have hd : d < 1000000000 := by
    rcases Int.lt_or_le d 1000000000 with h1 | h1
    · exact h1
    · have := mle h1 (Int.le_of_lt E.v10)
      have := E.u2_le
      have := E.u11
      have := I.top
      omega
  have := mul_bd I.d0 hd E.v20 E.v21
  have := E.u00
  exact ⟨hd, by omega⟩
end
theorem Est.mk' {m : Nat} {g u : Nat → Int} (g0 : ∀ i, i < m + 2 → 0 ≤ g i) (g1 : ∀ i, i < m + 2 → g i < 1000000000) (u0 : ∀ i, i < m + 3 → 0 ≤ u i) (u1 : ∀ i, i < m + 3 → u i < 1000000000)
    (htop : g (m + 1) ≠ 0) (hlt : vf u (m + 3) < vf g (m + 2) * 1000000000) :
    Est (pw m) (vf g m) (g m) (g (m + 1)) (vf u m) (u m) (u (m + 1)) (u (m + 2)) (vf g (m + 2)) (vf u (m + 3)) := by
  have h1 := g0 (m + 1) (by omega)
  exact ⟨pw_pos m, vf_nonneg fun i hi => g0 i (by omega), vf_lt fun i hi => g1 i (by omega), g0 m (by omega), g1 m (by omega), by omega, g1 _ (by omega), vf_nonneg fun i hi => u0 i (by omega), vf_lt fun i hi => u1 i (by omega),
    u0 _ (by omega), u1 _ (by omega), u0 _ (by omega), u1 _ (by omega), u0 _ (by omega), by simp only [vf_succ, pw_succ]; grind, by simp only [vf_succ, pw_succ]; grind, hlt⟩
end Go.Mono
namespace Go.Proofs.YtepodcocemmejaaGreatDoor
open Go.RowKit Go.Mono
theorem infoInt4 : (Tryz.prog.info? 3).map (fun i => (i.zero, i.size, i.bytes)) = some (some (.int .i64 0), 1, 8) := by kernel_rfl
theorem sizeInt4 : (Tryz.prog.info? 3).map (·.size) = some 1 := by kernel_rfl
set_option maxRecDepth 100000 in
set_option maxHeartbeats 800000 in
theorem plus_ge (p q : Option Addr) (n m c1 c2 : Nat) (f g : Nat → Int) (w : World) (h1 : SlF w (.slice p n c1) n f) (h2 : SlF w (.slice q m c2) m g)
    (f0 : ∀ i, i < n → 0 ≤ f i) (f1 : ∀ i, i < n → f i < 1000000000) (g0 : ∀ i, i < m → 0 ≤ g i) (g1 : ∀ i, i < m → g i < 1000000000) (hmn : m ≤ n) (hn : n ≤ 1000000) :
    Calls Tryz.prog 165 #[.slice p n c1, .slice q m c2] w fun e w' => ∃ b k h, e = .returned (.slice (some ⟨b, 0, none⟩) k (n + 1)) ∧ SlF w' (.slice (some ⟨b, 0, none⟩) k (n + 1)) k h ∧ Digs h k ∧ vf h k = vf f n + vf g m ∧ k ≤ n + 1 ∧ Below w.heap.size w w' := by
  obtain ⟨hc1, hn1, hx1⟩ := h1.opens
  obtain ⟨hc2, hn2, hx2⟩ := h2.opens
  go_enter Tryz.func165, Tryz.ntmps165
  go_wp2_with (first
    | (at_make; refine wpList_make_ints _ rfl _ _ 132 rfl Tryz.underlying132 infoInt4 _ _ (n + 1) rfl rfl (by simp) (by simp) (by omega) ?_; intro w1 r1 b1; have s1 := b1.size; have L1 := r1.lt)
    | (with_reducible refine wpList_copy_ints _ rfl (.tmp 20) (.tmp 21) 132 132 rfl Tryz.underlying132 sizeInt4 w.heap.size (n + 1) _ (n + 1) _ _ n c1 f rfl rfl r1 (h1.ext (.of_below b1)) (by omega) (by omega) w.heap.size w b1 (Nat.le_refl _) ?_; intro w2 r2 b2))
  clear h1 h2 hx1
  go_loopw [25] (fun a wr => ∃ k : Nat, k ≤ m ∧ a = .int .i64 k ∧ Below w.heap.size w wr ∧ RowF wr w.heap.size (n + 1) (fun j => (if j < n then f j else 0) + (if j < k then g j else 0))) (fun a _ => m - (intOf a).toNat)
  case atStart => exact ⟨0, Nat.zero_le _, rfl, b2, r2.congr fun i _ => by simp⟩
  case round =>
    obtain ⟨k, hk, rfl, hb, hr⟩ := hrel
    by_cases hlt : k < m
    · obtain ⟨b, off, rfl, hbs, hcell⟩ := hx2 (by omega)
      have a1 := (hb.cell (p := ⟨b, off + k, none⟩) hbs).trans (hcell k hlt)
      have a2 := hr.cell k (by omega)
      rw [if_pos (by omega), if_neg (by omega), Int.add_zero] at a2
      have a3 := hr.frozen k
      have d1 := f0 k (by omega)
      have d2 := f1 k (by omega)
      have d3 := g0 k hlt
      have d4 := g1 k hlt
      clear hcell hx2 f0 f1 g0 g1
      go_wp2
      go_roundw
      case rel =>
        refine ⟨k + 1, by omega, by go_num, hb.setCell (p := ⟨w.heap.size, k, none⟩) (Nat.le_refl _) _, (hr.set k _).congr fun i hi => ?_⟩
        by_cases e : i = k
        · subst e; simp; omega
        · rw [if_neg e]; simp only [show i < k + 1 ↔ i < k by omega]
      case measure => simp [intOf]; omega
    · obtain rfl : k = m := by omega
      clear hlt hk hx2
      go_wp2
      have HP : PlusInv n (vf f n + vf g k) 0 (fun j => (if j < n then f j else 0) + (if j < k then g j else 0)) := PlusInv.start hmn f0 f1 g0 g1
      clear f0 f1 g0 g1
      go_loopw [40] (fun a wr => ∃ i : Nat, i ≤ n ∧ a = .int .i64 i ∧ Below w.heap.size w wr ∧ ∃ h, RowF wr w.heap.size (n + 1) h ∧ PlusInv n (vf f n + vf g k) i h) (fun a _ => n - (intOf a).toNat)
      case atStart => exact ⟨0, Nat.zero_le _, rfl, hb, _, hr, HP⟩
      case round =>
        clear hb hr HP
        obtain ⟨i, hi, rfl, hb, h, hr, HP⟩ := hrel
        by_cases hlt : i < n
        · obtain ⟨q1, q2, q3, q4⟩ := HP.bd hlt
          have a2 := hr.cell i (by omega)
          have a3 := hr.frozen i
          have a4 := hr.cell (i + 1) (by omega)
          have a5 := hr.frozen (i + 1)
          by_cases hge : 1000000000 ≤ h i
          · have r1 := hr.set i (h i - 1000000000)
            have a6 := r1.cell (i + 1) (by omega)
            have a7 := r1.frozen (i + 1)
            simp only [show ¬ i + 1 = i by omega, if_false] at a6
            go_wp2
            go_roundw
            case rel => exact ⟨i + 1, by omega, by go_num, (hb.setCell (p := ⟨w.heap.size, i, none⟩) (Nat.le_refl _) _).setCell (p := ⟨w.heap.size, i + 1, none⟩) (Nat.le_refl _) _, _, r1.set (i + 1) (h (i + 1) + 1), HP.carry hlt hge⟩
            case measure => simp [intOf]; omega
          · have hge' : h i < 1000000000 := by omega
            go_wp2
            go_roundw
            case rel => exact ⟨i + 1, by omega, by go_num, hb, _, hr, HP.plain hlt hge'⟩
            case measure => simp [intOf]; omega
        · obtain rfl : i = n := by omega
          clear hlt hi
          have hs := hr.slice (by omega) (i + 1) (Nat.le_refl _) (i + 1) (Nat.le_refl _)
          obtain ⟨c1', c2'⟩ := HP.done
          have hle := trimN_le h (i + 1)
          replace c2' := Lib.hid c2'
          go_wp2_with (go_at_call 163; refine (trim_any _ _ _ h _ hs).mono ?_; rintro e w' ⟨rfl, rfl⟩)
          go_ret
          exact ⟨_, _, h, rfl, hs.take _ hle, c1', c2'.out, hle, hb⟩
set_option maxRecDepth 100000 in
set_option maxHeartbeats 800000 in
theorem plus_lt (p q : Option Addr) (n m c1 c2 : Nat) (f g : Nat → Int) (w : World) (h1 : SlF w (.slice p n c1) n f) (h2 : SlF w (.slice q m c2) m g)
    (f0 : ∀ i, i < n → 0 ≤ f i) (f1 : ∀ i, i < n → f i < 1000000000) (g0 : ∀ i, i < m → 0 ≤ g i) (g1 : ∀ i, i < m → g i < 1000000000) (hlt' : m < n) (hn : n ≤ 1000000) :
    Calls Tryz.prog 165 #[.slice q m c2, .slice p n c1] w fun e w' => ∃ b k h, e = .returned (.slice (some ⟨b, 0, none⟩) k (n + 1)) ∧ SlF w' (.slice (some ⟨b, 0, none⟩) k (n + 1)) k h ∧ Digs h k ∧ vf h k = vf f n + vf g m ∧ k ≤ n + 1 ∧ Below w.heap.size w w' := by
  have hmn : m ≤ n := by omega
  obtain ⟨hc1, hn1, hx1⟩ := h1.opens
  obtain ⟨hc2, hn2, hx2⟩ := h2.opens
  go_enter Tryz.func165, Tryz.ntmps165
  go_wp2_with (first
    | (at_make; refine wpList_make_ints _ rfl _ _ 132 rfl Tryz.underlying132 infoInt4 _ _ (n + 1) rfl rfl (by simp) (by simp) (by omega) ?_; intro w1 r1 b1; have s1 := b1.size; have L1 := r1.lt)
    | (with_reducible refine wpList_copy_ints _ rfl (.tmp 20) (.tmp 21) 132 132 rfl Tryz.underlying132 sizeInt4 w.heap.size (n + 1) _ (n + 1) _ _ n c1 f rfl rfl r1 (h1.ext (.of_below b1)) (by omega) (by omega) w.heap.size w b1 (Nat.le_refl _) ?_; intro w2 r2 b2))
  clear h1 h2 hx1
  go_loopw [25] (fun a wr => ∃ k : Nat, k ≤ m ∧ a = .int .i64 k ∧ Below w.heap.size w wr ∧ RowF wr w.heap.size (n + 1) (fun j => (if j < n then f j else 0) + (if j < k then g j else 0))) (fun a _ => m - (intOf a).toNat)
  case atStart => exact ⟨0, Nat.zero_le _, rfl, b2, r2.congr fun i _ => by simp⟩
  case round =>
    obtain ⟨k, hk, rfl, hb, hr⟩ := hrel
    by_cases hlt : k < m
    · obtain ⟨b, off, rfl, hbs, hcell⟩ := hx2 (by omega)
      have a1 := (hb.cell (p := ⟨b, off + k, none⟩) hbs).trans (hcell k hlt)
      have a2 := hr.cell k (by omega)
      rw [if_pos (by omega), if_neg (by omega), Int.add_zero] at a2
      have a3 := hr.frozen k
      have d1 := f0 k (by omega)
      have d2 := f1 k (by omega)
      have d3 := g0 k hlt
      have d4 := g1 k hlt
      clear hcell hx2 f0 f1 g0 g1
      go_wp2
      go_roundw
      case rel =>
        refine ⟨k + 1, by omega, by go_num, hb.setCell (p := ⟨w.heap.size, k, none⟩) (Nat.le_refl _) _, (hr.set k _).congr fun i hi => ?_⟩
        by_cases e : i = k
        · subst e; simp; omega
        · rw [if_neg e]; simp only [show i < k + 1 ↔ i < k by omega]
      case measure => simp [intOf]; omega
    · obtain rfl : k = m := by omega
      clear hlt hk hx2
      go_wp2
      have HP : PlusInv n (vf f n + vf g k) 0 (fun j => (if j < n then f j else 0) + (if j < k then g j else 0)) := PlusInv.start hmn f0 f1 g0 g1
      clear f0 f1 g0 g1
      go_loopw [40] (fun a wr => ∃ i : Nat, i ≤ n ∧ a = .int .i64 i ∧ Below w.heap.size w wr ∧ ∃ h, RowF wr w.heap.size (n + 1) h ∧ PlusInv n (vf f n + vf g k) i h) (fun a _ => n - (intOf a).toNat)
      case atStart => exact ⟨0, Nat.zero_le _, rfl, hb, _, hr, HP⟩
      case round =>
        clear hb hr HP
        obtain ⟨i, hi, rfl, hb, h, hr, HP⟩ := hrel
        by_cases hlt : i < n
        · obtain ⟨q1, q2, q3, q4⟩ := HP.bd hlt
          have a2 := hr.cell i (by omega)
          have a3 := hr.frozen i
          have a4 := hr.cell (i + 1) (by omega)
          have a5 := hr.frozen (i + 1)
          by_cases hge : 1000000000 ≤ h i
          · have r1 := hr.set i (h i - 1000000000)
            have a6 := r1.cell (i + 1) (by omega)
            have a7 := r1.frozen (i + 1)
            simp only [show ¬ i + 1 = i by omega, if_false] at a6
            go_wp2
            go_roundw
            case rel => exact ⟨i + 1, by omega, by go_num, (hb.setCell (p := ⟨w.heap.size, i, none⟩) (Nat.le_refl _) _).setCell (p := ⟨w.heap.size, i + 1, none⟩) (Nat.le_refl _) _, _, r1.set (i + 1) (h (i + 1) + 1), HP.carry hlt hge⟩
            case measure => simp [intOf]; omega
          · have hge' : h i < 1000000000 := by omega
            go_wp2
            go_roundw
            case rel => exact ⟨i + 1, by omega, by go_num, hb, _, hr, HP.plain hlt hge'⟩
            case measure => simp [intOf]; omega
        · obtain rfl : i = n := by omega
          clear hlt hi
          have hs := hr.slice (by omega) (i + 1) (Nat.le_refl _) (i + 1) (Nat.le_refl _)
          obtain ⟨c1', c2'⟩ := HP.done
          have hle := trimN_le h (i + 1)
          replace c2' := Lib.hid c2'
          go_wp2_with (go_at_call 163; refine (trim_any _ _ _ h _ hs).mono ?_; rintro e w' ⟨rfl, rfl⟩)
          go_ret
          exact ⟨_, _, h, rfl, hs.take _ hle, c1', c2'.out, hle, hb⟩
theorem plus_sz (m1 m2 : Nat) (w wf : World) (hx : Ext wf w) (p q : Option Addr) (n m c1 c2 : Nat) (N M : Int) (h1 : Sz m1 wf (.slice p n c1) N) (h2 : Sz m2 wf (.slice q m c2) M) (hm1 : m1 ≤ 1000000) (hm2 : m2 ≤ 1000000) :
    Calls Tryz.prog 165 #[.slice p n c1, .slice q m c2] w fun e w' => ∃ p k c, e = .returned (.slice p k c) ∧ Sz (max m1 m2 + 1) w' (.slice p k c) (N + M) ∧ Below w.heap.size w w' := by
  obtain ⟨n, f, s1, d1, rfl, l1, rfl⟩ := (h1.ext hx).sl
  obtain ⟨m, g, s2, d2, rfl, l2, rfl⟩ := (h2.ext hx).sl
  by_cases hmn : m ≤ n
  · refine (plus_ge p q n m c1 c2 f g w s1 s2 d1.lo d1.hi d2.lo d2.hi hmn (by omega)).mono ?_
    rintro e w' ⟨b, k, h, rfl, hs, hd, hv, hk, hb⟩
    exact ⟨_, _, _, rfl, ⟨k, h, hs, hd, hv, by omega⟩, hb⟩
  · refine (plus_lt q p m n c2 c1 g f w s2 s1 d2.lo d2.hi d1.lo d1.hi (by omega) (by omega)).mono ?_
    rintro e w' ⟨b, k, h, rfl, hs, hd, hv, hk, hb⟩
    exact ⟨_, _, _, rfl, ⟨k, h, hs, hd, by rw [hv]; omega, by omega⟩, hb⟩
end Go.Proofs.YtepodcocemmejaaGreatDoor
