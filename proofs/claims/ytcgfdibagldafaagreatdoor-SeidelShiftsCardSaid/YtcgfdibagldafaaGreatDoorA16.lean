/- Contracts of the program's fractions, lenses and rays, and a verified evaluator of the model. Part 16 of 30. No condition beside the row. -/
import Derived.DeepKeys
import Derived.Deep.Upon
import Derived.Laws.AppendOwn
import Derived.OrdersIn
import Derived.RecoverIn
import Derived.RangeFuncLeaves
import Derived.RangeFuncBound
import Derived.RangeFuncCalls
import Derived.RangeFuncNested
import Derived.Test.YtcgfdibagldafaaGreatDoorA15
set_option linter.unusedVariables false
set_option linter.unusedSimpArgs false
set_option maxRecDepth 100000
set_option maxHeartbeats 4000000
namespace Go.Mono
open Go.RowKit
def RdC (w : World) (p : Option Addr) (n c sz : Nat) (cell : Nat → Nat → Value) : Prop :=
 n ≤ c ∧ n ≤ 140737488351232 ∧ (0 < n → ∃ b off, p = some ⟨b, off, none⟩ ∧ b < w.heap.size ∧ (∀ i j, i < n → j < sz → w.cell? ⟨b, off + i * sz + j, none⟩ = some (cell i j)))
theorem RdC.below {w w' : World} {p : Option Addr} {n c sz : Nat} {f : Nat → Nat → Value} (h : RdC w p n c sz f) (hB : Below w.heap.size w w') : RdC w' p n c sz f := by
 obtain ⟨h1, h2, h3⟩ := h
 refine ⟨h1, h2, fun hn => ?_⟩
 obtain ⟨b, off, hp, hb, hc⟩ := h3 hn
 exact ⟨b, off, hp, Nat.lt_of_lt_of_le hb hB.size, fun i j hi hj => (hB.cell hb).trans (hc i j hi hj)⟩
end Go.Mono
namespace Go.Proofs.YtcgfdibagldafaaGreatDoor
open Go.RowKit Go.Mono
theorem lbetween_ok (n lo hi : Int) (h1 : lo ≤ n) (h2 : n ≤ hi) (w : World) :
  Calls Tryz.prog 243 #[.int .i64 n, .int .i64 lo, .int .i64 hi] w fun e w' => e = .returned (.bool true) ∧ w' = w := by
 go_enter Tryz.func243, Tryz.ntmps243
 go_wp2
 go_ret
 exact ⟨rfl, rfl⟩
theorem waves_ok (B : Nat) (nm : ByteArray) (di pu st pr : Int) (pf pw' ps pc : Option Addr) (nf cf n cw ns cs nc cc : Nat) (L W : Nat → Int) (w : World)
  (b0 : Box w B 291 #[.string nm, .int .i64 di, .int .i64 pu, .int .i64 st, .int .i64 pr, .slice pf nf cf, .slice pw' n cw, .slice ps ns cs, .slice pc nc cc])
  (hr : RdC w pw' n cw 2 (fun i j => if j = 0 then .int .i64 (L i) else .int .i64 (W i)))
  (n1 : 1 ≤ n) (n2 : n ≤ 5) (q1 : 0 ≤ pr) (q2 : pr ≤ n - 1)
  (l0 : ∀ i, i < n → 300000 ≤ L i ∧ L i ≤ 2500000) (l1 : ∀ i, i + 1 < n → L i < L (i + 1)) (w0 : ∀ i, i < n → 1 ≤ W i ∧ W i ≤ 100) :
  Calls Tryz.prog 245 #[.pointer (some ⟨B, 0, none⟩)] w fun e w' => e = .returned (.bool true) ∧ Below w.heap.size w w' := by
 have cb0 := b0.cell
 obtain ⟨hc1, hn1, hx⟩ := hr
 obtain ⟨b, off, rfl, hb, hcell⟩ := hx (by omega)
 go_enter Tryz.func245, Tryz.ntmps245
 go_wp2
 go_loopw [3, 12] (fun l a wr => ∃ (i : Nat) (la : Int), i ≤ n ∧ a = .int .i64 (i : Int) ∧ l = .int .i64 la ∧ (i = 0 → la = 299999) ∧ (0 < i → la = L (i - 1)) ∧ Below w.heap.size w wr) (fun _ a _ => (n - intOf a).toNat)
 case atStart => exact ⟨0, 299999, Nat.zero_le _, rfl, rfl, fun _ => rfl, fun h => by omega, Below.refl _ _⟩
 case round =>
  obtain ⟨i, la, hi, rfl, rfl, ha0, ha1, hB⟩ := hrel
  by_cases hin : i < n
  ·have hlt : la < L i := by
    by_cases h0 : i = 0
    ·have := ha0 h0; have := l0 i hin; omega
    ·have := ha1 (by omega); have := l1 (i - 1) (by omega)
     rw [show i - 1 + 1 = i by omega] at this
     omega
   obtain ⟨l2, l3⟩ := l0 i hin
   obtain ⟨w1, w2⟩ := w0 i hin
   have f1 : ¬ (L i ≤ la) := by omega
   have f2 : ¬ (2500000 < L i) := by omega
   have hin' : (i : Int) < n := by omega
   have a0 := (hB.cell hb).trans (hcell i 0 hin (by omega))
   have a1 := (hB.cell hb).trans (hcell i 1 hin (by omega))
   simp only [if_true, Nat.add_zero, Nat.succ_ne_self, if_false] at a0 a1
   replace l0 := Lib.hid l0; replace l1 := Lib.hid l1; replace w0 := Lib.hid w0; replace ha0 := Lib.hid ha0; replace ha1 := Lib.hid ha1
   clear hcell
   go_wp2_with (go_at_call 243; refine (lbetween_ok _ _ _ w1 w2 _).mono ?_; rintro e w' ⟨rfl, rfl⟩)
   go_roundw
   case rel => exact ⟨i + 1, L i, by omega, by simp, rfl, fun h => by omega, fun _ => rfl, belowAlloc hB _⟩
   case measure => simp [intOf]; omega
  ·obtain rfl : i = n := by omega
   have hb0 := b0.below hB
   have cbb := hb0.cell
   have lbb := hb0.lt
   clear hcell cb0 l0 l1 w0 ha0 ha1
   have e1 : (1 : Int) ≤ i := by omega
   have e2 : (i : Int) ≤ 5 := by omega
   have hw : pr ≤ IntKind.i64.wrap ((i : Int) - 1) := by
    have : IntKind.i64.wrap ((i : Int) - 1) = (i : Int) - 1 := by rw [IntKind.wrap_i64]; omega
    omega
   go_wp2_with fail
   go_region_held3 (fun w' => (∀ b o, b < wr.heap.size → w'.cell? ⟨b, o, none⟩ = wr.cell? ⟨b, o, none⟩) ∧ Below wr.heap.size wr w') ((refine belowS ?_; first | exact (Below.refl _ _).drew | (repeat' (first | exact And.right ‹_› | exact belowCall (And.right ‹_›) ‹_› | exact belowAlloc (And.right ‹_›) _ | exact belowAlloc ‹_› _ | refine belowSet ?_ (by omega) _ _)))) (first | (go_at_call 243; (with_reducible refine (lbetween_ok (i : Int) 1 5 e1 e2 _).mono ?_); rintro e w' ⟨rfl, rfl⟩) | (go_at_call 243; (with_reducible refine (lbetween_ok pr 0 (IntKind.i64.wrap ((i : Int) - 1)) q1 hw _).mono ?_); rintro e w' ⟨rfl, rfl⟩))
   all_goals
    go_wp2
    go_ret
    exact ⟨rfl, belowCall hB (And.right ‹_›)⟩
end Go.Proofs.YtcgfdibagldafaaGreatDoor
namespace Go.Mono
open Go.RowKit
def Srf.flds (s : Srf) : Array Value := #[.int .i64 s.kind, .int .i64 s.curv, .int .i64 s.conic, .int .i64 s.curvx, .int .i64 s.conicx, .int .i64 s.order, .int .i64 s.thick, .int .i64 s.semi, .int .i64 s.hole, .int .i64 s.dx, .int .i64 s.dy, .int .i64 s.ax, .int .i64 s.ay, .int .i64 s.az, .int .i64 0, .int .i64 0, .int .i64 s.a0, .int .i64 s.a1, .int .i64 s.a2, .int .i64 s.a3, .int .i64 s.p0, .int .i64 s.p1, .string s.glass]
def Srf.lits (s : Srf) : List Lit := [.int .i64 s.kind, .int .i64 s.curv, .int .i64 s.conic, .int .i64 s.curvx, .int .i64 s.conicx, .int .i64 s.order, .int .i64 s.thick, .int .i64 s.semi, .int .i64 s.hole, .int .i64 s.dx, .int .i64 s.dy, .int .i64 s.ax, .int .i64 s.ay, .int .i64 s.az, .int .i64 0, .int .i64 0, .int .i64 s.a0, .int .i64 s.a1, .int .i64 s.a2, .int .i64 s.a3, .int .i64 s.p0, .int .i64 s.p1, .string s.glass.data.toList]
theorem wf_in {m z : Int} (h : In m z) (hm : m ≤ 1000000000) : (Lit.int .i64 z).wf = true := by
 obtain ⟨h1, h2⟩ := h
 have e1 : IntKind.i64.min = -9223372036854775808 := by decide
 have e2 : IntKind.i64.max = 9223372036854775807 := by decide
 simp only [Lit.wf, e1, e2, Bool.and_eq_true, decide_eq_true_eq]
 omega
theorem glass_size {s : Srf} (h : s.ok) : s.glass.size ≤ 16 := by
 rcases h.glass with h | h
 ·rw [h]; decide
 ·exact h.2.1
end Go.Mono
namespace Go.Proofs.YtcgfdibagldafaaGreatDoor
open Go.RowKit Go.Mono
theorem lits_int (d : Nat) (z : Int) (h : (Lit.int .i64 z).wf = true) : Tryz.prog.keyLits (d + 1) 3 [.int .i64 z] = some [.int .i64 z] := by
 have hu : Tryz.prog.underlying 3 = some (.int .i64) := by kernel_rfl
 simp [Program.keyLits, hu, h]
theorem lits_str (d : Nat) (s : ByteArray) (h : s.size ≤ 16) : Tryz.prog.keyLits (d + 1) 9 [.string s] = some [.string s.data.toList] := by
 have hu : Tryz.prog.underlying 9 = some .string := by kernel_rfl
 have : s.size ≤ maxLen := Nat.le_trans h (by decide)
 simp [Program.keyLits, hu, this]
theorem lits_flds (s : Srf) (hs : s.ok) : Tryz.prog.keyLits 6 356 s.flds.toList = some s.lits := by
 have c299 : Tryz.prog.cellsOf 356 = 23 := by kernel_rfl
 have c297 : Tryz.prog.cellsOf 354 = 16 := by kernel_rfl
 have c91 : Tryz.prog.cellsOf 87 = 4 := by kernel_rfl
 have c49 : Tryz.prog.cellsOf 88 = 2 := by kernel_rfl
 have c3 : Tryz.prog.cellsOf 3 = 1 := by kernel_rfl
 have c9 : Tryz.prog.cellsOf 9 = 1 := by kernel_rfl
 have hg := lits_str 4 s.glass (glass_size hs)
 have w0 : (Lit.int .i64 0).wf = true := by decide
 have w_kind : (Lit.int .i64 s.kind).wf = true := wf_in (m := 4) ⟨by have := hs.k1; omega, hs.k2⟩ (by omega)
 have w_curv : (Lit.int .i64 s.curv).wf = true := wf_in hs.curv (by omega)
 have w_conic : (Lit.int .i64 s.conic).wf = true := wf_in hs.conic (by omega)
 have w_curvx : (Lit.int .i64 s.curvx).wf = true := wf_in hs.curvx (by omega)
 have w_conicx : (Lit.int .i64 s.conicx).wf = true := wf_in hs.conicx (by omega)
 have w_order : (Lit.int .i64 s.order).wf = true := wf_in hs.order (by omega)
 have w_thick : (Lit.int .i64 s.thick).wf = true := wf_in hs.thick (by omega)
 have w_semi : (Lit.int .i64 s.semi).wf = true := wf_in (m := 1000000000) ⟨by have := hs.semi0; omega, hs.semi1⟩ (by omega)
 have w_hole : (Lit.int .i64 s.hole).wf = true := wf_in (m := 1000000000) ⟨by have := hs.hole0; omega, hs.hole1⟩ (by omega)
 have w_dx : (Lit.int .i64 s.dx).wf = true := wf_in hs.dx (by omega)
 have w_dy : (Lit.int .i64 s.dy).wf = true := wf_in hs.dy (by omega)
 have w_ax : (Lit.int .i64 s.ax).wf = true := wf_in hs.ax (by omega)
 have w_ay : (Lit.int .i64 s.ay).wf = true := wf_in hs.ay (by omega)
 have w_az : (Lit.int .i64 s.az).wf = true := wf_in hs.az (by omega)
 have w_a0 : (Lit.int .i64 s.a0).wf = true := wf_in hs.a0 (by omega)
 have w_a1 : (Lit.int .i64 s.a1).wf = true := wf_in hs.a1 (by omega)
 have w_a2 : (Lit.int .i64 s.a2).wf = true := wf_in hs.a2 (by omega)
 have w_a3 : (Lit.int .i64 s.a3).wf = true := wf_in hs.a3 (by omega)
 have w_p0 : (Lit.int .i64 s.p0).wf = true := wf_in hs.p0 (by omega)
 have w_p1 : (Lit.int .i64 s.p1).wf = true := wf_in hs.p1 (by omega)
 clear hs
 have h297 : Tryz.prog.keyLits 5 354 [.int .i64 s.kind, .int .i64 s.curv, .int .i64 s.conic, .int .i64 s.curvx, .int .i64 s.conicx, .int .i64 s.order, .int .i64 s.thick, .int .i64 s.semi, .int .i64 s.hole, .int .i64 s.dx, .int .i64 s.dy, .int .i64 s.ax, .int .i64 s.ay, .int .i64 s.az, .int .i64 0, .int .i64 0] = some [.int .i64 s.kind, .int .i64 s.curv, .int .i64 s.conic, .int .i64 s.curvx, .int .i64 s.conicx, .int .i64 s.order, .int .i64 s.thick, .int .i64 s.semi, .int .i64 s.hole, .int .i64 s.dx, .int .i64 s.dy, .int .i64 s.ax, .int .i64 s.ay, .int .i64 s.az, .int .i64 0, .int .i64 0] := by
  simp [Program.keyLits, Tryz.underlying354, List.range_succ, *]
 have h91 : Tryz.prog.keyLits 5 87 [.int .i64 s.a0, .int .i64 s.a1, .int .i64 s.a2, .int .i64 s.a3] = some [.int .i64 s.a0, .int .i64 s.a1, .int .i64 s.a2, .int .i64 s.a3] := by
  simp [Program.keyLits, Tryz.underlying87, List.range_succ, *]
 have h49 : Tryz.prog.keyLits 5 88 [.int .i64 s.p0, .int .i64 s.p1] = some [.int .i64 s.p0, .int .i64 s.p1] := by
  simp [Program.keyLits, Tryz.underlying88, List.range_succ, *]
 rw [Program.keyLits.eq_def]
 simp only [Tryz.underlying356]
 simp [Srf.flds, Srf.lits, h297, h91, h49, hg, c299, c297, c91, c49, c9]
theorem eql_flds (s : Srf) (hs : s.ok) (w : World) : (binOp .eql 356 (.agg s.flds) (.agg s.flds)).run Tryz.prog w = .ok (.bool true) w := by
 obtain ⟨r, h1, h2⟩ := run_equalIn_deep (P := Tryz.prog) 9995 5 356 (by kernel_rfl) w 6 6 (.agg s.flds) (.agg s.flds) s.lits s.lits (by kernel_rfl) (by kernel_rfl) (lits_flds s hs) (lits_flds s hs)
 rw [run_eql_struct]
 have h3 : r = true := h2.2 rfl
 subst h3
 rw [show (10000 : Nat) = 9995 + 5 from rfl, h1]
 rfl
end Go.Proofs.YtcgfdibagldafaaGreatDoor
namespace Go.Ex
open Go.RowKit Go.Mono
section
structure Frm (w0 : World) (X : Nat → Prop) (w : World) : Prop where
 os : w.os = w0.os
 tape : w.tape = w0.tape
 output : w.output = w0.output
 size : w0.heap.size ≤ w.heap.size
 block : ∀ i, i < w0.heap.size → ¬ X i → w.heap[i]? = w0.heap[i]?
theorem Frm.refl (w : World) (X : Nat → Prop) : Frm w X w := ⟨rfl, rfl, rfl, Nat.le_refl _, fun _ _ _ => rfl⟩
theorem Frm.below {w0 w : World} (h : Frm w0 (fun _ => False) w) : Below w0.heap.size w0 w := ⟨h.os, h.tape, h.output, h.size, fun k hk => h.block k hk id⟩
theorem Frm.of_below {w0 w : World} (h : Below w0.heap.size w0 w) (X : Nat → Prop) : Frm w0 X w := ⟨h.os, h.tape, h.output, h.size, fun k hk _ => h.block k hk⟩
abbrev Liv (bk : List (Nat × Blk)) (k : Nat) (b : Blk) : Prop := bk.look k = some b ∧ b.dead = false
structure Sat (D : Den) (w0 : World) (X : Nat → Prop) (th : Nat) (ρ : Nm) (wc w : World) (bk : List (Nat × Blk)) : Prop where
 fr : Frm w0 X w
 ext : Ext wc w
 inj : ∀ k k' b b' B B', Liv bk k b → Liv bk k' b' → ρ k = some B → ρ k' = some B' → B.blk = B'.blk → k = k' ∨ (B.ro = true ∧ B'.ro = true)
 lt : ∀ k B, ρ k = some B → B.blk < w.heap.size
 box : ∀ k b, Liv bk k b → ∃ B cs, ρ k = some B ∧ Holds w B b.T b.sp cs ∧ denL D ρ wc b.cells cs ∧ (b.ro = false → w0.heap.size ≤ B.blk ∨ X B.blk) ∧ (b.T = 3 → th ≤ k → wc.heap.size ≤ B.blk) ∧ B.ro = b.ro
structure Evo (ρ : Nm) (wc w : World) (bk : List (Nat × Blk)) (c c' : Nat) (ρ' : Nm) (wc' w' : World) (bk' : List (Nat × Blk)) : Prop where
 rho : ρ.le ρ'
 ext : Ext wc wc'
 size : w.heap.size ≤ w'.heap.size
 os : w'.os = w.os
 tape : w'.tape = w.tape
 output : w'.output = w.output
 loc : ∀ i, i < w.heap.size → (∀ k b B, Liv bk k b → ρ k = some B → B.ro = false → B.blk ≠ i) → w'.heap[i]? = w.heap[i]?
 ids : ∀ k b, Liv bk' k b → (∃ b0, Liv bk k b0) ∨ (c ≤ k ∧ k < c' ∧ ∃ B, ρ' k = some B ∧ (w.heap.size ≤ B.blk ∨ ∃ k0 b0 B0, Liv bk k0 b0 ∧ ρ k0 = some B0 ∧ B0.ro = false ∧ B0.blk = B.blk))
 cc : c ≤ c'
 dom : ∀ k, (k < c ∨ c' ≤ k) → ρ' k = ρ k
theorem Evo.refl (ρ : Nm) (wc w : World) (bk : List (Nat × Blk)) (c : Nat) : Evo ρ wc w bk c c ρ wc w bk :=
 ⟨Nm.le.refl _, Ext.refl _, Nat.le_refl _, rfl, rfl, rfl, fun _ _ _ => rfl, fun k b h => .inl ⟨b, h⟩, Nat.le_refl _, fun _ _ => rfl⟩
theorem Evo.trans {ρ ρ1 ρ2 : Nm} {wc w wc1 w1 wc2 w2 : World} {bk bk1 bk2 : List (Nat × Blk)} {c c1 c2 : Nat}
  (h : Evo ρ wc w bk c c1 ρ1 wc1 w1 bk1) (g : Evo ρ1 wc1 w1 bk1 c1 c2 ρ2 wc2 w2 bk2) (hlt : ∀ k b, Liv bk k b → ∃ B, ρ k = some B) : Evo ρ wc w bk c c2 ρ2 wc2 w2 bk2 where
 rho := h.rho.trans g.rho
 ext := h.ext.trans g.ext
 size := Nat.le_trans h.size g.size
 os := g.os.trans h.os
 tape := g.tape.trans h.tape
 output := g.output.trans h.output
 loc := fun i hi hn => by
  rw [g.loc i (Nat.lt_of_lt_of_le hi h.size) ?_, h.loc i hi hn]
  intro k b C hk he hro
  rcases h.ids k b hk with ⟨b', hb'⟩ | ⟨_, _, B, hB, hle⟩
  ·obtain ⟨B, hB⟩ := hlt k b' hb'
   have := h.rho k B hB
   rw [he] at this
   cases this
   exact hn k b' C hb' hB hro
  ·rw [he] at hB
   cases hB
   rcases hle with hle | ⟨k0, b0, B0, h1, h2, h3, h4⟩
   ·omega
   ·rw [← h4]; exact hn k0 b0 B0 h1 h2 h3
 ids := fun k b hk => by
  have hc1 := h.cc
  have hc2 := g.cc
  rcases g.ids k b hk with ⟨b', hb'⟩ | ⟨k1, k2, B, hB, hle⟩
  ·rcases h.ids k b' hb' with h2 | ⟨k1, k2, B, hB, hle⟩
   ·exact .inl h2
   ·exact .inr ⟨k1, by omega, B, g.rho k B hB, hle⟩
  ·refine .inr ⟨by omega, k2, B, hB, ?_⟩
   rcases hle with hle | ⟨k0, b0, B0, h1, h2, h3, h4⟩
   ·exact .inl (Nat.le_trans h.size hle)
   ·rcases h.ids k0 b0 h1 with ⟨b', hb'⟩ | ⟨_, _, B1, hB1, hle⟩
    ·obtain ⟨B1, hB1⟩ := hlt k0 b' hb'
     have := h.rho k0 B1 hB1
     rw [h2] at this
     cases this
     exact .inr ⟨k0, b', B0, hb', hB1, h3, h4⟩
    ·rw [h2] at hB1
     cases hB1
     rw [← h4]
     exact hle
 cc := Nat.le_trans h.cc g.cc
 dom := fun k hk => by
  have h1 := h.cc
  have h2 := g.cc
  rw [g.dom k (by omega), h.dom k (by omega)]
section
variable {D : Den} {w0 : World} {X : Nat → Prop} {th : Nat} {ρ : Nm} {wc w : World} {bk : List (Nat × Blk)}
theorem Sat.named (h : Sat D w0 X th ρ wc w bk) : ∀ k b, Liv bk k b → ∃ B, ρ k = some B := fun k b hk => let ⟨B, _, hB, _⟩ := h.box k b hk; ⟨B, hB⟩
theorem Sat.bkOk (h : Sat D w0 X th ρ wc w bk) : BkOk D ρ wc w bk := fun k b hk hd => let ⟨B, cs, h1, h2, h3, _, _, h6⟩ := h.box k b ⟨hk, hd⟩; ⟨B, cs, h1, h2, h3, h6⟩
theorem Sat.mono (h : Sat D w0 X th ρ wc w bk) {th' : Nat} (hle : th ≤ th') : Sat D w0 X th' ρ wc w bk :=
 ⟨h.fr, h.ext, h.inj, h.lt, fun k b hk => let ⟨B, cs, h1, h2, h3, h4, h5, h6⟩ := h.box k b hk; ⟨B, cs, h1, h2, h3, h4, fun ht hh => h5 ht (Nat.le_trans hle hh), h6⟩⟩
def addNm (ρ : Nm) (k : Nat) (B : Pl) : Nm := fun j => if j = k then some B else ρ j
theorem addNm_new (ρ : Nm) (k : Nat) (B : Pl) : addNm ρ k B k = some B := by simp [addNm]
theorem addNm_old (ρ : Nm) {k j : Nat} (B : Pl) (h : j ≠ k) : addNm ρ k B j = ρ j := by simp [addNm, h]
theorem addNm_le {ρ : Nm} {k : Nat} {B : Pl} (h : ρ k = none) : ρ.le (addNm ρ k B) := fun j C hj => by
 by_cases e : j = k
 ·subst e; rw [h] at hj; cases hj
 ·rw [addNm_old _ _ e]; exact hj
theorem liv_cons {k j : Nat} {b x : Blk} {l : List (Nat × Blk)} (h : Liv ((k, x) :: l) j b) : (j = k ∧ b = x ∧ x.dead = false) ∨ (j ≠ k ∧ Liv l j b) := by
 obtain ⟨h, hd⟩ := h
 rw [look_cons] at h
 by_cases e : j = k
 ·rw [if_pos e] at h; cases h; exact .inl ⟨e, rfl, hd⟩
 ·rw [if_neg e] at h; exact .inr ⟨e, h, hd⟩
theorem Sat.alloc (h : Sat D w0 X th ρ wc w bk) {k : Nat} (hk : ρ k = none) (T : TypeId) (sp : Bool) (cap tot : Nat) {l : List U} {cs rest : List Value} (hl : denL D ρ wc l cs) (hsp : sp = false → rest = []) (htot : sp = true → (cs ++ rest).length = tot) :
  Sat D w0 X th (addNm ρ k ⟨w.heap.size, 0, false, cap, tot⟩) wc (w.alloc (.cells (cs ++ rest).toArray T)) ((k, ⟨T, l, false, sp, false⟩) :: bk) ∧
  Evo ρ wc w bk k (k + 1) (addNm ρ k ⟨w.heap.size, 0, false, cap, tot⟩) wc (w.alloc (.cells (cs ++ rest).toArray T)) ((k, ⟨T, l, false, sp, false⟩) :: bk) := by
 have hle := addNm_le (B := ⟨w.heap.size, 0, false, cap, tot⟩) hk
 have hb : Below w.heap.size w (w.alloc (.cells (cs ++ rest).toArray T)) := belowAlloc (Below.refl _ _) _
 have hnew := addNm_new ρ k ⟨w.heap.size, 0, false, cap, tot⟩
 refine ⟨⟨⟨h.fr.os, h.fr.tape, h.fr.output, Nat.le_trans h.fr.size hb.size, fun i hi hx => (hb.block i (Nat.lt_of_lt_of_le hi h.fr.size)).trans (h.fr.block i hi hx)⟩,
  h.ext.alloc _, ?_, ?_, ?_⟩, ⟨hle, Ext.refl _, hb.size, rfl, rfl, rfl, fun i hi _ => hb.block i hi, ?_, by omega, ?_⟩⟩
 ·intro j j' b b' B B' hj hj' h1 h2 he
  rcases liv_cons hj with ⟨e1, _, _⟩ | ⟨e1, hj⟩ <;> rcases liv_cons hj' with ⟨e2, _, _⟩ | ⟨e2, hj'⟩
  ·exact .inl (by rw [e1, e2])
  ·subst e1
   rw [hnew] at h1; rw [addNm_old _ _ e2] at h2; cases h1
   have := h.lt j' _ h2; dsimp only at he; omega
  ·subst e2
   rw [addNm_old _ _ e1] at h1; rw [hnew] at h2; cases h2
   have := h.lt j _ h1; dsimp only at he; omega
  ·rw [addNm_old _ _ e1] at h1; rw [addNm_old _ _ e2] at h2
   exact h.inj j j' b b' B B' hj hj' h1 h2 he
 ·intro j B h1
  by_cases e1 : j = k
  ·subst e1; rw [hnew] at h1; cases h1; simp
  ·rw [addNm_old _ _ e1] at h1
   exact Nat.lt_of_lt_of_le (h.lt j B h1) hb.size
 ·intro j b hj
  rcases liv_cons hj with ⟨rfl, rfl, _⟩ | ⟨e1, hj⟩
  ·exact ⟨_, cs, hnew, .inr ⟨rfl, rfl, rest, hsp, htot, Box.new _ _ _⟩, hl.mono hle (Ext.refl _), fun _ => .inl h.fr.size, fun _ _ => h.ext.size, rfl⟩
  ·obtain ⟨B, cs', h1, h2, h3, h4, h5, h6⟩ := h.box j b hj
   exact ⟨B, cs', hle j B h1, h2.of_block (hb.block _ (h.lt j B h1)), h3.mono hle (Ext.refl _), h4, h5, h6⟩
 ·intro j b hj
  rcases liv_cons hj with ⟨rfl, rfl, _⟩ | ⟨e1, hj⟩
  ·exact .inr ⟨Nat.le_refl _, by omega, _, hnew, .inl (Nat.le_refl _)⟩
  ·exact .inl ⟨b, hj⟩
 ·intro j hj
  exact addNm_old _ _ (by omega)
theorem set_ext (h : Sat D w0 X th ρ wc w bk) {k : Nat} {b : Blk} (hk : Liv bk k b) {B : Pl} (hB : ρ k = some B) (hro : b.ro = false) (hT : b.T ≠ 3 ∨ th ≤ k) (off : Nat) (ps : List Value) : Ext wc (w.setCells B.blk off ps) := by
 obtain ⟨B', cs, h1, h2, h3, h4, h5, h6⟩ := h.box k b hk
 cases hB.symm.trans h1
 have hks : KeepBut B.blk w.heap.size w (w.setCells B.blk off ps) := (KeepBut.refl _ _).setCells _ _ _
 rcases h2 with ⟨g, _⟩ | ⟨_, hbase, rest, _, _, h2⟩
 ·rw [h6, hro] at g; cases g
 ·by_cases hT3 : b.T = 3
  ·have h6 := h5 hT3 (hT.resolve_left fun hh => hh hT3)
   refine ⟨Nat.le_trans h.ext.size hks.size, fun j ds fr hj => ?_⟩
   have h7 := h.ext.kept j ds fr hj
   have h8 := lt_of_some hj
   rw [hks.block j (lt_of_some h7) (by omega)]
   exact h7
  ·exact h.ext.trans (hks.ext h2 hT3)
theorem Sat.store (h : Sat D w0 X th ρ wc w bk) {k : Nat} {b : Blk} (hk : Liv bk k b) (hro : b.ro = false) {off : Nat} {us l : List U} {ps : List Value} (hput : putX b.cells off us = some l) (hp : denL D ρ wc us ps)
  (hT : b.T ≠ 3 ∨ th ≤ k) {B : Pl} (hB : ρ k = some B) (c : Nat) :
  Sat D w0 X th ρ wc (w.setCells B.blk off ps) ((k, ⟨b.T, l, false, b.sp, false⟩) :: bk) ∧ Evo ρ wc w bk c c ρ wc (w.setCells B.blk off ps) ((k, ⟨b.T, l, false, b.sp, false⟩) :: bk) ∧ w.there B.blk off ps.length ∧ B.base = 0 := by
 have hext := set_ext h hk hB hro hT off ps
 obtain ⟨B', cs, h1, h2, h3, h4, h5, h6⟩ := h.box k b hk
 cases hB.symm.trans h1
 have hBro : B.ro = false := h6.trans hro
 obtain ⟨hbase, rest, hr1, hr2, h2'⟩ : B.base = 0 ∧ ∃ rest, (b.sp = false → rest = []) ∧ (b.sp = true → (cs ++ rest).length = B.tot) ∧ Box w B.blk b.T (cs ++ rest).toArray := by
  rcases h2 with ⟨g, _⟩ | ⟨_, g⟩
  ·rw [hBro] at g; cases g
  ·exact g
 obtain ⟨q1, q2⟩ := putX_den hput h3 hp
 have hks : KeepBut B.blk w.heap.size w (w.setCells B.blk off ps) := (KeepBut.refl _ _).setCells _ _ _
 have hbx0 := Box.setCells ps off w _ h2' (by simp; omega)
 have hcut : ((cs ++ rest).toArray.toList.take off ++ ps ++ (cs ++ rest).toArray.toList.drop (off + ps.length)) = (cs.take off ++ ps ++ cs.drop (off + ps.length)) ++ rest := by
  simp only [List.toList_toArray]
  rw [List.take_append_of_le_length (by omega), List.drop_append_of_le_length (by omega)]
  simp
 have hbx : Box (w.setCells B.blk off ps) B.blk b.T ((cs.take off ++ ps ++ cs.drop (off + ps.length)) ++ rest).toArray := by
  rw [← hcut]; exact hbx0
 have hlen : (cs.take off ++ ps ++ cs.drop (off + ps.length)).length = cs.length := by
  simp only [List.length_append, List.length_take, List.length_drop]; omega
 refine ⟨⟨⟨?_, ?_, ?_, ?_, ?_⟩, hext, ?_, fun j C hj => Nat.lt_of_lt_of_le (h.lt j C hj) hks.size, ?_⟩, ⟨Nm.le.refl _, Ext.refl _, hks.size, hks.os, hks.tape, hks.output, ?_, ?_, Nat.le_refl _, fun _ _ => rfl⟩, ?_, hbase⟩
 ·exact hks.os.trans h.fr.os
 ·exact hks.tape.trans h.fr.tape
 ·exact hks.output.trans h.fr.output
 ·exact Nat.le_trans h.fr.size hks.size
 ·intro i hi hx
  rw [hks.block i (Nat.lt_of_lt_of_le hi h.fr.size) (by
   intro e
   subst e
   rcases h4 hro with h4 | h4
   ·omega
   ·exact hx h4)]
  exact h.fr.block i hi hx
 ·intro j j' x x' C C' hj hj' e1 e2 he
  have f : ∀ {j x}, Liv ((k, ⟨b.T, l, false, b.sp, false⟩) :: bk) j x → ∃ x, Liv bk j x := fun hj => by
   rcases liv_cons hj with ⟨rfl, _, _⟩ | ⟨_, hj⟩
   ·exact ⟨b, hk⟩
   ·exact ⟨_, hj⟩
  obtain ⟨y, hy⟩ := f hj
  obtain ⟨y', hy'⟩ := f hj'
  exact h.inj j j' y y' C C' hy hy' e1 e2 he
 ·intro j b' hj
  rcases liv_cons hj with ⟨rfl, rfl, _⟩ | ⟨e1, hj⟩
  ·exact ⟨B, _, h1, .inr ⟨hBro, hbase, rest, hr1, fun hs => by rw [List.length_append, hlen, ← List.length_append]; exact hr2 hs, hbx⟩, q1, fun _ => h4 hro, h5, hBro⟩
  ·obtain ⟨C, ds, g1, g2, g3, g4, g5, g6⟩ := h.box j b' hj
   refine ⟨C, ds, g1, g2.of_block (hks.block _ (h.lt j C g1) fun e => ?_), g3, g4, g5, g6⟩
   rcases h.inj j k b' b C B hj hk g1 h1 e with h7 | h7
   ·exact e1 h7
   ·rw [hBro] at h7; cases h7.2
 ·intro i hi hn
  exact hks.block i hi (fun e => hn k b B hk h1 hBro e.symm)
 ·intro j b' hj
  rcases liv_cons hj with ⟨rfl, _, _⟩ | ⟨_, hj⟩
  ·exact .inl ⟨b, hk⟩
  ·exact .inl ⟨b', hj⟩
 ·exact h2'.there off ps.length (by simp; omega)
theorem Sat.push (h : Sat D w0 X th ρ wc w bk) {k : Nat} {b : Blk} (hk : Liv bk k b) (hro : b.ro = false) (hsp : b.sp = true) {us : List U} {ps : List Value} (hp : denL D ρ wc us ps)
  (hT : b.T ≠ 3 ∨ th ≤ k) {B : Pl} (hB : ρ k = some B) {c : Nat} (hc : ρ c = none) (hroom : widths b.cells + ps.length ≤ B.tot) (hck : c ≠ k) :
  Sat D w0 X th (addNm ρ c B) wc (w.setCells B.blk (widths b.cells) ps) ((k, ⟨b.T, [], false, true, true⟩) :: (c, ⟨b.T, b.cells ++ us, false, true, false⟩) :: bk) ∧
  Evo ρ wc w bk c (c + 1) (addNm ρ c B) wc (w.setCells B.blk (widths b.cells) ps) ((k, ⟨b.T, [], false, true, true⟩) :: (c, ⟨b.T, b.cells ++ us, false, true, false⟩) :: bk) ∧ w.there B.blk (widths b.cells) ps.length ∧ B.base = 0 := by
 have hext := set_ext h hk hB hro hT (widths b.cells) ps
 obtain ⟨B', cs, h1, h2, h3, h4, h5, h6⟩ := h.box k b hk
 cases hB.symm.trans h1
 have hBro : B.ro = false := h6.trans hro
 have hle := addNm_le (B := B) hc
 have hnew := addNm_new ρ c B
 obtain ⟨hbase, rest, hr1, hr2, h2'⟩ : B.base = 0 ∧ ∃ rest, (b.sp = false → rest = []) ∧ (b.sp = true → (cs ++ rest).length = B.tot) ∧ Box w B.blk b.T (cs ++ rest).toArray := by
  rcases h2 with ⟨g, _⟩ | ⟨_, g⟩
  ·rw [hBro] at g; cases g
  ·exact g
 have hw := h3.len
 have hlen0 := hr2 hsp
 rw [List.length_append] at hlen0
 have hks : KeepBut B.blk w.heap.size w (w.setCells B.blk (widths b.cells) ps) := (KeepBut.refl _ _).setCells _ _ _
 have hbx0 := Box.setCells ps (widths b.cells) w _ h2' (by simp; omega)
 have hcut : ((cs ++ rest).toArray.toList.take (widths b.cells) ++ ps ++ (cs ++ rest).toArray.toList.drop (widths b.cells + ps.length)) = (cs ++ ps) ++ rest.drop ps.length := by
  simp only [List.toList_toArray]
  rw [List.take_append_of_le_length (by omega), List.take_of_length_le (by omega), List.drop_append, List.drop_of_length_le (by omega), List.nil_append]
  congr 2
  omega
 have hbx : Box (w.setCells B.blk (widths b.cells) ps) B.blk b.T ((cs ++ ps) ++ rest.drop ps.length).toArray := by
  rw [← hcut]; exact hbx0
 have livs : ∀ {j x}, Liv ((k, ⟨b.T, [], false, true, true⟩) :: (c, ⟨b.T, b.cells ++ us, false, true, false⟩) :: bk) j x → j ≠ k ∧ ((j = c ∧ x = ⟨b.T, b.cells ++ us, false, true, false⟩) ∨ (j ≠ c ∧ Liv bk j x)) := fun hj => by
  rcases liv_cons hj with ⟨_, _, hd⟩ | ⟨e1, hj⟩
  ·cases hd
  ·rcases liv_cons hj with ⟨e2, e3, _⟩ | ⟨e2, hj⟩
   ·exact ⟨e1, .inl ⟨e2, e3⟩⟩
   ·exact ⟨e1, .inr ⟨e2, hj⟩⟩
 refine ⟨⟨⟨?_, ?_, ?_, ?_, ?_⟩, hext, ?_, ?_, ?_⟩, ⟨hle, Ext.refl _, hks.size, hks.os, hks.tape, hks.output, ?_, ?_, by omega, ?_⟩, ?_, hbase⟩
 ·exact hks.os.trans h.fr.os
 ·exact hks.tape.trans h.fr.tape
 ·exact hks.output.trans h.fr.output
 ·exact Nat.le_trans h.fr.size hks.size
 ·intro i hi hx
  rw [hks.block i (Nat.lt_of_lt_of_le hi h.fr.size) (by
   intro e
   subst e
   rcases h4 hro with h4 | h4
   ·omega
   ·exact hx h4)]
  exact h.fr.block i hi hx
 ·intro j j' x x' C C' gj gj' e1 e2 he
  obtain ⟨nk, hj⟩ := livs gj
  obtain ⟨nk', hj'⟩ := livs gj'
  clear gj gj'
  rcases hj with ⟨a1, _⟩ | ⟨a1, hj⟩ <;> rcases hj' with ⟨a2, _⟩ | ⟨a2, hj'⟩
  ·exact .inl (a1.trans a2.symm)
  ·subst a1
   rw [hnew] at e1; rw [addNm_old _ _ a2] at e2; cases e1
   rcases h.inj k j' b x' B C' hk hj' h1 e2 he with h7 | h7
   ·exact absurd h7.symm nk'
   ·rw [hBro] at h7; cases h7.1
  ·subst a2
   rw [addNm_old _ _ a1] at e1; rw [hnew] at e2; cases e2
   rcases h.inj j k x b C B hj hk e1 h1 he with h7 | h7
   ·exact absurd h7 nk
   ·rw [hBro] at h7; cases h7.2
  ·rw [addNm_old _ _ a1] at e1; rw [addNm_old _ _ a2] at e2
   exact h.inj j j' x x' C C' hj hj' e1 e2 he
 ·intro j C hj
  by_cases e : j = c
  ·subst e; rw [hnew] at hj; cases hj; exact Nat.lt_of_lt_of_le (h.lt k _ h1) hks.size
  ·rw [addNm_old _ _ e] at hj; exact Nat.lt_of_lt_of_le (h.lt j C hj) hks.size
 ·intro j b' hj
  obtain ⟨nk, hj⟩ := livs hj
  rcases hj with ⟨rfl, rfl⟩ | ⟨e2, hj⟩
  ·refine ⟨B, cs ++ ps, hnew, .inr ⟨hBro, hbase, rest.drop ps.length, (fun hh => by cases hh), fun _ => ?_, hbx⟩, (h3.append hp).mono hle (Ext.refl _), fun _ => h4 hro, fun ht hh => ?_, hBro⟩
   ·simp only [List.length_append, List.length_drop]; omega
   ·exact h5 ht (hT.resolve_left fun hh => hh ht)
  ·obtain ⟨C, ds, g1, g2, g3, g4, g5, g6⟩ := h.box j b' hj
   refine ⟨C, ds, hle j C g1, g2.of_block (hks.block _ (h.lt j C g1) fun e => ?_), g3.mono hle (Ext.refl _), g4, g5, g6⟩
   rcases h.inj j k b' b C B hj hk g1 h1 e with h7 | h7
   ·exact nk h7
   ·rw [hBro] at h7; cases h7.2
 ·intro i hi hn
  exact hks.block i hi (fun e => hn k b B hk h1 hBro e.symm)
 ·intro j b' hj
  obtain ⟨nk, hj⟩ := livs hj
  rcases hj with ⟨rfl, _⟩ | ⟨e2, hj⟩
  ·exact .inr ⟨Nat.le_refl _, by omega, B, hnew, .inr ⟨k, b, B, hk, h1, hBro, rfl⟩⟩
  ·exact .inl ⟨b', hj⟩
 ·intro j hj
  exact addNm_old _ _ (by omega)
 ·exact h2'.there (widths b.cells) ps.length (by simp; omega)
theorem Sat.call (h : Sat D w0 X th ρ wc w bk) {w' : World} (hb : Below w.heap.size w w') (c t : Nat) (hf : ∀ k b, bk.look k = some b → ¬ t ≤ k) :
  Sat D w0 X t ρ w' w' bk ∧ Evo ρ wc w bk c c ρ w' w' bk := by
 have hx : Ext wc w' := h.ext.trans (.of_below hb)
 refine ⟨⟨⟨hb.os.trans h.fr.os, hb.tape.trans h.fr.tape, hb.output.trans h.fr.output, Nat.le_trans h.fr.size hb.size, fun i hi hX => (hb.block i (Nat.lt_of_lt_of_le hi h.fr.size)).trans (h.fr.block i hi hX)⟩,
  Ext.refl _, h.inj, fun j C hj => Nat.lt_of_lt_of_le (h.lt j C hj) hb.size, ?_⟩, ⟨Nm.le.refl _, hx, hb.size, hb.os, hb.tape, hb.output, fun i hi _ => hb.block i hi, fun k b hk => .inl ⟨b, hk⟩, Nat.le_refl _, fun _ _ => rfl⟩⟩
 intro j b hj
 obtain ⟨B, cs, h1, h2, h3, h4, h5, h6⟩ := h.box j b hj
 exact ⟨B, cs, h1, h2.of_block (hb.block _ (h.lt j B h1)), h3.mono (Nm.le.refl _) hx, h4, fun _ hh => absurd hh (hf j b hj.1), h6⟩
theorem Sat.drew (h : Sat D w0 X th ρ wc w bk) : Sat D w0 X th ρ wc w.drew bk :=
 ⟨⟨h.fr.os, h.fr.tape, h.fr.output, h.fr.size, h.fr.block⟩, h.ext.drew, h.inj, h.lt, fun k b hk => let ⟨B, cs, h1, h2, h3⟩ := h.box k b hk; ⟨B, cs, h1, h2.of_block rfl, h3⟩⟩
theorem Evo.drew (ρ : Nm) (wc w : World) (bk : List (Nat × Blk)) (c : Nat) : Evo ρ wc w bk c c ρ wc w.drew bk :=
 ⟨Nm.le.refl _, Ext.refl _, Nat.le_refl _, rfl, rfl, rfl, fun _ _ _ => rfl, fun k b h => .inl ⟨b, h⟩, Nat.le_refl _, fun _ _ => rfl⟩
end
end
section
theorem look_append {α : Type} (l m : List (Nat × α)) (k : Nat) : (l ++ m).look k = (l.look k).or (m.look k) := by
 induction l with
 | nil => simp
 | cons p r ih =>
   obtain ⟨k', x⟩ := p
   rw [List.cons_append, look_cons, look_cons, ih]
   split <;> rfl
def Sub {α : Type} (l m : List (Nat × α)) : Prop := ∀ k x, l.look k = some x → m.look k = some x
theorem Sub.liv {l m : List (Nat × Blk)} (h : Sub l m) {k : Nat} {b : Blk} (hk : Liv l k b) : Liv m k b := ⟨h k b hk.1, hk.2⟩
section
variable {D : Den} {w0 : World} {X : Nat → Prop} {th t' : Nat} {ρ ρ' : Nm} {wc w wc' w' : World} {bk bkR wr F G : List (Nat × Blk)} {c c' : Nat}
theorem Sat.sub (h : Sat D w0 X th ρ wc w bk) (hs : Sub bkR bk) : Sat D w0 X th ρ wc w bkR :=
 ⟨h.fr, h.ext, fun k k' b b' B B' h1 h2 => h.inj k k' b b' B B' (hs.liv h1) (hs.liv h2), h.lt, fun k b hk => h.box k b (hs.liv hk)⟩
theorem Evo.sub (h : Evo ρ wc w bk c c' ρ' wc' w' F) (hs : Sub G F) : Evo ρ wc w bk c c' ρ' wc' w' G :=
 ⟨h.rho, h.ext, h.size, h.os, h.tape, h.output, h.loc, fun k b hk => h.ids k b (hs.liv hk), h.cc, h.dom⟩
abbrev Sub' (l m : List (Nat × Blk)) : Prop := ∀ k b, Liv l k b → Liv m k b
theorem Sat.sub' (h : Sat D w0 X th ρ wc w bk) (hs : Sub' bkR bk) : Sat D w0 X th ρ wc w bkR :=
 ⟨h.fr, h.ext, fun k k' b b' B B' h1 h2 => h.inj k k' b b' B B' (hs _ _ h1) (hs _ _ h2), h.lt, fun k b hk => h.box k b (hs _ _ hk)⟩
theorem Evo.sub' (h : Evo ρ wc w bk c c' ρ' wc' w' F) (hs : Sub' G F) : Evo ρ wc w bk c c' ρ' wc' w' G :=
 ⟨h.rho, h.ext, h.size, h.os, h.tape, h.output, h.loc, fun k b hk => h.ids k b (hs _ _ hk), h.cc, h.dom⟩
theorem Sat.frame (h : Sat D w0 X th ρ wc w bk) (hs : Sub bkR bk) (hf : ∀ k b, bk.look k = some b → k < th) (g : Sat D w0 X t' ρ' wc' w' F) (e : Evo ρ wc w bkR c c' ρ' wc' w' F) (hc : c' ≤ th)
  (hG : ∀ k b, Liv G k b → Liv F k b ∨ (Liv bk k b ∧ bkR.look k = none)) :
  Sat D w0 X th ρ' wc' w' G ∧ Evo ρ wc w bk c c' ρ' wc' w' G := by
 have mix : ∀ k k' b b' B B', Liv F k b → Liv bk k' b' → bkR.look k' = none → ρ' k = some B → ρ' k' = some B' → B.blk = B'.blk → B.ro = true ∧ B'.ro = true := by
  intro k k' b b' B B' hk hk' hn h1 h2 he
  obtain ⟨C', hC'⟩ := h.named k' b' hk'
  have e2 := e.rho k' C' hC'
  rw [h2] at e2
  cases e2
  rcases e.ids k b hk with ⟨b0, hb0⟩ | ⟨_, _, C, hC, hle⟩
  ·obtain ⟨C, hC⟩ := h.named k b0 (hs.liv hb0)
   have e1 := e.rho k C hC
   rw [h1] at e1
   cases e1
   rcases h.inj k k' b0 b' B B' (hs.liv hb0) hk' hC hC' he with h7 | h7
   ·subst h7
    rw [hb0.1] at hn
    cases hn
   ·exact h7
  ·rw [h1] at hC
   cases hC
   rcases hle with hle | ⟨k0, b0, B0, g1, g2, g3, g4⟩
   ·have := h.lt k' B' hC'
    omega
   ·rcases h.inj k0 k' b0 b' B0 B' (hs.liv g1) hk' g2 hC' (g4.trans he) with h7 | h7
    ·subst h7
     rw [g1.1] at hn
     cases hn
    ·rw [g3] at h7; cases h7.1
 refine ⟨⟨g.fr, g.ext, ?_, g.lt, ?_⟩, ⟨e.rho, e.ext, e.size, e.os, e.tape, e.output, ?_, ?_, e.cc, e.dom⟩⟩
 ·intro k k' b b' B B' hk hk' h1 h2 he
  rcases hG k b hk with hk | ⟨hk, hn⟩ <;> rcases hG k' b' hk' with hk' | ⟨hk', hn'⟩
  ·exact g.inj k k' b b' B B' hk hk' h1 h2 he
  ·exact .inr (mix k k' b b' B B' hk hk' hn' h1 h2 he)
  ·exact .inr (mix k' k b' b B' B hk' hk hn h2 h1 he.symm).symm
  ·obtain ⟨C, hC⟩ := h.named k b hk
   obtain ⟨C', hC'⟩ := h.named k' b' hk'
   have e1 := e.rho k C hC
   have e2 := e.rho k' C' hC'
   rw [h1] at e1
   rw [h2] at e2
   cases e1
   cases e2
   exact h.inj k k' b b' B B' hk hk' hC hC' he
 ·intro k b hk
  rcases hG k b hk with hk | ⟨hk, hn⟩
  ·have hkt : k < th := by
    rcases e.ids k b hk with ⟨b0, hb0⟩ | ⟨_, h2, _⟩
    ·exact hf k b0 (hs k b0 hb0.1)
    ·omega
   obtain ⟨B, cs, h1, h2, h3, h4, h5, h6⟩ := g.box k b hk
   exact ⟨B, cs, h1, h2, h3, h4, fun _ hx => absurd hx (by omega), h6⟩
  ·obtain ⟨B, cs, h1, h2, h3, h4, h5, h6⟩ := h.box k b hk
   have hkt := hf k b hk.1
   refine ⟨B, cs, e.rho k B h1, h2.of_block (e.loc B.blk (h.lt k B h1) fun k2 b2 B2 hk2 hB hro he => ?_), h3.mono e.rho e.ext, h4, fun _ hx => absurd hx (by omega), h6⟩
   rcases h.inj k2 k b2 b B2 B (hs.liv hk2) hk hB h1 he with h7 | h7
   ·subst h7
    rw [hk2.1] at hn
    cases hn
   ·rw [hro] at h7; cases h7.1
 ·intro i hi hn
  exact e.loc i hi fun k b B hk => hn k b B (hs.liv hk)
 ·intro k b hk
  rcases hG k b hk with hk | ⟨hk, hn⟩
  ·rcases e.ids k b hk with ⟨b0, hb0⟩ | ⟨h1, h2, B, hB, hle⟩
   ·exact .inl ⟨b0, hs.liv hb0⟩
   ·refine .inr ⟨h1, h2, B, hB, hle.imp id fun ⟨k0, b0, B0, g1, g2⟩ => ⟨k0, b0, B0, hs.liv g1, g2⟩⟩
  ·exact .inl ⟨b, hk⟩
end
structure OpR where
 v : SV
 wr : List (Nat × Blk)
 obl : List Prop
 orc : List (Option Bool)
 c : Nat
 th : Nat
 pan : Option Value := none
def OpR.fin (r : OpR) (bk : List (Nat × Blk)) : List (Nat × Blk) :=
 match r.pan with
 | none => r.wr ++ bk
 | some _ => r.wr
def OpR.ends (r : OpR) (e : Ending) (v : Value) : Prop :=
 match r.pan with
 | none => e = .returned v
 | some p => e = .panicked [{ v := p, recovered := false }]
abbrev YS := List SA → List (Nat × Blk) → Nat → Nat → List (Option Bool) → Option OpR
abbrev YEnv := List (Nat × YS)
abbrev CallF := YEnv → FuncId → List SA → List (Nat × Blk) → Nat → Nat → List (Option Bool) → Option OpR
structure CallS where
 call : CallF
 op : Oper → (Operand → Option SV) → Option SV
def WF (ro : Option Nat) : Fence := { fn := fun _ => True, depth := none, alive := false, round := ro }
theorem callsIn_WF {ro : Option Nat} {n : Nat} {P : Program} {f : FuncId} {args : Array Value} {w : World} {R : Ending → World → Prop} : CallsIn (WF ro) n P f args w R ↔ Calls P f args w R :=
 callsIn_wide (n := n)
def Post (D : Den) (w0 : World) (X : Nat → Prop) (ρ : Nm) (wc w : World) (bk : List (Nat × Blk)) (c : Nat) (r : OpR) (e : Ending) (w' : World) : Prop :=
 ∃ v ρ' wc', r.ends e v ∧ denV D ρ' wc' r.v v ∧ Sat D w0 X r.th ρ' wc' w' (r.fin bk) ∧ Evo ρ wc w bk c r.c ρ' wc' w' (r.fin bk)
def YOk (D : Den) (P : Program) (w0 : World) (X : Nat → Prop) : Nat → YEnv → Nm → World → World → Prop
 | _, [], _, _, _ => True
 | bd, (k, h) :: ys, ρ, wc, w => ∃ B lp, ρ k = some B ∧ w.heap[B.blk]? = some (.loop lp) ∧ w0.heap.size ≤ B.blk ∧ B.blk < bd ∧ YOk D P w0 X B.blk ys ρ wc w ∧
   ∀ args bk c th orc r, h args bk c th orc = some r → (∀ p ∈ r.obl, p) → ∀ ρ' wc' w' vals, ρ.le ρ' → Ext wc wc' → Sat D w0 X th ρ' wc' w' bk → YOk D P w0 X B.blk ys ρ' wc' w' → (∀ j x, bk.look j = some x → j < c) → th ≤ c →
     (∀ j, c ≤ j → j < r.c → ρ' j = none) → denAs D ρ' wc' args vals → w'.heap[B.blk]? = some (.loop lp) →
     ∃ fn tmps assign body, (Instr.yield B.blk vals.toArray).run P w' = .ok (.round B.blk fn tmps assign body) w' ∧
       RoundIn (WF none) 0 P B.blk fn tmps assign body w' fun e w'' => Post D w0 X ρ' wc' w' bk c r e w'' ∧ w''.heap[B.blk]? = some (.loop lp)
def CallFOk (D : Den) (P : Program) (w0 : World) (X : Nat → Prop) (cs : CallF) : Prop :=
 ∀ ys f args bk c th orc r, cs ys f args bk c th orc = some r → (∀ p ∈ r.obl, p) → ∀ bd ρ wc w vals, Sat D w0 X th ρ wc w bk → YOk D P w0 X bd ys ρ wc w → (∀ k b, bk.look k = some b → k < c) → th ≤ c → (∀ k, c ≤ k → k < r.c → ρ k = none) → denAs D ρ wc args vals →
   Calls P f vals.toArray w (Post D w0 X ρ wc w bk c r)
structure CallOk (D : Den) (P : Program) (w0 : World) (X : Nat → Prop) (cs : CallS) : Prop where
 call : CallFOk D P w0 X cs.call
 op : ∀ o get x, cs.op o get = some x → ∀ ρ wc w ev, Frm w0 X w → (∀ y z, get y = some z → denV D ρ wc z (ev y)) → ∃ v, (execOp ev o).run P w = .ok (.value v) w ∧ denV D ρ wc x v
section
variable {D : Den} {P : Program} {w0 : World} {X : Nat → Prop} {th : Nat} {ρ ρ' : Nm} {wc w wc' w' : World} {bk bk' : List (Nat × Blk)} {c c' : Nat}
theorem Sat.cells (h : Sat D w0 X th ρ wc w bk) {k : Nat} {b : Blk} {B : Pl} (hk : Liv bk k b) (hB : ρ k = some B) (hro : B.ro = false) : ∃ cs T f, w.heap[B.blk]? = some (.cells cs T f) := by
 obtain ⟨B', cs, h1, h2, h3, h4, h5, h6⟩ := h.box k b hk
 cases hB.symm.trans h1
 rcases h2 with ⟨g, _⟩ | ⟨_, _, rest, _, _, hb⟩
 ·rw [hro] at g; cases g
 ·exact ⟨_, _, _, hb.blk⟩
theorem Sat.stays (h : Sat D w0 X th ρ wc w bk) (e : Evo ρ wc w bk c c' ρ' wc' w' bk') {l : Nat} {o : Obj} (hl : w.heap[l]? = some o) (ho : o.isCells = false) : w'.heap[l]? = some o := by
 rw [e.loc l (lt_of_some hl) ?_]
 ·exact hl
 ·intro k b B hk hB hro he
  obtain ⟨cs, T, f, hc⟩ := h.cells hk hB hro
  rw [he, hl] at hc
  cases hc
  cases ho
theorem YOk.step : ∀ {bd : Nat} {ys : YEnv} {ρ ρ' : Nm} {wc w wc' w' : World}, YOk D P w0 X bd ys ρ wc w → ρ.le ρ' → Ext wc wc' → (∀ (l : Nat) (lp : Loop), l < bd → w.heap[l]? = some (Obj.loop lp) → w'.heap[l]? = some (Obj.loop lp)) → YOk D P w0 X bd ys ρ' wc' w'
 | _, [], ρ, ρ', wc, w, wc', w', _, _, _, _ => trivial
 | bd, (k, h) :: ys, ρ, ρ', wc, w, wc', w', ⟨B, lp, h2, h3, hsz, hbd, h1, h4⟩, hr, hx, hl =>
   ⟨B, lp, hr k B h2, hl _ _ hbd h3, hsz, hbd, h1.step hr hx (fun l lp hlt => hl l lp (Nat.lt_trans hlt hbd)), fun args bk c th orc r hh ho ρ2 wc2 w2 vals g1 g2 => h4 args bk c th orc r hh ho ρ2 wc2 w2 vals (hr.trans g1) (hx.trans g2)⟩
theorem YOk.bound : ∀ {bd b : Nat} {ys : YEnv} {ρ : Nm} {wc w : World}, YOk D P w0 X bd ys ρ wc w → (∀ k B, ρ k = some B → B.blk < b) → YOk D P w0 X b ys ρ wc w
 | _, _, [], _, _, _, _, _ => trivial
 | _, _, (k, h) :: ys, ρ, wc, w, ⟨B, lp, h2, h3, hsz, hbd, h1, h4⟩, hb => ⟨B, lp, h2, h3, hsz, hb k B h2, h1, h4⟩
theorem YOk.evo {bd : Nat} {ys : YEnv} (h : YOk D P w0 X bd ys ρ wc w) (hS : Sat D w0 X th ρ wc w bk) (e : Evo ρ wc w bk c c' ρ' wc' w' bk') : YOk D P w0 X bd ys ρ' wc' w' :=
 h.step e.rho e.ext fun l lp _ hl => hS.stays e hl rfl
end
end
section
def newsS (bk : List (Nat × Blk)) (size : Nat) (x : Option SV) : Option (Nat × List U) :=
 match x with
 | some (.a (.one (.slc k off n _))) => match bk.look k with
   | some b => if b.dead then none else (subU b.cells off (n * size)).map (n, ·)
   | none => none
 | some (.a (.one (.sli k off n))) => match bk.look k with
   | some b => if b.dead then none else (subU b.cells off (n * size)).map (n, ·)
   | none => none
 | some (.a (.one (.own k n _))) => match bk.look k with
   | some b => if b.dead then none else (subU b.cells 0 (n * size)).map (n, ·)
   | none => none
 | some (.a (.one .emp)) => some (0, [])
 | some (.a (.one (.val (.slice none 0 _)))) => some (0, [])
 | _ => none
section
variable {D : Den} {P : Program} {w0 : World} {X : Nat → Prop} {th : Nat} {ρ : Nm} {wc w : World} {bk : List (Nat × Blk)} {c : Nat} {get : Operand → Option SV} {ev : Operand → Value}
theorem Src.of_sub {B : Pl} {T : TypeId} {sp : Bool} {cs : List Value} (hh : Holds w B T sp cs) {l us : List U} (hl : denL D ρ wc l cs) {off n size : Nat} (hs : subU l off (n * size) = some us) {tx e' : TypeId} (hk : P.underlying tx = some (.slice e')) (cap : Nat) :
  ∃ news, Src P size tx (.slice (some ⟨B.blk, B.base + off, none⟩) n cap) n news w ∧ denL D ρ wc us news ∧ news.length = n * size ∧ (∀ m, m ≤ n → (Builtin.firstCells size m (.slice (some ⟨B.blk, B.base + off, none⟩) n cap)).run P w = .ok (news.take (m * size)).toArray w) ∧
    ∀ j u, news[j]? = some u → w.cell? ((⟨B.blk, B.base + off, none⟩ : Addr).add j) = some u := by
 obtain ⟨h1, h2⟩ := subU_den hs hl
 have key : ∀ j u, ((cs.drop off).take (n * size))[j]? = some u → w.cell? ((⟨B.blk, B.base + off, none⟩ : Addr).add j) = some u := ?_
 ·refine ⟨_, Src.ofSlice w hk ⟨B.blk, B.base + off, none⟩ n cap _ h2 key h1.ones, h1, h2, fun m hm => ?_, key⟩
  have hle := Nat.mul_le_mul_right size hm
  refine run_firstCells_some w size m _ n cap _ (by rw [List.length_take, h2]; omega) fun j u hj => key j u ?_
  rw [List.getElem?_take] at hj
  split at hj
  ·exact hj
  ·cases hj
 intro j u hj
 rw [Addr.add_mid, Nat.add_assoc]
 refine hh.cell ?_
 have hjl : j < n * size := by
  have := (List.getElem?_eq_some_iff.1 hj).1
  omega
 rw [List.getElem?_take, if_pos hjl, List.getElem?_drop] at hj
 simpa using hj
theorem newsS_ok (hB : BkOk D ρ wc w bk) {x : SV} {v : Value} (hv : denV D ρ wc x v) {size n : Nat} {us : List U} (h : newsS bk size (some x) = some (n, us)) {tx e' : TypeId} (hk : P.underlying tx = some (.slice e')) :
  ∃ news, Src P size tx v n news w ∧ denL D ρ wc us news ∧ news.length = n * size ∧ ∀ m, m ≤ n → (Builtin.firstCells size m v).run P w = .ok (news.take (m * size)).toArray w := by
 unfold newsS at h
 split at h
 ·rename_i k off n' cap e
  cases e
  split at h
  ·rename_i b hb
   split at h
   ·cases h
   ·rename_i hd
    obtain ⟨m, hm, e2⟩ := Option.map_eq_some_iff.1 h
    cases e2
    obtain ⟨B, cs, h1, h2, h3, h4⟩ := hB k b hb (by simpa using hd)
    obtain ⟨B', hB', e1⟩ := hv
    cases h1.symm.trans hB'
    rw [show v = _ from by simpa using e1]
    obtain ⟨news, q1, q2, q3, q4, _⟩ := Src.of_sub (P := P) h2 h3 hm hk cap
    exact ⟨news, q1, q2, q3, q4⟩
  ·cases h
 ·rename_i k off n' e
  cases e
  split at h
  ·rename_i b hb
   split at h
   ·cases h
   ·rename_i hd
    obtain ⟨m, hm, e2⟩ := Option.map_eq_some_iff.1 h
    cases e2
    obtain ⟨B, cs, h1, h2, h3, h4⟩ := hB k b hb (by simpa using hd)
    obtain ⟨B', cap, hB', hc, e1⟩ := hv
    cases h1.symm.trans hB'
    rw [show v = _ from by simpa using e1]
    obtain ⟨news, q1, q2, q3, q4, _⟩ := Src.of_sub (P := P) h2 h3 hm hk cap
    exact ⟨news, q1, q2, q3, q4⟩
  ·cases h
 ·rename_i k n' s e
  cases e
  split at h
  ·rename_i b hb
   split at h
   ·cases h
   ·rename_i hd
    obtain ⟨m, hm, e2⟩ := Option.map_eq_some_iff.1 h
    cases e2
    obtain ⟨B, cs, h1, h2, h3, h4⟩ := hB k b hb (by simpa using hd)
    obtain ⟨B', hB', _, _, hb0, e1⟩ := hv
    cases h1.symm.trans hB'
    rw [show v = _ from by simpa using e1]
    obtain ⟨news, q1, q2, q3, q4, _⟩ := Src.of_sub (P := P) h2 h3 hm hk B.cap
    rw [hb0] at q1 q4
    exact ⟨news, q1, q2, q3, q4⟩
  ·cases h
 ·rename_i e
  cases e
  cases h
  obtain ⟨p, cp, hp, e1⟩ := hv
  rw [show v = _ from by simpa using e1]
  refine ⟨[], ?_, rfl, by simp, fun m hm => ?_⟩
  ·cases p with
   | none => rw [hp rfl]; exact Src.ofNil w hk 0
   | some a => exact Src.ofSlice w hk a 0 cp [] (by simp) (fun j u hj => by simp at hj) (by simp)
  ·obtain rfl : m = 0 := by omega
   cases p with
   | none => simpa using run_firstCells_none w size 0 0 cp
   | some a => simpa using run_firstCells_some w size 0 a 0 cp [] (by simp) (fun j u hj => by simp at hj)
 ·rename_i cp e
  cases e
  cases h
  rw [show v = _ from by simpa using hv.1]
  exact ⟨[], Src.ofNil w hk _, rfl, by simp, fun m hm => by simpa using run_firstCells_none w size m 0 _⟩
 ·cases h
def EffOk (D : Den) (P : Program) (w0 : World) (X : Nat → Prop) (th : Nat) (ρ : Nm) (wc w : World) (bk : List (Nat × Blk)) (c : Nat) (s : Sem Next) (x : SV) (wr : List (Nat × Blk)) (c' : Nat) : Prop :=
 ∃ nx v w' ρ', s.run P w = .ok nx w' ∧ (nx = .value v ∨ (nx = .skip ∧ v = undef)) ∧ denV D ρ' wc x v ∧ Sat D w0 X th ρ' wc w' (wr ++ bk) ∧ Evo ρ wc w bk c c' ρ' wc w' (wr ++ bk)
theorem grow_ok (h : Sat D w0 X th ρ wc w bk) (hc : ρ c = none) {t tx ty e : TypeId} {i : TypeInfo} {z : Value} (ht : P.underlying t = some (.slice e)) (hi : P.info? e = some i) (hz : i.zero = some z) (hzs : z.cells.size = i.size)
  {base : Option Addr} {sLen sCap : Nat} {olds news : List Value} {lo ln : List U} (hlo : denL D ρ wc lo olds) (hln : denL D ρ wc ln news) (hol : olds.length = sLen * i.size)
  (hold : ∀ w' : World, w'.heap = w.heap → (Builtin.firstCells i.size sLen (.slice base sLen sCap)).run P w' = .ok olds.toArray w') {x : Value} {n : Nat} (hs : Src P i.size tx x n news w) (hnl : news.length = n * i.size)
  (hg : sCap < sLen + n) (h40 : sLen + n ≤ 2 ^ 40) (hby : (sLen + n) * i.bytes ≤ 140737488355328) :
  ∃ v w' ρ', (Builtin.append_ #[t, tx] ty #[.slice base sLen sCap, x]).run P w = .ok v w' ∧ denV D ρ' wc (.a (.one (.own c (sLen + n) i.size))) v ∧
    Sat D w0 X th ρ' wc w' ((c, ⟨e, lo ++ ln, false, true, false⟩) :: bk) ∧ Evo ρ wc w bk c (c + 1) ρ' wc w' ((c, ⟨e, lo ++ ln, false, true, false⟩) :: bk) := by
 have hrun := run_append_grow_src (P := P) w t tx ty e i z ht hi hz base sLen sCap olds (hold _ rfl) x n news hs hg (by omega) (growslice_fits hg hby)
 have hge := grownCap_ge w (sLen + n) sCap e
 generalize grownCap w (sLen + n) sCap e = cap at hrun hge
 have hsz : (Builtin.zeroCells z.cells (cap - (sLen + n))).size = (cap - (sLen + n)) * i.size := by rw [size_zeroCells, hzs]
 obtain ⟨k1, k2⟩ := (h.drew).alloc hc e true cap (cap * i.size) (l := lo ++ ln) (cs := olds ++ news) (rest := (Builtin.zeroCells z.cells (cap - (sLen + n))).toList) (hlo.append hln) (fun hh => by cases hh) (fun _ => by
  simp only [List.length_append, Array.length_toList, hsz, hol, hnl]
  rw [← Nat.add_mul, ← Nat.add_mul]
  congr 1
  omega)
 have earr : (((olds ++ news) ++ (Builtin.zeroCells z.cells (cap - (sLen + n))).toList).toArray : Array Value) = (olds ++ news).toArray ++ Builtin.zeroCells z.cells (cap - (sLen + n)) := by
  apply Array.toList_inj.1; simp
 rw [earr] at k1 k2
 exact ⟨_, _, _, hrun, ⟨_, addNm_new _ _ _, hge, rfl, rfl, rfl⟩, k1, (Evo.drew ρ wc w bk c).trans k2 h.named⟩
def infoZ (P : Program) (e : TypeId) : Option (Nat × Nat) :=
 match P.info? e with
 | some i => match i.zero with
   | some z => if Nat.beq z.cells.size i.size then some (i.size, i.bytes) else none
   | none => none
 | none => none
theorem infoZ_ok {e : TypeId} {s b : Nat} (h : infoZ P e = some (s, b)) : ∃ i z, P.info? e = some i ∧ i.zero = some z ∧ z.cells.size = i.size ∧ i.size = s ∧ i.bytes = b := by
 unfold infoZ at h
 split at h
 ·rename_i i hi
  split at h
  ·rename_i z hz
   split at h
   ·rename_i hs
    cases h
    exact ⟨i, z, hi, hz, Nat.eq_of_beq_eq_true hs, rfl, rfl⟩
   ·cases h
  ·cases h
 ·cases h
def small (n bytes : Nat) : Bool := Nat.ble n (2 ^ 40) && Nat.ble (n * bytes) 140737488355328
end
def keepS (s : Option SV) : Option SV :=
 match s with
 | some (.a (.one (.slc k off len cap))) => if Nat.ble len cap then some (.a (.one (.slc k off len cap))) else none
 | some (.a (.one (.sli k off len))) => some (.a (.one (.sli k off len)))
 | some (.a (.one (.own k len sz))) => some (.a (.one (.own k len sz)))
 | some (.a (.one .emp)) => some (.a (.one .emp))
 | some (.a (.one (.val (.slice none 0 0)))) => some (.a (.one (.val (.slice none 0 0))))
 | _ => none
def appendS (P : Program) (t tx : TypeId) (s x : Option SV) (bk : List (Nat × Blk)) (th c : Nat) : Option (SV × List (Nat × Blk) × Nat) :=
 match P.underlying t, P.underlying tx with
 | some (.slice e), some (.slice _) => match infoZ P e with
   | some (size, bytes) => match newsS bk size x with
     | some (n, us) => if Nat.beq n 0 then (keepS s).map fun r => (r, [], c) else match s with
       | some (.a (.one (.slc k off len cap))) => match bk.look k with
         | some b => if b.dead then none else
           if Nat.ble (len + n) cap then (if b.ro || !(b.T != 3 || Nat.ble th k) then none else
            (putX b.cells (off + len * size) us).map fun l => (.a (.one (.slc k off (len + n) cap)), [(k, ⟨b.T, l, false, b.sp, false⟩)], c))
           else if small (len + n) bytes then (subU b.cells off (len * size)).map fun lo => (.a (.one (.own c (len + n) size)), [(c, ⟨e, lo ++ us, false, true, false⟩)], c + 1) else none
         | none => none
       | some (.a (.one (.val (.slice none 0 0)))) => if small n bytes then some (.a (.one (.own c n size)), [(c, ⟨e, us, false, true, false⟩)], c + 1) else none
       | some (.a (.one (.own k len sz))) => match bk.look k with
         | some b => if b.dead || b.ro || !b.sp || !(b.T != 3 || Nat.ble th k) || !Nat.beq b.T e || !Nat.beq sz size || !Nat.beq (widths b.cells) (len * size) || !bk.all (fun p => Nat.blt p.1 c) || !small (len + n) bytes then none else
           some (.a (.one (.own c (len + n) size)), [(k, ⟨b.T, [], false, true, true⟩), (c, ⟨e, b.cells ++ us, false, true, false⟩)], c + 1)
         | none => none
       | _ => none
     | none => none
   | none => none
 | _, _ => none
section
variable {D : Den} {P : Program} {w0 : World} {X : Nat → Prop} {th : Nat} {ρ : Nm} {wc w : World} {bk : List (Nat × Blk)} {c : Nat}
theorem small_ok {n b : Nat} (h : small n b = true) : n ≤ 2 ^ 40 ∧ n * b ≤ 140737488355328 := by
 unfold small at h
 rw [Bool.and_eq_true] at h
 exact ⟨Nat.le_of_ble_eq_true h.1, Nat.le_of_ble_eq_true h.2⟩
theorem keepS_ok {s : SV} {r : SV} {v : Value} (h : keepS (some s) = some r) (hv : denV D ρ wc s v) : r = s ∧ ∃ p n cap, v = .slice p n cap ∧ n ≤ cap := by
 unfold keepS at h
 split at h
 ·rename_i e
  cases e
  split at h
  ·rename_i hb
   cases h
   obtain ⟨B, hB, e1⟩ := hv
   exact ⟨rfl, _, _, _, by simpa using e1, Nat.le_of_ble_eq_true hb⟩
  ·cases h
 ·rename_i e
  cases e
  cases h
  obtain ⟨B, cp, hB, hc, e1⟩ := hv
  exact ⟨rfl, _, _, _, by simpa using e1, hc⟩
 ·rename_i e
  cases e
  cases h
  obtain ⟨B, hB, hc, _, _, e1⟩ := hv
  exact ⟨rfl, _, _, _, by simpa using e1, hc⟩
 ·rename_i e
  cases e
  cases h
  obtain ⟨p, cp, hp, e1⟩ := hv
  exact ⟨rfl, _, _, _, by simpa using e1, Nat.zero_le _⟩
 ·rename_i e
  cases e
  cases h
  exact ⟨rfl, _, _, _, by simpa using hv.1, Nat.le_refl _⟩
 ·cases h
theorem sub_dead {k : Nat} {x : Blk} {l : List (Nat × Blk)} (hd : x.dead = true) : Sub' ((k, x) :: l) l := fun j y hj => by
 rcases liv_cons hj with ⟨_, e, hd'⟩ | ⟨_, hj⟩
 ·rw [hd] at hd'; cases hd'
 ·exact hj
theorem appendS_ok (h : Sat D w0 X th ρ wc w bk) {bkR : List (Nat × Blk)} (hs : Sub bkR bk) {s x : SV} {vs vx : Value} (hvs : denV D ρ wc s vs) (hvx : denV D ρ wc x vx) {t tx ty : TypeId} {r : SV} {wr : List (Nat × Blk)} {c' : Nat}
  (ha : appendS P t tx (some s) (some x) bkR th c = some (r, wr, c')) (hn : ∀ k, c ≤ k → k < c' → ρ k = none) :
  ∃ v w' ρ', (Builtin.append_ #[t, tx] ty #[vs, vx]).run P w = .ok v w' ∧ denV D ρ' wc r v ∧ Sat D w0 X th ρ' wc w' (wr ++ bk) ∧ Evo ρ wc w bk c c' ρ' wc w' (wr ++ bk) := by
 have hBk : BkOk D ρ wc w bkR := fun k b hk => h.bkOk k b (hs k b hk)
 unfold appendS at ha
 split at ha
 ·rename_i e e' ht htx
  split at ha
  ·rename_i size bytes hinf
   obtain ⟨i, z, hi, hz, hzs, rfl, rfl⟩ := infoZ_ok hinf
   split at ha
   ·rename_i n us hnews
    obtain ⟨news, hsrc, hln, hnl, _⟩ := newsS_ok (P := P) hBk hvx hnews htx
    split at ha
    ·rename_i hn0
     have hn0 := Nat.eq_of_beq_eq_true hn0
     subst hn0
     obtain ⟨r', hr, e1⟩ := Option.map_eq_some_iff.1 ha
     cases e1
     obtain ⟨rfl, p, m, cap, rfl, hle⟩ := keepS_ok hr hvs
     obtain rfl : news = [] := List.eq_nil_of_length_eq_zero (by simpa using hnl)
     exact ⟨_, _, ρ, run_append_nothing w t tx ty e i ht hi p m cap hle vx hsrc, hvs, h, Evo.refl _ _ _ _ _⟩
    ·rename_i hn0
     have hnp : 0 < n := by
      rcases Nat.eq_zero_or_pos n with h0 | h0
      ·subst h0; simp at hn0
      ·exact h0
     split at ha
     ·rename_i k off len cap e1
      cases e1
      obtain ⟨B, hB, e2⟩ := hvs
      obtain rfl : vs = .slice (some ⟨B.blk, B.base + off, none⟩) len cap := by simpa using e2
      split at ha
      ·rename_i b hb
       split at ha
       ·cases ha
       ·rename_i hd
        have hliv : Liv bk k b := ⟨hs k b hb, by simpa using hd⟩
        obtain ⟨B', cs, h1, h2, h3, h4, h5, h6⟩ := h.box k b hliv
        cases hB.symm.trans h1
        split at ha
        ·rename_i hroom
         have hroom := Nat.le_of_ble_eq_true hroom
         split at ha
         ·cases ha
         ·rename_i hT
          simp only [Bool.or_eq_true, Bool.not_eq_true', not_or, Bool.not_eq_true, Bool.or_eq_false_iff, bne_eq_false_iff_eq, Nat.ble_eq, not_and] at hT
          obtain ⟨hro, hT⟩ := hT
          have hro : b.ro = false := by simpa using hro
          have hT : b.T ≠ 3 ∨ th ≤ k := by
           by_cases h3 : b.T = 3
           ·right
            have := hT
            simp [h3] at this
            exact this
           ·exact .inl h3
          obtain ⟨l, hl, e3⟩ := Option.map_eq_some_iff.1 ha
          cases e3
          obtain ⟨k1, k2, k3, k4⟩ := h.store hliv hro hl hln hT hB c
          refine ⟨.slice (some ⟨B.blk, B.base + off, none⟩) (len + n) cap, _, ρ, ?_, ⟨B, hB, rfl⟩, k1, k2⟩
          rw [k4, Nat.zero_add]
          refine run_append_room_src w t tx ty e i ht hi B.blk off len cap vx n news hsrc hroom (fun j hj => ?_) (fun j hj => ?_)
          ·exact (k3 j hj).1
          ·exact (k3 j hj).2
        ·rename_i hroom
         have hroom : cap < len + n := by
          rcases Nat.lt_or_ge cap (len + n) with h | h
          ·exact h
          ·rw [Nat.ble_eq_true_of_le h] at hroom; simp at hroom
         split at ha
         ·rename_i hsm
          obtain ⟨g1, g2⟩ := small_ok hsm
          obtain ⟨lo, hl, e3⟩ := Option.map_eq_some_iff.1 ha
          cases e3
          obtain ⟨olds, q1, q2, q3, _, q4⟩ := Src.of_sub (P := P) h2 h3 hl htx cap
          refine grow_ok h (hn c (Nat.le_refl _) (Nat.lt_succ_self _)) ht hi hz hzs q2 hln q3 (fun w' hw' => ?_) hsrc hnl hroom g1 g2
          refine run_firstCells_some w' _ _ _ _ _ _ q3 fun j u hj => ?_
          rw [← q4 j u hj]
          simp only [World.cell?, hw']
         ·cases ha
      ·cases ha
     ·rename_i e1
      cases e1
      obtain rfl : vs = .slice none 0 0 := by simpa using hvs.1
      split at ha
      ·rename_i hsm
       obtain ⟨g1, g2⟩ := small_ok hsm
       cases ha
       have := grow_ok (sLen := 0) (sCap := 0) (base := none) (olds := []) (lo := []) (ty := ty) h (hn c (Nat.le_refl _) (Nat.lt_succ_self _)) ht hi hz hzs rfl hln (by simp) (fun w' _ => run_firstCells_none w' _ _ _ _) hsrc hnl (by omega) (by omega) (by rw [Nat.zero_add]; exact g2)
       simpa using this
      ·cases ha
     ·rename_i k len sz e1
      cases e1
      obtain ⟨B, hB, hlc, htot, hb0, e2⟩ := hvs
      obtain rfl : vs = .slice (some ⟨B.blk, 0, none⟩) len B.cap := by simpa using e2
      split at ha
      ·rename_i b hb
       split at ha
       ·cases ha
       ·rename_i hc
        simp only [Bool.or_eq_true, Bool.not_eq_true', not_or, Bool.not_eq_true, Bool.not_eq_false] at hc
        obtain ⟨⟨⟨⟨⟨⟨⟨⟨c1, c2⟩, c3⟩, c4⟩, c5⟩, c6⟩, c7⟩, c8⟩, c9⟩ := hc
        cases ha
        have c5 := Nat.eq_of_beq_eq_true c5
        have c6 := Nat.eq_of_beq_eq_true c6
        have c7 := Nat.eq_of_beq_eq_true c7
        obtain ⟨g1, g2⟩ := small_ok c9
        have hT : b.T ≠ 3 ∨ th ≤ k := by
         rcases c4 with h | h
         ·exact .inl (by simpa using h)
         ·exact .inr (Nat.le_of_ble_eq_true h)
        have hliv : Liv bk k b := ⟨hs k b hb, c1⟩
        have hkc : c ≠ k := fun e => by
         have := hn c (Nat.le_refl _) (Nat.lt_succ_self _)
         rw [e, hB] at this
         cases this
        obtain ⟨B', cs, h1, h2, h3, h4, h5, h6⟩ := h.box k b hliv
        cases hB.symm.trans h1
        have hcn := hn c (Nat.le_refl _) (Nat.lt_succ_self _)
        subst c5
        subst c6
        by_cases hroom : len + n ≤ B.cap
        ·have hrm : widths b.cells + news.length ≤ B.tot := by
          rw [c7, hnl, htot, ← Nat.add_mul]
          exact Nat.mul_le_mul_right _ hroom
         obtain ⟨k1, k2, k3, k4⟩ := h.push hliv c2 c3 hln hT hB hcn hrm hkc
         refine ⟨.slice (some ⟨B.blk, 0, none⟩) (len + n) B.cap, _, _, ?_, ⟨B, addNm_new _ _ _, hroom, htot, hb0, rfl⟩, k1, k2⟩
         rw [c7] at k3 ⊢
         have := run_append_room_src w t tx ty b.T i ht hi B.blk 0 len B.cap vx n news hsrc hroom (fun j hj => by rw [Nat.zero_add]; exact (k3 j hj).1) (fun j hj => by rw [Nat.zero_add]; exact (k3 j hj).2)
         rw [Nat.zero_add] at this
         exact this
        ·have hcs := h3.len
         obtain ⟨v, w', ρ', q1, q2, q3, q4⟩ := grow_ok (ty := ty) (olds := cs) (base := some ⟨B.blk, 0, none⟩) (sLen := len) (sCap := B.cap) h hcn ht hi hz hzs h3 hln (by rw [hcs, c7]) (fun w' hw' => run_firstCells_some w' _ _ _ _ _ _ (by rw [hcs, c7]) fun j u hj => by
          have := h2.cell hj
          rw [hb0, Nat.zero_add] at this
          rw [Addr.add_mid, Nat.zero_add, ← this]
          simp only [World.cell?, hw']) hsrc hnl (by omega) g1 g2
         exact ⟨v, w', ρ', q1, q2, q3.sub' (sub_dead rfl), q4.sub' (sub_dead rfl)⟩
      ·cases ha
     ·cases ha
   ·cases ha
  ·cases ha
 ·cases ha
end
end
end Go.Ex
