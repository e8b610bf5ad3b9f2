/- The law MatrixKnown: the examples of the ray transfer matrices, afocal lenses, mirrors and the order of errors; its walk by a verified evaluator of the model, and its card. Part 19 of 36. No condition beside the row. -/
import Derived.DeepKeys
import Derived.Test.YtdgodcgdlfjpaaaGreatDoorM18
set_option linter.unusedVariables false
set_option linter.unusedSimpArgs false
set_option maxRecDepth 100000
set_option maxHeartbeats 4000000
namespace Go.Mono
open Go.RowKit
def RdC (w : World) (p : Option Addr) (n c sz : Nat) (cell : Nat → Nat → Value) : Prop :=
 n ≤ c ∧ n ≤ 140737488351232 ∧ (0 < n → ∃ b off, p = some ⟨b, off, none⟩ ∧ b < w.heap.size ∧ (∀ i j, i < n → j < sz → w.cell? ⟨b, off + i * sz + j, none⟩ = some (cell i j)))
theorem RdC.below {w w' : World} {p : Option Addr} {n c sz : Nat} {f : Nat → Nat → Value} (h : RdC w p n c sz f) (hB : Below w.heap.size w w') : RdC w' p n c sz f := by
 obtain ⟨h1, h2, h3⟩ := h
 refine ⟨h1, h2, fun hn => ?_⟩
 obtain ⟨b, off, hp, hb, hc⟩ := h3 hn
 exact ⟨b, off, hp, Nat.lt_of_lt_of_le hb hB.size, fun i j hi hj => (hB.cell hb).trans (hc i j hi hj)⟩
end Go.Mono
namespace Go.Proofs.YtdgodcgdlfjpaaaGreatDoor
open Go.RowKit Go.Mono
theorem lbetween_ok (n lo hi : Int) (h1 : lo ≤ n) (h2 : n ≤ hi) (w : World) :
  Calls Tryz.prog 268 #[.int .i64 n, .int .i64 lo, .int .i64 hi] w fun e w' => e = .returned (.bool true) ∧ w' = w := by
 go_enter Tryz.func268, Tryz.ntmps268
 go_wp2
 go_ret
 exact ⟨rfl, rfl⟩
theorem waves_ok (B : Nat) (nm : ByteArray) (di pu st pr : Int) (pf pw' ps pc : Option Addr) (nf cf n cw ns cs nc cc : Nat) (L W : Nat → Int) (w : World)
  (b0 : Box w B 258 #[.string nm, .int .i64 di, .int .i64 pu, .int .i64 st, .int .i64 pr, .slice pf nf cf, .slice pw' n cw, .slice ps ns cs, .slice pc nc cc])
  (hr : RdC w pw' n cw 2 (fun i j => if j = 0 then .int .i64 (L i) else .int .i64 (W i)))
  (n1 : 1 ≤ n) (n2 : n ≤ 5) (q1 : 0 ≤ pr) (q2 : pr ≤ n - 1)
  (l0 : ∀ i, i < n → 300000 ≤ L i ∧ L i ≤ 2500000) (l1 : ∀ i, i + 1 < n → L i < L (i + 1)) (w0 : ∀ i, i < n → 1 ≤ W i ∧ W i ≤ 100) :
  Calls Tryz.prog 270 #[.pointer (some ⟨B, 0, none⟩)] w fun e w' => e = .returned (.bool true) ∧ Below w.heap.size w w' := by
 have cb0 := b0.cell
 obtain ⟨hc1, hn1, hx⟩ := hr
 obtain ⟨b, off, rfl, hb, hcell⟩ := hx (by omega)
 go_enter Tryz.func270, Tryz.ntmps270
 go_wp2
 go_loopw [3, 12] (fun l a wr => ∃ (i : Nat) (la : Int), i ≤ n ∧ a = .int .i64 (i : Int) ∧ l = .int .i64 la ∧ (i = 0 → la = 299999) ∧ (0 < i → la = L (i - 1)) ∧ Below w.heap.size w wr) (fun _ a _ => (n - intOf a).toNat)
 case atStart => exact ⟨0, 299999, Nat.zero_le _, rfl, rfl, fun _ => rfl, fun h => by omega, Below.refl _ _⟩
 case round =>
  obtain ⟨i, la, hi, rfl, rfl, ha0, ha1, hB⟩ := hrel
  by_cases hin : i < n
  ·have hlt : la < L i := by
    by_cases h0 : i = 0
    ·have := ha0 h0; have := l0 i hin; omega
    ·have := ha1 (by omega); have := l1 (i - 1) (by omega)
     rw [show i - 1 + 1 = i by omega] at this
     omega
   obtain ⟨l2, l3⟩ := l0 i hin
   obtain ⟨w1, w2⟩ := w0 i hin
   have f1 : ¬ (L i ≤ la) := by omega
   have f2 : ¬ (2500000 < L i) := by omega
   have hin' : (i : Int) < n := by omega
   have a0 := (hB.cell hb).trans (hcell i 0 hin (by omega))
   have a1 := (hB.cell hb).trans (hcell i 1 hin (by omega))
   simp only [if_true, Nat.add_zero, Nat.succ_ne_self, if_false] at a0 a1
   replace l0 := Lib.hid l0; replace l1 := Lib.hid l1; replace w0 := Lib.hid w0; replace ha0 := Lib.hid ha0; replace ha1 := Lib.hid ha1
   clear hcell
   go_wp2_with (go_at_call 268; refine (lbetween_ok _ _ _ w1 w2 _).mono ?_; rintro e w' ⟨rfl, rfl⟩)
   go_roundw
   case rel => exact ⟨i + 1, L i, by omega, by simp, rfl, fun h => by omega, fun _ => rfl, belowAlloc hB _⟩
   case measure => simp [intOf]; omega
  ·obtain rfl : i = n := by omega
   have hb0 := b0.below hB
   have cbb := hb0.cell
   have lbb := hb0.lt
   clear hcell cb0 l0 l1 w0 ha0 ha1
   have e1 : (1 : Int) ≤ i := by omega
   have e2 : (i : Int) ≤ 5 := by omega
   have hw : pr ≤ IntKind.i64.wrap ((i : Int) - 1) := by
    have : IntKind.i64.wrap ((i : Int) - 1) = (i : Int) - 1 := by rw [IntKind.wrap_i64]; omega
    omega
   go_wp2_with fail
   go_region_held3 (fun w' => (∀ b o, b < wr.heap.size → w'.cell? ⟨b, o, none⟩ = wr.cell? ⟨b, o, none⟩) ∧ Below wr.heap.size wr w') ((refine belowS ?_; first | exact (Below.refl _ _).drew | (repeat' (first | exact And.right ‹_› | exact belowCall (And.right ‹_›) ‹_› | exact belowAlloc (And.right ‹_›) _ | exact belowAlloc ‹_› _ | refine belowSet ?_ (by omega) _ _)))) (first | (go_at_call 268; (with_reducible refine (lbetween_ok (i : Int) 1 5 e1 e2 _).mono ?_); rintro e w' ⟨rfl, rfl⟩) | (go_at_call 268; (with_reducible refine (lbetween_ok pr 0 (IntKind.i64.wrap ((i : Int) - 1)) q1 hw _).mono ?_); rintro e w' ⟨rfl, rfl⟩))
   all_goals
    go_wp2
    go_ret
    exact ⟨rfl, belowCall hB (And.right ‹_›)⟩
end Go.Proofs.YtdgodcgdlfjpaaaGreatDoor
namespace Go.Mono
open Go.RowKit
def Srf.flds (s : Srf) : Array Value := #[.int .i64 s.kind, .int .i64 s.curv, .int .i64 s.conic, .int .i64 s.curvx, .int .i64 s.conicx, .int .i64 s.order, .int .i64 s.thick, .int .i64 s.semi, .int .i64 s.hole, .int .i64 s.dx, .int .i64 s.dy, .int .i64 s.ax, .int .i64 s.ay, .int .i64 s.az, .int .i64 0, .int .i64 0, .int .i64 s.a0, .int .i64 s.a1, .int .i64 s.a2, .int .i64 s.a3, .int .i64 s.p0, .int .i64 s.p1, .string s.glass]
def Srf.lits (s : Srf) : List Lit := [.int .i64 s.kind, .int .i64 s.curv, .int .i64 s.conic, .int .i64 s.curvx, .int .i64 s.conicx, .int .i64 s.order, .int .i64 s.thick, .int .i64 s.semi, .int .i64 s.hole, .int .i64 s.dx, .int .i64 s.dy, .int .i64 s.ax, .int .i64 s.ay, .int .i64 s.az, .int .i64 0, .int .i64 0, .int .i64 s.a0, .int .i64 s.a1, .int .i64 s.a2, .int .i64 s.a3, .int .i64 s.p0, .int .i64 s.p1, .string s.glass.data.toList]
theorem wf_in {m z : Int} (h : In m z) (hm : m ≤ 1000000000) : (Lit.int .i64 z).wf = true := by
 obtain ⟨h1, h2⟩ := h
 have e1 : IntKind.i64.min = -9223372036854775808 := by decide
 have e2 : IntKind.i64.max = 9223372036854775807 := by decide
 simp only [Lit.wf, e1, e2, Bool.and_eq_true, decide_eq_true_eq]
 omega
theorem glass_size {s : Srf} (h : s.ok) : s.glass.size ≤ 16 := by
 rcases h.glass with h | h
 ·rw [h]; decide
 ·exact h.2.1
end Go.Mono
namespace Go.Proofs.YtdgodcgdlfjpaaaGreatDoor
open Go.RowKit Go.Mono
theorem lits_str (d : Nat) (s : ByteArray) (h : s.size ≤ 16) : Tryz.prog.keyLits (d + 1) 9 [.string s] = some [.string s.data.toList] := by
 have hu : Tryz.prog.underlying 9 = some .string := by kernel_rfl
 have : s.size ≤ maxLen := Nat.le_trans h (by decide)
 simp [Program.keyLits, hu, this]
theorem lits_flds (s : Srf) (hs : s.ok) : Tryz.prog.keyLits 6 267 s.flds.toList = some s.lits := by
 have c299 : Tryz.prog.cellsOf 267 = 23 := by kernel_rfl
 have c297 : Tryz.prog.cellsOf 265 = 16 := by kernel_rfl
 have c91 : Tryz.prog.cellsOf 102 = 4 := by kernel_rfl
 have c49 : Tryz.prog.cellsOf 29 = 2 := by kernel_rfl
 have c3 : Tryz.prog.cellsOf 3 = 1 := by kernel_rfl
 have c9 : Tryz.prog.cellsOf 9 = 1 := by kernel_rfl
 have hg := lits_str 4 s.glass (glass_size hs)
 have w0 : (Lit.int .i64 0).wf = true := by decide
 have w_kind : (Lit.int .i64 s.kind).wf = true := wf_in (m := 4) ⟨by have := hs.k1; omega, hs.k2⟩ (by omega)
 have w_curv : (Lit.int .i64 s.curv).wf = true := wf_in hs.curv (by omega)
 have w_conic : (Lit.int .i64 s.conic).wf = true := wf_in hs.conic (by omega)
 have w_curvx : (Lit.int .i64 s.curvx).wf = true := wf_in hs.curvx (by omega)
 have w_conicx : (Lit.int .i64 s.conicx).wf = true := wf_in hs.conicx (by omega)
 have w_order : (Lit.int .i64 s.order).wf = true := wf_in hs.order (by omega)
 have w_thick : (Lit.int .i64 s.thick).wf = true := wf_in hs.thick (by omega)
 have w_semi : (Lit.int .i64 s.semi).wf = true := wf_in (m := 1000000000) ⟨by have := hs.semi0; omega, hs.semi1⟩ (by omega)
 have w_hole : (Lit.int .i64 s.hole).wf = true := wf_in (m := 1000000000) ⟨by have := hs.hole0; omega, hs.hole1⟩ (by omega)
 have w_dx : (Lit.int .i64 s.dx).wf = true := wf_in hs.dx (by omega)
 have w_dy : (Lit.int .i64 s.dy).wf = true := wf_in hs.dy (by omega)
 have w_ax : (Lit.int .i64 s.ax).wf = true := wf_in hs.ax (by omega)
 have w_ay : (Lit.int .i64 s.ay).wf = true := wf_in hs.ay (by omega)
 have w_az : (Lit.int .i64 s.az).wf = true := wf_in hs.az (by omega)
 have w_a0 : (Lit.int .i64 s.a0).wf = true := wf_in hs.a0 (by omega)
 have w_a1 : (Lit.int .i64 s.a1).wf = true := wf_in hs.a1 (by omega)
 have w_a2 : (Lit.int .i64 s.a2).wf = true := wf_in hs.a2 (by omega)
 have w_a3 : (Lit.int .i64 s.a3).wf = true := wf_in hs.a3 (by omega)
 have w_p0 : (Lit.int .i64 s.p0).wf = true := wf_in hs.p0 (by omega)
 have w_p1 : (Lit.int .i64 s.p1).wf = true := wf_in hs.p1 (by omega)
 clear hs
 have h297 : Tryz.prog.keyLits 5 265 [.int .i64 s.kind, .int .i64 s.curv, .int .i64 s.conic, .int .i64 s.curvx, .int .i64 s.conicx, .int .i64 s.order, .int .i64 s.thick, .int .i64 s.semi, .int .i64 s.hole, .int .i64 s.dx, .int .i64 s.dy, .int .i64 s.ax, .int .i64 s.ay, .int .i64 s.az, .int .i64 0, .int .i64 0] = some [.int .i64 s.kind, .int .i64 s.curv, .int .i64 s.conic, .int .i64 s.curvx, .int .i64 s.conicx, .int .i64 s.order, .int .i64 s.thick, .int .i64 s.semi, .int .i64 s.hole, .int .i64 s.dx, .int .i64 s.dy, .int .i64 s.ax, .int .i64 s.ay, .int .i64 s.az, .int .i64 0, .int .i64 0] := by
  simp [Program.keyLits, Tryz.underlying265, List.range_succ, *]
 have h91 : Tryz.prog.keyLits 5 102 [.int .i64 s.a0, .int .i64 s.a1, .int .i64 s.a2, .int .i64 s.a3] = some [.int .i64 s.a0, .int .i64 s.a1, .int .i64 s.a2, .int .i64 s.a3] := by
  simp [Program.keyLits, Tryz.underlying102, List.range_succ, *]
 have h49 : Tryz.prog.keyLits 5 29 [.int .i64 s.p0, .int .i64 s.p1] = some [.int .i64 s.p0, .int .i64 s.p1] := by
  simp [Program.keyLits, Tryz.underlying29, List.range_succ, *]
 rw [Program.keyLits.eq_def]
 simp only [Tryz.underlying267]
 simp [Srf.flds, Srf.lits, h297, h91, h49, hg, c299, c297, c91, c49, c9]
theorem eql_flds (s : Srf) (hs : s.ok) (w : World) : (binOp .eql 267 (.agg s.flds) (.agg s.flds)).run Tryz.prog w = .ok (.bool true) w := by
 obtain ⟨r, h1, h2⟩ := run_equalIn_deep (P := Tryz.prog) 9995 5 267 (by kernel_rfl) w 6 6 (.agg s.flds) (.agg s.flds) s.lits s.lits (by kernel_rfl) (by kernel_rfl) (lits_flds s hs) (lits_flds s hs)
 rw [run_eql_struct]
 have h3 : r = true := h2.2 rfl
 subst h3
 rw [show (10000 : Nat) = 9995 + 5 from rfl, h1]
 rfl
end Go.Proofs.YtdgodcgdlfjpaaaGreatDoor
