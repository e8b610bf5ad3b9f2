/- Part 18 of 52 of the proof that the law ParaxialKnown returns true, whatever stands in memory, if the two listed variables hold what the text lays: contracts of the functions that it reaches. No condition beside the row. -/
import Derived.DeepKeys
import Derived.Test.YtepodcocemmejaaGreatDoorA17
set_option linter.unusedVariables false
set_option linter.unusedSimpArgs false
namespace Go.Mono
open Go.RowKit
def Srf.flds (s : Srf) : Array Value := #[.int .i64 s.kind, .int .i64 s.curv, .int .i64 s.conic, .int .i64 s.curvx, .int .i64 s.conicx, .int .i64 s.order, .int .i64 s.thick, .int .i64 s.semi, .int .i64 s.hole, .int .i64 s.dx, .int .i64 s.dy, .int .i64 s.ax, .int .i64 s.ay, .int .i64 s.az, .int .i64 0, .int .i64 0, .int .i64 s.a0, .int .i64 s.a1, .int .i64 s.a2, .int .i64 s.a3, .int .i64 s.p0, .int .i64 s.p1, .string s.glass]
def Srf.lits (s : Srf) : List Lit := [.int .i64 s.kind, .int .i64 s.curv, .int .i64 s.conic, .int .i64 s.curvx, .int .i64 s.conicx, .int .i64 s.order, .int .i64 s.thick, .int .i64 s.semi, .int .i64 s.hole, .int .i64 s.dx, .int .i64 s.dy, .int .i64 s.ax, .int .i64 s.ay, .int .i64 s.az, .int .i64 0, .int .i64 0, .int .i64 s.a0, .int .i64 s.a1, .int .i64 s.a2, .int .i64 s.a3, .int .i64 s.p0, .int .i64 s.p1, .string s.glass.data.toList]
theorem wf_in {m z : Int} (h : In m z) (hm : m ≤ 1000000000) : (Lit.int .i64 z).wf = true := by
  obtain ⟨h1, h2⟩ := h
  have e1 : IntKind.i64.min = -9223372036854775808 := by decide
  have e2 : IntKind.i64.max = 9223372036854775807 := by decide
  simp only [Lit.wf, e1, e2, Bool.and_eq_true, decide_eq_true_eq]
  omega
theorem glass_size {s : Srf} (h : s.ok) : s.glass.size ≤ 16 := by
  rcases h.glass with h | h
  · rw [h]; decide
  · exact h.2.1
end Go.Mono
namespace Go.Proofs.YtepodcocemmejaaGreatDoor
open Go.RowKit Go.Mono
theorem lits_int (d : Nat) (z : Int) (h : (Lit.int .i64 z).wf = true) : Tryz.prog.keyLits (d + 1) 3 [.int .i64 z] = some [.int .i64 z] := by
  have hu : Tryz.prog.underlying 3 = some (.int .i64) := by kernel_rfl
  simp [Program.keyLits, hu, h]
theorem lits_str (d : Nat) (s : ByteArray) (h : s.size ≤ 16) : Tryz.prog.keyLits (d + 1) 9 [.string s] = some [.string s.data.toList] := by
  have hu : Tryz.prog.underlying 9 = some .string := by kernel_rfl
  have : s.size ≤ maxLen := Nat.le_trans h (by decide)
  simp [Program.keyLits, hu, this]
set_option maxRecDepth 100000 in
set_option maxHeartbeats 1000000 in
theorem lits_flds (s : Srf) (hs : s.ok) : Tryz.prog.keyLits 6 300 s.flds.toList = some s.lits := by
  have c299 : Tryz.prog.cellsOf 300 = 23 := by kernel_rfl
  have c297 : Tryz.prog.cellsOf 298 = 16 := by kernel_rfl
  have c91 : Tryz.prog.cellsOf 92 = 4 := by kernel_rfl
  have c49 : Tryz.prog.cellsOf 49 = 2 := by kernel_rfl
  have c3 : Tryz.prog.cellsOf 3 = 1 := by kernel_rfl
  have c9 : Tryz.prog.cellsOf 9 = 1 := by kernel_rfl
  have hg := lits_str 4 s.glass (glass_size hs)
  have w0 : (Lit.int .i64 0).wf = true := by decide
  have w_kind : (Lit.int .i64 s.kind).wf = true := wf_in (m := 4) ⟨by have := hs.k1; omega, hs.k2⟩ (by omega)
  have w_curv : (Lit.int .i64 s.curv).wf = true := wf_in hs.curv (by omega)
  have w_conic : (Lit.int .i64 s.conic).wf = true := wf_in hs.conic (by omega)
  have w_curvx : (Lit.int .i64 s.curvx).wf = true := wf_in hs.curvx (by omega)
  have w_conicx : (Lit.int .i64 s.conicx).wf = true := wf_in hs.conicx (by omega)
  have w_order : (Lit.int .i64 s.order).wf = true := wf_in hs.order (by omega)
  have w_thick : (Lit.int .i64 s.thick).wf = true := wf_in hs.thick (by omega)
  have w_semi : (Lit.int .i64 s.semi).wf = true := wf_in (m := 1000000000) ⟨by have := hs.semi0; omega, hs.semi1⟩ (by omega)
  have w_hole : (Lit.int .i64 s.hole).wf = true := wf_in (m := 1000000000) ⟨by have := hs.hole0; omega, hs.hole1⟩ (by omega)
  have w_dx : (Lit.int .i64 s.dx).wf = true := wf_in hs.dx (by omega)
  have w_dy : (Lit.int .i64 s.dy).wf = true := wf_in hs.dy (by omega)
  have w_ax : (Lit.int .i64 s.ax).wf = true := wf_in hs.ax (by omega)
  have w_ay : (Lit.int .i64 s.ay).wf = true := wf_in hs.ay (by omega)
  have w_az : (Lit.int .i64 s.az).wf = true := wf_in hs.az (by omega)
  have w_a0 : (Lit.int .i64 s.a0).wf = true := wf_in hs.a0 (by omega)
  have w_a1 : (Lit.int .i64 s.a1).wf = true := wf_in hs.a1 (by omega)
  have w_a2 : (Lit.int .i64 s.a2).wf = true := wf_in hs.a2 (by omega)
  have w_a3 : (Lit.int .i64 s.a3).wf = true := wf_in hs.a3 (by omega)
  have w_p0 : (Lit.int .i64 s.p0).wf = true := wf_in hs.p0 (by omega)
  have w_p1 : (Lit.int .i64 s.p1).wf = true := wf_in hs.p1 (by omega)
  clear hs
  have h297 : Tryz.prog.keyLits 5 298 [.int .i64 s.kind, .int .i64 s.curv, .int .i64 s.conic, .int .i64 s.curvx, .int .i64 s.conicx, .int .i64 s.order, .int .i64 s.thick, .int .i64 s.semi, .int .i64 s.hole, .int .i64 s.dx, .int .i64 s.dy, .int .i64 s.ax, .int .i64 s.ay, .int .i64 s.az, .int .i64 0, .int .i64 0] = some [.int .i64 s.kind, .int .i64 s.curv, .int .i64 s.conic, .int .i64 s.curvx, .int .i64 s.conicx, .int .i64 s.order, .int .i64 s.thick, .int .i64 s.semi, .int .i64 s.hole, .int .i64 s.dx, .int .i64 s.dy, .int .i64 s.ax, .int .i64 s.ay, .int .i64 s.az, .int .i64 0, .int .i64 0] := by
    simp [Program.keyLits, Tryz.underlying298, List.range_succ, *]
  have h91 : Tryz.prog.keyLits 5 92 [.int .i64 s.a0, .int .i64 s.a1, .int .i64 s.a2, .int .i64 s.a3] = some [.int .i64 s.a0, .int .i64 s.a1, .int .i64 s.a2, .int .i64 s.a3] := by
    simp [Program.keyLits, Tryz.underlying92, List.range_succ, *]
  have h49 : Tryz.prog.keyLits 5 49 [.int .i64 s.p0, .int .i64 s.p1] = some [.int .i64 s.p0, .int .i64 s.p1] := by
    simp [Program.keyLits, Tryz.underlying49, List.range_succ, *]
  rw [Program.keyLits.eq_def]
  simp only [Tryz.underlying300]
  simp [Srf.flds, Srf.lits, h297, h91, h49, hg, c299, c297, c91, c49, c9]
set_option maxRecDepth 100000 in
theorem eql_flds (s : Srf) (hs : s.ok) (w : World) : (binOp .eql 300 (.agg s.flds) (.agg s.flds)).run Tryz.prog w = .ok (.bool true) w := by
  obtain ⟨r, h1, h2⟩ := run_equalIn_deep (P := Tryz.prog) 9995 5 300 (by kernel_rfl) w 6 6 (.agg s.flds) (.agg s.flds) s.lits s.lits (by kernel_rfl) (by kernel_rfl) (lits_flds s hs) (lits_flds s hs)
  rw [run_eql_struct]
  have h3 : r = true := h2.2 rfl
  subst h3
  rw [show (10000 : Nat) = 9995 + 5 from rfl, h1]
  rfl
end Go.Proofs.YtepodcocemmejaaGreatDoor
namespace Go.Proofs.YtepodcocemmejaaGreatDoor
open Go.RowKit Go.Mono
set_option maxRecDepth 100000 in
set_option maxHeartbeats 1000000 in
theorem image_ok (s : Srf) (p : Option Addr) (c : Nat) (w : World) (h1 : s.kind = 1) (h2 : s.glass = { data := #[] }) (h3 : s.thick = 0) (h4 : s.order = 0) :
    Calls Tryz.prog 225 #[.agg (s.cs p c)] w fun e w' => e = .returned (.bool true) ∧ Below w.heap.size w w' := by
  simp only [Srf.cs, h1, h2, h3, h4]
  go_enter Tryz.func225, Tryz.ntmps225
  go_wp2
  go_ret
  exact ⟨rfl, belowAlloc (Below.refl _ _) _⟩
set_option maxRecDepth 100000 in
set_option maxHeartbeats 1000000 in
theorem different_nil (w : World) :
    Calls Tryz.prog 227 #[.slice none 0 0] w fun e w' => e = .returned (.bool true) ∧ Below w.heap.size w w' := by
  have hmm : ∀ w : World, (Instr.makeMap 297 none).run Tryz.prog w = .ok (.map (some w.heap.size)) (w.alloc (.map #[] 0)) := fun _ => rfl
  go_enter Tryz.func227, Tryz.ntmps227
  go_wp2
  go_loopw [9] (fun a wr => a = .int .i64 0 ∧ Below w.heap.size w wr) (fun _ _ => 0)
  case atStart => exact ⟨rfl, belowAlloc (Below.refl _ _) _⟩
  case round =>
    obtain ⟨rfl, hB⟩ := hrel
    go_wp2
    go_ret
    exact ⟨rfl, hB⟩
set_option maxRecDepth 100000 in
set_option maxHeartbeats 1000000 in
theorem configs_ok (B : Nat) (nm : ByteArray) (di pu st pr : Int) (pf pw' ps pc : Option Addr) (nf cf n cw ns cs cc : Nat) (w : World)
    (b0 : Box w B 249 #[.string nm, .int .i64 di, .int .i64 pu, .int .i64 st, .int .i64 pr, .slice pf nf cf, .slice pw' n cw, .slice ps ns cs, .slice pc 0 cc]) :
    Calls Tryz.prog 211 #[.pointer (some ⟨B, 0, none⟩)] w fun e w' => e = .returned (.bool true) ∧ Below w.heap.size w w' := by
  have cb0 := b0.cell
  go_enter Tryz.func211, Tryz.ntmps211
  go_wp2
  go_loopw [3, 14] (fun l a wr => l = .slice none 0 0 ∧ a = .int .i64 0 ∧ wr = w) (fun _ _ _ => 0)
  case atStart => exact ⟨rfl, rfl, rfl⟩
  case round =>
    obtain ⟨rfl, rfl, rfl⟩ := hrel
    go_wp2_with (go_at_call 227; refine (different_nil _).mono ?_; rintro e w' ⟨rfl, hb⟩)
    go_ret
    exact ⟨rfl, hb⟩
end Go.Proofs.YtepodcocemmejaaGreatDoor
