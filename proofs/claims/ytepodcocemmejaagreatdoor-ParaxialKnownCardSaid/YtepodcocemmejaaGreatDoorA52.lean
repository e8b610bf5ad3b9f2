/- Part 52 of 52 of the proof that the law ParaxialKnown returns true, whatever stands in memory, if the two listed variables hold what the text lays: contracts of the functions that it reaches. No condition beside the row. -/
import Derived.Test.YtepodcocemmejaaGreatDoorA45
import Derived.Test.YtepodcocemmejaaGreatDoorA50
set_option linter.unusedVariables false
set_option linter.unusedSimpArgs false
namespace Go.Proofs.YtepodcocemmejaaGreatDoor
open Go.RowKit Go.Mono
/-- Trace of the zero value and a fraction -/
theorem traceZ1 (a : Lns) (q : Plc) (hchk : Chk a q) (k : Nat) (k1 : k < a.nw) (Cu : Array Value) (u : Rat) (w : World) (h : OptAt w a q) (hu : QV w (.agg Cu) u) :
    Calls Tryz.prog 18 #[.agg (a.ovals q), .int .i64 (k : Int), .agg quot0, .agg Cu] w fun e w' => e = .returned (.tuple #[.slice none 0 0, .int .i64 40]) ∧ Below w.heap.size w w' := by
  obtain ⟨p1, n1, d1, p2, n2, d2, hC, _, _⟩ := hu
  cases hC
  exact trace_panic (a.ovals q) rfl k 40 quot0 _ w fun W Bo Bk By Bu hW bo bk by_ bu =>
    trace1_zero a q hchk k k1 W (h.below hW) Bo Bk By Bu bo bk _ _ _ _ _ _ _ _ by_ bu fun p c W2 _ hr => fr_zero1 _ rfl p c W2 hr
/-- Trace of a fraction and the zero value -/
theorem traceZ2 (a : Lns) (q : Plc) (hchk : Chk a q) (k : Nat) (k1 : k < a.nw) (Cy : Array Value) (y : Rat) (w : World) (h : OptAt w a q) (hy : QV w (.agg Cy) y) :
    Calls Tryz.prog 18 #[.agg (a.ovals q), .int .i64 (k : Int), .agg Cy, .agg quot0] w fun e w' => e = .returned (.tuple #[.slice none 0 0, .int .i64 40]) ∧ Below w.heap.size w w' := by
  have hy' := hy
  obtain ⟨p1, n1, d1, p2, n2, d2, hC, _, _⟩ := hy
  cases hC
  exact trace_panic (a.ovals q) rfl k 40 _ quot0 w fun W Bo Bk By Bu hW bo bk by_ bu =>
    trace1_zero a q hchk k k1 W (h.below hW) Bo Bk By Bu bo bk _ _ _ _ _ _ _ _ by_ bu fun p c W2 hW2 hr => fr_zero2 _ y p c W2 (hy'.ext (.of_below (belowCall hW hW2))) hr
/-- Trace with a wave that is not there -/
theorem traceW (a : Lns) (q : Plc) (hchk : Chk a q) (k : Int) (k1 : k < 0 ∨ (a.nw : Int) ≤ k) (Cy Cu : Array Value) (w : World) (h : OptAt w a q) :
    Calls Tryz.prog 18 #[.agg (a.ovals q), .int .i64 k, .agg Cy, .agg Cu] w fun e w' => e = .returned (.tuple #[.slice none 0 0, .int .i64 2]) ∧ Below w.heap.size w w' :=
  trace_panic (a.ovals q) rfl k 2 Cy Cu w fun W Bo Bk By Bu hW bo bk _ _ =>
    trace1_look (a.ovals q) rfl 2 k W (fun W2 hW2 => look_wave a q hchk k W2 (h.below (belowCall hW hW2)) k1) Bo Bk _ _ bo bk
/-- Trace through the chapter's optics without indices -/
theorem traceBad (q : Plc) (k : Int) (Cy Cu : Array Value) (w : World) (h : LnsAt w (chL false) q) :
    Calls Tryz.prog 18 #[.agg (badV q), .int .i64 k, .agg Cy, .agg Cu] w fun e w' => e = .returned (.tuple #[.slice none 0 0, .int .i64 130]) ∧ Below w.heap.size w w' :=
  trace_panic (badV q) rfl k 130 Cy Cu w fun W Bo Bk By Bu hW bo bk _ _ =>
    trace1_look (badV q) rfl 130 k W (fun W2 hW2 => look_refused (badV q) rfl 130 (by decide) k W2 fun W3 hW3 => ocheck_bad q W3 (h.below (belowCall (belowCall hW hW2) hW3))) Bo Bk _ _ bo bk
/-- Slopes of no pencils -/
theorem slopesNil (q : Plc) (w : World) (h : OptAt w (chL false) q) :
    Calls Tryz.prog 24 #[.agg ((chL false).ovals q), .int .i64 0, .slice none 0 0] w fun e w' => e = .returned (.tuple #[.slice none 0 0, .int .i64 2]) ∧ Below w.heap.size w w' :=
  slopes_panic (chL false) q 0 2 (.slice none 0 0) w (fun W Bo Bk Bl hW bo bk bl => slopes1_len (chL false) q (chk1 _ (chL_opt false) rfl q) 0 (by decide) none 0 0 (by decide) W (h.below hW) Bo Bk Bl bo bk bl) rfl
/-- Slopes of two zero pencils -/
theorem slopesZero (q : Plc) (B : Nat) (T : TypeId) (cs : Array Value) (hcs : ∀ j, j < 8 → cs[j]? = pen0[j]?) (w : World) (h : OptAt w (chL false) q) (hb : Box w B T cs) :
    Calls Tryz.prog 24 #[.agg ((chL false).ovals q), .int .i64 0, .slice (some ⟨B, 0, none⟩) 2 2] w fun e w' => e = .returned (.tuple #[.slice none 0 0, .int .i64 40]) ∧ Below w.heap.size w w' :=
  slopes_panic (chL false) q 0 40 (.slice (some ⟨B, 0, none⟩) 2 2) w (fun W Bo Bk Bl hW bo bk bl => slopes1_zero (chL false) (chL_opt false) q (chk1 _ (chL_opt false) rfl q) 0 (by decide) B 0 2 W (h.below hW) Bo Bk Bl bo bk bl (hb.below hW).lt (fun j hj => by
    rw [(hb.below hW).cell, Nat.zero_add]
    exact hcs j hj)) rfl
def pen16 : Array Value := #[.bool false, .slice none 0 0, .bool false, .slice none 0 0, .bool false, .slice none 0 0, .bool false, .slice none 0 0, .bool false, .slice none 0 0, .bool false, .slice none 0 0, .bool false, .slice none 0 0, .bool false, .slice none 0 0]
theorem make2 (w : World) : (Instr.makeSlice 58 (.int .i64 2) (.int .i64 2)).run Tryz.prog w = .ok (.slice (some ⟨w.heap.size, 0, none⟩) 2 2) (w.alloc (.cells pen16 65)) := by kernel_rfl
theorem wp_make2 {o : Oper} {a : Act} {w : World} {K : Act → World → Prop} {Q : Exit → Act → World → Prop} (x y : Operand) (ho : o.op = .makeSlice 58 x y) (hx : a.eval x = .int .i64 2) (hy : a.eval y = .int .i64 2)
    (h : ∀ V B, Below w.heap.size w V → Box V B 65 pen16 → K (a.put o.dst (.slice (some ⟨B, 0, none⟩) 2 2)) V) : o.wp Tryz.prog a w K Q := by
  unfold Oper.wp execOp
  simp only [ho, hx, hy, Sem.run_bind, make2, Result.andThen_ok, Sem.run_pure]
  exact h _ _ ((Below.refl _ _).alloc (Nat.le_refl _) _) (Box.new _ _ _)
theorem alloc_optics (w : World) : (Instr.alloc 45 true (.tuple #[])).run Tryz.prog w = .ok (.pointer (some ⟨w.heap.size, 0, none⟩)) (w.alloc (.cells #[.string { data := #[] }, .int .i64 0, .int .i64 0, .int .i64 0, .int .i64 0, .slice none 0 0, .slice none 0 0, .slice none 0 0, .slice none 0 0, .slice none 0 0] 45)) := by
  go_simp
theorem pen_ranges {w : World} {b off n : Nat} {C : Nat → Array Value} (hbl : b < w.heap.size) (hcell : ∀ i j, i < n → j < 8 → w.cell? ⟨b, off + i * 8 + j, none⟩ = some ((C i).getD j undef)) (i : Nat) (hi : i < n) {x : Rat × Rat} (hQ : PenQ w (C i) x) :
    ∃ c0 c1 c2 c3 c4 c5 c6 c7 : Value, QV w (.agg #[c0, c1, c2, c3]) x.1 ∧ QV w (.agg #[c4, c5, c6, c7]) x.2 ∧ (∀ W', Below w.heap.size w W' → W'.rangeAt b (off + i * 8) (#[c0, c1, c2, c3] : Array Value).toList) ∧ (∀ W', Below w.heap.size w W' → W'.rangeAt b (off + i * 8 + 4) (#[c4, c5, c6, c7] : Array Value).toList) := by
  obtain ⟨p1, n1, d1, p2, n2, d2, p3, n3, d3, p4, n4, d4, hC, Ra, Rb⟩ := hQ
  have e := fun (W' : World) (hW : Below w.heap.size w W') (j : Nat) (hj : j < 8) => (hW.cell (p := ⟨b, off + i * 8 + j, none⟩) hbl).trans (hcell i j hi hj)
  rw [hC] at e
  refine ⟨_, _, _, _, _, _, _, _, Ra, Rb, fun W' hW => quarter_range (e W' hW 0 (by decide)) (e W' hW 1 (by decide)) (e W' hW 2 (by decide)) (e W' hW 3 (by decide)), fun W' hW => quarter_range (e W' hW 4 (by decide)) (e W' hW 5 (by decide)) (e W' hW 6 (by decide)) (e W' hW 7 (by decide))⟩
def plcAir (q : Plc) (n Bs Bi : Nat) (BI : Nat → Nat) : Plc := { q with ps := some ⟨Bs, 0, none⟩, cs := n, cp := fun _ => none, cl := fun _ => 0, pi := some ⟨Bi, 0, none⟩, ci := n, pI := fun i => some ⟨BI i, 0, none⟩, cI := fun _ => 1 }
theorem optAt_air {W : World} (a : Lns) (q : Plc) (h2 : a.nw = 1) (hns : a.ns ≤ 16) {Ts Ti : TypeId} {TI : Nat → TypeId} (Bs Bi : Nat) (BI : Nat → Nat) (cs ci : Array Value)
    (hf : RdC W q.pf a.nf q.cf 2 (fun i j => if j = 0 then .int .i64 (a.X i) else .int .i64 (a.Y i))) (hw : RdC W q.pw a.nw q.cw 2 (fun i j => if j = 0 then .int .i64 (a.L i) else .int .i64 (a.W i)))
    (bs : Box W Bs Ts cs) (hcs : cs.toList = pens (fun i => (a.S i).cs none 0) a.ns) (bi : Box W Bi Ti ci) (hci : ∀ i, i < a.ns → ci[i]? = some (.slice (some ⟨BI i, 0, none⟩) 1 1))
    (bI : ∀ i, i < a.ns → Box W (BI i) (TI i) #[.int .i64 (a.ix i 0)]) : OptAt W a (plcAir q a.ns Bs Bi BI) := by
  refine ⟨⟨hf, hw, ?_⟩, ?_, ?_⟩
  · refine ⟨Nat.le_refl _, by omega, fun _ => ⟨_, _, rfl, bs.lt, fun i j hi hj => ?_⟩⟩
    rw [bs.cell, ← Array.getElem?_toList, hcs, Nat.zero_add]
    exact rows_get (fun i => (a.S i).cs none 0) 22 a.ns (fun _ _ => rfl) i j hi hj
  · rw [h2]
    refine ⟨Nat.le_refl _, by omega, fun _ => ⟨_, _, rfl, bi.lt, fun i j hi hj => ?_⟩⟩
    obtain rfl : j = 0 := by omega
    rw [bi.cell]
    simp only [Nat.zero_add, Nat.mul_one, Nat.add_zero]
    exact hci i hi
  · intro i hi
    rw [h2]
    refine ⟨Nat.le_refl _, by decide, fun _ => ⟨_, _, rfl, (bI i hi).lt, fun j hj => ?_⟩⟩
    obtain rfl : j = 0 := by omega
    rw [(bI i hi).cell]
    rfl
theorem boxes5l {P : Program} {ops : Array Oper} {rest : List Oper} {Q : Exit → Act → World → Prop} {a : Act} {w : World} {T0 T1 T2 T3 T4 : TypeId} {c0 c1 c2 c3 c4 : Array Value} (h : ∀ W, Below w.heap.size w W → w.heap.size + 5 ≤ W.heap.size → Box W w.heap.size T0 c0 → Box W (w.heap.size + 1) T1 c1 → Box W (w.heap.size + 1 + 1) T2 c2 → Box W (w.heap.size + 1 + 1 + 1) T3 c3 → Box W (w.heap.size + 1 + 1 + 1 + 1) T4 c4 → wpList P ops Q rest a W) :
    wpList P ops Q rest a (((((w.alloc (.cells c0 T0)).alloc (.cells c1 T1)).alloc (.cells c2 T2)).alloc (.cells c3 T3)).alloc (.cells c4 T4)) := by
  have b4 := Box.new ((((w.alloc (.cells c0 T0)).alloc (.cells c1 T1)).alloc (.cells c2 T2)).alloc (.cells c3 T3)) T4 c4
  simp only [World.size_alloc] at b4
  have b3 := Box.new (((w.alloc (.cells c0 T0)).alloc (.cells c1 T1)).alloc (.cells c2 T2)) T3 c3
  simp only [World.size_alloc] at b3
  have b2 := Box.new ((w.alloc (.cells c0 T0)).alloc (.cells c1 T1)) T2 c2
  simp only [World.size_alloc] at b2
  have b1 := Box.new (w.alloc (.cells c0 T0)) T1 c1
  simp only [World.size_alloc] at b1
  exact h _ ((((((Below.refl _ _).alloc (Nat.le_refl _) _).alloc (by simp) _).alloc (by simp; omega) _).alloc (by simp; omega) _).alloc (by simp; omega) _) (by simp) (((((Box.new _ _ _).alloc _).alloc _).alloc _).alloc _) (((b1.alloc _).alloc _).alloc _) ((b2.alloc _).alloc _) (b3.alloc _) b4
theorem ai_pf (s : Nat) (hs : s < 4) : PowFits aiL 0 s := ai_fits.pow s hs
/-- what stands while the law runs -/
structure KnInv (m : Nat) (q : Plc) (B1 B2 BN : Nat) (X : World) : Prop where
  O : OptAt X (chL false) q
  pows : PowsAt X m
  b1 : Box X B1 45 ((chL false).ovals q)
  b2 : Box X B2 45 (badV q)
  bn : Box X BN 54 quot0
theorem KnInv.below {m : Nat} {q : Plc} {B1 B2 BN : Nat} {X Y : World} (h : KnInv m q B1 B2 BN X) (hB : Below X.heap.size X Y) : KnInv m q B1 B2 BN Y := ⟨h.O.below hB, h.pows.below hB, h.b1.below hB, h.b2.below hB, h.bn.below hB⟩
theorem ch_nI0 : (chL false).nI 0 0 = Rat.divInt 3 2 := by decide +kernel
end Go.Proofs.YtepodcocemmejaaGreatDoor
