/- The law MatrixKnown: the examples of the ray transfer matrices, afocal lenses, mirrors and the order of errors; its walk by a verified evaluator of the model, and its card. Part 32 of 36. No condition beside the row. -/
import Derived.Outline
import Derived.Test.YtdgodcgdlfjpaaaGreatDoorM16
import Derived.Test.YtdgodcgdlfjpaaaGreatDoorM17
import Derived.Test.YtdgodcgdlfjpaaaGreatDoorM31
set_option linter.unusedVariables false
set_option linter.unusedSimpArgs false
set_option maxRecDepth 100000
set_option maxHeartbeats 4000000
namespace Go.Mono
open Go.RowKit
theorem QV.cells {w : World} {v : Value} {q : Rat} (h : QV w v q) : ∃ C : Array Value, v = .agg C ∧ C.size = 4 ∧ C.all (·.oneCell') = true := by
 obtain ⟨p, k, c, p', k', c', rfl, _, _⟩ := h
 exact ⟨_, rfl, rfl, by simp [Value.oneCell']⟩
end Go.Mono
namespace Go.Proofs.YtdgodcgdlfjpaaaGreatDoor
open Go.RowKit Go.Mono
theorem sizeQuot : (Tryz.prog.info? 37).map (·.size) = some 4 := by kernel_rfl
theorem mustq_ok (C : Array Value) (hC : C.size = 4) (h1 : C.all (·.oneCell') = true) (w : World) :
  Calls Tryz.prog 281 #[.agg C, .int .i64 0] w fun e w' => e = .returned (.agg C) ∧ Below w.heap.size w w' := by
 have hi : (Tryz.prog.info? 37).map (·.size) = some C.size := by rw [hC]; exact sizeQuot
 go_enter Tryz.func281, Tryz.ntmps281
 go_step
 go_step
 go_step
 go_step
 go_step
 go_step
 go_step
 go_step
 go_step
 refine boxes2l fun W hB hsz b0 b1 => ?_
 go_wp2_with first | (refine wpList_load_box rfl 37 (.tmp 2) rfl w.heap.size rfl 37 C b0 _ Tryz.underlying37 rfl hi ?_) | (refine wpList_store_box rfl 37 (.tmp 4) (.tmp 10) rfl (w.heap.size + 1) 0 37 _ C C rfl rfl b1 hi (Nat.le_of_eq (by rw [hC]; rfl)) h1 (whole_new (by rw [hC]; rfl)) ?_; intro W2 hk2 b12)
 refine bodyPost_ret (b12.results rfl _ _ rfl Tryz.underlying37 rfl hi) rfl ?_
 exact ⟨rfl, hk2.below hB (by omega) (by omega)⟩
theorem musti_ok (z : Int) (w : World) : Calls Tryz.prog 263 #[.int .i64 z, .int .i64 0] w fun e w' => e = .returned (.int .i64 z) ∧ w' = w := by
 go_enter Tryz.func263, Tryz.ntmps263
 go_wp2
 go_ret
 exact ⟨rfl, rfl⟩
theorem pof_ok (n d : Int) (d0 : d ≠ 0) (w : World) (a1 : -9223372036854775808 ≤ n) (a2 : n ≤ 9223372036854775807) (b1 : -9223372036854775808 ≤ d) (b2 : d ≤ 9223372036854775807) :
  Calls Tryz.prog 262 #[.int .i64 n, .int .i64 d] w fun e w' => ∃ C, e = .returned (.agg C) ∧ QV w' (.agg C) (Rat.divInt n d) ∧ Below w.heap.size w w' := by
 go_enter Tryz.func262, Tryz.ntmps262
 go_wp2_with fail
 refine boxes1c fun W hB hs bR => ?_
 refine (qof_ok n d d0 W a1 a2 b1 b2).mono ?_
 rintro e W1 ⟨r, rfl, hr, hb⟩
 obtain ⟨C, rfl, hC, h1⟩ := hr.cells
 have hi : (Tryz.prog.info? 37).map (·.size) = some C.size := by rw [hC]; exact sizeQuot
 replace hB := belowCall hB hb
 replace bR := bR.below hb
 clear hb a1 a2 b1 b2 d0
 go_wp2_with first | (go_at_call 281; refine (mustq_ok C hC h1 _).mono ?_; rintro e W2 ⟨rfl, hb2⟩; have bR2 := bR.below hb2; have lR := bR.lt) | (refine wpList_store_box rfl 37 (.tmp 4) (.tmp 10) rfl w.heap.size 0 37 _ C C rfl rfl bR2 hi (Nat.le_of_eq (by rw [hC]; rfl)) h1 (whole_new (by rw [hC]; rfl)) ?_; intro W3 hk3 b3)
 refine bodyPost_ret (b3.results rfl _ _ rfl Tryz.underlying37 rfl hi) rfl ?_
 exact ⟨C, rfl, hr.ext ((Ext.of_below hb2).trans (hk3.ext bR2 (by decide))), hk3.below (belowCall hB hb2) (by omega) (by have := hB.size; have := hb2.size; omega)⟩
end Go.Proofs.YtdgodcgdlfjpaaaGreatDoor
namespace Go.Mono
open Go.RowKit
def Lns.vvals (a : Lns) (q : Plc) (k : Int) : Array Value :=
 #[.string a.nm, .int .i64 a.di, .int .i64 a.pu, .int .i64 a.st, .int .i64 a.pr, .slice q.pf a.nf q.cf, .slice q.pw a.nw q.cw, .slice q.ps a.ns q.cs, .slice q.pc 0 q.cc, .slice q.pi a.ns q.ci, .int .i64 k]
def Lns.nI (a : Lns) (k s : Nat) : Rat := Rat.divInt (a.ix s k * a.sgn (s + 1)) 10000000
def Lns.nB (a : Lns) (k s : Nat) : Rat := if s = 0 then Rat.divInt 1 1 else a.nI k (s - 1)
theorem sg_bound {n g : Int} (h1 : 10000000 ≤ n) (h2 : n ≤ 40000000) (hg : g = 1 ∨ g = -1) : -40000000 ≤ n * g ∧ n * g ≤ 40000000 := by
 rcases hg with rfl | rfl <;> omega
end Go.Mono
namespace Go.Proofs.YtdgodcgdlfjpaaaGreatDoor
open Go.RowKit Go.Mono
theorem index_ok (a : Lns) (ha : a.opt) (q : Plc) (hchk : Chk a q) (s k : Nat) (w : World) (h : OptAt w a q) (s1 : s < a.ns) (k1 : k < a.nw) :
  Calls Tryz.prog 241 #[.agg (a.vvals q k), .int .i64 (s : Int)] w fun e w' => ∃ C, e = .returned (.agg C) ∧ QV w' (.agg C) (a.nI k s) ∧ Below w.heap.size w w' := by
 have hbe := fun W (hW : Below w.heap.size w W) => behind_ok a q hchk s k W (h.below hW) s1 k1
 have hsi := fun W (hW : Below w.heap.size w W) => sign_ok a q hchk s W (h.below hW) s1 (by omega) ha.base.ns.2
 obtain ⟨i1, i2⟩ := ha.ir s k s1 k1
 have hsg := a.sgn_cases (s + 1)
 obtain ⟨g1, g2⟩ := sg_bound i1 i2 hsg
 have hwr : IntKind.i64.wrap (a.ix s k * a.sgn (s + 1)) = a.ix s k * a.sgn (s + 1) := by rw [IntKind.wrap_i64]; omega
 have hpo := fun W => pof_ok (a.ix s k * a.sgn (s + 1)) 10000000 (by decide) W (by omega) (by omega) (by decide) (by decide)
 rw [show Rat.divInt (a.ix s k * a.sgn (s + 1)) 10000000 = a.nI k s from rfl] at hpo
 have s0 : ¬ ((s : Int) < 0) := by omega
 simp only [Lns.ovals] at hbe hsi
 simp only [Lns.vvals]
 generalize a.nI k s = rr at *
 generalize a.ix s k = n at *
 generalize a.sgn (s + 1) = g at *
 clear hchk h ha hsg i1 i2
 go_enter Tryz.func241, Tryz.ntmps241
 go_wp2_with fail
 refine boxes2c fun W hB hs bV bR => ?_
 refine (hbe W hB).mono ?_
 rintro e W1 ⟨rfl, hb⟩
 replace hB := belowCall hB hb
 replace bV := bV.below hb
 replace bR := bR.below hb
 have cV := bV.cell
 have lV := bV.lt
 clear hb
 go_wp2_with first | (go_at_call 263; refine (musti_ok _ _).mono ?_; rintro e w5 ⟨rfl, h5⟩; rw [h5]; clear h5 w5)
 refine (hsi W1 hB).mono ?_
 rintro e W2 ⟨rfl, hb⟩
 replace hB := belowCall hB hb
 replace bR := bR.below hb
 clear hb cV lV bV
 go_wp2_with first | (go_at_call 263; refine (musti_ok _ _).mono ?_; rintro e w5 ⟨rfl, h5⟩; rw [h5]; clear h5 w5)
 refine (hpo W2).mono ?_
 rintro e W3 ⟨C, rfl, hr, hb⟩
 obtain ⟨C', hC', hC, h1⟩ := hr.cells
 cases hC'
 have hi : (Tryz.prog.info? 37).map (·.size) = some C.size := by rw [hC]; exact sizeQuot
 replace hB := belowCall hB hb
 replace bR := bR.below hb
 have lR := bR.lt
 go_wp2_with (refine wpList_store_box rfl 37 (.tmp 4) (.tmp 27) rfl (w.heap.size + 1) 0 37 _ C C rfl rfl bR hi (Nat.le_of_eq (by rw [hC]; rfl)) h1 (whole_new (by rw [hC]; rfl)) ?_; intro W4 hk4 b4)
 refine bodyPost_ret (b4.results rfl _ _ rfl Tryz.underlying37 rfl hi) rfl ?_
 exact ⟨C, rfl, hr.ext (hk4.ext bR (by decide)), hk4.below hB (by omega) hB.size⟩
theorem index_air (V : Array Value) (hV : V.size = 11) (w : World) :
  Calls Tryz.prog 241 #[.agg V, .int .i64 (-1)] w fun e w' => ∃ C, e = .returned (.agg C) ∧ QV w' (.agg C) (Rat.divInt 1 1) ∧ Below w.heap.size w w' := by
 have hpo := fun W => pof_ok 1 1 (by decide) W (by decide) (by decide) (by decide) (by decide)
 go_enter Tryz.func241, Tryz.ntmps241
 go_wp2_with fail
 refine boxes2c fun W hB hs bV bR => ?_
 refine (hpo W).mono ?_
 rintro e W3 ⟨C, rfl, hr, hb⟩
 obtain ⟨C', hC', hC, h1⟩ := hr.cells
 cases hC'
 have hi : (Tryz.prog.info? 37).map (·.size) = some C.size := by rw [hC]; exact sizeQuot
 replace hB := belowCall hB hb
 replace bR := bR.below hb
 have lR := bR.lt
 go_wp2_with (refine wpList_store_box rfl 37 (.tmp 4) (.tmp 8) rfl (w.heap.size + 1) 0 37 _ C C rfl rfl bR hi (Nat.le_of_eq (by rw [hC]; rfl)) h1 (whole_new (by rw [hC]; rfl)) ?_; intro W4 hk4 b4)
 refine bodyPost_ret (b4.results rfl _ _ rfl Tryz.underlying37 rfl hi) rfl ?_
 exact ⟨C, rfl, hr.ext (hk4.ext bR (by decide)), hk4.below hB (by omega) hB.size⟩
end Go.Proofs.YtdgodcgdlfjpaaaGreatDoor
namespace Go.Mono
open Go.RowKit
def BoxQ (w : World) (B : Nat) (T : TypeId) (q : Rat) : Prop := ∃ p k c p' k' c', Box w B T #[.bool (decide (q.num < 0)), .slice p k c, .bool false, .slice p' k' c'] ∧ QV w (.agg #[.bool (decide (q.num < 0)), .slice p k c, .bool false, .slice p' k' c']) q
theorem BoxQ.below {w w' : World} {B : Nat} {T : TypeId} {q : Rat} (h : BoxQ w B T q) (hB : Below w.heap.size w w') : BoxQ w' B T q := by
 obtain ⟨p, k, c, p', k', c', b, r⟩ := h
 exact ⟨p, k, c, p', k', c', b.below hB, r.ext (.of_below hB)⟩
theorem boxq_new {w : World} {T : TypeId} {q : Rat} {p : Option Addr} {k c : Nat} {p' : Option Addr} {k' c' : Nat} (r : QV w (.agg #[.bool (decide (q.num < 0)), .slice p k c, .bool false, .slice p' k' c']) q) :
  BoxQ (w.alloc (.cells #[.bool (decide (q.num < 0)), .slice p k c, .bool false, .slice p' k' c'] T)) w.heap.size T q :=
 ⟨p, k, c, p', k', c', Box.new _ _ _, r.ext ((Ext.refl _).alloc _)⟩
theorem boxq_set {w : World} {B : Nat} {T : TypeId} {q : Rat} {p : Option Addr} {k c : Nat} {p' : Option Addr} {k' c' : Nat} {o0 o1 o2 o3 : Value} (hT : T ≠ 3) (b : Box w B T #[o0, o1, o2, o3]) (r : QV w (.agg #[.bool (decide (q.num < 0)), .slice p k c, .bool false, .slice p' k' c']) q) :
  BoxQ ((((w.setCell ⟨B, 0, none⟩ (.bool (decide (q.num < 0)))).setCell ⟨B, 1, none⟩ (.slice p k c)).setCell ⟨B, 2, none⟩ (.bool false)).setCell ⟨B, 3, none⟩ (.slice p' k' c')) B T q := by
 have b1 := b.set 0 (.bool (decide (q.num < 0)))
 have b2 := b1.set 1 (.slice p k c)
 have b3 := b2.set 2 (.bool false)
 have b4 := b3.set 3 (.slice p' k' c')
 exact ⟨p, k, c, p', k', c', b4, r.ext (((((Ext.refl w).set b hT 0 _).set b1 hT 1 _).set b2 hT 2 _).set b3 hT 3 _)⟩
def Lns.step (a : Lns) (k s : Nat) : Rat := a.nI k s - a.nB k s
def Lns.cv (a : Lns) (s : Nat) : Rat := Rat.divInt (a.S s).curv 1000000000
def Lns.gr (a : Lns) (k s : Nat) : Rat := Rat.divInt (2 * (a.S s).order * (a.S s).p0) 10000000 * Rat.divInt (a.L k) 10000000
def Lns.pow (a : Lns) (k s : Nat) : Rat := if (a.S s).kind = 3 then Rat.divInt 0 1 else if (a.S s).kind = 4 then a.cv s else a.cv s * a.step k s - a.gr k s
end Go.Mono
namespace Go.Proofs.YtdgodcgdlfjpaaaGreatDoor
open Go.RowKit Go.Mono
theorem flat_ok (V : Array Value) (s : Int) (w : World) :
  Calls Tryz.prog 328 #[.agg V, .int .i64 s] w fun e w' => ∃ C, e = .returned (.agg C) ∧ QV w' (.agg C) (Rat.divInt 0 1) ∧ Below w.heap.size w w' := by
 have hpo := fun W => pof_ok 0 1 (by decide) W (by decide) (by decide) (by decide) (by decide)
 go_enter Tryz.func328, Tryz.ntmps328
 go_wp2_with fail
 refine boxes2c fun W hB hs bV bR => ?_
 refine (hpo W).mono ?_
 rintro e W3 ⟨C, rfl, hr, hb⟩
 obtain ⟨C', hC', hC, h1⟩ := hr.cells
 cases hC'
 have hi : (Tryz.prog.info? 37).map (·.size) = some C.size := by rw [hC]; exact sizeQuot
 replace hB := belowCall hB hb
 replace bR := bR.below hb
 have lR := bR.lt
 go_wp2_with (refine wpList_store_box rfl 37 (.tmp 4) (.tmp 5) rfl (w.heap.size + 1) 0 37 _ C C rfl rfl bR hi (Nat.le_of_eq (by rw [hC]; rfl)) h1 (whole_new (by rw [hC]; rfl)) ?_; intro W4 hk4 b4)
 refine bodyPost_ret (b4.results rfl _ _ rfl Tryz.underlying37 rfl hi) rfl ?_
 exact ⟨C, rfl, hr.ext (hk4.ext bR (by decide)), hk4.below hB (by omega) hB.size⟩
theorem ideal_ok (a : Lns) (q : Plc) (s k : Nat) (w : World) (h : OptAt w a q) (s1 : s < a.ns) (hc1 : -1000000000 ≤ (a.S s).curv) (hc2 : (a.S s).curv ≤ 1000000000) :
  Calls Tryz.prog 329 #[.agg (a.vvals q k), .int .i64 (s : Int)] w fun e w' => ∃ C, e = .returned (.agg C) ∧ QV w' (.agg C) (a.cv s) ∧ Below w.heap.size w w' := by
 have hpo := fun W => pof_ok (a.S s).curv 1000000000 (by decide) W (by omega) (by omega) (by decide) (by decide)
 rw [show Rat.divInt (a.S s).curv 1000000000 = a.cv s from rfl] at hpo
 obtain ⟨b, off, hps, hbl, hcell⟩ := h.surfs.2.2 (by omega)
 have f1 : w.cell? ⟨b, off + s * 22 + 1, none⟩ = some (.int .i64 (a.S s).curv) := hcell s 1 s1 (by omega)
 simp only [Lns.vvals]
 rw [hps]
 have s1' : (s : Int) < a.ns := by omega
 clear hcell h hc1 hc2
 generalize (a.S s).curv = cu at *
 generalize a.cv s = rr at *
 go_enter Tryz.func329, Tryz.ntmps329
 go_wp2_with fail
 refine boxes2c fun W hB hs bV bR => ?_
 refine (hpo W).mono ?_
 rintro e W3 ⟨C, rfl, hr, hb⟩
 obtain ⟨C', hC', hC, h1⟩ := hr.cells
 cases hC'
 have hi : (Tryz.prog.info? 37).map (·.size) = some C.size := by rw [hC]; exact sizeQuot
 replace hB := belowCall hB hb
 replace bR := bR.below hb
 have lR := bR.lt
 go_wp2_with (refine wpList_store_box rfl 37 (.tmp 4) (.tmp 13) rfl (w.heap.size + 1) 0 37 _ C C rfl rfl bR hi (Nat.le_of_eq (by rw [hC]; rfl)) h1 (whole_new (by rw [hC]; rfl)) ?_; intro W4 hk4 b4)
 refine bodyPost_ret (b4.results rfl _ _ rfl Tryz.underlying37 rfl hi) rfl ?_
 exact ⟨C, rfl, hr.ext (hk4.ext bR (by decide)), hk4.below hB (by omega) hB.size⟩
theorem indexB_ok (a : Lns) (ha : a.opt) (q : Plc) (hchk : Chk a q) (s k : Nat) (w : World) (h : OptAt w a q) (s1 : s < a.ns) (k1 : k < a.nw) :
  Calls Tryz.prog 241 #[.agg (a.vvals q k), .int .i64 ((s : Int) - 1)] w fun e w' => ∃ C, e = .returned (.agg C) ∧ QV w' (.agg C) (a.nB k s) ∧ Below w.heap.size w w' := by
 cases s with
 | zero => exact index_air _ rfl w
 | succ t =>
   rw [show ((t + 1 : Nat) : Int) - 1 = (t : Int) by omega]
   have := index_ok a ha q hchk t k w h (by omega) k1
   simpa [Lns.nB] using this
end Go.Proofs.YtdgodcgdlfjpaaaGreatDoor
