/- Part 33 of 52 of the proof that the law ParaxialKnown returns true, whatever stands in memory, if the two listed variables hold what the text lays: contracts of the functions that it reaches. No condition beside the row. -/
import Derived.Outline
import Derived.Test.YtepodcocemmejaaGreatDoorA15
import Derived.Test.YtepodcocemmejaaGreatDoorA16
import Derived.Test.YtepodcocemmejaaGreatDoorA32
set_option linter.unusedVariables false
set_option linter.unusedSimpArgs false
namespace Go.Mono
open Go.RowKit
/-- the sign behind k surfaces -/
def Lns.sgn (a : Lns) : Nat → Int
  | 0 => 1
  | k + 1 => if (a.S k).glass = mirror then - a.sgn k else a.sgn k
theorem Lns.sgn_cases (a : Lns) : ∀ k, a.sgn k = 1 ∨ a.sgn k = -1
  | 0 => .inl rfl
  | k + 1 => by
    have := a.sgn_cases k
    unfold Lns.sgn
    split <;> omega
end Go.Mono
namespace Go.Proofs.YtepodcocemmejaaGreatDoor
open Go.RowKit Go.Mono
/-- optics.Check accepts the optics, wherever it lies so -/
def Chk (a : Lns) (q : Plc) : Prop := ∀ W, OptAt W a q → Calls Tryz.prog 94 #[.agg (a.ovals q)] W fun e w' => e = .returned (.int .i64 0) ∧ Below W.heap.size W w'
set_option maxRecDepth 100000 in
set_option maxHeartbeats 1000000 in
theorem asked_ok (a : Lns) (q : Plc) (hchk : Chk a q) (s k : Int) (w : World) (h : OptAt w a q) (s0 : 0 ≤ s) (s1 : s < a.ns) (k0 : 0 ≤ k) (k1 : k < a.nw) :
    Calls Tryz.prog 159 #[.agg (a.ovals q), .int .i64 s, .int .i64 k] w fun e w' => e = .returned (.int .i64 0) ∧ Below w.heap.size w w' := by
  have hc := fun W (hW : Below w.heap.size w W) => hchk W (h.below hW)
  simp only [Lns.ovals] at hc ⊢
  clear hchk h
  go_enter Tryz.func159, Tryz.ntmps159
  go_wp2_with fail
  refine boxes1c fun W hB hs bO => ?_
  refine (hc W hB).mono ?_
  rintro e w' ⟨rfl, hb⟩
  replace bO := bO.below hb
  have cO := bO.cell
  have lO := bO.lt
  go_wp2
  go_ret
  exact ⟨rfl, belowCall hB hb⟩
set_option maxRecDepth 100000 in
set_option maxHeartbeats 1000000 in
theorem behind_ok (a : Lns) (q : Plc) (hchk : Chk a q) (s k : Nat) (w : World) (h : OptAt w a q) (s1 : s < a.ns) (k1 : k < a.nw) :
    Calls Tryz.prog 111 #[.agg (a.ovals q), .int .i64 (s : Int), .int .i64 (k : Int)] w fun e w' => e = .returned (.tuple #[.int .i64 (a.ix s k), .int .i64 0]) ∧ Below w.heap.size w w' := by
  have hc := fun W (hW : Below w.heap.size w W) => asked_ok a q hchk s k W (h.below hW) (by omega) (by omega) (by omega) (by omega)
  obtain ⟨b, off, hpi, hb, hix⟩ := h.index.2.2 (by omega)
  obtain ⟨b2, off2, hpI, hb2, hrow⟩ := (h.row s s1).2.2 (by omega)
  have c1 := hix s 0 s1 (by omega)
  have c2 := hrow k k1
  simp only [Nat.mul_one, Nat.add_zero] at c1
  simp only [Lns.ovals] at hc ⊢
  rw [hpi] at hc ⊢
  rw [hpI] at c1
  have s1' : (s : Int) < a.ns := by omega
  have k1' : (k : Int) < a.nw := by omega
  clear hchk h hix hrow
  go_enter Tryz.func111, Tryz.ntmps111
  go_wp2_with fail
  refine boxes1c fun W hB hs bO => ?_
  refine (hc W hB).mono ?_
  rintro e w' ⟨rfl, hbw⟩
  replace bO := bO.below hbw
  have hBw := belowCall hB hbw
  have cO := bO.cell
  have lO := bO.lt
  replace c1 := (hBw.cell (p := ⟨b, off + s, none⟩) hb).trans c1
  replace c2 := (hBw.cell (p := ⟨b2, off2 + k, none⟩) hb2).trans c2
  go_wp2
  go_ret2
  exact ⟨rfl, hBw⟩
set_option maxRecDepth 100000 in
set_option maxHeartbeats 1000000 in
theorem sign_ok (a : Lns) (q : Plc) (hchk : Chk a q) (s : Nat) (w : World) (h : OptAt w a q) (s1 : s < a.ns) (k1 : 0 < a.nw) (hns : a.ns ≤ 16) :
    Calls Tryz.prog 112 #[.agg (a.ovals q), .int .i64 (s : Int)] w fun e w' => e = .returned (.tuple #[.int .i64 (a.sgn (s + 1)), .int .i64 0]) ∧ Below w.heap.size w w' := by
  have hc := fun W (hW : Below w.heap.size w W) => asked_ok a q hchk s 0 W (h.below hW) (by omega) (by omega) (by omega) (by omega)
  obtain ⟨b, off, hps, hbl, hcell⟩ := h.surfs.2.2 (by omega)
  have hcap := h.surfs.1
  dsimp only at hcell
  simp only [Lns.ovals] at hc ⊢
  rw [hps] at hc ⊢
  have s1' : (s : Int) < a.ns := by omega
  have s2 : (s : Int) + 1 ≤ a.ns := by omega
  have s3 : (s : Int) + 1 ≤ q.cs := by omega
  have s4 : IntKind.i64.wrap ((s : Int) + 1) = (s : Int) + 1 := by rw [IntKind.wrap_i64]; omega
  clear hchk h
  go_enter Tryz.func112, Tryz.ntmps112
  go_wp2_with fail
  refine boxes1c fun W hB hs bO => ?_
  refine (hc W hB).mono ?_
  rintro e w' ⟨rfl, hbw⟩
  replace bO := bO.below hbw
  have hBw := belowCall hB hbw
  have cO := bO.cell
  have lO := bO.lt
  go_wp2
  go_loopw [7, 23] (fun x y wr => ∃ k : Nat, k ≤ s + 1 ∧ x = .int .i64 (a.sgn k) ∧ y = .int .i64 (k : Int) ∧ Below w.heap.size w wr) (fun _ y _ => (s + 1 - intOf y).toNat)
  case atStart => exact ⟨0, Nat.zero_le _, rfl, rfl, hBw⟩
  case round =>
    obtain ⟨k, hk, rfl, rfl, hBr⟩ := hrel
    clear hBw cO lO
    by_cases hks : k < s + 1
    · have hcel := hcell k
      have hsz : (Tryz.prog.info? 95).map (·.size) = some ((a.S k).cs (q.cp k) (q.cl k)).size := by kernel_rfl
      have hsl : (Tryz.prog.info? 95).map (·.size) = some ((a.S k).cs (q.cp k) (q.cl k)).toList.length := by kernel_rfl
      have g13 : ((a.S k).cs (q.cp k) (q.cl k))[13]? = some (.string (a.S k).glass) := rfl
      have g1 : ((a.S k).cs (q.cp k) (q.cl k)).all (·.oneCell') = true := by simp [Srf.cs, Value.oneCell']
      have gz : ((a.S k).cs (q.cp k) (q.cl k)).size = 22 := rfl
      have hrange : wr.rangeAt b (off + k * 22) ((a.S k).cs (q.cp k) (q.cl k)).toList := fun j v hv => by
        have hj : j < 22 := by
          have := (List.getElem?_eq_some_iff.1 hv).1
          simpa [gz] using this
        refine ((hBr.cell (p := ⟨b, off + k * 22 + j, none⟩) hbl).trans (hcel j (by omega) hj)).trans ?_
        rw [Array.getElem?_toList] at hv
        rw [Array.getD_eq_getD_getElem?, hv]
        rfl
      have hks' : (k : Int) < (s : Int) + 1 := by omega
      have hsg : a.sgn (k + 1) = if (a.S k).glass = mirror then - a.sgn k else a.sgn k := rfl
      have hsc := a.sgn_cases k
      generalize (a.S k).cs (q.cp k) (q.cl k) = A at *
      generalize (a.S k).glass = G at *
      generalize a.sgn k = sg at *
      clear hcell hcel hc
      by_cases hG : G = mirror
      · rw [if_pos hG] at hsg
        unfold mirror at hG
        subst hG
        have hwr : IntKind.i64.wrap (-sg) = -sg := by rw [IntKind.wrap_i64]; omega
        clear hsc
        go_wp2_with first | (refine wpList_load_mid rfl 95 _ rfl b (off + k * 22) rfl A.toList _ hrange Tryz.underlying95 rfl hsl ?_) | (refine wpList_new rfl 95 rfl _ alloc_surface ?_; intro W1 B1 hle hB1 b1) | (refine wpList_store_box rfl 95 (.tmp 9) (.tmp 26) rfl B1 0 95 _ A A rfl rfl b1 hsz (Nat.le_of_eq (by rw [gz]; rfl)) g1 (whole_new (by rw [gz]; rfl)) ?_; intro W2 hk2 b2; have hBW2 : Below wr.heap.size wr W2 := hk2.below hB1 hle hB1.size; have f13 := (b2.cell 13).trans g13; have lb2 := b2.lt)
        go_roundw
        case rel => exact ⟨k + 1, by omega, by rw [hsg], by simp, belowCall hBr hBW2⟩
        case measure => simp [intOf]; omega
      · have hne := bytes_ne hG
        rw [if_neg hG] at hsg
        clear hG hsc
        go_wp2_with first | (refine wpList_load_mid rfl 95 _ rfl b (off + k * 22) rfl A.toList _ hrange Tryz.underlying95 rfl hsl ?_) | (refine wpList_new rfl 95 rfl _ alloc_surface ?_; intro W1 B1 hle hB1 b1) | (refine wpList_store_box rfl 95 (.tmp 9) (.tmp 26) rfl B1 0 95 _ A A rfl rfl b1 hsz (Nat.le_of_eq (by rw [gz]; rfl)) g1 (whole_new (by rw [gz]; rfl)) ?_; intro W2 hk2 b2; have hBW2 : Below wr.heap.size wr W2 := hk2.below hB1 hle hB1.size; have f13 := (b2.cell 13).trans g13; have lb2 := b2.lt)
        go_roundw
        case rel => exact ⟨k + 1, by omega, by rw [hsg], by simp, belowCall hBr hBW2⟩
        case measure => simp [intOf]; omega
    · obtain rfl : k = s + 1 := by omega
      clear hcell hc
      go_wp2
      go_ret2
      exact ⟨rfl, hBr⟩
end Go.Proofs.YtepodcocemmejaaGreatDoor
namespace Go.Mono
open Go.RowKit
/-- a Quot's cells -/
theorem QV.cells {w : World} {v : Value} {q : Rat} (h : QV w v q) : ∃ C : Array Value, v = .agg C ∧ C.size = 4 ∧ C.all (·.oneCell') = true := by
  obtain ⟨p, k, c, p', k', c', rfl, _, _⟩ := h
  exact ⟨_, rfl, rfl, by simp [Value.oneCell']⟩
end Go.Mono
namespace Go.Proofs.YtepodcocemmejaaGreatDoor
open Go.RowKit Go.Mono
theorem sizeQuot : (Tryz.prog.info? 54).map (·.size) = some 4 := by kernel_rfl
set_option maxRecDepth 100000 in
theorem mustq_ok (C : Array Value) (hC : C.size = 4) (h1 : C.all (·.oneCell') = true) (w : World) :
    Calls Tryz.prog 66 #[.agg C, .int .i64 0] w fun e w' => e = .returned (.agg C) ∧ Below w.heap.size w w' := by
  have hi : (Tryz.prog.info? 54).map (·.size) = some C.size := by rw [hC]; exact sizeQuot
  go_enter Tryz.func66, Tryz.ntmps66
  go_step
  go_step
  go_step
  go_step
  go_step
  go_step
  go_step
  go_step
  go_step
  refine boxes2l fun W hB hsz b0 b1 => ?_
  go_wp2_with first | (refine wpList_load_box rfl 54 (.tmp 2) rfl w.heap.size rfl 54 C b0 _ Tryz.underlying54 rfl hi ?_) | (refine wpList_store_box rfl 54 (.tmp 4) (.tmp 10) rfl (w.heap.size + 1) 0 54 _ C C rfl rfl b1 hi (Nat.le_of_eq (by rw [hC]; rfl)) h1 (whole_new (by rw [hC]; rfl)) ?_; intro W2 hk2 b12)
  refine bodyPost_ret (b12.results rfl _ _ rfl Tryz.underlying54 rfl hi) rfl ?_
  exact ⟨rfl, hk2.below hB (by omega) (by omega)⟩
theorem musti_ok (z : Int) (w : World) : Calls Tryz.prog 110 #[.int .i64 z, .int .i64 0] w fun e w' => e = .returned (.int .i64 z) ∧ w' = w := by
  go_enter Tryz.func110, Tryz.ntmps110
  go_wp2
  go_ret
  exact ⟨rfl, rfl⟩
set_option maxRecDepth 100000 in
theorem pof_ok (n d : Int) (d0 : d ≠ 0) (w : World) (a1 : -9223372036854775808 ≤ n) (a2 : n ≤ 9223372036854775807) (b1 : -9223372036854775808 ≤ d) (b2 : d ≤ 9223372036854775807) :
    Calls Tryz.prog 97 #[.int .i64 n, .int .i64 d] w fun e w' => ∃ C, e = .returned (.agg C) ∧ QV w' (.agg C) (Rat.divInt n d) ∧ Below w.heap.size w w' := by
  go_enter Tryz.func97, Tryz.ntmps97
  go_wp2_with fail
  refine boxes1c fun W hB hs bR => ?_
  refine (qof_ok n d d0 W a1 a2 b1 b2).mono ?_
  rintro e W1 ⟨r, rfl, hr, hb⟩
  obtain ⟨C, rfl, hC, h1⟩ := hr.cells
  have hi : (Tryz.prog.info? 54).map (·.size) = some C.size := by rw [hC]; exact sizeQuot
  replace hB := belowCall hB hb
  replace bR := bR.below hb
  clear hb a1 a2 b1 b2 d0
  go_wp2_with first | (go_at_call 66; refine (mustq_ok C hC h1 _).mono ?_; rintro e W2 ⟨rfl, hb2⟩; have bR2 := bR.below hb2; have lR := bR.lt) | (refine wpList_store_box rfl 54 (.tmp 4) (.tmp 10) rfl w.heap.size 0 54 _ C C rfl rfl bR2 hi (Nat.le_of_eq (by rw [hC]; rfl)) h1 (whole_new (by rw [hC]; rfl)) ?_; intro W3 hk3 b3)
  refine bodyPost_ret (b3.results rfl _ _ rfl Tryz.underlying54 rfl hi) rfl ?_
  exact ⟨C, rfl, hr.ext ((Ext.of_below hb2).trans (hk3.ext bR2 (by decide))), hk3.below (belowCall hB hb2) (by omega) (by have := hB.size; have := hb2.size; omega)⟩
end Go.Proofs.YtepodcocemmejaaGreatDoor
namespace Go.Mono
open Go.RowKit
/-- a view: the optics, and a wave -/
def Lns.vvals (a : Lns) (q : Plc) (k : Int) : Array Value :=
  #[.string a.nm, .int .i64 a.di, .int .i64 a.pu, .int .i64 a.st, .int .i64 a.pr, .slice q.pf a.nf q.cf, .slice q.pw a.nw q.cw, .slice q.ps a.ns q.cs, .slice q.pc 0 q.cc, .slice q.pi a.ns q.ci, .int .i64 k]
/-- the index behind a surface, with its sign -/
def Lns.nI (a : Lns) (k s : Nat) : Rat := Rat.divInt (a.ix s k * a.sgn (s + 1)) 10000000
/-- the index ahead of a surface -/
def Lns.nB (a : Lns) (k s : Nat) : Rat := if s = 0 then Rat.divInt 1 1 else a.nI k (s - 1)
theorem sg_bound {n g : Int} (h1 : 10000000 ≤ n) (h2 : n ≤ 40000000) (hg : g = 1 ∨ g = -1) : -40000000 ≤ n * g ∧ n * g ≤ 40000000 := by
  rcases hg with rfl | rfl <;> omega
end Go.Mono
namespace Go.Proofs.YtepodcocemmejaaGreatDoor
open Go.RowKit Go.Mono
set_option maxRecDepth 100000 in
set_option maxHeartbeats 1000000 in
theorem index_ok (a : Lns) (ha : a.opt) (q : Plc) (hchk : Chk a q) (s k : Nat) (w : World) (h : OptAt w a q) (s1 : s < a.ns) (k1 : k < a.nw) :
    Calls Tryz.prog 68 #[.agg (a.vvals q k), .int .i64 (s : Int)] w fun e w' => ∃ C, e = .returned (.agg C) ∧ QV w' (.agg C) (a.nI k s) ∧ Below w.heap.size w w' := by
  have hbe := fun W (hW : Below w.heap.size w W) => behind_ok a q hchk s k W (h.below hW) s1 k1
  have hsi := fun W (hW : Below w.heap.size w W) => sign_ok a q hchk s W (h.below hW) s1 (by omega) ha.base.ns.2
  obtain ⟨i1, i2⟩ := ha.ir s k s1 k1
  have hsg := a.sgn_cases (s + 1)
  obtain ⟨g1, g2⟩ := sg_bound i1 i2 hsg
  have hwr : IntKind.i64.wrap (a.ix s k * a.sgn (s + 1)) = a.ix s k * a.sgn (s + 1) := by rw [IntKind.wrap_i64]; omega
  have hpo := fun W => pof_ok (a.ix s k * a.sgn (s + 1)) 10000000 (by decide) W (by omega) (by omega) (by decide) (by decide)
  rw [show Rat.divInt (a.ix s k * a.sgn (s + 1)) 10000000 = a.nI k s from rfl] at hpo
  have s0 : ¬ ((s : Int) < 0) := by omega
  simp only [Lns.ovals] at hbe hsi
  simp only [Lns.vvals]
  generalize a.nI k s = rr at *
  generalize a.ix s k = n at *
  generalize a.sgn (s + 1) = g at *
  clear hchk h ha hsg i1 i2
  go_enter Tryz.func68, Tryz.ntmps68
  go_wp2_with fail
  refine boxes2c fun W hB hs bV bR => ?_
  refine (hbe W hB).mono ?_
  rintro e W1 ⟨rfl, hb⟩
  replace hB := belowCall hB hb
  replace bV := bV.below hb
  replace bR := bR.below hb
  have cV := bV.cell
  have lV := bV.lt
  clear hb
  go_wp2_with first | (go_at_call 110; refine (musti_ok _ _).mono ?_; rintro e w5 ⟨rfl, h5⟩; rw [h5]; clear h5 w5)
  refine (hsi W1 hB).mono ?_
  rintro e W2 ⟨rfl, hb⟩
  replace hB := belowCall hB hb
  replace bR := bR.below hb
  clear hb cV lV bV
  go_wp2_with first | (go_at_call 110; refine (musti_ok _ _).mono ?_; rintro e w5 ⟨rfl, h5⟩; rw [h5]; clear h5 w5)
  refine (hpo W2).mono ?_
  rintro e W3 ⟨C, rfl, hr, hb⟩
  obtain ⟨C', hC', hC, h1⟩ := hr.cells
  cases hC'
  have hi : (Tryz.prog.info? 54).map (·.size) = some C.size := by rw [hC]; exact sizeQuot
  replace hB := belowCall hB hb
  replace bR := bR.below hb
  have lR := bR.lt
  go_wp2_with (refine wpList_store_box rfl 54 (.tmp 4) (.tmp 27) rfl (w.heap.size + 1) 0 54 _ C C rfl rfl bR hi (Nat.le_of_eq (by rw [hC]; rfl)) h1 (whole_new (by rw [hC]; rfl)) ?_; intro W4 hk4 b4)
  refine bodyPost_ret (b4.results rfl _ _ rfl Tryz.underlying54 rfl hi) rfl ?_
  exact ⟨C, rfl, hr.ext (hk4.ext bR (by decide)), hk4.below hB (by omega) hB.size⟩
set_option maxRecDepth 100000 in
set_option maxHeartbeats 1000000 in
theorem index_air (V : Array Value) (hV : V.size = 11) (w : World) :
    Calls Tryz.prog 68 #[.agg V, .int .i64 (-1)] w fun e w' => ∃ C, e = .returned (.agg C) ∧ QV w' (.agg C) (Rat.divInt 1 1) ∧ Below w.heap.size w w' := by
  have hpo := fun W => pof_ok 1 1 (by decide) W (by decide) (by decide) (by decide) (by decide)
  go_enter Tryz.func68, Tryz.ntmps68
  go_wp2_with fail
  refine boxes2c fun W hB hs bV bR => ?_
  refine (hpo W).mono ?_
  rintro e W3 ⟨C, rfl, hr, hb⟩
  obtain ⟨C', hC', hC, h1⟩ := hr.cells
  cases hC'
  have hi : (Tryz.prog.info? 54).map (·.size) = some C.size := by rw [hC]; exact sizeQuot
  replace hB := belowCall hB hb
  replace bR := bR.below hb
  have lR := bR.lt
  go_wp2_with (refine wpList_store_box rfl 54 (.tmp 4) (.tmp 8) rfl (w.heap.size + 1) 0 54 _ C C rfl rfl bR hi (Nat.le_of_eq (by rw [hC]; rfl)) h1 (whole_new (by rw [hC]; rfl)) ?_; intro W4 hk4 b4)
  refine bodyPost_ret (b4.results rfl _ _ rfl Tryz.underlying54 rfl hi) rfl ?_
  exact ⟨C, rfl, hr.ext (hk4.ext bR (by decide)), hk4.below hB (by omega) hB.size⟩
end Go.Proofs.YtepodcocemmejaaGreatDoor
namespace Go.Mono
open Go.RowKit
/-- a Quot's cells, one by one -/
def qc (q : Rat) (p : Option Addr) (k c : Nat) (p' : Option Addr) (k' c' : Nat) : Array Value := #[.bool (decide (q.num < 0)), .slice p k c, .bool false, .slice p' k' c']
/-- a box that holds a fraction -/
def BoxQ (w : World) (B : Nat) (T : TypeId) (q : Rat) : Prop := ∃ p k c p' k' c', Box w B T #[.bool (decide (q.num < 0)), .slice p k c, .bool false, .slice p' k' c'] ∧ QV w (.agg #[.bool (decide (q.num < 0)), .slice p k c, .bool false, .slice p' k' c']) q
theorem BoxQ.below {w w' : World} {B : Nat} {T : TypeId} {q : Rat} (h : BoxQ w B T q) (hB : Below w.heap.size w w') : BoxQ w' B T q := by
  obtain ⟨p, k, c, p', k', c', b, r⟩ := h
  exact ⟨p, k, c, p', k', c', b.below hB, r.ext (.of_below hB)⟩
theorem boxq_new {w : World} {T : TypeId} {q : Rat} {p : Option Addr} {k c : Nat} {p' : Option Addr} {k' c' : Nat} (r : QV w (.agg #[.bool (decide (q.num < 0)), .slice p k c, .bool false, .slice p' k' c']) q) :
    BoxQ (w.alloc (.cells #[.bool (decide (q.num < 0)), .slice p k c, .bool false, .slice p' k' c'] T)) w.heap.size T q :=
  ⟨p, k, c, p', k', c', Box.new _ _ _, r.ext ((Ext.refl _).alloc _)⟩
theorem boxq_set {w : World} {B : Nat} {T : TypeId} {q : Rat} {p : Option Addr} {k c : Nat} {p' : Option Addr} {k' c' : Nat} {o0 o1 o2 o3 : Value} (hT : T ≠ 3) (b : Box w B T #[o0, o1, o2, o3]) (r : QV w (.agg #[.bool (decide (q.num < 0)), .slice p k c, .bool false, .slice p' k' c']) q) :
    BoxQ ((((w.setCell ⟨B, 0, none⟩ (.bool (decide (q.num < 0)))).setCell ⟨B, 1, none⟩ (.slice p k c)).setCell ⟨B, 2, none⟩ (.bool false)).setCell ⟨B, 3, none⟩ (.slice p' k' c')) B T q := by
  have b1 := b.set 0 (.bool (decide (q.num < 0)))
  have b2 := b1.set 1 (.slice p k c)
  have b3 := b2.set 2 (.bool false)
  have b4 := b3.set 3 (.slice p' k' c')
  exact ⟨p, k, c, p', k', c', b4, r.ext (((((Ext.refl w).set b hT 0 _).set b1 hT 1 _).set b2 hT 2 _).set b3 hT 3 _)⟩
/-- the step of the index at a surface -/
def Lns.step (a : Lns) (k s : Nat) : Rat := a.nI k s - a.nB k s
def Lns.cv (a : Lns) (s : Nat) : Rat := Rat.divInt (a.S s).curv 1000000000
def Lns.gr (a : Lns) (k s : Nat) : Rat := Rat.divInt (2 * (a.S s).order * (a.S s).p0) 10000000 * Rat.divInt (a.L k) 10000000
/-- the power of a surface -/
def Lns.pow (a : Lns) (k s : Nat) : Rat := if (a.S s).kind = 3 then Rat.divInt 0 1 else if (a.S s).kind = 4 then a.cv s else a.cv s * a.step k s - a.gr k s
end Go.Mono
namespace Go.Proofs.YtepodcocemmejaaGreatDoor
open Go.RowKit Go.Mono
set_option maxRecDepth 100000 in
set_option maxHeartbeats 1000000 in
theorem flat_ok (V : Array Value) (s : Int) (w : World) :
    Calls Tryz.prog 283 #[.agg V, .int .i64 s] w fun e w' => ∃ C, e = .returned (.agg C) ∧ QV w' (.agg C) (Rat.divInt 0 1) ∧ Below w.heap.size w w' := by
  have hpo := fun W => pof_ok 0 1 (by decide) W (by decide) (by decide) (by decide) (by decide)
  go_enter Tryz.func283, Tryz.ntmps283
  go_wp2_with fail
  refine boxes2c fun W hB hs bV bR => ?_
  refine (hpo W).mono ?_
  rintro e W3 ⟨C, rfl, hr, hb⟩
  obtain ⟨C', hC', hC, h1⟩ := hr.cells
  cases hC'
  have hi : (Tryz.prog.info? 54).map (·.size) = some C.size := by rw [hC]; exact sizeQuot
  replace hB := belowCall hB hb
  replace bR := bR.below hb
  have lR := bR.lt
  go_wp2_with (refine wpList_store_box rfl 54 (.tmp 4) (.tmp 5) rfl (w.heap.size + 1) 0 54 _ C C rfl rfl bR hi (Nat.le_of_eq (by rw [hC]; rfl)) h1 (whole_new (by rw [hC]; rfl)) ?_; intro W4 hk4 b4)
  refine bodyPost_ret (b4.results rfl _ _ rfl Tryz.underlying54 rfl hi) rfl ?_
  exact ⟨C, rfl, hr.ext (hk4.ext bR (by decide)), hk4.below hB (by omega) hB.size⟩
set_option maxRecDepth 100000 in
set_option maxHeartbeats 1000000 in
theorem ideal_ok (a : Lns) (q : Plc) (s k : Nat) (w : World) (h : OptAt w a q) (s1 : s < a.ns) (hc1 : -1000000000 ≤ (a.S s).curv) (hc2 : (a.S s).curv ≤ 1000000000) :
    Calls Tryz.prog 284 #[.agg (a.vvals q k), .int .i64 (s : Int)] w fun e w' => ∃ C, e = .returned (.agg C) ∧ QV w' (.agg C) (a.cv s) ∧ Below w.heap.size w w' := by
  have hpo := fun W => pof_ok (a.S s).curv 1000000000 (by decide) W (by omega) (by omega) (by decide) (by decide)
  rw [show Rat.divInt (a.S s).curv 1000000000 = a.cv s from rfl] at hpo
  obtain ⟨b, off, hps, hbl, hcell⟩ := h.surfs.2.2 (by omega)
  have f1 : w.cell? ⟨b, off + s * 22 + 1, none⟩ = some (.int .i64 (a.S s).curv) := hcell s 1 s1 (by omega)
  simp only [Lns.vvals]
  rw [hps]
  have s1' : (s : Int) < a.ns := by omega
  clear hcell h hc1 hc2
  generalize (a.S s).curv = cu at *
  generalize a.cv s = rr at *
  go_enter Tryz.func284, Tryz.ntmps284
  go_wp2_with fail
  refine boxes2c fun W hB hs bV bR => ?_
  refine (hpo W).mono ?_
  rintro e W3 ⟨C, rfl, hr, hb⟩
  obtain ⟨C', hC', hC, h1⟩ := hr.cells
  cases hC'
  have hi : (Tryz.prog.info? 54).map (·.size) = some C.size := by rw [hC]; exact sizeQuot
  replace hB := belowCall hB hb
  replace bR := bR.below hb
  have lR := bR.lt
  go_wp2_with (refine wpList_store_box rfl 54 (.tmp 4) (.tmp 13) rfl (w.heap.size + 1) 0 54 _ C C rfl rfl bR hi (Nat.le_of_eq (by rw [hC]; rfl)) h1 (whole_new (by rw [hC]; rfl)) ?_; intro W4 hk4 b4)
  refine bodyPost_ret (b4.results rfl _ _ rfl Tryz.underlying54 rfl hi) rfl ?_
  exact ⟨C, rfl, hr.ext (hk4.ext bR (by decide)), hk4.below hB (by omega) hB.size⟩
/-- the index ahead of a surface -/
theorem indexB_ok (a : Lns) (ha : a.opt) (q : Plc) (hchk : Chk a q) (s k : Nat) (w : World) (h : OptAt w a q) (s1 : s < a.ns) (k1 : k < a.nw) :
    Calls Tryz.prog 68 #[.agg (a.vvals q k), .int .i64 ((s : Int) - 1)] w fun e w' => ∃ C, e = .returned (.agg C) ∧ QV w' (.agg C) (a.nB k s) ∧ Below w.heap.size w w' := by
  cases s with
  | zero => exact index_air _ rfl w
  | succ t =>
    rw [show ((t + 1 : Nat) : Int) - 1 = (t : Int) by omega]
    have := index_ok a ha q hchk t k w h (by omega) k1
    simpa [Lns.nB] using this
end Go.Proofs.YtepodcocemmejaaGreatDoor
namespace Go.Mono
open Go.RowKit
/-- blocks but R as in W; of R the first four cells -/
def KR (R : Nat) (W w : World) : Prop := KeepBut R W.heap.size W w ∧ ∀ o, o < 4 → w.cell? ⟨R, o, none⟩ = W.cell? ⟨R, o, none⟩
section
variable {R : Nat} {W w w' : World}
theorem KR.refl (R : Nat) (W : World) : KR R W W := ⟨KeepBut.refl _ _, fun _ _ => rfl⟩
theorem KR.drew (h : KR R W w) : KR R W w.drew := ⟨h.1.drew, h.2⟩
theorem KR.call (h : KR R W w) (hR : R < W.heap.size) (hb : Below w.heap.size w w') : KR R W w' :=
  ⟨h.1.call hb, fun o ho => (hb.cell (p := ⟨R, o, none⟩) (Nat.lt_of_lt_of_le hR h.1.size)).trans (h.2 o ho)⟩
theorem KR.alloc (h : KR R W w) (hR : R < W.heap.size) (x : Obj) : KR R W (w.alloc x) := h.call hR ((Below.refl _ _).alloc (Nat.le_refl _) x)
theorem KR.set (h : KR R W w) (i : Nat) (hi : 4 ≤ i) (u : Value) : KR R W (w.setCell ⟨R, i, none⟩ u) :=
  ⟨h.1.set i u, fun o ho => (World.cell?_setCell_other _ _ _ _ (by intro e; have := congrArg Addr.off e; simp at this; omega)).trans (h.2 o ho)⟩
theorem KR.ext (h : KR R W w) {T : TypeId} {cs : Array Value} (hb : Box W R T cs) (hT : T ≠ 3) : Ext W w := h.1.ext hb hT
theorem KR.S (h : KR R W w) : (∀ b o, b < W.heap.size → b ≠ R → w.cell? ⟨b, o, none⟩ = W.cell? ⟨b, o, none⟩) ∧ (∀ o, o < 4 → w.cell? ⟨R, o, none⟩ = W.cell? ⟨R, o, none⟩) ∧ KR R W w := ⟨h.1.cell, h.2, h⟩
end
theorem kr_range0 {R : Nat} {W w' : World} {T : TypeId} {a0 a1 a2 a3 a4 a5 a6 a7 : Value} (h : KR R W w') (b : Box W R T #[a0, a1, a2, a3, a4, a5, a6, a7]) : w'.rangeAt R 0 (#[a0, a1, a2, a3] : Array Value).toList := fun j v hv => by
  have hj : j < 4 := by
    have := (List.getElem?_eq_some_iff.1 hv).1
    simpa using this
  rw [Nat.zero_add, h.2 j hj, b.cell]
  match j, hv with
  | 0, hv => simpa using hv
  | 1, hv => simpa using hv
  | 2, hv => simpa using hv
  | 3, hv => simpa using hv
  | n + 4, hv => simp at hv
theorem hi_range {w : World} {B : Nat} {T : TypeId} {a0 a1 a2 a3 a4 a5 a6 a7 : Value} (b : Box w B T #[a0, a1, a2, a3, a4, a5, a6, a7]) : w.rangeAt B 4 (#[a4, a5, a6, a7] : Array Value).toList := fun j v hv => by
  rw [b.cell]
  match j, hv with
  | 0, hv => simpa using hv
  | 1, hv => simpa using hv
  | 2, hv => simpa using hv
  | 3, hv => simpa using hv
  | n + 4, hv => simp at hv
theorem lo_range {w : World} {B : Nat} {T : TypeId} {a0 a1 a2 a3 a4 a5 a6 a7 : Value} (b : Box w B T #[a0, a1, a2, a3, a4, a5, a6, a7]) : w.rangeAt B 0 (#[a0, a1, a2, a3] : Array Value).toList := fun j v hv => by
  rw [b.cell]
  match j, hv with
  | 0, hv => simpa using hv
  | 1, hv => simpa using hv
  | 2, hv => simpa using hv
  | 3, hv => simpa using hv
  | n + 4, hv => simp at hv
/-- a ray in its box -/
def RayAt (w : World) (R : Nat) (T : TypeId) (y u : Rat) : Prop :=
  ∃ p k c p' k' c' r l d r' l' d', Box w R T #[.bool (decide (y.num < 0)), .slice p k c, .bool false, .slice p' k' c', .bool (decide (u.num < 0)), .slice r l d, .bool false, .slice r' l' d'] ∧
    QV w (.agg #[.bool (decide (y.num < 0)), .slice p k c, .bool false, .slice p' k' c']) y ∧ QV w (.agg #[.bool (decide (u.num < 0)), .slice r l d, .bool false, .slice r' l' d']) u
theorem KeepBut.of_below {R : Nat} {w W w' : World} (hB : Below w.heap.size w W) (h : KeepBut R W.heap.size W w') : KeepBut R w.heap.size w w' :=
  ⟨h.os.trans hB.os, h.tape.trans hB.tape, h.output.trans hB.output, Nat.le_trans hB.size h.size, fun k hk hR => (h.block k (Nat.lt_of_lt_of_le hk hB.size) hR).trans (hB.block k hk)⟩
section
variable {w : World} {R : Nat} {T : TypeId} {y u : Rat} {p : Option Addr} {k c : Nat} {p' : Option Addr} {k' c' : Nat} {r : Option Addr} {l d : Nat} {r' : Option Addr} {l' d' : Nat} {o0 o1 o2 o3 : Value}
theorem rayW_set (hT : T ≠ 3) (b : Box w R T #[.bool (decide (y.num < 0)), .slice p k c, .bool false, .slice p' k' c', o0, o1, o2, o3])
    (Ry : QV ((((w.setCell ⟨R, 4, none⟩ (.bool (decide (u.num < 0)))).setCell ⟨R, 5, none⟩ (.slice r l d)).setCell ⟨R, 6, none⟩ (.bool false)).setCell ⟨R, 7, none⟩ (.slice r' l' d')) (.agg #[.bool (decide (y.num < 0)), .slice p k c, .bool false, .slice p' k' c']) y)
    (Ru : QV w (.agg #[.bool (decide (u.num < 0)), .slice r l d, .bool false, .slice r' l' d']) u) :
    RayAt ((((w.setCell ⟨R, 4, none⟩ (.bool (decide (u.num < 0)))).setCell ⟨R, 5, none⟩ (.slice r l d)).setCell ⟨R, 6, none⟩ (.bool false)).setCell ⟨R, 7, none⟩ (.slice r' l' d')) R T y u := by
  have b1 := b.set 4 (.bool (decide (u.num < 0)))
  have b2 := b1.set 5 (.slice r l d)
  have b3 := b2.set 6 (.bool false)
  have b4 := b3.set 7 (.slice r' l' d')
  exact ⟨p, k, c, p', k', c', r, l, d, r', l', d', b4, Ry, Ru.ext (((((Ext.refl w).set b hT 4 _).set b1 hT 5 _).set b2 hT 6 _).set b3 hT 7 _)⟩
theorem rayY_set (hT : T ≠ 3) (b : Box w R T #[o0, o1, o2, o3, .bool (decide (u.num < 0)), .slice r l d, .bool false, .slice r' l' d'])
    (Ry : QV w (.agg #[.bool (decide (y.num < 0)), .slice p k c, .bool false, .slice p' k' c']) y)
    (Ru : QV ((((w.setCell ⟨R, 0, none⟩ (.bool (decide (y.num < 0)))).setCell ⟨R, 1, none⟩ (.slice p k c)).setCell ⟨R, 2, none⟩ (.bool false)).setCell ⟨R, 3, none⟩ (.slice p' k' c')) (.agg #[.bool (decide (u.num < 0)), .slice r l d, .bool false, .slice r' l' d']) u) :
    RayAt ((((w.setCell ⟨R, 0, none⟩ (.bool (decide (y.num < 0)))).setCell ⟨R, 1, none⟩ (.slice p k c)).setCell ⟨R, 2, none⟩ (.bool false)).setCell ⟨R, 3, none⟩ (.slice p' k' c')) R T y u := by
  have b1 := b.set 0 (.bool (decide (y.num < 0)))
  have b2 := b1.set 1 (.slice p k c)
  have b3 := b2.set 2 (.bool false)
  have b4 := b3.set 3 (.slice p' k' c')
  exact ⟨p, k, c, p', k', c', r, l, d, r', l', d', b4, Ry.ext (((((Ext.refl w).set b hT 0 _).set b1 hT 1 _).set b2 hT 2 _).set b3 hT 3 _), Ru⟩
end
end Go.Mono
