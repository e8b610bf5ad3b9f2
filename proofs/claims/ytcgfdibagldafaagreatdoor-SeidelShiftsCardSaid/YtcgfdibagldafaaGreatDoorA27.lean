/- Contracts of the program's fractions, lenses and rays, and a verified evaluator of the model. Part 27 of 30. No condition beside the row. -/
import Derived.Outline
import Derived.Test.YtcgfdibagldafaaGreatDoorA13
import Derived.Test.YtcgfdibagldafaaGreatDoorA14
import Derived.Test.YtcgfdibagldafaaGreatDoorA21
import Derived.Test.YtcgfdibagldafaaGreatDoorA26
set_option linter.unusedVariables false
set_option linter.unusedSimpArgs false
set_option maxRecDepth 100000
set_option maxHeartbeats 4000000
namespace Go.Mono
open Go.RowKit
def Lns.sgn (a : Lns) : Nat → Int
 | 0 => 1
 | k + 1 => if (a.S k).glass = mirror then - a.sgn k else a.sgn k
theorem Lns.sgn_cases (a : Lns) : ∀ k, a.sgn k = 1 ∨ a.sgn k = -1
 | 0 => .inl rfl
 | k + 1 => by
   have := a.sgn_cases k
   unfold Lns.sgn
   split <;> omega
end Go.Mono
namespace Go.Proofs.YtcgfdibagldafaaGreatDoor
open Go.RowKit Go.Mono
def Chk (a : Lns) (q : Plc) : Prop := ∀ W, OptAt W a q → Calls Tryz.prog 92 #[.agg (a.ovals q)] W fun e w' => e = .returned (.int .i64 0) ∧ Below W.heap.size W w'
theorem asked_ok (a : Lns) (q : Plc) (hchk : Chk a q) (s k : Int) (w : World) (h : OptAt w a q) (s0 : 0 ≤ s) (s1 : s < a.ns) (k0 : 0 ≤ k) (k1 : k < a.nw) :
  Calls Tryz.prog 168 #[.agg (a.ovals q), .int .i64 s, .int .i64 k] w fun e w' => e = .returned (.int .i64 0) ∧ Below w.heap.size w w' := by
 have hc := fun W (hW : Below w.heap.size w W) => hchk W (h.below hW)
 simp only [Lns.ovals] at hc ⊢
 clear hchk h
 go_enter Tryz.func168, Tryz.ntmps168
 go_wp2_with fail
 refine boxes1c fun W hB hs bO => ?_
 refine (hc W hB).mono ?_
 rintro e w' ⟨rfl, hb⟩
 replace bO := bO.below hb
 have cO := bO.cell
 have lO := bO.lt
 go_wp2
 go_ret
 exact ⟨rfl, belowCall hB hb⟩
theorem behind_ok (a : Lns) (q : Plc) (hchk : Chk a q) (s k : Nat) (w : World) (h : OptAt w a q) (s1 : s < a.ns) (k1 : k < a.nw) :
  Calls Tryz.prog 113 #[.agg (a.ovals q), .int .i64 (s : Int), .int .i64 (k : Int)] w fun e w' => e = .returned (.tuple #[.int .i64 (a.ix s k), .int .i64 0]) ∧ Below w.heap.size w w' := by
 have hc := fun W (hW : Below w.heap.size w W) => asked_ok a q hchk s k W (h.below hW) (by omega) (by omega) (by omega) (by omega)
 obtain ⟨b, off, hpi, hb, hix⟩ := h.index.2.2 (by omega)
 obtain ⟨b2, off2, hpI, hb2, hrow⟩ := (h.row s s1).2.2 (by omega)
 have c1 := hix s 0 s1 (by omega)
 have c2 := hrow k k1
 simp only [Nat.mul_one, Nat.add_zero] at c1
 simp only [Lns.ovals] at hc ⊢
 rw [hpi] at hc ⊢
 rw [hpI] at c1
 have s1' : (s : Int) < a.ns := by omega
 have k1' : (k : Int) < a.nw := by omega
 clear hchk h hix hrow
 go_enter Tryz.func113, Tryz.ntmps113
 go_wp2_with fail
 refine boxes1c fun W hB hs bO => ?_
 refine (hc W hB).mono ?_
 rintro e w' ⟨rfl, hbw⟩
 replace bO := bO.below hbw
 have hBw := belowCall hB hbw
 have cO := bO.cell
 have lO := bO.lt
 replace c1 := (hBw.cell (p := ⟨b, off + s, none⟩) hb).trans c1
 replace c2 := (hBw.cell (p := ⟨b2, off2 + k, none⟩) hb2).trans c2
 go_wp2
 go_ret2
 exact ⟨rfl, hBw⟩
theorem sign_ok (a : Lns) (q : Plc) (hchk : Chk a q) (s : Nat) (w : World) (h : OptAt w a q) (s1 : s < a.ns) (k1 : 0 < a.nw) (hns : a.ns ≤ 16) :
  Calls Tryz.prog 114 #[.agg (a.ovals q), .int .i64 (s : Int)] w fun e w' => e = .returned (.tuple #[.int .i64 (a.sgn (s + 1)), .int .i64 0]) ∧ Below w.heap.size w w' := by
 have hc := fun W (hW : Below w.heap.size w W) => asked_ok a q hchk s 0 W (h.below hW) (by omega) (by omega) (by omega) (by omega)
 obtain ⟨b, off, hps, hbl, hcell⟩ := h.surfs.2.2 (by omega)
 have hcap := h.surfs.1
 dsimp only at hcell
 simp only [Lns.ovals] at hc ⊢
 rw [hps] at hc ⊢
 have s1' : (s : Int) < a.ns := by omega
 have s2 : (s : Int) + 1 ≤ a.ns := by omega
 have s3 : (s : Int) + 1 ≤ q.cs := by omega
 have s4 : IntKind.i64.wrap ((s : Int) + 1) = (s : Int) + 1 := by rw [IntKind.wrap_i64]; omega
 clear hchk h
 go_enter Tryz.func114, Tryz.ntmps114
 go_wp2_with fail
 refine boxes1c fun W hB hs bO => ?_
 refine (hc W hB).mono ?_
 rintro e w' ⟨rfl, hbw⟩
 replace bO := bO.below hbw
 have hBw := belowCall hB hbw
 have cO := bO.cell
 have lO := bO.lt
 go_wp2
 go_loopw [7, 23] (fun x y wr => ∃ k : Nat, k ≤ s + 1 ∧ x = .int .i64 (a.sgn k) ∧ y = .int .i64 (k : Int) ∧ Below w.heap.size w wr) (fun _ y _ => (s + 1 - intOf y).toNat)
 case atStart => exact ⟨0, Nat.zero_le _, rfl, rfl, hBw⟩
 case round =>
  obtain ⟨k, hk, rfl, rfl, hBr⟩ := hrel
  clear hBw cO lO
  by_cases hks : k < s + 1
  ·have hcel := hcell k
   have hsz : (Tryz.prog.info? 91).map (·.size) = some ((a.S k).cs (q.cp k) (q.cl k)).size := by kernel_rfl
   have hsl : (Tryz.prog.info? 91).map (·.size) = some ((a.S k).cs (q.cp k) (q.cl k)).toList.length := by kernel_rfl
   have g13 : ((a.S k).cs (q.cp k) (q.cl k))[13]? = some (.string (a.S k).glass) := rfl
   have g1 : ((a.S k).cs (q.cp k) (q.cl k)).all (·.oneCell') = true := by simp [Srf.cs, Value.oneCell']
   have gz : ((a.S k).cs (q.cp k) (q.cl k)).size = 22 := rfl
   have hrange : wr.rangeAt b (off + k * 22) ((a.S k).cs (q.cp k) (q.cl k)).toList := fun j v hv => by
    have hj : j < 22 := by
     have := (List.getElem?_eq_some_iff.1 hv).1
     simpa [gz] using this
    refine ((hBr.cell (p := ⟨b, off + k * 22 + j, none⟩) hbl).trans (hcel j (by omega) hj)).trans ?_
    rw [Array.getElem?_toList] at hv
    rw [Array.getD_eq_getD_getElem?, hv]
    rfl
   have hks' : (k : Int) < (s : Int) + 1 := by omega
   have hsg : a.sgn (k + 1) = if (a.S k).glass = mirror then - a.sgn k else a.sgn k := rfl
   have hsc := a.sgn_cases k
   generalize (a.S k).cs (q.cp k) (q.cl k) = A at *
   generalize (a.S k).glass = G at *
   generalize a.sgn k = sg at *
   clear hcell hcel hc
   by_cases hG : G = mirror
   ·rw [if_pos hG] at hsg
    unfold mirror at hG
    subst hG
    have hwr : IntKind.i64.wrap (-sg) = -sg := by rw [IntKind.wrap_i64]; omega
    clear hsc
    go_wp2_with first | (refine wpList_load_mid rfl 91 _ rfl b (off + k * 22) rfl A.toList _ hrange Tryz.underlying91 rfl hsl ?_) | (refine wpList_new rfl 91 rfl _ alloc_surface ?_; intro W1 B1 hle hB1 b1) | (refine wpList_store_box rfl 91 (.tmp 9) (.tmp 26) rfl B1 0 91 _ A A rfl rfl b1 hsz (Nat.le_of_eq (by rw [gz]; rfl)) g1 (whole_new (by rw [gz]; rfl)) ?_; intro W2 hk2 b2; have hBW2 : Below wr.heap.size wr W2 := hk2.below hB1 hle hB1.size; have f13 := (b2.cell 13).trans g13; have lb2 := b2.lt)
    go_roundw
    case rel => exact ⟨k + 1, by omega, by rw [hsg], by simp, belowCall hBr hBW2⟩
    case measure => simp [intOf]; omega
   ·have hne := bytes_ne hG
    rw [if_neg hG] at hsg
    clear hG hsc
    go_wp2_with first | (refine wpList_load_mid rfl 91 _ rfl b (off + k * 22) rfl A.toList _ hrange Tryz.underlying91 rfl hsl ?_) | (refine wpList_new rfl 91 rfl _ alloc_surface ?_; intro W1 B1 hle hB1 b1) | (refine wpList_store_box rfl 91 (.tmp 9) (.tmp 26) rfl B1 0 91 _ A A rfl rfl b1 hsz (Nat.le_of_eq (by rw [gz]; rfl)) g1 (whole_new (by rw [gz]; rfl)) ?_; intro W2 hk2 b2; have hBW2 : Below wr.heap.size wr W2 := hk2.below hB1 hle hB1.size; have f13 := (b2.cell 13).trans g13; have lb2 := b2.lt)
    go_roundw
    case rel => exact ⟨k + 1, by omega, by rw [hsg], by simp, belowCall hBr hBW2⟩
    case measure => simp [intOf]; omega
  ·obtain rfl : k = s + 1 := by omega
   clear hcell hc
   go_wp2
   go_ret2
   exact ⟨rfl, hBr⟩
end Go.Proofs.YtcgfdibagldafaaGreatDoor
namespace Go.Mono
open Go.RowKit
theorem QV.cells {w : World} {v : Value} {q : Rat} (h : QV w v q) : ∃ C : Array Value, v = .agg C ∧ C.size = 4 ∧ C.all (·.oneCell') = true := by
 obtain ⟨p, k, c, p', k', c', rfl, _, _⟩ := h
 exact ⟨_, rfl, rfl, by simp [Value.oneCell']⟩
end Go.Mono
namespace Go.Proofs.YtcgfdibagldafaaGreatDoor
open Go.RowKit Go.Mono
theorem alloc_quot (w : World) : (Instr.alloc 52 true (.tuple #[])).run Tryz.prog w = .ok (.pointer (some ⟨w.heap.size, 0, none⟩)) (w.alloc (.cells #[.bool false, .slice none 0 0, .bool false, .slice none 0 0] 52)) := by
 go_simp
theorem sizeQuot : (Tryz.prog.info? 52).map (·.size) = some 4 := by kernel_rfl
theorem mustq_ok (C : Array Value) (hC : C.size = 4) (h1 : C.all (·.oneCell') = true) (w : World) :
  Calls Tryz.prog 56 #[.agg C, .int .i64 0] w fun e w' => e = .returned (.agg C) ∧ Below w.heap.size w w' := by
 have hi : (Tryz.prog.info? 52).map (·.size) = some C.size := by rw [hC]; exact sizeQuot
 go_enter Tryz.func56, Tryz.ntmps56
 go_step
 go_step
 go_step
 go_step
 go_step
 go_step
 go_step
 go_step
 go_step
 refine boxes2l fun W hB hsz b0 b1 => ?_
 go_wp2_with first | (refine wpList_load_box rfl 52 (.tmp 2) rfl w.heap.size rfl 52 C b0 _ Tryz.underlying52 rfl hi ?_) | (refine wpList_store_box rfl 52 (.tmp 4) (.tmp 10) rfl (w.heap.size + 1) 0 52 _ C C rfl rfl b1 hi (Nat.le_of_eq (by rw [hC]; rfl)) h1 (whole_new (by rw [hC]; rfl)) ?_; intro W2 hk2 b12)
 refine bodyPost_ret (b12.results rfl _ _ rfl Tryz.underlying52 rfl hi) rfl ?_
 exact ⟨rfl, hk2.below hB (by omega) (by omega)⟩
theorem musti_ok (z : Int) (w : World) : Calls Tryz.prog 112 #[.int .i64 z, .int .i64 0] w fun e w' => e = .returned (.int .i64 z) ∧ w' = w := by
 go_enter Tryz.func112, Tryz.ntmps112
 go_wp2
 go_ret
 exact ⟨rfl, rfl⟩
theorem pof_ok (n d : Int) (d0 : d ≠ 0) (w : World) (a1 : -9223372036854775808 ≤ n) (a2 : n ≤ 9223372036854775807) (b1 : -9223372036854775808 ≤ d) (b2 : d ≤ 9223372036854775807) :
  Calls Tryz.prog 94 #[.int .i64 n, .int .i64 d] w fun e w' => ∃ C, e = .returned (.agg C) ∧ QV w' (.agg C) (Rat.divInt n d) ∧ Below w.heap.size w w' := by
 go_enter Tryz.func94, Tryz.ntmps94
 go_wp2_with fail
 refine boxes1c fun W hB hs bR => ?_
 refine (qof_ok n d d0 W a1 a2 b1 b2).mono ?_
 rintro e W1 ⟨r, rfl, hr, hb⟩
 obtain ⟨C, rfl, hC, h1⟩ := hr.cells
 have hi : (Tryz.prog.info? 52).map (·.size) = some C.size := by rw [hC]; exact sizeQuot
 replace hB := belowCall hB hb
 replace bR := bR.below hb
 clear hb a1 a2 b1 b2 d0
 go_wp2_with first | (go_at_call 56; refine (mustq_ok C hC h1 _).mono ?_; rintro e W2 ⟨rfl, hb2⟩; have bR2 := bR.below hb2; have lR := bR.lt) | (refine wpList_store_box rfl 52 (.tmp 4) (.tmp 10) rfl w.heap.size 0 52 _ C C rfl rfl bR2 hi (Nat.le_of_eq (by rw [hC]; rfl)) h1 (whole_new (by rw [hC]; rfl)) ?_; intro W3 hk3 b3)
 refine bodyPost_ret (b3.results rfl _ _ rfl Tryz.underlying52 rfl hi) rfl ?_
 exact ⟨C, rfl, hr.ext ((Ext.of_below hb2).trans (hk3.ext bR2 (by decide))), hk3.below (belowCall hB hb2) (by omega) (by have := hB.size; have := hb2.size; omega)⟩
end Go.Proofs.YtcgfdibagldafaaGreatDoor
namespace Go.Mono
open Go.RowKit
def Lns.vvals (a : Lns) (q : Plc) (k : Int) : Array Value :=
 #[.string a.nm, .int .i64 a.di, .int .i64 a.pu, .int .i64 a.st, .int .i64 a.pr, .slice q.pf a.nf q.cf, .slice q.pw a.nw q.cw, .slice q.ps a.ns q.cs, .slice q.pc 0 q.cc, .slice q.pi a.ns q.ci, .int .i64 k]
def Lns.nI (a : Lns) (k s : Nat) : Rat := Rat.divInt (a.ix s k * a.sgn (s + 1)) 10000000
def Lns.nB (a : Lns) (k s : Nat) : Rat := if s = 0 then Rat.divInt 1 1 else a.nI k (s - 1)
theorem sg_bound {n g : Int} (h1 : 10000000 ≤ n) (h2 : n ≤ 40000000) (hg : g = 1 ∨ g = -1) : -40000000 ≤ n * g ∧ n * g ≤ 40000000 := by
 rcases hg with rfl | rfl <;> omega
end Go.Mono
namespace Go.Proofs.YtcgfdibagldafaaGreatDoor
open Go.RowKit Go.Mono
theorem index_ok (a : Lns) (ha : a.opt) (q : Plc) (hchk : Chk a q) (s k : Nat) (w : World) (h : OptAt w a q) (s1 : s < a.ns) (k1 : k < a.nw) :
  Calls Tryz.prog 58 #[.agg (a.vvals q k), .int .i64 (s : Int)] w fun e w' => ∃ C, e = .returned (.agg C) ∧ QV w' (.agg C) (a.nI k s) ∧ Below w.heap.size w w' := by
 have hbe := fun W (hW : Below w.heap.size w W) => behind_ok a q hchk s k W (h.below hW) s1 k1
 have hsi := fun W (hW : Below w.heap.size w W) => sign_ok a q hchk s W (h.below hW) s1 (by omega) ha.base.ns.2
 obtain ⟨i1, i2⟩ := ha.ir s k s1 k1
 have hsg := a.sgn_cases (s + 1)
 obtain ⟨g1, g2⟩ := sg_bound i1 i2 hsg
 have hwr : IntKind.i64.wrap (a.ix s k * a.sgn (s + 1)) = a.ix s k * a.sgn (s + 1) := by rw [IntKind.wrap_i64]; omega
 have hpo := fun W => pof_ok (a.ix s k * a.sgn (s + 1)) 10000000 (by decide) W (by omega) (by omega) (by decide) (by decide)
 rw [show Rat.divInt (a.ix s k * a.sgn (s + 1)) 10000000 = a.nI k s from rfl] at hpo
 have s0 : ¬ ((s : Int) < 0) := by omega
 simp only [Lns.ovals] at hbe hsi
 simp only [Lns.vvals]
 generalize a.nI k s = rr at *
 generalize a.ix s k = n at *
 generalize a.sgn (s + 1) = g at *
 clear hchk h ha hsg i1 i2
 go_enter Tryz.func58, Tryz.ntmps58
 go_wp2_with fail
 refine boxes2c fun W hB hs bV bR => ?_
 refine (hbe W hB).mono ?_
 rintro e W1 ⟨rfl, hb⟩
 replace hB := belowCall hB hb
 replace bV := bV.below hb
 replace bR := bR.below hb
 have cV := bV.cell
 have lV := bV.lt
 clear hb
 go_wp2_with first | (go_at_call 112; refine (musti_ok _ _).mono ?_; rintro e w5 ⟨rfl, h5⟩; rw [h5]; clear h5 w5)
 refine (hsi W1 hB).mono ?_
 rintro e W2 ⟨rfl, hb⟩
 replace hB := belowCall hB hb
 replace bR := bR.below hb
 clear hb cV lV bV
 go_wp2_with first | (go_at_call 112; refine (musti_ok _ _).mono ?_; rintro e w5 ⟨rfl, h5⟩; rw [h5]; clear h5 w5)
 refine (hpo W2).mono ?_
 rintro e W3 ⟨C, rfl, hr, hb⟩
 obtain ⟨C', hC', hC, h1⟩ := hr.cells
 cases hC'
 have hi : (Tryz.prog.info? 52).map (·.size) = some C.size := by rw [hC]; exact sizeQuot
 replace hB := belowCall hB hb
 replace bR := bR.below hb
 have lR := bR.lt
 go_wp2_with (refine wpList_store_box rfl 52 (.tmp 4) (.tmp 27) rfl (w.heap.size + 1) 0 52 _ C C rfl rfl bR hi (Nat.le_of_eq (by rw [hC]; rfl)) h1 (whole_new (by rw [hC]; rfl)) ?_; intro W4 hk4 b4)
 refine bodyPost_ret (b4.results rfl _ _ rfl Tryz.underlying52 rfl hi) rfl ?_
 exact ⟨C, rfl, hr.ext (hk4.ext bR (by decide)), hk4.below hB (by omega) hB.size⟩
theorem index_air (V : Array Value) (hV : V.size = 11) (w : World) :
  Calls Tryz.prog 58 #[.agg V, .int .i64 (-1)] w fun e w' => ∃ C, e = .returned (.agg C) ∧ QV w' (.agg C) (Rat.divInt 1 1) ∧ Below w.heap.size w w' := by
 have hpo := fun W => pof_ok 1 1 (by decide) W (by decide) (by decide) (by decide) (by decide)
 go_enter Tryz.func58, Tryz.ntmps58
 go_wp2_with fail
 refine boxes2c fun W hB hs bV bR => ?_
 refine (hpo W).mono ?_
 rintro e W3 ⟨C, rfl, hr, hb⟩
 obtain ⟨C', hC', hC, h1⟩ := hr.cells
 cases hC'
 have hi : (Tryz.prog.info? 52).map (·.size) = some C.size := by rw [hC]; exact sizeQuot
 replace hB := belowCall hB hb
 replace bR := bR.below hb
 have lR := bR.lt
 go_wp2_with (refine wpList_store_box rfl 52 (.tmp 4) (.tmp 8) rfl (w.heap.size + 1) 0 52 _ C C rfl rfl bR hi (Nat.le_of_eq (by rw [hC]; rfl)) h1 (whole_new (by rw [hC]; rfl)) ?_; intro W4 hk4 b4)
 refine bodyPost_ret (b4.results rfl _ _ rfl Tryz.underlying52 rfl hi) rfl ?_
 exact ⟨C, rfl, hr.ext (hk4.ext bR (by decide)), hk4.below hB (by omega) hB.size⟩
end Go.Proofs.YtcgfdibagldafaaGreatDoor
namespace Go.Mono
open Go.RowKit
def qc (q : Rat) (p : Option Addr) (k c : Nat) (p' : Option Addr) (k' c' : Nat) : Array Value := #[.bool (decide (q.num < 0)), .slice p k c, .bool false, .slice p' k' c']
def BoxQ (w : World) (B : Nat) (T : TypeId) (q : Rat) : Prop := ∃ p k c p' k' c', Box w B T #[.bool (decide (q.num < 0)), .slice p k c, .bool false, .slice p' k' c'] ∧ QV w (.agg #[.bool (decide (q.num < 0)), .slice p k c, .bool false, .slice p' k' c']) q
theorem BoxQ.below {w w' : World} {B : Nat} {T : TypeId} {q : Rat} (h : BoxQ w B T q) (hB : Below w.heap.size w w') : BoxQ w' B T q := by
 obtain ⟨p, k, c, p', k', c', b, r⟩ := h
 exact ⟨p, k, c, p', k', c', b.below hB, r.ext (.of_below hB)⟩
theorem boxq_new {w : World} {T : TypeId} {q : Rat} {p : Option Addr} {k c : Nat} {p' : Option Addr} {k' c' : Nat} (r : QV w (.agg #[.bool (decide (q.num < 0)), .slice p k c, .bool false, .slice p' k' c']) q) :
  BoxQ (w.alloc (.cells #[.bool (decide (q.num < 0)), .slice p k c, .bool false, .slice p' k' c'] T)) w.heap.size T q :=
 ⟨p, k, c, p', k', c', Box.new _ _ _, r.ext ((Ext.refl _).alloc _)⟩
theorem boxq_set {w : World} {B : Nat} {T : TypeId} {q : Rat} {p : Option Addr} {k c : Nat} {p' : Option Addr} {k' c' : Nat} {o0 o1 o2 o3 : Value} (hT : T ≠ 3) (b : Box w B T #[o0, o1, o2, o3]) (r : QV w (.agg #[.bool (decide (q.num < 0)), .slice p k c, .bool false, .slice p' k' c']) q) :
  BoxQ ((((w.setCell ⟨B, 0, none⟩ (.bool (decide (q.num < 0)))).setCell ⟨B, 1, none⟩ (.slice p k c)).setCell ⟨B, 2, none⟩ (.bool false)).setCell ⟨B, 3, none⟩ (.slice p' k' c')) B T q := by
 have b1 := b.set 0 (.bool (decide (q.num < 0)))
 have b2 := b1.set 1 (.slice p k c)
 have b3 := b2.set 2 (.bool false)
 have b4 := b3.set 3 (.slice p' k' c')
 exact ⟨p, k, c, p', k', c', b4, r.ext (((((Ext.refl w).set b hT 0 _).set b1 hT 1 _).set b2 hT 2 _).set b3 hT 3 _)⟩
def Lns.step (a : Lns) (k s : Nat) : Rat := a.nI k s - a.nB k s
def Lns.cv (a : Lns) (s : Nat) : Rat := Rat.divInt (a.S s).curv 1000000000
def Lns.gr (a : Lns) (k s : Nat) : Rat := Rat.divInt (2 * (a.S s).order * (a.S s).p0) 10000000 * Rat.divInt (a.L k) 10000000
def Lns.pow (a : Lns) (k s : Nat) : Rat := if (a.S s).kind = 3 then Rat.divInt 0 1 else if (a.S s).kind = 4 then a.cv s else a.cv s * a.step k s - a.gr k s
end Go.Mono
namespace Go.Proofs.YtcgfdibagldafaaGreatDoor
open Go.RowKit Go.Mono
theorem flat_ok (V : Array Value) (s : Int) (w : World) :
  Calls Tryz.prog 357 #[.agg V, .int .i64 s] w fun e w' => ∃ C, e = .returned (.agg C) ∧ QV w' (.agg C) (Rat.divInt 0 1) ∧ Below w.heap.size w w' := by
 have hpo := fun W => pof_ok 0 1 (by decide) W (by decide) (by decide) (by decide) (by decide)
 go_enter Tryz.func357, Tryz.ntmps357
 go_wp2_with fail
 refine boxes2c fun W hB hs bV bR => ?_
 refine (hpo W).mono ?_
 rintro e W3 ⟨C, rfl, hr, hb⟩
 obtain ⟨C', hC', hC, h1⟩ := hr.cells
 cases hC'
 have hi : (Tryz.prog.info? 52).map (·.size) = some C.size := by rw [hC]; exact sizeQuot
 replace hB := belowCall hB hb
 replace bR := bR.below hb
 have lR := bR.lt
 go_wp2_with (refine wpList_store_box rfl 52 (.tmp 4) (.tmp 5) rfl (w.heap.size + 1) 0 52 _ C C rfl rfl bR hi (Nat.le_of_eq (by rw [hC]; rfl)) h1 (whole_new (by rw [hC]; rfl)) ?_; intro W4 hk4 b4)
 refine bodyPost_ret (b4.results rfl _ _ rfl Tryz.underlying52 rfl hi) rfl ?_
 exact ⟨C, rfl, hr.ext (hk4.ext bR (by decide)), hk4.below hB (by omega) hB.size⟩
theorem ideal_ok (a : Lns) (q : Plc) (s k : Nat) (w : World) (h : OptAt w a q) (s1 : s < a.ns) (hc1 : -1000000000 ≤ (a.S s).curv) (hc2 : (a.S s).curv ≤ 1000000000) :
  Calls Tryz.prog 358 #[.agg (a.vvals q k), .int .i64 (s : Int)] w fun e w' => ∃ C, e = .returned (.agg C) ∧ QV w' (.agg C) (a.cv s) ∧ Below w.heap.size w w' := by
 have hpo := fun W => pof_ok (a.S s).curv 1000000000 (by decide) W (by omega) (by omega) (by decide) (by decide)
 rw [show Rat.divInt (a.S s).curv 1000000000 = a.cv s from rfl] at hpo
 obtain ⟨b, off, hps, hbl, hcell⟩ := h.surfs.2.2 (by omega)
 have f1 : w.cell? ⟨b, off + s * 22 + 1, none⟩ = some (.int .i64 (a.S s).curv) := hcell s 1 s1 (by omega)
 simp only [Lns.vvals]
 rw [hps]
 have s1' : (s : Int) < a.ns := by omega
 clear hcell h hc1 hc2
 generalize (a.S s).curv = cu at *
 generalize a.cv s = rr at *
 go_enter Tryz.func358, Tryz.ntmps358
 go_wp2_with fail
 refine boxes2c fun W hB hs bV bR => ?_
 refine (hpo W).mono ?_
 rintro e W3 ⟨C, rfl, hr, hb⟩
 obtain ⟨C', hC', hC, h1⟩ := hr.cells
 cases hC'
 have hi : (Tryz.prog.info? 52).map (·.size) = some C.size := by rw [hC]; exact sizeQuot
 replace hB := belowCall hB hb
 replace bR := bR.below hb
 have lR := bR.lt
 go_wp2_with (refine wpList_store_box rfl 52 (.tmp 4) (.tmp 13) rfl (w.heap.size + 1) 0 52 _ C C rfl rfl bR hi (Nat.le_of_eq (by rw [hC]; rfl)) h1 (whole_new (by rw [hC]; rfl)) ?_; intro W4 hk4 b4)
 refine bodyPost_ret (b4.results rfl _ _ rfl Tryz.underlying52 rfl hi) rfl ?_
 exact ⟨C, rfl, hr.ext (hk4.ext bR (by decide)), hk4.below hB (by omega) hB.size⟩
theorem indexB_ok (a : Lns) (ha : a.opt) (q : Plc) (hchk : Chk a q) (s k : Nat) (w : World) (h : OptAt w a q) (s1 : s < a.ns) (k1 : k < a.nw) :
  Calls Tryz.prog 58 #[.agg (a.vvals q k), .int .i64 ((s : Int) - 1)] w fun e w' => ∃ C, e = .returned (.agg C) ∧ QV w' (.agg C) (a.nB k s) ∧ Below w.heap.size w w' := by
 cases s with
 | zero => exact index_air _ rfl w
 | succ t =>
   rw [show ((t + 1 : Nat) : Int) - 1 = (t : Int) by omega]
   have := index_ok a ha q hchk t k w h (by omega) k1
   simpa [Lns.nB] using this
section
open Go.Ex
def kF : Nat → Value := fun _ => .bool false
theorem kF1 (i : Nat) : (kF i).oneCell' = true := rfl
theorem ints_rd {K : Nat → Value} {hK : ∀ i, (K i).oneCell' = true} {ρ : Nm} {w : World} {bk : List (Nat × Blk)} (hB : BkOk (qDen K hK) ρ w w bk) {u : U} {v : Value} (hu : denU (qDen K hK) ρ w u [v]) {n : Nat} {us : List U} (h : rdU bk 1 u = some (n, us)) {z : Int} (hz : intsU us = some (List.replicate n z)) :
  ∃ p c, v = .slice p n c ∧ RdF w p n c (fun _ => z) := by
 obtain ⟨p, c, ds, rfl, a1, b1, l1, m1, r1⟩ := rdU_ok hB hu h
 obtain rfl := intsU_ok hz l1
 refine ⟨p, c, rfl, a1, by omega, fun hn => ?_⟩
 obtain ⟨b, off, q1, q2, q3⟩ := r1 hn (by decide)
 exact ⟨b, off, q1, q2, fun i hi => q3 i _ (by simp [List.getElem?_replicate, hi])⟩
theorem repeat_of (n : Nat) (hn : 0 < n) (hev : ∀ w : World, (evF Tryz.prog (w0 := w) (X := fun _ => False) (D := qDen kF kF1) [] [] 5 [] 206 [.one (.sli 0 0 1), .one (.val (.int .i64 n))] [(0, ⟨3, [.val (.int .i64 10000000)], true, false, false⟩)] 1 1 []).map (fun r => (r.v, r.obl, r.wr, r.pan)) =
   some (.a (.one (.slc 1 0 n n)), [], [(1, ⟨3, List.replicate n (.val (.int .i64 10000000)), false, false, false⟩)], none)) (hz : rdU [(1, ⟨3, List.replicate n (.val (.int .i64 10000000)), false, false, false⟩), (0, ⟨3, [.val (.int .i64 10000000)], true, false, false⟩)] 1 (.slc 1 0 n n) = some (n, List.replicate n (.val (.int .i64 10000000))))
   (hi : intsU (List.replicate n (.val (.int .i64 10000000))) = some (List.replicate n 10000000))
  (p : Option Addr) (c : Nat) (w : World) (h : RdF w p 1 c (fun _ => 10000000)) :
  Calls Tryz.prog 206 #[.slice p 1 c, .int .i64 n] w fun e w' => ∃ p' c', e = .returned (.slice p' n c') ∧ RdF w' p' n c' (fun _ => 10000000) ∧ Below w.heap.size w w' := by
 obtain ⟨h1, h2, h3⟩ := h
 obtain ⟨b, off, rfl, hb, hc⟩ := h3 (by decide)
 refine (evRunV (D := qDen kF kF1) (vs := [⟨3, [.val (.int .i64 10000000)], b, off, [.int .i64 10000000]⟩]) (args := [.one (.sli 0 0 1), .one (.val (.int .i64 n))]) (vals := [.slice (some ⟨b, off, none⟩) 1 c, .int .i64 n]) wide_ [] [] _ rfl rfl _ [] _ (hev w) trivial ?_ ?_).mono ?_
 ·intro v hv
  obtain rfl : v = _ := by simpa using hv
  refine ⟨hb, fun j x hj => ?_, ⟨_, [], rfl, ⟨rfl, rfl⟩, rfl⟩⟩
  have : j = 0 := by
   have := (List.getElem?_eq_some_iff.1 hj).1
   simpa using this
  subst this
  obtain rfl : Value.int .i64 10000000 = x := by simpa using hj
  exact hc 0 (by decide)
 ·exact ⟨_, _, rfl, ⟨⟨b, off, true, 0, 0⟩, c, rfl, h1, rfl⟩, _, _, rfl, ⟨rfl, rfl⟩, rfl⟩
 ·rintro e w' ⟨v, ρ', rfl, hv, hbl, _, hB, _⟩
  obtain ⟨p', c', rfl, hr⟩ := ints_rd hB (u := .slc 1 0 n n) hv (us := List.replicate n (.val (.int .i64 10000000))) hz hi
  exact ⟨_, _, rfl, hr, hbl⟩
theorem repeatN_ok (n : Nat) (h0 : 1 ≤ n) (h5 : n ≤ 5) (p : Option Addr) (c : Nat) (w : World) (h : RdF w p 1 c (fun _ => 10000000)) :
  Calls Tryz.prog 206 #[.slice p 1 c, .int .i64 n] w fun e w' => ∃ p' c', e = .returned (.slice p' n c') ∧ RdF w' p' n c' (fun _ => 10000000) ∧ Below w.heap.size w w' := by
 rcases (by omega : n = 1 ∨ n = 2 ∨ n = 3 ∨ n = 4 ∨ n = 5) with rfl | rfl | rfl | rfl | rfl
 ·exact repeat_of 1 (by decide) (fun w => by kernel_rfl) rfl rfl p c w h
 ·exact repeat_of 2 (by decide) (fun w => by kernel_rfl) rfl rfl p c w h
 ·exact repeat_of 3 (by decide) (fun w => by kernel_rfl) rfl rfl p c w h
 ·exact repeat_of 4 (by decide) (fun w => by kernel_rfl) rfl rfl p c w h
 ·exact repeat_of 5 (by decide) (fun w => by kernel_rfl) rfl rfl p c w h
theorem airN_ok (n : Nat) (h0 : 1 ≤ n) (h5 : n ≤ 5) (M : Nat) (pw : Option Addr) (cw : Nat) (w : World) (hw : w.cell? ⟨M, 6, none⟩ = some (.slice pw n cw)) :
  Calls Tryz.prog 154 #[.pointer (some ⟨M, 0, none⟩)] w fun e w' => ∃ p' c', e = .returned (.slice p' n c') ∧ RdF w' p' n c' (fun _ => 10000000) ∧ Below w.heap.size w w' := by
 have hlt : M < w.heap.size := block_lt_of_cell hw
 go_enter Tryz.func154, Tryz.ntmps154
 go_wp2_with fail
 refine boxes1c fun W hB hs b0 => ?_
 refine (repeatN_ok n h0 h5 _ _ W (.box b0 0 1 _ (fun i hi => by obtain rfl : i = 0 := (by omega); rfl) (by omega))).mono ?_
 rintro e w' ⟨p', c', rfl, hr, hb⟩
 go_wp2
 go_ret
 exact ⟨_, _, rfl, hr, belowCall hB hb⟩
theorem ocheckN (a : Lns) (ha : a.opt) (q : Plc) (w : World) (h : OptAt w a q) :
  Calls Tryz.prog 92 #[.agg (a.ovals q)] w fun e w' => e = .returned (.int .i64 0) ∧ Below w.heap.size w w' :=
 ocheck_of a ha q w h fun M W hw => airN_ok a.nw ha.base.nw.1 ha.base.nw.2 M q.pw q.cw W hw
end
end Go.Proofs.YtcgfdibagldafaaGreatDoor
