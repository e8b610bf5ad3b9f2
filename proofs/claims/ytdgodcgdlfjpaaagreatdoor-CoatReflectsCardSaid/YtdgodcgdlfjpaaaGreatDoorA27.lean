/- Contracts of package coat and of the examples of its law, for the laws of layer 40. Part 27 of 40. No condition beside the row. -/
import Derived.Test.YtdgodcgdlfjpaaaGreatDoorA01
import Derived.Test.YtdgodcgdlfjpaaaGreatDoorA03
import Derived.Test.YtdgodcgdlfjpaaaGreatDoorA14
import Derived.Test.YtdgodcgdlfjpaaaGreatDoorA20
import Derived.Test.YtdgodcgdlfjpaaaGreatDoorA25
set_option linter.unusedVariables false
set_option linter.unusedSimpArgs false
set_option maxRecDepth 100000
set_option maxHeartbeats 4000000
namespace Go.Mono
open Go.RowKit
section
def pens (C : Nat → Array Value) (i : Nat) : List Value := (List.range i).flatMap fun j => (C j).toList
theorem pens_succ (C : Nat → Array Value) (i : Nat) : pens C (i + 1) = pens C i ++ (C i).toList := by simp [pens, List.range_succ]
theorem rows_length (C : Nat → Array Value) (z i : Nat) (h : ∀ j, j < i → (C j).size = z) : (pens C i).length = i * z := by
 induction i with
 | zero => simp [pens]
 | succ i ih => rw [pens_succ, List.length_append, ih (fun j hj => h j (by omega)), Array.length_toList, h i (by omega), Nat.succ_mul]
theorem rows_get (C : Nat → Array Value) (z n : Nat) (h : ∀ j, j < n → (C j).size = z) (i j : Nat) (hi : i < n) (hj : j < z) : (pens C n)[i * z + j]? = some ((C i).getD j undef) := by
 induction n with
 | zero => omega
 | succ n ih =>
   have hl := rows_length C z n (fun j hj => h j (by omega))
   rw [pens_succ]
   by_cases hin : i < n
   ·have : i * z + j < n * z := by
     have := Nat.mul_le_mul_right z (show i + 1 ≤ n by omega)
     rw [Nat.succ_mul] at this
     omega
    rw [List.getElem?_append_left (by omega)]
    exact ih (fun j hj => h j (by omega)) hin
   ·obtain rfl : i = n := by omega
    have hs := h i hi
    rw [List.getElem?_append_right (by omega), hl, show i * z + j - i * z = j by omega, Array.getElem?_toList, Array.getD_eq_getD_getElem?, Array.getElem?_eq_getElem (by omega)]
    rfl
def plcOf (a : Lns) (Bf Bw Bs Bi : Nat) (BI : Nat → Nat) : Plc := { pf := some ⟨Bf, 0, none⟩, cf := 1, pw := some ⟨Bw, 0, none⟩, cw := 1, ps := some ⟨Bs, 0, none⟩, cs := a.ns, pc := none, cc := 0, cp := fun _ => none, cl := fun _ => 0, pi := some ⟨Bi, 0, none⟩, ci := a.ns, pI := fun i => some ⟨BI i, 0, none⟩, cI := fun _ => 1 }
theorem optAt_mk {W : World} (a : Lns) (h1 : a.nf = 1) (h2 : a.nw = 1) (hns : a.ns ≤ 16) {Tf Tw Ts Ti : TypeId} {TI : Nat → TypeId} (Bf Bw Bs Bi : Nat) (BI : Nat → Nat) (cs : Array Value) (ci : Array Value)
  (bf : Box W Bf Tf #[.int .i64 (a.X 0), .int .i64 (a.Y 0)]) (bw : Box W Bw Tw #[.int .i64 (a.L 0), .int .i64 (a.W 0)]) (bs : Box W Bs Ts cs) (hcs : cs.toList = pens (fun i => (a.S i).cs none 0) a.ns) (bi : Box W Bi Ti ci) (hci : ∀ i, i < a.ns → ci[i]? = some (.slice (some ⟨BI i, 0, none⟩) 1 1))
  (bI : ∀ i, i < a.ns → Box W (BI i) (TI i) #[.int .i64 (a.ix i 0)]) : OptAt W a (plcOf a Bf Bw Bs Bi BI) := by
 refine ⟨⟨?_, ?_, ?_⟩, ?_, ?_⟩
 ·rw [h1]
  refine ⟨Nat.le_refl _, by decide, fun _ => ⟨_, _, rfl, bf.lt, fun i j hi hj => ?_⟩⟩
  obtain rfl : i = 0 := by omega
  rw [bf.cell]
  match j, hj with
  | 0, _ => rfl
  | 1, _ => rfl
 ·rw [h2]
  refine ⟨Nat.le_refl _, by decide, fun _ => ⟨_, _, rfl, bw.lt, fun i j hi hj => ?_⟩⟩
  obtain rfl : i = 0 := by omega
  rw [bw.cell]
  match j, hj with
  | 0, _ => rfl
  | 1, _ => rfl
 ·refine ⟨Nat.le_refl _, by omega, fun _ => ⟨_, _, rfl, bs.lt, fun i j hi hj => ?_⟩⟩
  rw [bs.cell, ← Array.getElem?_toList, hcs, Nat.zero_add]
  exact rows_get (fun i => (a.S i).cs none 0) 22 a.ns (fun _ _ => rfl) i j hi hj
 ·rw [h2]
  refine ⟨Nat.le_refl _, by omega, fun _ => ⟨_, _, rfl, bi.lt, fun i j hi hj => ?_⟩⟩
  obtain rfl : j = 0 := by omega
  rw [bi.cell]
  simp only [Nat.zero_add, Nat.mul_one, Nat.add_zero]
  exact hci i hi
 ·intro i hi
  rw [h2]
  refine ⟨Nat.le_refl _, by decide, fun _ => ⟨_, _, rfl, (bI i hi).lt, fun j hj => ?_⟩⟩
  obtain rfl : j = 0 := by omega
  rw [(bI i hi).cell]
  rfl
section
variable {P : Program} {ops : Array Oper} {rest : List Oper} {Q : Exit → Act → World → Prop} {a : Act} {w : World} {T0 T1 T2 T3 : TypeId} {c0 c1 c2 c3 : Array Value}
theorem boxes4l (h : ∀ W, Below w.heap.size w W → w.heap.size + 4 ≤ W.heap.size → Box W w.heap.size T0 c0 → Box W (w.heap.size + 1) T1 c1 → Box W (w.heap.size + 1 + 1) T2 c2 → Box W (w.heap.size + 1 + 1 + 1) T3 c3 → wpList P ops Q rest a W) :
  wpList P ops Q rest a ((((w.alloc (.cells c0 T0)).alloc (.cells c1 T1)).alloc (.cells c2 T2)).alloc (.cells c3 T3)) := by
 have b3 := Box.new (((w.alloc (.cells c0 T0)).alloc (.cells c1 T1)).alloc (.cells c2 T2)) T3 c3
 have b2 := Box.new ((w.alloc (.cells c0 T0)).alloc (.cells c1 T1)) T2 c2
 have b1 := Box.new (w.alloc (.cells c0 T0)) T1 c1
 simp only [World.size_alloc] at b1 b2 b3
 exact h _ (((((Below.refl _ _).alloc (Nat.le_refl _) _).alloc (by simp) _).alloc (by simp; omega) _).alloc (by simp; omega) _) (by simp) ((((Box.new _ _ _).alloc _).alloc _).alloc _) ((b1.alloc _).alloc _) (b2.alloc _) b3
end
end
end Go.Mono
namespace Go.Proofs.YtdgodcgdlfjpaaaGreatDoor
open Go.RowKit Go.Mono
theorem between1_any (z lo hi : Int) (B0 B1 : Nat) (w : World) (b0 : Box w B0 3 #[.int .i64 lo]) (b1 : Box w B1 3 #[.int .i64 hi]) :
  Calls Tryz.prog 250 #[.int .i64 z, .pointer (some ⟨B0, 0, none⟩), .pointer (some ⟨B1, 0, none⟩)] w fun e w' => e = .returned (.bool (!decide (lo ≤ z ∧ z ≤ hi))) ∧ ∃ k, w' = w.drewN k := by
 by_cases h : lo ≤ z ∧ z ≤ hi
 ·rw [decide_eq_true h]
  refine (between1_ok z lo hi B0 B1 w b0 b1 h.1 h.2).mono ?_
  rintro e w' ⟨rfl, rfl⟩
  exact ⟨rfl, 0, rfl⟩
 ·rw [decide_eq_false h]
  have c0 := b0.cell
  have c1 := b1.cell
  by_cases e1 : z < lo
  ·clear h
   go_enter Tryz.func250, Tryz.ntmps250
   go_wp2
   go_ret
   exact ⟨rfl, 0, rfl⟩
  ·have e2 : hi < z := by omega
   clear h
   go_enter Tryz.func250, Tryz.ntmps250
   go_wp2
   go_ret
   exact ⟨rfl, 0, rfl⟩
theorem index_one (p : Option Addr) (c : Nat) (z : Int) (r : Bool) (g : Nat) (eg : ∀ args w, (callFunc g args).run Tryz.prog w = .ok (.enter g args) w) (cap : Array Value) (w : World) (h : RdF w p 1 c (fun _ => z))
  (hf : Calls Tryz.prog g (#[.int .i64 z] ++ cap) w fun e w' => e = .returned (.bool r) ∧ ∃ k, w' = w.drewN k) :
  Calls Tryz.prog 277 #[.slice p 1 c, .func (.func g) #[] cap] w fun e w' => e = .returned (.int .i64 (if r then 0 else -1)) ∧ ∃ k, w' = w.drewN k := by
 obtain ⟨hc1, hn1, hx1⟩ := h
 obtain ⟨b, off, rfl, hb, hcell⟩ := hx1 (by decide)
 have a1 := hcell 0 (by decide)
 clear hcell hx1
 have hcj : ∀ j : Nat, j < 1 → w.cell? ⟨b, off + j, none⟩ = some (.int .i64 z) := fun j hj => by
  obtain rfl : j = 0 := by omega
  exact a1
 clear a1
 go_enter Tryz.func277, Tryz.ntmps277
 go_wp2
 go_loopw [8] (fun a wr => ∃ j : Nat, j ≤ 1 ∧ a = .int .i64 (j : Int) ∧ (j = 0 → wr = w) ∧ (j = 1 → r = false) ∧ ∃ k, wr = w.drewN k) (fun a _ => (1 - intOf a).toNat)
 case atStart => exact ⟨0, by decide, rfl, fun _ => rfl, fun h => by omega, 0, rfl⟩
 case round =>
  obtain ⟨j, hj, rfl, h0, h1, hk⟩ := hrel
  by_cases hj0 : j < 1
  ·obtain rfl := h0 (by omega)
   have a1 := hcj j hj0
   have hj' : (j : Int) < 1 := by omega
   clear h0 h1 hk hcj
   go_wp2
   refine hf.mono ?_
   rintro e w' ⟨rfl, k, rfl⟩
   cases r with
   | true =>
     go_wp2
     go_ret
     exact ⟨by simp; omega, k, rfl⟩
   | false =>
     go_wp2
     go_roundw
     case rel => exact ⟨j + 1, by omega, by simp, fun h => by omega, by simp, k, rfl⟩
     case measure => simp [intOf]; omega
  ·obtain rfl : j = 1 := by omega
   obtain rfl := h1 rfl
   obtain ⟨k, rfl⟩ := hk
   clear h0 hf hcj
   go_wp2
   go_ret
   exact ⟨rfl, k, rfl⟩
theorem contains_one (p : Option Addr) (c : Nat) (z : Int) (r : Bool) (g : Nat) (eg : ∀ args w, (callFunc g args).run Tryz.prog w = .ok (.enter g args) w) (cap : Array Value) (w : World) (h : RdF w p 1 c (fun _ => z))
  (hf : Calls Tryz.prog g (#[.int .i64 z] ++ cap) w fun e w' => e = .returned (.bool r) ∧ ∃ k, w' = w.drewN k) :
  Calls Tryz.prog 249 #[.slice p 1 c, .func (.func g) #[] cap] w fun e w' => e = .returned (.bool r) ∧ ∃ k, w' = w.drewN k := by
 have hi := index_one p c z r g eg cap w h hf
 clear h hf
 cases r with
 | true =>
   simp only [if_true] at hi
   go_enter Tryz.func249, Tryz.ntmps249
   go_wp2_with (go_at_call 277; refine hi.mono ?_; rintro e w' ⟨rfl, k, rfl⟩)
   go_ret
   exact ⟨rfl, k, rfl⟩
 | false =>
   simp only [if_false, Bool.false_eq_true] at hi
   go_enter Tryz.func249, Tryz.ntmps249
   go_wp2_with (go_at_call 277; refine hi.mono ?_; rintro e w' ⟨rfl, k, rfl⟩)
   go_ret
   exact ⟨rfl, k, rfl⟩
theorem between_one (lo hi : Int) (p : Option Addr) (c : Nat) (z : Int) (w : World) (h : RdF w p 1 c (fun _ => z)) :
  Calls Tryz.prog 208 #[.int .i64 lo, .int .i64 hi, .slice p 1 c] w fun e w' => e = .returned (.bool (decide (lo ≤ z ∧ z ≤ hi))) ∧ Below w.heap.size w w' := by
 have hmf : ∀ (fn : Fn) (first cap : Array Value) (w : World), (Instr.makeFunc fn first cap).run Tryz.prog w = .ok (.func fn first cap) w := fun _ _ _ _ => rfl
 generalize hr : decide (lo ≤ z ∧ z ≤ hi) = r
 replace hr := Lib.hid hr
 go_enter Tryz.func208, Tryz.ntmps208
 go_wp2_with fail
 refine boxes2c fun W hB hs b0 b1 => ?_
 replace h := h.below hB
 have h1 := between1_any z lo hi _ _ W b0 b1
 rw [hr.out] at h1
 refine (contains_one p c z (!r) _ enters_between1 _ W h ?_).mono ?_
 ·exact h1
 rintro e W1 ⟨rfl, k, rfl⟩
 go_wp2
 go_ret
 exact ⟨by simp, below_drewN hB k⟩
theorem sfilm_ok (f : Flm) (w : World) : Calls Tryz.prog 219 #[.agg f.vals] w fun e w' => e = .returned (.bool (decide f.ok)) ∧ Below w.heap.size w w' := by
 obtain ⟨ix, p, q⟩ := f
 unfold Flm.vals
 dsimp only
 have e0 : decide (Flm.ok ⟨ix, p, q⟩) = ((decide (10000000 ≤ ix ∧ ix ≤ 40000000) && decide (0 ≤ p ∧ p ≤ 1000)) && decide (1 ≤ q ∧ q ≤ 1000)) := by
  rw [← Bool.decide_and, ← Bool.decide_and]
  exact decide_eq_decide.2 (by unfold Flm.ok; dsimp only; omega)
 rw [e0]
 generalize h1 : decide (10000000 ≤ ix ∧ ix ≤ 40000000) = r1
 generalize h2 : decide (0 ≤ p ∧ p ≤ 1000) = r2
 generalize h3 : decide (1 ≤ q ∧ q ≤ 1000) = r3
 replace h1 := Lib.hid h1
 replace h2 := Lib.hid h2
 replace h3 := Lib.hid h3
 clear e0
 go_enter Tryz.func219, Tryz.ntmps219
 go_wp2_with fail
 refine boxes2c (T1 := 3) fun W hB hs b0 b1 => ?_
 have c0 := b0.cell
 have l0 := b0.lt
 refine (between_one 10000000 40000000 _ 1 ix W (.box b1 0 1 _ (fun i hi => by obtain rfl : i = 0 := (by omega); rfl) (by omega))).mono ?_
 rintro e W1 ⟨rfl, hb⟩
 rw [h1.out]
 replace hB := belowCall hB hb
 replace b0 := b0.below hb
 clear c0 l0
 have c0 := b0.cell
 have l0 := b0.lt
 cases r1 with
 | false =>
   go_wp2
   go_ret
   exact ⟨rfl, hB⟩
 | true =>
   go_wp2_with fail
   refine boxes1c (T0 := 3) fun W2 hB2 hs2 b2 => ?_
   have hBB := belowCall hB hB2
   refine (between_one 0 1000 _ 1 p W2 (.box b2 0 1 _ (fun i hi => by obtain rfl : i = 0 := (by omega); rfl) (by omega))).mono ?_
   rintro e W3 ⟨rfl, hb⟩
   rw [h2.out]
   replace hB := belowCall hBB hb
   replace b0 := (b0.below hB2).below hb
   clear c0 l0
   have c0 := b0.cell
   have l0 := b0.lt
   cases r2 with
   | false =>
     go_wp2
     go_ret
     exact ⟨rfl, hB⟩
   | true =>
     go_wp2_with fail
     refine boxes1c (T0 := 3) fun W4 hB4 hs4 b4 => ?_
     have hBB4 := belowCall hB hB4
     refine (between_one 1 1000 _ 1 q W4 (.box b4 0 1 _ (fun i hi => by obtain rfl : i = 0 := (by omega); rfl) (by omega))).mono ?_
     rintro e W5 ⟨rfl, hb⟩
     rw [h3.out]
     go_wp2
     go_ret
     exact ⟨by simp, belowCall hBB4 hb⟩
theorem vof_ok (n d : Int) (d0 : d ≠ 0) (w : World) (a1 : -9223372036854775808 ≤ n) (a2 : n ≤ 9223372036854775807) (b1 : -9223372036854775808 ≤ d) (b2 : d ≤ 9223372036854775807) :
  Calls Tryz.prog 31 #[.int .i64 n, .int .i64 d] w fun e w' => ∃ C, e = .returned (.agg C) ∧ QV w' (.agg C) (Rat.divInt n d) ∧ Below w.heap.size w w' := by
 go_enter Tryz.func31, Tryz.ntmps31
 go_wp2_with fail
 refine boxes1c fun W hB hs bR => ?_
 refine (qof_ok n d d0 W a1 a2 b1 b2).mono ?_
 rintro e W1 ⟨r, rfl, hr, hb⟩
 obtain ⟨C, rfl, hC, h1⟩ := hr.cells
 have hi : (Tryz.prog.info? 37).map (·.size) = some C.size := by rw [hC]; exact sizeQuot
 replace hB := belowCall hB hb
 replace bR := bR.below hb
 clear hb a1 a2 b1 b2 d0
 go_wp2_with first | (refine wpList_new rfl 37 rfl _ alloc_quot ?_; intro W2 BN hle hB2 bn) | (refine wpList_store_box rfl 37 (.tmp 5) _ rfl BN 0 37 _ C C rfl rfl bn hi (Nat.le_of_eq (by rw [hC]; rfl)) h1 (whole_new (by rw [hC]; rfl)) ?_; intro W3 hk3 b3; have hR3 := hk3.box (bR.below hB2) (bR.below hB2).lt (by have := bR.lt; omega)) | (refine wpList_load_box rfl 37 (.tmp 5) rfl BN rfl 37 C b3 _ Tryz.underlying37 rfl hi ?_) | (refine wpList_store_box rfl 37 (.tmp 4) _ rfl w.heap.size 0 37 _ C C rfl rfl hR3 hi (Nat.le_of_eq (by rw [hC]; rfl)) h1 (whole_new (by rw [hC]; rfl)) ?_; intro W4 hk4 b4)
 refine bodyPost_ret (b4.results rfl _ _ rfl Tryz.underlying37 rfl hi) rfl ?_
 have hB3 := hk3.below (belowCall hB hB2) (Nat.le_trans hB.size hle) (belowCall hB hB2).size
 exact ⟨C, rfl, hr.ext ((Ext.of_below hB2).trans ((hk3.ext bn (by decide)).trans (hk4.ext hR3 (by decide)))), hk4.below hB3 (Nat.le_refl _) hB3.size⟩

theorem vpair_ok (n d p q : Int) (w : World) :
  Calls Tryz.prog 32 #[.int .i64 n, .int .i64 d, .int .i64 p, .int .i64 q] w fun e w' => ∃ A B C D, e = .returned (.func (.func 94) #[] #[.pointer (some ⟨A, 0, none⟩), .pointer (some ⟨B, 0, none⟩), .pointer (some ⟨C, 0, none⟩), .pointer (some ⟨D, 0, none⟩)]) ∧ Box w' A 3 #[.int .i64 n] ∧ Box w' B 3 #[.int .i64 d] ∧ Box w' C 3 #[.int .i64 p] ∧ Box w' D 3 #[.int .i64 q] ∧ Below w.heap.size w w' := by
 have hmf : ∀ (fn : Fn) (first cap : Array Value) (w : World), (Instr.makeFunc fn first cap).run Tryz.prog w = .ok (.func fn first cap) w := fun _ _ _ _ => rfl
 go_enter Tryz.func32, Tryz.ntmps32
 go_wp2
 go_ret
 have hS : ∀ (w : World) (o : Obj), (w.alloc o).heap.size = w.heap.size + 1 := fun w o => by simp
 refine ⟨_, _, _, _, rfl, (((Box.new w 3 _).alloc _).alloc _).alloc _, ?_, ?_, ?_, ((((Below.refl _ _).alloc (Nat.le_refl _) _).alloc (by simp) _).alloc (by simp; omega) _).alloc (by simp; omega) _⟩
 ·have := ((Box.new (w.alloc (.cells #[.int .i64 n] 3)) 3 #[.int .i64 d]).alloc (.cells #[.int .i64 p] 3)).alloc (.cells #[.int .i64 q] 3)
  simpa only [hS] using this
 ·have := (Box.new ((w.alloc (.cells #[.int .i64 n] 3)).alloc (.cells #[.int .i64 d] 3)) 3 #[.int .i64 p]).alloc (.cells #[.int .i64 q] 3)
  simpa only [hS] using this
 ·have := Box.new (((w.alloc (.cells #[.int .i64 n] 3)).alloc (.cells #[.int .i64 d] 3)).alloc (.cells #[.int .i64 p] 3)) 3 #[.int .i64 q]
  simpa only [hS] using this
theorem vpair1_ok (n d p q : Int) (d0 : d ≠ 0) (q0 : q ≠ 0) (a1 : -9223372036854775808 ≤ n) (a2 : n ≤ 9223372036854775807) (b1 : -9223372036854775808 ≤ d) (b2 : d ≤ 9223372036854775807)
  (a3 : -9223372036854775808 ≤ p) (a4 : p ≤ 9223372036854775807) (b3 : -9223372036854775808 ≤ q) (b4 : q ≤ 9223372036854775807) (C D : Array Value) (w : World) (hr : QV w (.agg C) (Rat.divInt n d)) (ht : QV w (.agg D) (Rat.divInt p q))
  (A B E F : Nat) (ba : Box w A 3 #[.int .i64 n]) (bb : Box w B 3 #[.int .i64 d]) (be : Box w E 3 #[.int .i64 p]) (bf : Box w F 3 #[.int .i64 q]) :
  Calls Tryz.prog 94 #[.agg C, .agg D, .int .i64 0, .pointer (some ⟨A, 0, none⟩), .pointer (some ⟨B, 0, none⟩), .pointer (some ⟨E, 0, none⟩), .pointer (some ⟨F, 0, none⟩)] w fun e w' => e = .returned (.bool true) ∧ Below w.heap.size w w' := by
 have hof := fun W => vof_ok n d d0 W a1 a2 b1 b2
 have hof2 := fun W => vof_ok p q q0 W a3 a4 b3 b4
 obtain ⟨C', hC', hC, h1⟩ := hr.cells
 cases hC'
 obtain ⟨D', hD', hD, h2⟩ := ht.cells
 cases hD'
 have hi : (Tryz.prog.info? 37).map (·.size) = some C.size := by rw [hC]; exact sizeQuot
 have hj : (Tryz.prog.info? 37).map (·.size) = some D.size := by rw [hD]; exact sizeQuot
 clear a1 a2 a3 a4 b1 b2 b3 b4
 go_enter Tryz.func94, Tryz.ntmps94
 go_wp2_with fail
 refine boxes2 fun W hB hsz bC bD => ?_
 have ca := (ba.below hB).cell
 have la := (ba.below hB).lt
 have cb := (bb.below hB).cell
 have lb := (bb.below hB).lt
 have ce := (be.below hB).cell
 have le := (be.below hB).lt
 have cf := (bf.below hB).cell
 have lf := (bf.below hB).lt
 refine wp_region_held_drew (S := fun w' => (∀ b o, b < W.heap.size → w'.cell? ⟨b, o, none⟩ = W.cell? ⟨b, o, none⟩) ∧ Below W.heap.size W w') (by kernel_rfl) (belowS (Below.refl _ _).drew) (fun hHeld => ?_)
 refine tk 0 (some 11) ?_
 refine tk 1 (some 12) ?_
 refine tk 2 (some 13) ?_
 refine tl 3 (some 14) rfl (.agg C) (exec_load 37 _ rfl w.heap.size 0 rfl C (fun w h => (bC.below h.2).range) _ Tryz.underlying37 rfl hi) ?_
 refine tk 4 (some 15) ?_
 refine tk 5 (some 16) ?_
 refine Mono.st 6 ?_
 intro K hK
 go_simp
 (refine (hof _).mono ?_; rintro e W5 ⟨C5, rfl, R5, hb5⟩)
 refine kp hK (belowS (belowCall hHeld.2 hb5)) (fun hHeld => ?_)
 clear hK K
 have hr5 := (hr.ext (.of_below hB)).ext (.of_below hHeld.2)
 refine Mono.st 7 ?_
 intro K hK
 go_simp
 (refine (qsame_ok _ _ _ _ _ _ (Ext.refl _) hr5 R5).mono ?_; rintro e W6 ⟨he6, hb6⟩; obtain rfl : e = .returned (.bool true) := by simpa using he6)
 refine kp hK (belowS (belowCall hHeld.2 hb6)) (fun hHeld => ?_)
 clear hK K
 refine tk 8 (some 19) ?_
 refine tk 9 (some 20) ?_
 refine tl 10 (some 21) rfl (.agg D) (exec_load 37 _ rfl (w.heap.size + 1) 0 rfl D (fun w h => (bD.below h.2).range) _ Tryz.underlying37 rfl hj) ?_
 refine tk 11 (some 22) ?_
 refine tk 12 (some 23) ?_
 refine Mono.st 13 ?_
 intro K hK
 go_simp
 (refine (hof2 _).mono ?_; rintro e W7 ⟨C7, rfl, R7, hb7⟩)
 refine kp hK (belowS (belowCall hHeld.2 hb7)) (fun hHeld => ?_)
 clear hK K
 have hr7 := (ht.ext (.of_below hB)).ext (.of_below hHeld.2)
 refine Mono.st 14 ?_
 intro K hK
 go_simp
 (refine (qsame_ok _ _ _ _ _ _ (Ext.refl _) hr7 R7).mono ?_; rintro e W8 ⟨he8, hb8⟩; obtain rfl : e = .returned (.bool true) := by simpa using he8)
 refine kp hK (belowS (belowCall hHeld.2 hb8)) (fun hHeld => ?_)
 clear hK K
 refine tk 15 (some 26) ?_
 refine tk 16 (some 10) ?_
 refine wpAnyH_done (by kernel_rfl) ?_ _
 go_wp2
 go_ret
 exact ⟨rfl, belowCall hB hHeld.2⟩
end Go.Proofs.YtdgodcgdlfjpaaaGreatDoor
