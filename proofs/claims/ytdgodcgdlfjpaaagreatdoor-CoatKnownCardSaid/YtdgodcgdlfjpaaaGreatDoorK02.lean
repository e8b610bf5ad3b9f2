/- CoatKnown returns true. Part 2 of 8. No condition beside the row. -/
import Derived.Test.YtdgodcgdlfjpaaaGreatDoorA38
set_option linter.unusedVariables false
set_option linter.unusedSimpArgs false
namespace Go.Proofs.YtdgodcgdlfjpaaaGreatDoor
open Go.RowKit Go.Mono
theorem crefuse_yesb (b : Bool) (hb : b = true) (z : Int) (w : World) : Calls Tryz.prog 70 #[.bool b, .int .i64 z] w fun e w' => e = .panicked [{ v := .iface 194 (.agg #[.int .i64 z]), recovered := false }] ∧ Below w.heap.size w w' := by
  subst hb
  exact crefuse_yes z w
set_option maxRecDepth 100000 in
set_option maxHeartbeats 1000000 in
theorem best1_index (nb most : Int) (pc : Option Addr) (n cc : Nat) (w : World) (P0 P1 P2 P3 : Nat) (p0 : Box w P0 3 #[.int .i64 0]) (p1 : Box w P1 3 #[.int .i64 nb]) (p2 : Box w P2 3 #[.int .i64 most]) (p3 : Box w P3 27 #[.slice pc n cc]) :
    Calls Tryz.prog 69 #[.pointer (some ⟨P0, 0, none⟩), .pointer (some ⟨P1, 0, none⟩), .pointer (some ⟨P2, 0, none⟩), .pointer (some ⟨P3, 0, none⟩)] w fun e w' => e = .panicked [{ v := .iface 194 (.agg #[.int .i64 2]), recovered := false }] ∧ Below w.heap.size w w' := by
  have hi1 := fun W => cindex_ok 0 W
  rw [decide_eq_false (by decide)] at hi1
  go_enter Tryz.func69, Tryz.ntmps69
  go_wp2_with (refine wpList_new rfl 135 rfl _ alloc_best ?_; intro W0 BO hleO hB0 bO; have q0 := p0.below hB0; have q1 := p1.below hB0; have q2 := p2.below hB0; have q3 := p3.below hB0; have c0 := q0.cell; have l0 := q0.lt; have c1 := q1.cell; have l1 := q1.lt; have c2 := q2.cell; have l2 := q2.lt; have c3 := q3.cell; have l3 := q3.lt)
  refine (hi1 W0).mono ?_
  rintro e w5 ⟨rfl, h5⟩
  rw [h5]
  clear h5 w5
  go_wp2_with fail
  refine (crefuse_yesb _ (by simp; try omega) _ _).mono ?_
  rintro e w5 ⟨rfl, h5⟩
  first
    | exact ⟨rfl, rfl, belowCall hB0 h5⟩
    | exact ⟨rfl, belowCall hB0 h5⟩
set_option maxRecDepth 100000 in
set_option maxHeartbeats 1000000 in
theorem best1_above (pc : Option Addr) (n cc : Nat) (w : World) (P0 P1 P2 P3 : Nat) (p0 : Box w P0 3 #[.int .i64 10000000]) (p1 : Box w P1 3 #[.int .i64 10000000]) (p2 : Box w P2 3 #[.int .i64 4]) (p3 : Box w P3 27 #[.slice pc n cc]) :
    Calls Tryz.prog 69 #[.pointer (some ⟨P0, 0, none⟩), .pointer (some ⟨P1, 0, none⟩), .pointer (some ⟨P2, 0, none⟩), .pointer (some ⟨P3, 0, none⟩)] w fun e w' => e = .panicked [{ v := .iface 194 (.agg #[.int .i64 2]), recovered := false }] ∧ Below w.heap.size w w' := by
  have hi1 := fun W => cindex_ok 10000000 W
  rw [decide_eq_true (by decide)] at hi1
  have hi2 := hi1
  go_enter Tryz.func69, Tryz.ntmps69
  go_wp2_with (refine wpList_new rfl 135 rfl _ alloc_best ?_; intro W0 BO hleO hB0 bO; have q0 := p0.below hB0; have q1 := p1.below hB0; have q2 := p2.below hB0; have q3 := p3.below hB0; have c0 := q0.cell; have l0 := q0.lt; have c1 := q1.cell; have l1 := q1.lt; have c2 := q2.cell; have l2 := q2.lt; have c3 := q3.cell; have l3 := q3.lt)
  refine (hi1 W0).mono ?_
  rintro e w5 ⟨rfl, h5⟩
  rw [h5]
  clear h5 w5
  go_wp2_with fail
  refine (hi2 W0).mono ?_
  rintro e w5 ⟨rfl, h5⟩
  rw [h5]
  clear h5 w5
  go_wp2_with fail
  refine (crefuse_yesb _ (by simp; try omega) _ _).mono ?_
  rintro e w5 ⟨rfl, h5⟩
  first
    | exact ⟨rfl, rfl, belowCall hB0 h5⟩
    | exact ⟨rfl, belowCall hB0 h5⟩
set_option maxRecDepth 100000 in
set_option maxHeartbeats 1000000 in
theorem best1_under (pc : Option Addr) (n cc : Nat) (w : World) (P0 P1 P2 P3 : Nat) (p0 : Box w P0 3 #[.int .i64 10000000]) (p1 : Box w P1 3 #[.int .i64 10000000]) (p2 : Box w P2 3 #[.int .i64 (-1)]) (p3 : Box w P3 27 #[.slice pc n cc]) :
    Calls Tryz.prog 69 #[.pointer (some ⟨P0, 0, none⟩), .pointer (some ⟨P1, 0, none⟩), .pointer (some ⟨P2, 0, none⟩), .pointer (some ⟨P3, 0, none⟩)] w fun e w' => e = .panicked [{ v := .iface 194 (.agg #[.int .i64 2]), recovered := false }] ∧ Below w.heap.size w w' := by
  have hi1 := fun W => cindex_ok 10000000 W
  rw [decide_eq_true (by decide)] at hi1
  have hi2 := hi1
  go_enter Tryz.func69, Tryz.ntmps69
  go_wp2_with (refine wpList_new rfl 135 rfl _ alloc_best ?_; intro W0 BO hleO hB0 bO; have q0 := p0.below hB0; have q1 := p1.below hB0; have q2 := p2.below hB0; have q3 := p3.below hB0; have c0 := q0.cell; have l0 := q0.lt; have c1 := q1.cell; have l1 := q1.lt; have c2 := q2.cell; have l2 := q2.lt; have c3 := q3.cell; have l3 := q3.lt)
  refine (hi1 W0).mono ?_
  rintro e w5 ⟨rfl, h5⟩
  rw [h5]
  clear h5 w5
  go_wp2_with fail
  refine (hi2 W0).mono ?_
  rintro e w5 ⟨rfl, h5⟩
  rw [h5]
  clear h5 w5
  go_wp2_with fail
  refine (crefuse_yesb _ (by simp; try omega) _ _).mono ?_
  rintro e w5 ⟨rfl, h5⟩
  first
    | exact ⟨rfl, rfl, belowCall hB0 h5⟩
    | exact ⟨rfl, belowCall hB0 h5⟩
set_option maxRecDepth 100000 in
set_option maxHeartbeats 1000000 in
theorem best1_many (na nb : Int) (a1 : 10000000 ≤ na) (a2 : na ≤ 40000000) (b1 : 10000000 ≤ nb) (b2 : nb ≤ 40000000) (most : Nat) (hmost : most ≤ 3) (pc : Option Addr) (n cc : Nat) (w : World) (hn : 6 < n) (P0 P1 P2 P3 : Nat) (p0 : Box w P0 3 #[.int .i64 na]) (p1 : Box w P1 3 #[.int .i64 nb]) (p2 : Box w P2 3 #[.int .i64 (most : Int)]) (p3 : Box w P3 27 #[.slice pc n cc]) :
    Calls Tryz.prog 69 #[.pointer (some ⟨P0, 0, none⟩), .pointer (some ⟨P1, 0, none⟩), .pointer (some ⟨P2, 0, none⟩), .pointer (some ⟨P3, 0, none⟩)] w fun e w' => e = .panicked [{ v := .iface 194 (.agg #[.int .i64 3]), recovered := false }] ∧ Below w.heap.size w w' := by
  have hi1 := fun W => cindex_ok na W
  have hi2 := fun W => cindex_ok nb W
  rw [decide_eq_true ⟨a1, a2⟩] at hi1
  rw [decide_eq_true ⟨b1, b2⟩] at hi2
  have hm6 : (n : Int) > 6 := by omega
  have hmo1 : ¬ ((most : Int) < 0) := by omega
  have hmo2 : ¬ ((most : Int) > 3) := by omega
  go_enter Tryz.func69, Tryz.ntmps69
  go_wp2_with (refine wpList_new rfl 135 rfl _ alloc_best ?_; intro W0 BO hleO hB0 bO; have q0 := p0.below hB0; have q1 := p1.below hB0; have q2 := p2.below hB0; have q3 := p3.below hB0; have c0 := q0.cell; have l0 := q0.lt; have c1 := q1.cell; have l1 := q1.lt; have c2 := q2.cell; have l2 := q2.lt; have c3 := q3.cell; have l3 := q3.lt)
  refine (hi1 W0).mono ?_
  rintro e w5 ⟨rfl, h5⟩
  rw [h5]
  clear h5 w5
  go_wp2_with fail
  refine (hi2 W0).mono ?_
  rintro e w5 ⟨rfl, h5⟩
  rw [h5]
  clear h5 w5
  go_wp2_with fail
  refine (crefuse_nob _ (by simp; try omega) _ W0).mono ?_
  rintro e w5 ⟨rfl, h5⟩
  rw [h5]
  clear h5 w5
  go_wp2_with fail
  refine (crefuse_yesb _ (by simp; try omega) _ _).mono ?_
  rintro e w5 ⟨rfl, h5⟩
  first
    | exact ⟨rfl, rfl, belowCall hB0 h5⟩
    | exact ⟨rfl, belowCall hB0 h5⟩
set_option maxRecDepth 100000 in
set_option maxHeartbeats 1000000 in
theorem best1_bad (na nb : Int) (a1 : 10000000 ≤ na) (a2 : na ≤ 40000000) (b1 : 10000000 ≤ nb) (b2 : nb ≤ 40000000) (most : Nat) (hmost : most ≤ 3) (F : Nat → Flm) (m : Nat) (pc : Option Addr) (n cc : Nat) (w : World) (hn : n ≤ 6) (hm : m < n) (hF : ∀ i, i < m → (F i).ok) (hbad : ¬ (F m).ok) (h : FilmsAt w pc n cc F) (P0 P1 P2 P3 : Nat) (p0 : Box w P0 3 #[.int .i64 na]) (p1 : Box w P1 3 #[.int .i64 nb]) (p2 : Box w P2 3 #[.int .i64 (most : Int)]) (p3 : Box w P3 27 #[.slice pc n cc]) :
    Calls Tryz.prog 69 #[.pointer (some ⟨P0, 0, none⟩), .pointer (some ⟨P1, 0, none⟩), .pointer (some ⟨P2, 0, none⟩), .pointer (some ⟨P3, 0, none⟩)] w fun e w' => e = .panicked [{ v := .iface 194 (.agg #[.int .i64 400]), recovered := false }] ∧ Below w.heap.size w w' := by
  have hszF : (Tryz.prog.info? 24).map (·.size) = some 3 := by kernel_rfl
  have hi1 := fun W => cindex_ok na W
  have hi2 := fun W => cindex_ok nb W
  rw [decide_eq_true ⟨a1, a2⟩] at hi1
  rw [decide_eq_true ⟨b1, b2⟩] at hi2
  have hm6 : ¬ ((n : Int) > 6) := by omega
  have hmo1 : ¬ ((most : Int) < 0) := by omega
  have hmo2 : ¬ ((most : Int) > 3) := by omega
  go_enter Tryz.func69, Tryz.ntmps69
  go_wp2_with (refine wpList_new rfl 135 rfl _ alloc_best ?_; intro W0 BO hleO hB0 bO; have q0 := p0.below hB0; have q1 := p1.below hB0; have q2 := p2.below hB0; have q3 := p3.below hB0; have c0 := q0.cell; have l0 := q0.lt; have c1 := q1.cell; have l1 := q1.lt; have c2 := q2.cell; have l2 := q2.lt; have c3 := q3.cell; have l3 := q3.lt)
  refine (hi1 W0).mono ?_
  rintro e w5 ⟨rfl, h5⟩
  rw [h5]
  clear h5 w5
  go_wp2_with fail
  refine (hi2 W0).mono ?_
  rintro e w5 ⟨rfl, h5⟩
  rw [h5]
  clear h5 w5
  go_wp2_with fail
  refine (crefuse_nob _ (by simp; try omega) _ W0).mono ?_
  rintro e w5 ⟨rfl, h5⟩
  rw [h5]
  clear h5 w5
  go_wp2_with fail
  refine (crefuse_nob _ (by simp; try omega) _ W0).mono ?_
  rintro e w5 ⟨rfl, h5⟩
  rw [h5]
  clear h5 w5
  go_wp2_with fail
  have lO := bO.lt
  clear hi1 hi2 hm6 hmo1 hmo2 q0 q1 q2 q3
  go_loopw [34] (fun x wr => ∃ k : Nat, k ≤ m ∧ x = .int .i64 (k : Int) ∧ Below W0.heap.size W0 wr) (fun x _ => (n - intOf x).toNat)
  case atStart => exact ⟨0, Nat.zero_le _, rfl, Below.refl _ _⟩
  case round =>
    obtain ⟨k, hk, rfl, hBr⟩ := hrel
    have hBw := belowCall hB0 hBr
    obtain ⟨b, off, rfl, hbl, hrg0⟩ := h.range (by omega)
    have hrg := hrg0 k (by omega) wr hBw
    have hso := fun W => sound_ok (F k) W
    have hsz : (Tryz.prog.info? 24).map (·.size) = some (F k).vals.size := hszF
    have hsl : (Tryz.prog.info? 24).map (·.size) = some (F k).vals.toList.length := hszF
    have h1c := film_ones (F k)
    have hcs : (F k).vals.size = 3 := rfl
    have hkm' : (k : Int) < n := by omega
    have lbw := Nat.lt_of_lt_of_le hbl hBw.size
    clear hrg0
    by_cases hkm : k < m
    · rw [decide_eq_true (hF k hkm)] at hso
      generalize (F k).vals = A3 at *
      go_wp2_with first | (refine wpList_load_mid rfl 24 _ rfl b (off + k * 3) rfl A3.toList _ hrg Tryz.underlying24 rfl hsl ?_) | (refine wpList_new rfl 24 rfl _ alloc_film ?_; intro V1 B1 hle1 hb1 bf) | (refine wpList_store_box rfl 24 _ _ rfl B1 0 24 _ A3 A3 rfl rfl bf hsz (Nat.le_of_eq (by rw [hcs]; rfl)) h1c (whole_new (by rw [hcs]; rfl)) ?_; intro V2 hk2 bf2) | (refine wpList_load_box rfl 24 (.tmp 6) rfl B1 rfl 24 A3 bf2 _ Tryz.underlying24 rfl hsz ?_)
      refine (hso V2).mono ?_
      rintro e V3 ⟨rfl, hb3⟩
      have hb13 := belowCall (hk2.below hb1 hle1 hb1.size) hb3
      go_wp2_with fail
      refine (crefuse_no _ V3).mono ?_
      rintro e w5 ⟨rfl, h5⟩
      rw [h5]
      clear h5 w5
      go_wp2
      go_roundw
      case rel => exact ⟨k + 1, by omega, by simp, belowCall hBr hb13⟩
      case measure => simp [intOf]; omega
    · obtain rfl : k = m := by omega
      rw [decide_eq_false hbad] at hso
      generalize (F k).vals = A3 at *
      go_wp2_with first | (refine wpList_load_mid rfl 24 _ rfl b (off + k * 3) rfl A3.toList _ hrg Tryz.underlying24 rfl hsl ?_) | (refine wpList_new rfl 24 rfl _ alloc_film ?_; intro V1 B1 hle1 hb1 bf) | (refine wpList_store_box rfl 24 _ _ rfl B1 0 24 _ A3 A3 rfl rfl bf hsz (Nat.le_of_eq (by rw [hcs]; rfl)) h1c (whole_new (by rw [hcs]; rfl)) ?_; intro V2 hk2 bf2) | (refine wpList_load_box rfl 24 (.tmp 6) rfl B1 rfl 24 A3 bf2 _ Tryz.underlying24 rfl hsz ?_)
      refine (hso V2).mono ?_
      rintro e V3 ⟨rfl, hb3⟩
      have hb13 := belowCall (hk2.below hb1 hle1 hb1.size) hb3
      go_wp2_with fail
      refine (crefuse_yesb _ (by simp; try omega) _ _).mono ?_
      rintro e w5 ⟨rfl, h5⟩
      first
        | exact ⟨rfl, rfl, belowCall (belowCall hBw hb13) h5⟩
        | exact ⟨rfl, belowCall (belowCall hBw hb13) h5⟩

set_option maxRecDepth 100000 in
set_option maxHeartbeats 1000000 in
/-- coat.Best where its computation panics -/
theorem best_panic (na nb most z : Int) (pc : Option Addr) (n cc : Nat) (w : World)
    (hg : ∀ W P0 P1 P2 P3, Below w.heap.size w W → Box W P0 3 #[.int .i64 na] → Box W P1 3 #[.int .i64 nb] → Box W P2 3 #[.int .i64 most] → Box W P3 27 #[.slice pc n cc] → Calls Tryz.prog 69 #[.pointer (some ⟨P0, 0, none⟩), .pointer (some ⟨P1, 0, none⟩), .pointer (some ⟨P2, 0, none⟩), .pointer (some ⟨P3, 0, none⟩)] W fun e w' => e = .panicked [{ v := .iface 194 (.agg #[.int .i64 z]), recovered := false }] ∧ Below W.heap.size W w') :
    Calls Tryz.prog 18 #[.int .i64 na, .int .i64 nb, .slice pc n cc, .int .i64 most] w fun e w' => e = .returned (.tuple #[.slice none 0 0, .agg quot0, .int .i64 z]) ∧ Below w.heap.size w w' := by
  have hmf : ∀ (fn : Fn) (first cap : Array Value) (w : World), (Instr.makeFunc fn first cap).run Tryz.prog w = .ok (.func fn first cap) w := fun _ _ _ _ => rfl
  go_enter Tryz.func18, Tryz.ntmps18
  go_wp2_with fail
  refine boxes5k fun W hB hs q0 q1 q2 q3 bR => ?_
  refine (caughtBe_panic 69 _ enters_best1 z W ?_).mono ?_
  · intro W2 hW2 hs2
    exact hg W2 _ _ _ _ (belowCall hB hW2) (q0.below hW2) (q1.below hW2) (q3.below hW2) (q2.below hW2)
  rintro e W3 ⟨rfl, hb3⟩
  replace hB := belowCall hB hb3
  replace bR := bR.below hb3
  have hq : (Tryz.prog.info? 135).map (·.size) = some best0.size := by kernel_rfl
  have h9 : best0.size = 9 := rfl
  have ho : best0.all (·.oneCell') = true := by decide +kernel
  have hp4 : best0 = #[.bool false, .slice none 0 0, .bool false, .slice none 0 0, .bool false, .slice none 0 0, .bool false, .slice none 0 0, .slice none 0 0] := rfl
  clear q0 q1 q2 q3
  generalize best0 = C at *
  replace hp4 := Lib.hid hp4
  go_wp2_with first | (refine wpList_new rfl 135 rfl _ alloc_best ?_; intro W4 BL hleL hb4 bL) | (refine wpList_store_box rfl 135 _ _ rfl BL 0 135 _ C C rfl rfl bL hq (Nat.le_of_eq (by rw [h9]; rfl)) ho (whole_new (by rw [h9]; rfl)) ?_; intro W5 hk5 bL5)
  have hb35 := hk5.below hb4 hleL hb4.size
  replace hB := belowCall hB hb35
  replace bR := bR.below hb35
  have hne : w.heap.size + 1 + 1 + 1 + 1 ≠ BL := by have := hb3.size; omega
  have hp5 := hp4.out
  clear hp4
  subst hp5
  refine wp_region_held_drew (S := fun w' => w'.cell? ⟨BL, 8, none⟩ = some (.slice none 0 0) ∧ Box w' BL 135 #[.bool false, .slice none 0 0, .bool false, .slice none 0 0, .bool false, .slice none 0 0, .bool false, .slice none 0 0, .slice none 0 0] ∧ Below w.heap.size w w') (by as_aux_lemma => kernel_rfl) ⟨bL5.drew.cell 8, bL5.drew, hB.drew⟩ (fun hHeld => ?_)
  refine tk 0 (some 17) ?_
  refine tk 1 (some 18) ?_
  refine tk 2 (some 19) ?_
  refine tk 3 (some 20) ?_
  refine tl 4 (some 21) rfl (.agg #[.bool false, .slice none 0 0, .bool false, .slice none 0 0]) (exec_load 37 _ rfl BL 0 rfl #[.bool false, .slice none 0 0, .bool false, .slice none 0 0] (fun w h => h.2.1.part 0 #[.bool false, .slice none 0 0, .bool false, .slice none 0 0] rfl) _ Tryz.underlying37 rfl sizeQuot) ?_
  refine tk 5 (some 22) ?_
  refine tk 6 (some 8) ?_
  refine wpAnyH_storeB (w.heap.size + 1 + 1 + 1 + 1) 37 7 rfl rfl rfl rfl 0 #[.bool false, .slice none 0 0, .bool false, .slice none 0 0] _ #[.bool false, .slice none 0 0, .bool false, .slice none 0 0] (by as_aux_lemma => kernel_rfl) (fun w' i u hS => ⟨(hS.2.1.other _ _ (Ne.symm hne)).cell 8, hS.2.1.other _ _ (Ne.symm hne), hS.2.2.setCell (p := ⟨w.heap.size + 1 + 1 + 1 + 1, i, none⟩) (by simp; omega) u⟩) rfl rfl bR.drew hHeld sizeQuot (Nat.le_of_eq rfl) (by decide +kernel) (whole_new rfl) (fun Ws hk0 bs hHeld => ?_)
  refine tk 8 (some 10) ?_
  refine wpAnyH_done (by as_aux_lemma => kernel_rfl) ?_ _
  go_wp2
  refine bodyPost_ret (bs.resultsTCT rfl _ _ rfl Tryz.underlying37 rfl sizeQuot) rfl ?_
  exact ⟨rfl, hHeld.2.2⟩
end Go.Proofs.YtdgodcgdlfjpaaaGreatDoor
