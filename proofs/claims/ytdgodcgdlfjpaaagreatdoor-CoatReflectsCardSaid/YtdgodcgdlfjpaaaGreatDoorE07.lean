/- A verified evaluator of the model, and the references of layer 40 by it. Part 7 of 8. No condition beside the row. -/
import Derived.Test.YtdgodcgdlfjpaaaGreatDoorA03
import Derived.Test.YtdgodcgdlfjpaaaGreatDoorA25
import Derived.Test.YtdgodcgdlfjpaaaGreatDoorA31
import Derived.Test.YtdgodcgdlfjpaaaGreatDoorE03
import Derived.Test.YtdgodcgdlfjpaaaGreatDoorE06
set_option linter.unusedVariables false
set_option linter.unusedSimpArgs false
set_option maxRecDepth 100000
set_option maxHeartbeats 4000000
namespace Go.Mono
open Go.RowKit
theorem QtV.cells {m : Nat} {w : World} {v : Value} {q : Rat} (h : QtV m w v q) : ∃ C : Array Value, v = .agg C ∧ C.size = 4 ∧ C.all (·.oneCell') = true := by
 obtain ⟨s, p, n, c, s', p', n', c', rfl, _, _⟩ := h
 exact ⟨_, rfl, rfl, by simp [Value.oneCell']⟩
theorem QtV.tight {m k : Nat} {w : World} {v : Value} {q : Rat} (h : QtV m w v q) (h1 : (q.num.natAbs : Int) < pw k) (h2 : (q.den : Int) < pw k) : QtV k w v q := by
 obtain ⟨s, p, n, c, s', p', n', c', rfl, x, y⟩ := h
 exact ⟨s, p, n, c, s', p', n', c', rfl, x.tight h1, y.tight (by simpa using h2)⟩
theorem rat_prod_divInt (a b : Rat) : Rat.divInt (a.num * b.num) ((a.den : Int) * b.den) = a * b := by
 rw [← Rat.divInt_mul_divInt, Rat.num_divInt_den, Rat.num_divInt_den]
theorem rat_sum_divInt (a b : Rat) : Rat.divInt (a.num * b.den + b.num * a.den) ((a.den : Int) * b.den) = a + b := by
 have h := Rat.divInt_add_divInt a.num b.num (d₁ := a.den) (d₂ := b.den) (by have := a.den_pos; omega) (by have := b.den_pos; omega)
 rw [← h, Rat.num_divInt_den, Rat.num_divInt_den]
end Go.Mono
namespace Go.Proofs.YtdgodcgdlfjpaaaGreatDoor
open Go.RowKit Go.Mono

theorem r4prod_ok {m : Nat} {v1 v2 : Value} {a b : Rat} (w : World) (h1 : QtV m w v1 a) (h2 : QtV m w v2 b) (hm : m ≤ 50000) :
  Calls Tryz.prog 202 #[v1, v2] w fun e w' => ∃ v, e = .returned v ∧ QtV (m + m) w' v (a * b) ∧ Below w.heap.size w w' := by
 have hab := rat_prod_divInt a b
 have hden : (0 : Int) < (a.den : Int) * b.den := Int.mul_pos (by have := a.den_pos; omega) (by have := b.den_pos; omega)
 obtain ⟨s1, p1, n1, c1, t1, q1, m1, d1, rfl, x1, x2⟩ := h1
 obtain ⟨s2, p2, n2, c2, t2, q2, m2, d2, rfl, y1, y2⟩ := h2
 go_enter Tryz.func202, Tryz.ntmps202
 go_wp2_with fail
 refine boxes3 fun W hB hs b0 b1 bO => ?_
 replace x1 := x1.below hB
 replace x2 := x2.below hB
 replace y1 := y1.below hB
 replace y2 := y2.below hB
 refine wp_region_held_drew (S := fun w' => (∀ b o, b < W.heap.size → b ≠ (w.heap.size + 1 + 1) → w'.cell? ⟨b, o, none⟩ = W.cell? ⟨b, o, none⟩) ∧ KeepBut (w.heap.size + 1 + 1) W.heap.size W w') (by as_aux_lemma => kernel_rfl) (KeepBut.S (KeepBut.refl _ _).drew) (fun hHeld => ?_)
 have hBel : Below W.heap.size W W.drew := (Below.refl _ _).drew
 refine tk 0 (some 5) ?_
 refine tl 1 (some 6) rfl (.agg #[.bool s1, .slice p1 n1 c1]) (exec_load 35 _ rfl w.heap.size 0 rfl  #[.bool s1, .slice p1 n1 c1] (fun w h => (h.2.box b0 b0.lt (by omega)).part 0 #[.bool s1, .slice p1 n1 c1] rfl) _ Tryz.underlying35 rfl sizeLong) ?_
 refine tk 2 (some 7) ?_
 refine tl 3 (some 8) rfl (.agg #[.bool s2, .slice p2 n2 c2]) (exec_load 35 _ rfl (w.heap.size + 1) 0 rfl  #[.bool s2, .slice p2 n2 c2] (fun w h => (h.2.box b1 b1.lt (by omega)).part 0 #[.bool s2, .slice p2 n2 c2] rfl) _ Tryz.underlying35 rfl sizeLong) ?_
 refine tk 5 (some 10) ?_
 refine tl 6 (some 11) rfl (.agg #[.bool t1, .slice q1 m1 d1]) (exec_load 35 _ rfl w.heap.size 2 rfl  #[.bool t1, .slice q1 m1 d1] (fun w h => (h.2.box b0 b0.lt (by omega)).part 2 #[.bool t1, .slice q1 m1 d1] rfl) _ Tryz.underlying35 rfl sizeLong) ?_
 refine tk 7 (some 12) ?_
 refine tl 8 (some 13) rfl (.agg #[.bool t2, .slice q2 m2 d2]) (exec_load 35 _ rfl (w.heap.size + 1) 2 rfl  #[.bool t2, .slice q2 m2 d2] (fun w h => (h.2.box b1 b1.lt (by omega)).part 2 #[.bool t2, .slice q2 m2 d2] rfl) _ Tryz.underlying35 rfl sizeLong) ?_
 refine Mono.stc 4 (some 9) (r3prod_ok _ (x1.ext (.of_below hBel)) (y1.ext (.of_below hBel)) (by omega) (by omega)) (fun e Wn4 hR => ?_)
 obtain ⟨V4, rfl, R4, hb4⟩ := hR
 replace hBel := belowCall hBel hb4
 refine ⟨(KeepBut.S (hHeld.2.call hb4)), fun hHeld => Mono.pt ?_⟩
 refine Mono.stc 9 (some 14) (r3prod_ok _ (x2.ext (.of_below hBel)) (y2.ext (.of_below hBel)) (by omega) (by omega)) (fun e Wn9 hR => ?_)
 obtain ⟨V9, rfl, R9, hb9⟩ := hR
 replace hBel := belowCall hBel hb9
 replace R4 := R4.ext (.of_below hb9)
 refine ⟨(KeepBut.S (hHeld.2.call hb9)), fun hHeld => Mono.pt ?_⟩
 refine Mono.stc 10 (some 15) (r4lowest_pos _ R4 R9 hden (by omega)) (fun e Wn10 hR => ?_)
 obtain ⟨V10, rfl, R10, hb10⟩ := hR
 replace hBel := belowCall hBel hb10
 replace R4 := R4.ext (.of_below hb10)
 replace R9 := R9.ext (.of_below hb10)
 refine ⟨(KeepBut.S (hHeld.2.call hb10)), fun hHeld => Mono.pt ?_⟩
 rw [hab] at R10
 obtain ⟨C, rfl, zC, oC⟩ := R10.cells
 refine wpAnyH_storeB (w.heap.size + 1 + 1) 37 11 rfl rfl rfl rfl 0 C _ C (by as_aux_lemma => kernel_rfl) (fun w' i u hS => KeepBut.S (hS.2.set i u)) rfl rfl (bO.below hBel) hHeld (by rw [zC]; exact sizeQuot) (Nat.le_of_eq (by rw [zC]; rfl)) oC (whole_new (by rw [zC]; rfl)) (fun Ws hks bs hHeld => ?_)
 refine wpAnyH_done (by as_aux_lemma => kernel_rfl) ?_ _
 have xS := hks.ext (bO.below hBel) (by decide)
 go_wp2
 refine bodyPost_ret (bs.results rfl _ _ rfl Tryz.underlying37 rfl (by rw [zC]; exact sizeQuot)) rfl ?_
 exact ⟨_, rfl, R10.ext xS, hHeld.2.below hB (by omega) hB.size⟩
theorem r4sum_ok {m : Nat} {v1 v2 : Value} {a b : Rat} (w : World) (h1 : QtV m w v1 a) (h2 : QtV m w v2 b) (hm : m ≤ 40000) :
  Calls Tryz.prog 203 #[v1, v2] w fun e w' => ∃ v, e = .returned v ∧ QtV (m + m + 1) w' v (a + b) ∧ Below w.heap.size w w' := by
 have hab := rat_sum_divInt a b
 have hden : (0 : Int) < (a.den : Int) * b.den := Int.mul_pos (by have := a.den_pos; omega) (by have := b.den_pos; omega)
 obtain ⟨s1, p1, n1, c1, t1, q1, m1, d1, rfl, x1, x2⟩ := h1
 obtain ⟨s2, p2, n2, c2, t2, q2, m2, d2, rfl, y1, y2⟩ := h2
 go_enter Tryz.func203, Tryz.ntmps203
 go_wp2_with fail
 refine boxes3 fun W hB hs b0 b1 bO => ?_
 replace x1 := x1.below hB
 replace x2 := x2.below hB
 replace y1 := y1.below hB
 replace y2 := y2.below hB
 refine wp_region_held_drew (S := fun w' => (∀ b o, b < W.heap.size → b ≠ (w.heap.size + 1 + 1) → w'.cell? ⟨b, o, none⟩ = W.cell? ⟨b, o, none⟩) ∧ KeepBut (w.heap.size + 1 + 1) W.heap.size W w') (by as_aux_lemma => kernel_rfl) (KeepBut.S (KeepBut.refl _ _).drew) (fun hHeld => ?_)
 have hBel : Below W.heap.size W W.drew := (Below.refl _ _).drew
 refine tk 0 (some 5) ?_
 refine tl 1 (some 6) rfl (.agg #[.bool s1, .slice p1 n1 c1]) (exec_load 35 _ rfl w.heap.size 0 rfl  #[.bool s1, .slice p1 n1 c1] (fun w h => (h.2.box b0 b0.lt (by omega)).part 0 #[.bool s1, .slice p1 n1 c1] rfl) _ Tryz.underlying35 rfl sizeLong) ?_
 refine tk 2 (some 7) ?_
 refine tl 3 (some 8) rfl (.agg #[.bool t2, .slice q2 m2 d2]) (exec_load 35 _ rfl (w.heap.size + 1) 2 rfl  #[.bool t2, .slice q2 m2 d2] (fun w h => (h.2.box b1 b1.lt (by omega)).part 2 #[.bool t2, .slice q2 m2 d2] rfl) _ Tryz.underlying35 rfl sizeLong) ?_
 refine tk 5 (some 10) ?_
 refine tl 6 (some 11) rfl (.agg #[.bool s2, .slice p2 n2 c2]) (exec_load 35 _ rfl (w.heap.size + 1) 0 rfl  #[.bool s2, .slice p2 n2 c2] (fun w h => (h.2.box b1 b1.lt (by omega)).part 0 #[.bool s2, .slice p2 n2 c2] rfl) _ Tryz.underlying35 rfl sizeLong) ?_
 refine tk 7 (some 12) ?_
 refine tl 8 (some 13) rfl (.agg #[.bool t1, .slice q1 m1 d1]) (exec_load 35 _ rfl w.heap.size 2 rfl  #[.bool t1, .slice q1 m1 d1] (fun w h => (h.2.box b0 b0.lt (by omega)).part 2 #[.bool t1, .slice q1 m1 d1] rfl) _ Tryz.underlying35 rfl sizeLong) ?_
 refine tk 11 (some 16) ?_
 refine tl 12 (some 17) rfl (.agg #[.bool t1, .slice q1 m1 d1]) (exec_load 35 _ rfl w.heap.size 2 rfl  #[.bool t1, .slice q1 m1 d1] (fun w h => (h.2.box b0 b0.lt (by omega)).part 2 #[.bool t1, .slice q1 m1 d1] rfl) _ Tryz.underlying35 rfl sizeLong) ?_
 refine tk 13 (some 18) ?_
 refine tl 14 (some 19) rfl (.agg #[.bool t2, .slice q2 m2 d2]) (exec_load 35 _ rfl (w.heap.size + 1) 2 rfl  #[.bool t2, .slice q2 m2 d2] (fun w h => (h.2.box b1 b1.lt (by omega)).part 2 #[.bool t2, .slice q2 m2 d2] rfl) _ Tryz.underlying35 rfl sizeLong) ?_
 refine Mono.stc 4 (some 9) (r3prod_ok _ (x1.ext (.of_below hBel)) (y2.ext (.of_below hBel)) (by omega) (by omega)) (fun e Wn4 hR => ?_)
 obtain ⟨V4, rfl, R4, hb4⟩ := hR
 replace hBel := belowCall hBel hb4
 refine ⟨(KeepBut.S (hHeld.2.call hb4)), fun hHeld => Mono.pt ?_⟩
 refine Mono.stc 9 (some 14) (r3prod_ok _ (y1.ext (.of_below hBel)) (x2.ext (.of_below hBel)) (by omega) (by omega)) (fun e Wn9 hR => ?_)
 obtain ⟨V9, rfl, R9, hb9⟩ := hR
 replace hBel := belowCall hBel hb9
 replace R4 := R4.ext (.of_below hb9)
 refine ⟨(KeepBut.S (hHeld.2.call hb9)), fun hHeld => Mono.pt ?_⟩
 refine Mono.stc 10 (some 15) (r3sum_ok _ R4 R9 (by omega) (by omega)) (fun e Wn10 hR => ?_)
 obtain ⟨V10, rfl, R10, hb10⟩ := hR
 replace hBel := belowCall hBel hb10
 replace R4 := R4.ext (.of_below hb10)
 replace R9 := R9.ext (.of_below hb10)
 refine ⟨(KeepBut.S (hHeld.2.call hb10)), fun hHeld => Mono.pt ?_⟩
 refine Mono.stc 15 (some 20) (r3prod_ok _ (x2.ext (.of_below hBel)) (y2.ext (.of_below hBel)) (by omega) (by omega)) (fun e Wn15 hR => ?_)
 obtain ⟨V15, rfl, R15, hb15⟩ := hR
 replace hBel := belowCall hBel hb15
 replace R4 := R4.ext (.of_below hb15)
 replace R9 := R9.ext (.of_below hb15)
 replace R10 := R10.ext (.of_below hb15)
 refine ⟨(KeepBut.S (hHeld.2.call hb15)), fun hHeld => Mono.pt ?_⟩
 refine Mono.stc 16 (some 21) (r4lowest_pos (m := m + m + 1) _ (R10.mono (by omega)) (R15.mono (by omega)) hden (by omega)) (fun e Wn16 hR => ?_)
 obtain ⟨V16, rfl, R16, hb16⟩ := hR
 replace hBel := belowCall hBel hb16
 replace R4 := R4.ext (.of_below hb16)
 replace R9 := R9.ext (.of_below hb16)
 replace R10 := R10.ext (.of_below hb16)
 replace R15 := R15.ext (.of_below hb16)
 refine ⟨(KeepBut.S (hHeld.2.call hb16)), fun hHeld => Mono.pt ?_⟩
 rw [hab] at R16
 obtain ⟨C, rfl, zC, oC⟩ := R16.cells
 refine wpAnyH_storeB (w.heap.size + 1 + 1) 37 17 rfl rfl rfl rfl 0 C _ C (by as_aux_lemma => kernel_rfl) (fun w' i u hS => KeepBut.S (hS.2.set i u)) rfl rfl (bO.below hBel) hHeld (by rw [zC]; exact sizeQuot) (Nat.le_of_eq (by rw [zC]; rfl)) oC (whole_new (by rw [zC]; rfl)) (fun Ws hks bs hHeld => ?_)
 refine wpAnyH_done (by as_aux_lemma => kernel_rfl) ?_ _
 have xS := hks.ext (bO.below hBel) (by decide)
 go_wp2
 refine bodyPost_ret (bs.results rfl _ _ rfl Tryz.underlying37 rfl (by rw [zC]; exact sizeQuot)) rfl ?_
 exact ⟨_, rfl, R16.ext xS, hHeld.2.below hB (by omega) hB.size⟩
theorem r4minus_ok {m : Nat} {v1 : Value} {a : Rat} (w : World) (h1 : QtV m w v1 a) (hm : m ≤ 100000) :
  Calls Tryz.prog 204 #[v1] w fun e w' => ∃ v, e = .returned v ∧ QtV m w' v (-a) ∧ Below w.heap.size w w' := by
 obtain ⟨s1, p1, n1, c1, t1, q1, m1, d1, rfl, x1, x2⟩ := h1
 go_enter Tryz.func204, Tryz.ntmps204
 go_wp2_with fail
 refine boxes2 fun W hB hs b0 bO => ?_
 replace x1 := x1.below hB
 replace x2 := x2.below hB
 refine wp_region_held_drew (S := fun w' => (∀ b o, b < W.heap.size → b ≠ (w.heap.size + 1) → w'.cell? ⟨b, o, none⟩ = W.cell? ⟨b, o, none⟩) ∧ KeepBut (w.heap.size + 1) W.heap.size W w') (by as_aux_lemma => kernel_rfl) (KeepBut.S (KeepBut.refl _ _).drew) (fun hHeld => ?_)
 have hBel : Below W.heap.size W W.drew := (Below.refl _ _).drew
 refine tk 0 (some 3) ?_
 refine tl 1 (some 4) rfl (.agg #[.bool s1, .slice p1 n1 c1]) (exec_load 35 _ rfl w.heap.size 0 rfl  #[.bool s1, .slice p1 n1 c1] (fun w h => (h.2.box b0 b0.lt (by omega)).part 0 #[.bool s1, .slice p1 n1 c1] rfl) _ Tryz.underlying35 rfl sizeLong) ?_
 refine tk 3 (some 6) ?_
 refine tl 4 (some 7) rfl (.agg #[.bool t1, .slice q1 m1 d1]) (exec_load 35 _ rfl w.heap.size 2 rfl  #[.bool t1, .slice q1 m1 d1] (fun w h => (h.2.box b0 b0.lt (by omega)).part 2 #[.bool t1, .slice q1 m1 d1] rfl) _ Tryz.underlying35 rfl sizeLong) ?_
 refine Mono.stc 2 (some 5) (r3minus_ok _ (x1.ext (.of_below hBel)) hm) (fun e Wn2 hR => ?_)
 obtain ⟨V2, rfl, R2, hb2⟩ := hR
 obtain ⟨s3, p3, n3, c3, rfl⟩ := R2.parts
 replace hBel := belowCall hBel hb2
 refine ⟨(KeepBut.S (hHeld.2.call hb2)), fun hHeld => Mono.pt ?_⟩
 refine tl 5 (some 8) rfl (.agg #[.bool s3, .slice p3 n3 c3, .bool t1, .slice q1 m1 d1]) (exec_build 37 _ rfl #[.bool s3, .slice p3 n3 c3, .bool t1, .slice q1 m1 d1] (by as_aux_lemma => kernel_rfl)) ?_
 have RQ : QtV m Wn2 (.agg #[.bool s3, .slice p3 n3 c3, .bool t1, .slice q1 m1 d1]) (-a) := ⟨_, _, _, _, _, _, _, _, rfl, R2, x2.ext (.of_below hBel)⟩
 have oC := quot_ones s3 t1 p3 q1 n3 m1 c3 d1
 refine wpAnyH_storeB (w.heap.size + 1) 37 6 rfl rfl rfl rfl 0 #[.bool s3, .slice p3 n3 c3, .bool t1, .slice q1 m1 d1] _ #[.bool s3, .slice p3 n3 c3, .bool t1, .slice q1 m1 d1] (by as_aux_lemma => kernel_rfl) (fun w' i u hS => KeepBut.S (hS.2.set i u)) rfl rfl (bO.below hBel) hHeld sizeQuot (Nat.le_of_ble_eq_true rfl) oC (whole_new rfl) (fun Ws hks bs hHeld => ?_)
 refine wpAnyH_done (by as_aux_lemma => kernel_rfl) ?_ _
 have xS := hks.ext (bO.below hBel) (by decide)
 go_wp2
 refine bodyPost_ret (bs.results rfl _ _ rfl Tryz.underlying37 rfl sizeQuot) rfl ?_
 exact ⟨_, rfl, RQ.ext xS, hHeld.2.below hB (by omega) hB.size⟩
end Go.Proofs.YtdgodcgdlfjpaaaGreatDoor
namespace Go.Mono
open Go.RowKit
theorem LgV.len {m : Nat} {w : World} {s : Bool} {p : Option Addr} {n c : Nat} {z : Int} (h : LgV m w (.agg #[.bool s, .slice p n c]) z) : n ≤ m ∧ s = decide (z < 0) ∧ (0 < z.natAbs ↔ 0 < n) := by
 obtain ⟨p', n', c', f, hv, h1, h2, h3, h4⟩ := h
 simp only [Value.agg.injEq, Array.mk.injEq, List.cons.injEq, Value.bool.injEq, Value.slice.injEq, and_true] at hv
 obtain ⟨rfl, rfl, rfl, rfl⟩ := hv
 refine ⟨h4, rfl, ?_⟩
 have := h2.pos
 rw [h3] at this
 omega
end Go.Mono
namespace Go.Proofs.YtdgodcgdlfjpaaaGreatDoor
open Go.RowKit Go.Mono
theorem r4told_ok {v1 : Value} {a : Rat} (w : World) (h1 : QtV 600 w v1 a) :
  Calls Tryz.prog 201 #[v1] w fun e w' => e = .returned (.tuple #[v1, .int .i64 0]) ∧ Below w.heap.size w w' := by
 obtain ⟨s1, p1, n1, c1, t1, q1, m1, d1, rfl, x1, x2⟩ := h1
 have l1 := x1.len.1
 have l2 := x2.len.1
 have l1' : ¬ ((600 : Int) < n1) := by omega
 have l2' : ¬ ((600 : Int) < m1) := by omega
 clear x1 x2
 go_enter Tryz.func201, Tryz.ntmps201
 go_wp2
 have b := Box.new (w.alloc (.cells #[.bool s1, .slice p1 n1 c1, .bool t1, .slice q1 m1 d1] 37)) 37 #[.bool s1, .slice p1 n1 c1, .bool t1, .slice q1 m1 d1]
 simp only [World.size_alloc] at b
 exact bodyPost_ret (b.resultsT rfl _ _ rfl Tryz.underlying37 rfl sizeQuot) rfl ⟨rfl, belowAlloc (belowAlloc (Below.refl _ _) _) _⟩
theorem r4same_ok {m1 m2 : Nat} {v1 v2 : Value} {a b : Rat} (w : World) (h1 : QtV m1 w v1 a) (h2 : QtV m2 w v2 b) :
  Calls Tryz.prog 17 #[v1, v2] w fun e w' => e = .returned (.bool (decide (a = b))) ∧ Below w.heap.size w w' := by
 obtain ⟨s1, p1, n1, c1, t1, q1, m1, d1, rfl, x1, x2⟩ := h1
 obtain ⟨s2, p2, n2, c2, t2, q2, m2, d2, rfl, y1, y2⟩ := h2
 have hab : decide (a = b) = (decide (a.num = b.num) && decide ((a.den : Int) = b.den)) := by
  rw [Bool.eq_iff_iff]
  simp only [decide_eq_true_eq, Bool.and_eq_true]
  exact ⟨fun h => by subst h; exact ⟨rfl, rfl⟩, fun h => Rat.ext h.1 (by omega)⟩
 rw [hab]
 clear hab
 have hs1 := fun (X : World) (hX : Ext w X) => r3same_ok X (x1.ext hX) (y1.ext hX)
 have hs2 := fun (X : World) (hX : Ext w X) => r3same_ok X (x2.ext hX) (y2.ext hX)
 generalize decide (a.num = b.num) = e1 at *
 generalize decide ((a.den : Int) = b.den) = e2 at *
 clear x1 x2 y1 y2
 go_enter Tryz.func17, Tryz.ntmps17
 go_wp2_with fail
 refine boxes2c fun W hB hs b0 b1 => ?_
 refine (hs1 W (.of_below hB)).mono ?_
 rintro e W2 ⟨rfl, hb⟩
 replace b0 := b0.below hb
 replace b1 := b1.below hb
 replace hB := belowCall hB hb
 have cb0 := b0.cell
 have lb0 := b0.lt
 have fb0 := b0.frozen
 have cb1 := b1.cell
 have lb1 := b1.lt
 have fb1 := b1.frozen
 clear hs1 hb hs
 cases e1
 ·go_wp2
  go_ret
  exact ⟨rfl, hB⟩
 ·go_wp2_with (go_at_call 67; refine (hs2 W2 (.of_below hB)).mono ?_; rintro e W3 ⟨rfl, hb3⟩)
  go_ret
  exact ⟨by simp, belowCall hB hb3⟩
theorem r4right_ok {v1 : Value} {a : Rat} (w : World) (h1 : QtV 600 w v1 a) :
  Calls Tryz.prog 153 #[v1] w fun e w' => e = .returned (.bool true) ∧ Below w.heap.size w w' := by
 obtain ⟨s1, p1, n1, c1, t1, q1, m1, d1, rfl, x1, x2⟩ := h1
 have hg : (Int.gcd a.num a.den : Int) = 1 := by
  have := a.reduced
  have h : Int.gcd a.num a.den = 1 := by simpa [Int.gcd, Nat.Coprime] using this
  rw [h]; rfl
 have ht : t1 = false := by
  rw [x2.len.2.1]
  exact decide_eq_false (by omega)
 subst ht
 have hn := x2.len.2.2.1 (by have := a.den_pos; omega)
 have hn' : (0 : Int) < m1 := by omega
 have hr1 := fun (X : World) (hX : Ext w X) => r3right_ok X (x1.ext hX)
 have hr2 := fun (X : World) (hX : Ext w X) => r3right_ok X (x2.ext hX)
 have hc := fun (X : World) (hX : Ext w X) => r3common_ok X (x1.ext hX) (x2.ext hX) (by decide)
 rw [hg] at hc
 clear x1 x2 hg
 go_enter Tryz.func153, Tryz.ntmps153
 go_wp2_with fail
 refine boxes1c fun W hB hs b0 => ?_
 refine (hr1 W (.of_below hB)).mono ?_
 rintro e W2 ⟨rfl, hb⟩
 replace b0 := b0.below hb
 replace hB := belowCall hB hb
 have cb0 := b0.cell
 have lb0 := b0.lt
 have fb0 := b0.frozen
 clear hb
 go_wp2_with (go_at_call 220; refine (hr2 W2 (.of_below hB)).mono ?_; rintro e W3 ⟨rfl, hb3⟩; replace b0 := b0.below hb3; replace hB := belowCall hB hb3; clear cb0 lb0 fb0 hb3; have cb0 := b0.cell; have lb0 := b0.lt; have fb0 := b0.frozen)
 go_wp2_with (go_at_call 221; refine (hc W3 (.of_below hB)).mono ?_; rintro e W4 ⟨v, rfl, hv, hb4⟩; replace hB := belowCall hB hb4)
 go_wp2_with (go_at_call 200; refine (r3of_ok 1 W4 (by decide) (by decide)).mono ?_; rintro e W5 ⟨u, rfl, hu, hb5⟩; replace hB := belowCall hB hb5)
 go_wp2_with (go_at_call 67; refine (r3same_ok W5 (hv.below hb5) hu).mono ?_; rintro e W6 ⟨rfl, hb6⟩; replace hB := belowCall hB hb6)
 go_wp2
 go_ret
 exact ⟨by simp, hB⟩
theorem r4add_ok {v1 v2 : Value} {a b : Rat} (w : World) (h1 : QtV 600 w v1 a) (h2 : QtV 600 w v2 b) (hf : Fits (a + b)) :
  Calls Tryz.prog 147 #[v1, v2] w fun e w' => ∃ C, e = .returned (.tuple #[.agg C, .int .i64 0]) ∧ QtV 600 w' (.agg C) (a + b) ∧ Below w.heap.size w w' := by
 have hr1 := fun (X : World) (hX : Ext w X) => r4right_ok X (h1.ext hX)
 have hr2 := fun (X : World) (hX : Ext w X) => r4right_ok X (h2.ext hX)
 have hc := fun (X : World) (hX : Ext w X) => r4sum_ok X (h1.ext hX) (h2.ext hX) (by decide)
 obtain ⟨s1, p1, n1, c1, t1, q1, m1, d1, rfl, x1, x2⟩ := h1
 obtain ⟨s2, p2, n2, c2, t2, q2, m2, d2, rfl, y1, y2⟩ := h2
 clear x1 x2 y1 y2
 go_enter Tryz.func147, Tryz.ntmps147
 go_wp2_with fail
 refine boxes3c fun W hB hs b0 b1 bO => ?_
 refine (hr1 W (.of_below hB)).mono ?_
 rintro e W2 ⟨rfl, hb⟩
 replace b0 := b0.below hb
 replace b1 := b1.below hb
 replace bO := bO.below hb
 replace hB := belowCall hB hb
 have cb0 := b0.cell
 have lb0 := b0.lt
 have fb0 := b0.frozen
 have cb1 := b1.cell
 have lb1 := b1.lt
 have fb1 := b1.frozen
 clear hb hr1 hs
 go_wp2_with fail
 refine (hr2 W2 (.of_below hB)).mono ?_
 rintro e W3 ⟨rfl, hb⟩
 replace b0 := b0.below hb
 replace b1 := b1.below hb
 replace bO := bO.below hb
 replace hB := belowCall hB hb
 clear cb0 lb0 fb0 cb1 lb1 fb1
 have cb0 := b0.cell
 have lb0 := b0.lt
 have fb0 := b0.frozen
 have cb1 := b1.cell
 have lb1 := b1.lt
 have fb1 := b1.frozen
 clear hb hr2
 go_wp2_with fail
 refine (hc W3 (.of_below hB)).mono ?_
 rintro e W4 ⟨V, rfl, hV, hb4⟩
 replace bO := bO.below hb4
 replace hB := belowCall hB hb4
 go_wp2_with fail
 refine (r4told_ok W4 (hV.tight hf.1 hf.2)).mono ?_
 rintro e W5 ⟨rfl, hb9⟩
 have h9 := (hV.tight hf.1 hf.2).below hb9
 obtain ⟨C, rfl, zC, oC⟩ := h9.cells
 replace bO := bO.below hb9
 replace hB := belowCall hB hb9
 go_wp2_with first | (refine wpList_store_box rfl 37 (.tmp 4) (.tmp 19) rfl (w.heap.size + 1 + 1) 0 37 _ C C rfl rfl bO (by rw [zC]; exact sizeQuot) (Nat.le_of_eq (by rw [zC]; rfl)) oC (whole_new (by rw [zC]; rfl)) ?_; intro W6 hk b2)
 refine bodyPost_ret (b2.resultsT rfl _ _ rfl Tryz.underlying37 rfl (by rw [zC]; exact sizeQuot)) rfl ?_
 exact ⟨_, rfl, h9.ext (hk.ext bO (by decide)), hk.below hB (by omega) hB.size⟩
theorem r4mul_ok {v1 v2 : Value} {a b : Rat} (w : World) (h1 : QtV 600 w v1 a) (h2 : QtV 600 w v2 b) (hf : Fits (a * b)) :
  Calls Tryz.prog 144 #[v1, v2] w fun e w' => ∃ C, e = .returned (.tuple #[.agg C, .int .i64 0]) ∧ QtV 600 w' (.agg C) (a * b) ∧ Below w.heap.size w w' := by
 have hr1 := fun (X : World) (hX : Ext w X) => r4right_ok X (h1.ext hX)
 have hr2 := fun (X : World) (hX : Ext w X) => r4right_ok X (h2.ext hX)
 have hc := fun (X : World) (hX : Ext w X) => r4prod_ok X (h1.ext hX) (h2.ext hX) (by decide)
 obtain ⟨s1, p1, n1, c1, t1, q1, m1, d1, rfl, x1, x2⟩ := h1
 obtain ⟨s2, p2, n2, c2, t2, q2, m2, d2, rfl, y1, y2⟩ := h2
 clear x1 x2 y1 y2
 go_enter Tryz.func144, Tryz.ntmps144
 go_wp2_with fail
 refine boxes3c fun W hB hs b0 b1 bO => ?_
 refine (hr1 W (.of_below hB)).mono ?_
 rintro e W2 ⟨rfl, hb⟩
 replace b0 := b0.below hb
 replace b1 := b1.below hb
 replace bO := bO.below hb
 replace hB := belowCall hB hb
 have cb0 := b0.cell
 have lb0 := b0.lt
 have fb0 := b0.frozen
 have cb1 := b1.cell
 have lb1 := b1.lt
 have fb1 := b1.frozen
 clear hb hr1 hs
 go_wp2_with fail
 refine (hr2 W2 (.of_below hB)).mono ?_
 rintro e W3 ⟨rfl, hb⟩
 replace b0 := b0.below hb
 replace b1 := b1.below hb
 replace bO := bO.below hb
 replace hB := belowCall hB hb
 clear cb0 lb0 fb0 cb1 lb1 fb1
 have cb0 := b0.cell
 have lb0 := b0.lt
 have fb0 := b0.frozen
 have cb1 := b1.cell
 have lb1 := b1.lt
 have fb1 := b1.frozen
 clear hb hr2
 go_wp2_with fail
 refine (hc W3 (.of_below hB)).mono ?_
 rintro e W4 ⟨V, rfl, hV, hb4⟩
 replace bO := bO.below hb4
 replace hB := belowCall hB hb4
 go_wp2_with fail
 refine (r4told_ok W4 (hV.tight hf.1 hf.2)).mono ?_
 rintro e W5 ⟨rfl, hb9⟩
 have h9 := (hV.tight hf.1 hf.2).below hb9
 obtain ⟨C, rfl, zC, oC⟩ := h9.cells
 replace bO := bO.below hb9
 replace hB := belowCall hB hb9
 go_wp2_with first | (refine wpList_store_box rfl 37 (.tmp 4) (.tmp 19) rfl (w.heap.size + 1 + 1) 0 37 _ C C rfl rfl bO (by rw [zC]; exact sizeQuot) (Nat.le_of_eq (by rw [zC]; rfl)) oC (whole_new (by rw [zC]; rfl)) ?_; intro W6 hk b2)
 refine bodyPost_ret (b2.resultsT rfl _ _ rfl Tryz.underlying37 rfl (by rw [zC]; exact sizeQuot)) rfl ?_
 exact ⟨_, rfl, h9.ext (hk.ext bO (by decide)), hk.below hB (by omega) hB.size⟩
theorem r4sub_ok {v1 v2 : Value} {a b : Rat} (w : World) (h1 : QtV 600 w v1 a) (h2 : QtV 600 w v2 b) (hf : Fits (a - b)) :
  Calls Tryz.prog 146 #[v1, v2] w fun e w' => ∃ C, e = .returned (.tuple #[.agg C, .int .i64 0]) ∧ QtV 600 w' (.agg C) (a - b) ∧ Below w.heap.size w w' := by
 have hr1 := fun (X : World) (hX : Ext w X) => r4right_ok X (h1.ext hX)
 have hr2 := fun (X : World) (hX : Ext w X) => r4right_ok X (h2.ext hX)
 have hm := fun (X : World) (hX : Ext w X) => r4minus_ok X (h2.ext hX) (by decide)
 have ha := fun (X : World) (hX : Ext w X) => h1.ext hX
 rw [show a - b = a + -b from Rat.sub_eq_add_neg ..] at hf ⊢
 obtain ⟨s1, p1, n1, c1, t1, q1, m1, d1, rfl, x1, x2⟩ := h1
 obtain ⟨s2, p2, n2, c2, t2, q2, m2, d2, rfl, y1, y2⟩ := h2
 clear x1 x2 y1 y2
 go_enter Tryz.func146, Tryz.ntmps146
 go_wp2_with fail
 refine boxes3c fun W hB hs b0 b1 bO => ?_
 refine (hr1 W (.of_below hB)).mono ?_
 rintro e W2 ⟨rfl, hb⟩
 replace b0 := b0.below hb
 replace b1 := b1.below hb
 replace bO := bO.below hb
 replace hB := belowCall hB hb
 have cb0 := b0.cell
 have lb0 := b0.lt
 have fb0 := b0.frozen
 have cb1 := b1.cell
 have lb1 := b1.lt
 have fb1 := b1.frozen
 clear hb hr1 hs
 go_wp2_with fail
 refine (hr2 W2 (.of_below hB)).mono ?_
 rintro e W3 ⟨rfl, hb⟩
 replace b0 := b0.below hb
 replace b1 := b1.below hb
 replace bO := bO.below hb
 replace hB := belowCall hB hb
 clear cb0 lb0 fb0 cb1 lb1 fb1
 have cb0 := b0.cell
 have lb0 := b0.lt
 have fb0 := b0.frozen
 have cb1 := b1.cell
 have lb1 := b1.lt
 have fb1 := b1.frozen
 clear hb hr2
 go_wp2_with fail
 refine wp_region_held_drew (S := fun w' => (∀ b o, b < W3.heap.size → b ≠ (w.heap.size + 1 + 1) → w'.cell? ⟨b, o, none⟩ = W3.cell? ⟨b, o, none⟩) ∧ KeepBut (w.heap.size + 1 + 1) W3.heap.size W3 w') (by as_aux_lemma => kernel_rfl) (KeepBut.S (KeepBut.refl _ _).drew) (fun hHeld => ?_)
 have hBel : Below W3.heap.size W3 W3.drew := (Below.refl _ _).drew
 refine tl 0 (some 15) rfl (.agg #[.bool s1, .slice p1 n1 c1, .bool t1, .slice q1 m1 d1]) (exec_load 37 _ rfl w.heap.size 0 rfl  #[.bool s1, .slice p1 n1 c1, .bool t1, .slice q1 m1 d1] (fun w h => (h.2.box b0 b0.lt (by omega)).range) _ Tryz.underlying37 rfl sizeQuot) ?_
 refine tl 1 (some 16) rfl (.agg #[.bool s2, .slice p2 n2 c2, .bool t2, .slice q2 m2 d2]) (exec_load 37 _ rfl (w.heap.size + 1) 0 rfl  #[.bool s2, .slice p2 n2 c2, .bool t2, .slice q2 m2 d2] (fun w h => (h.2.box b1 b1.lt (by omega)).range) _ Tryz.underlying37 rfl sizeQuot) ?_
 refine Mono.stc 2 (some 17) (hm _ ((Ext.of_below hB).trans (.of_below hBel))) (fun e Wn2 hR => ?_)
 obtain ⟨V2, rfl, R2, hb2⟩ := hR
 replace hBel := belowCall hBel hb2
 refine ⟨(KeepBut.S (hHeld.2.call hb2)), fun hHeld => Mono.pt ?_⟩
 refine Mono.stc 3 (some 18) (r4sum_ok _ (ha _ ((Ext.of_below hB).trans (.of_below hBel))) R2 (by decide)) (fun e Wn3 hR => ?_)
 obtain ⟨V3, rfl, R3, hb3⟩ := hR
 replace hBel := belowCall hBel hb3
 replace R2 := R2.ext (.of_below hb3)
 refine ⟨(KeepBut.S (hHeld.2.call hb3)), fun hHeld => Mono.pt ?_⟩
 refine Mono.stc 4 (some 19) (r4told_ok _ (R3.tight hf.1 hf.2)) (fun e Wn4 hR => ?_)
 obtain ⟨rfl, hb9⟩ := hR
 have h9 := (R3.tight hf.1 hf.2).below hb9
 obtain ⟨C, rfl, zC, oC⟩ := h9.cells
 replace hBel := belowCall hBel hb9
 replace R2 := R2.ext (.of_below hb9)
 replace R3 := R3.ext (.of_below hb9)
 refine ⟨(KeepBut.S (hHeld.2.call hb9)), fun hHeld => Mono.pt ?_⟩
 refine tk 5 (some 20) ?_
 refine tk 6 (some 21) ?_
 refine wpAnyH_storeB (w.heap.size + 1 + 1) 37 7 rfl rfl rfl rfl 0 C _ C (by as_aux_lemma => kernel_rfl) (fun w' i u hS => KeepBut.S (hS.2.set i u)) rfl rfl (bO.below hBel) hHeld (by rw [zC]; exact sizeQuot) (Nat.le_of_eq (by rw [zC]; rfl)) oC (whole_new (by rw [zC]; rfl)) (fun Ws hks bs hHeld => ?_)
 refine tk 8 (some 5) ?_
 refine wpAnyH_done (by as_aux_lemma => kernel_rfl) ?_ _
 have xS := hks.ext (bO.below hBel) (by decide)
 go_wp2
 refine bodyPost_ret (bs.resultsT rfl _ _ rfl Tryz.underlying37 rfl (by rw [zC]; exact sizeQuot)) rfl ?_
 exact ⟨_, rfl, h9.ext xS, hHeld.2.below hB (by omega) hB.size⟩
theorem r4div_ok {v1 v2 : Value} {a b : Rat} (w : World) (h1 : QtV 600 w v1 a) (h2 : QtV 600 w v2 b) (hb0 : 0 < b) (hf : Fits (a / b)) :
  Calls Tryz.prog 148 #[v1, v2] w fun e w' => ∃ C, e = .returned (.tuple #[.agg C, .int .i64 0]) ∧ QtV 600 w' (.agg C) (a / b) ∧ Below w.heap.size w w' := by
 have hr1 := fun (X : World) (hX : Ext w X) => r4right_ok X (h1.ext hX)
 have hr2 := fun (X : World) (hX : Ext w X) => r4right_ok X (h2.ext hX)
 have hpr1 := fun (X : World) (hX : Ext w X) => h1.ext hX
 have hpr2 := fun (X : World) (hX : Ext w X) => h2.ext hX
 obtain ⟨s1, p1, n1, c1, t1, q1, m1, d1, rfl, x1, x2⟩ := h1
 obtain ⟨s2, p2, n2, c2, t2, q2, m2, d2, rfl, y1, y2⟩ := h2
 have hbn : 0 < b.num := by
  have k1 := Rat.num_nonneg.2 (Rat.le_of_lt hb0)
  have k2 : b.num ≠ 0 := fun h => by rw [Rat.num_eq_zero.1 h] at hb0; exact absurd hb0 (by decide)
  omega
 have hn2 := y1.len.2.2.1 (by omega)
 have hn2' : ((n2 : Int) == 0) = false := by simp; omega
 have hden : (0 : Int) < (a.den : Int) * b.num := Int.mul_pos (by have := a.den_pos; omega) hbn
 have hab : Rat.divInt (a.num * b.den) ((a.den : Int) * b.num) = a / b := by
  rw [← Rat.divInt_mul_divInt, Rat.num_divInt_den, Rat.div_def]
  congr 1
  rw [Rat.inv_def]
 clear hpr1 hpr2
 go_enter Tryz.func148, Tryz.ntmps148
 go_wp2_with fail
 refine boxes3c fun W hB hs b0 b1 bO => ?_
 refine (hr1 W (.of_below hB)).mono ?_
 rintro e W2 ⟨rfl, hb⟩
 replace b0 := b0.below hb
 replace b1 := b1.below hb
 replace bO := bO.below hb
 replace hB := belowCall hB hb
 have cb0 := b0.cell
 have lb0 := b0.lt
 have fb0 := b0.frozen
 have cb1 := b1.cell
 have lb1 := b1.lt
 have fb1 := b1.frozen
 clear hb hr1 hs
 go_wp2_with fail
 refine (hr2 W2 (.of_below hB)).mono ?_
 rintro e W3 ⟨rfl, hb⟩
 replace b0 := b0.below hb
 replace b1 := b1.below hb
 replace bO := bO.below hb
 replace hB := belowCall hB hb
 clear cb0 lb0 fb0 cb1 lb1 fb1
 have cb0 := b0.cell
 have lb0 := b0.lt
 have fb0 := b0.frozen
 have cb1 := b1.cell
 have lb1 := b1.lt
 have fb1 := b1.frozen
 clear hb hr2
 go_wp2_with fail
 refine wp_region_held_drew (S := fun w' => (∀ b o, b < W3.heap.size → b ≠ (w.heap.size + 1 + 1) → w'.cell? ⟨b, o, none⟩ = W3.cell? ⟨b, o, none⟩) ∧ KeepBut (w.heap.size + 1 + 1) W3.heap.size W3 w') (by as_aux_lemma => kernel_rfl) (KeepBut.S (KeepBut.refl _ _).drew) (fun hHeld => ?_)
 have hBel : Below W3.heap.size W3 W3.drew := (Below.refl _ _).drew
 refine tk 0 (some 21) ?_
 refine tl 1 (some 22) rfl (.agg #[.bool s1, .slice p1 n1 c1]) (exec_load 35 _ rfl w.heap.size 0 rfl  #[.bool s1, .slice p1 n1 c1] (fun w h => (h.2.box b0 b0.lt (by omega)).part 0 #[.bool s1, .slice p1 n1 c1] rfl) _ Tryz.underlying35 rfl sizeLong) ?_
 refine tk 2 (some 23) ?_
 refine tl 3 (some 24) rfl (.agg #[.bool t2, .slice q2 m2 d2]) (exec_load 35 _ rfl (w.heap.size + 1) 2 rfl  #[.bool t2, .slice q2 m2 d2] (fun w h => (h.2.box b1 b1.lt (by omega)).part 2 #[.bool t2, .slice q2 m2 d2] rfl) _ Tryz.underlying35 rfl sizeLong) ?_
 refine tk 5 (some 26) ?_
 refine tl 6 (some 27) rfl (.agg #[.bool t1, .slice q1 m1 d1]) (exec_load 35 _ rfl w.heap.size 2 rfl  #[.bool t1, .slice q1 m1 d1] (fun w h => (h.2.box b0 b0.lt (by omega)).part 2 #[.bool t1, .slice q1 m1 d1] rfl) _ Tryz.underlying35 rfl sizeLong) ?_
 refine tk 7 (some 28) ?_
 refine tl 8 (some 29) rfl (.agg #[.bool s2, .slice p2 n2 c2]) (exec_load 35 _ rfl (w.heap.size + 1) 0 rfl  #[.bool s2, .slice p2 n2 c2] (fun w h => (h.2.box b1 b1.lt (by omega)).part 0 #[.bool s2, .slice p2 n2 c2] rfl) _ Tryz.underlying35 rfl sizeLong) ?_
 refine Mono.stc 4 (some 25) (r3prod_ok _ (x1.ext ((Ext.of_below hB).trans (.of_below hBel))) (y2.ext ((Ext.of_below hB).trans (.of_below hBel))) (by decide) (by decide)) (fun e Wn4 hR => ?_)
 obtain ⟨V4, rfl, R4, hb4⟩ := hR
 replace hBel := belowCall hBel hb4
 refine ⟨(KeepBut.S (hHeld.2.call hb4)), fun hHeld => Mono.pt ?_⟩
 refine Mono.stc 9 (some 30) (r3prod_ok _ (x2.ext ((Ext.of_below hB).trans (.of_below hBel))) (y1.ext ((Ext.of_below hB).trans (.of_below hBel))) (by decide) (by decide)) (fun e Wn9 hR => ?_)
 obtain ⟨V9, rfl, R9, hb9⟩ := hR
 replace hBel := belowCall hBel hb9
 replace R4 := R4.ext (.of_below hb9)
 refine ⟨(KeepBut.S (hHeld.2.call hb9)), fun hHeld => Mono.pt ?_⟩
 refine Mono.stc 10 (some 31) (r4lowest_pos _ R4 R9 hden (by decide)) (fun e Wn10 hR => ?_)
 obtain ⟨V10, rfl, R10, hb10⟩ := hR
 rw [hab] at R10
 replace hBel := belowCall hBel hb10
 replace R4 := R4.ext (.of_below hb10)
 replace R9 := R9.ext (.of_below hb10)
 refine ⟨(KeepBut.S (hHeld.2.call hb10)), fun hHeld => Mono.pt ?_⟩
 refine Mono.stc 11 (some 32) (r4told_ok _ (R10.tight hf.1 hf.2)) (fun e Wn11 hR => ?_)
 obtain ⟨rfl, hb9⟩ := hR
 have h9 := (R10.tight hf.1 hf.2).below hb9
 obtain ⟨C, rfl, zC, oC⟩ := h9.cells
 replace hBel := belowCall hBel hb9
 replace R4 := R4.ext (.of_below hb9)
 replace R9 := R9.ext (.of_below hb9)
 replace R10 := R10.ext (.of_below hb9)
 refine ⟨(KeepBut.S (hHeld.2.call hb9)), fun hHeld => Mono.pt ?_⟩
 refine tk 12 (some 33) ?_
 refine tk 13 (some 34) ?_
 refine wpAnyH_storeB (w.heap.size + 1 + 1) 37 14 rfl rfl rfl rfl 0 C _ C (by as_aux_lemma => kernel_rfl) (fun w' i u hS => KeepBut.S (hS.2.set i u)) rfl rfl (bO.below hBel) hHeld (by rw [zC]; exact sizeQuot) (Nat.le_of_eq (by rw [zC]; rfl)) oC (whole_new (by rw [zC]; rfl)) (fun Ws hks bs hHeld => ?_)
 refine tk 15 (some 5) ?_
 refine wpAnyH_done (by as_aux_lemma => kernel_rfl) ?_ _
 have xS := hks.ext (bO.below hBel) (by decide)
 go_wp2
 refine bodyPost_ret (bs.resultsT rfl _ _ rfl Tryz.underlying37 rfl (by rw [zC]; exact sizeQuot)) rfl ?_
 exact ⟨_, rfl, h9.ext xS, hHeld.2.below hB (by omega) hB.size⟩
end Go.Proofs.YtdgodcgdlfjpaaaGreatDoor
namespace Go.Mono
open Go.RowKit
theorem LgV.tail {m : Nat} {w : World} {v : Value} {z : Int} (h : LgV m w v z) : ∃ p n c, v = .agg #[.bool (decide (z < 0)), .slice p n c] ∧ (z ≠ 0 ↔ 0 < n) := by
 obtain ⟨p, n, c, f, rfl, h1, h2, h3, h4⟩ := h
 refine ⟨p, n, c, rfl, ?_⟩
 have := h2.pos
 rw [h3] at this
 omega
end Go.Mono
namespace Go.Proofs.YtdgodcgdlfjpaaaGreatDoor
open Go.RowKit Go.Mono
theorem r4make_pos {v1 v2 : Value} {n d : Int} (w : World) (h1 : LgV 3 w v1 n) (h2 : LgV 3 w v2 d) (hd : 0 < d) :
  Calls Tryz.prog 199 #[v1, v2] w fun e w' => ∃ C, e = .returned (.tuple #[.agg C, .int .i64 0]) ∧ QtV 3 w' (.agg C) (Rat.divInt n d) ∧ Below w.heap.size w w' := by
 have hr1 := fun (X : World) (hX : Ext w X) => r3right_ok X ((h1.ext hX).mono (by decide))
 have hr2 := fun (X : World) (hX : Ext w X) => r3right_ok X ((h2.ext hX).mono (by decide))
 have hc := fun (X : World) (hX : Ext w X) => r4lowest_pos X (h1.ext hX) (h2.ext hX) hd (by decide)
 obtain ⟨p1, n1, c1, rfl, _⟩ := h1.tail
 obtain ⟨p2, n2, c2, rfl, hn2⟩ := h2.tail
 have hn2' : ((n2 : Int) == 0) = false := by have := hn2.1 (by omega); simp; omega
 generalize decide (n < 0) = s1 at *
 generalize decide (d < 0) = s2 at *
 clear h1 h2 hn2
 go_enter Tryz.func199, Tryz.ntmps199
 go_wp2_with fail
 refine boxes3c fun W hB hs b0 b1 bO => ?_
 refine (hr1 W (.of_below hB)).mono ?_
 rintro e W2 ⟨rfl, hb⟩
 replace b0 := b0.below hb
 replace b1 := b1.below hb
 replace bO := bO.below hb
 replace hB := belowCall hB hb
 have cb0 := b0.cell
 have lb0 := b0.lt
 have fb0 := b0.frozen
 have cb1 := b1.cell
 have lb1 := b1.lt
 have fb1 := b1.frozen
 clear hb hr1 hs
 go_wp2_with fail
 refine (hr2 W2 (.of_below hB)).mono ?_
 rintro e W3 ⟨rfl, hb⟩
 replace b0 := b0.below hb
 replace b1 := b1.below hb
 replace bO := bO.below hb
 replace hB := belowCall hB hb
 clear cb0 lb0 fb0 cb1 lb1 fb1
 have cb0 := b0.cell
 have lb0 := b0.lt
 have fb0 := b0.frozen
 have cb1 := b1.cell
 have lb1 := b1.lt
 have fb1 := b1.frozen
 clear hb hr2
 go_wp2_with fail
 refine (hc W3 (.of_below hB)).mono ?_
 rintro e W4 ⟨V, rfl, hV, hb4⟩
 obtain ⟨C, rfl, zC, oC⟩ := hV.cells
 replace bO := bO.below hb4
 replace hB := belowCall hB hb4
 go_wp2_with first | (refine wpList_store_box rfl 37 (.tmp 4) (.tmp 22) rfl (w.heap.size + 1 + 1) 0 37 _ C C rfl rfl bO (by rw [zC]; exact sizeQuot) (Nat.le_of_eq (by rw [zC]; rfl)) oC (whole_new (by rw [zC]; rfl)) ?_; intro W6 hk b2)
 refine bodyPost_ret (b2.resultsT rfl _ _ rfl Tryz.underlying37 rfl (by rw [zC]; exact sizeQuot)) rfl ?_
 exact ⟨_, rfl, hV.ext (hk.ext bO (by decide)), hk.below hB (by omega) hB.size⟩
theorem r4of_ok (n d : Int) (w : World) (hd : 0 < d) (a1 : -9223372036854775808 ≤ n) (a2 : n ≤ 9223372036854775807) (b2 : d ≤ 9223372036854775807) :
  Calls Tryz.prog 143 #[.int .i64 n, .int .i64 d] w fun e w' => ∃ C, e = .returned (.tuple #[.agg C, .int .i64 0]) ∧ QtV 3 w' (.agg C) (Rat.divInt n d) ∧ Below w.heap.size w w' := by
 go_enter Tryz.func143, Tryz.ntmps143
 go_wp2_with fail
 refine boxes1c fun W hB hs bO => ?_
 refine (r3of_ok n W a1 a2).mono ?_
 rintro e W2 ⟨v1, rfl, h1, hb⟩
 replace bO := bO.below hb
 replace hB := belowCall hB hb
 clear hb
 go_wp2_with fail
 refine (r3of_ok d W2 (by omega) b2).mono ?_
 rintro e W3 ⟨v2, rfl, h2, hb⟩
 replace bO := bO.below hb
 replace hB := belowCall hB hb
 replace h1 := h1.below hb
 clear hb
 go_wp2_with fail
 refine (r4make_pos W3 h1 h2 hd).mono ?_
 rintro e W4 ⟨C, rfl, hV, hb⟩
 obtain ⟨_, e, zC, oC⟩ := hV.cells
 cases e
 replace bO := bO.below hb
 replace hB := belowCall hB hb
 clear hb h1 h2
 go_wp2_with first | (refine wpList_store_box rfl 37 (.tmp 4) (.tmp 11) rfl w.heap.size 0 37 _ C C rfl rfl bO (by rw [zC]; exact sizeQuot) (Nat.le_of_eq (by rw [zC]; rfl)) oC (whole_new (by rw [zC]; rfl)) ?_; intro W6 hk b2)
 refine bodyPost_ret (b2.resultsT rfl _ _ rfl Tryz.underlying37 rfl (by rw [zC]; exact sizeQuot)) rfl ?_
 exact ⟨_, rfl, hV.ext (hk.ext bO (by decide)), hk.below hB (by omega) hB.size⟩
theorem r17of_ok (n d : Int) (w : World) (hd : 0 < d) (a1 : -9223372036854775808 ≤ n) (a2 : n ≤ 9223372036854775807) (b2 : d ≤ 9223372036854775807) :
  Calls Tryz.prog 62 #[.int .i64 n, .int .i64 d] w fun e w' => ∃ C, e = .returned (.agg C) ∧ QtV 3 w' (.agg C) (Rat.divInt n d) ∧ Below w.heap.size w w' := by
 go_enter Tryz.func62, Tryz.ntmps62
 go_wp2_with fail
 refine boxes1c fun W hB hs bO => ?_
 refine (r4of_ok n d W hd a1 a2 b2).mono ?_
 rintro e W2 ⟨C, rfl, hV, hb⟩
 obtain ⟨_, e, zC, oC⟩ := hV.cells
 cases e
 replace bO := bO.below hb
 replace hB := belowCall hB hb
 clear hb
 go_wp2_with first | (refine wpList_put1 37 5 _ C _ rfl rfl rfl rfl rfl rfl alloc_quot (by as_aux_lemma => (intro _; kernel_rfl)) (by as_aux_lemma => (intro _; kernel_rfl)) (by rw [zC]; exact sizeQuot) (by rw [zC]; rfl) oC ?_; intro W3 B5 _ hB3 b5; replace bO := bO.below hB3) | (refine wpList_load_box rfl 37 (.tmp 5) rfl B5 (by as_aux_lemma => kernel_rfl) 37 C b5 _ Tryz.underlying37 rfl (by rw [zC]; exact sizeQuot) ?_) | (refine wpList_store_box rfl 37 (.tmp 4) (.tmp 13) rfl w.heap.size 0 37 _ C C rfl rfl bO (by rw [zC]; exact sizeQuot) (Nat.le_of_eq (by rw [zC]; rfl)) oC (whole_new (by rw [zC]; rfl)) ?_; intro W6 hk b2)
 refine bodyPost_ret (b2.results rfl _ _ rfl Tryz.underlying37 rfl (by rw [zC]; exact sizeQuot)) rfl ?_
 exact ⟨_, rfl, (hV.below hB3).ext (hk.ext bO (by decide)), hk.below (belowCall hB hB3) (by omega) (belowCall hB hB3).size⟩
end Go.Proofs.YtdgodcgdlfjpaaaGreatDoor
namespace Go.Mono
open Go.RowKit
theorem setCell_id {w : World} {B i : Nat} {v : Value} (h : w.cell? ⟨B, i, none⟩ = some v) : w.setCell ⟨B, i, none⟩ v = w := by
 unfold World.setCell
 have e : (w.heap.modify B fun
   | .cells c elem frozen => .cells (if (none : Option Nat).isSome then c else c.setIfInBounds i v) elem frozen
   | o => o) = w.heap := by
  apply Array.ext_getElem?
  intro k
  rw [Array.getElem?_modify]
  by_cases hk : B = k
  ·subst hk
   simp only [if_true]
   unfold World.cell? at h
   cases hb : w.heap[B]? with
   | none => rfl
   | some o =>
     rw [hb] at h
     cases o with
     | cells c T fr =>
       have hc : c[i]? = some v := by simpa using h
       obtain ⟨hi, hv⟩ := Array.getElem?_eq_some_iff.1 hc
       have : c.setIfInBounds i v = c := by
        apply Array.ext_getElem?
        intro j
        rw [Array.getElem?_setIfInBounds]
        by_cases hj : i = j
        ·subst hj; simp [hi, hv]
        ·simp [hj]
       simp [this]
     | _ => rfl
  ·simp [hk]
 exact congrArg (fun h => { w with heap := h }) e
end Go.Mono
namespace Go.Proofs.YtdgodcgdlfjpaaaGreatDoor
open Go.RowKit Go.Mono
theorem r17got_ok (s1 t1 : Bool) (p1 q1 : Option Addr) (n1 c1 m1 d1 Bs : Nat) (w : World) (bs : Box w Bs 131 #[.int .i64 0]) :
  Calls Tryz.prog 145 #[.pointer (some ⟨Bs, 0, none⟩), .agg #[.bool s1, .slice p1 n1 c1, .bool t1, .slice q1 m1 d1], .int .i64 0] w fun e w' => e = .returned (.agg #[.bool s1, .slice p1 n1 c1, .bool t1, .slice q1 m1 d1]) ∧ Below w.heap.size w w' := by
 have cbs := bs.cell
 have lbs := bs.lt
 have fbs := bs.frozen
 go_enter Tryz.func145, Tryz.ntmps145
 go_wp2_with fail
 rw [setCell_id (v := .int .i64 0) (cbs 0)]
 have b := Box.new (w.alloc (.cells #[.bool s1, .slice p1 n1 c1, .bool t1, .slice q1 m1 d1] 37)) 37 #[.bool s1, .slice p1 n1 c1, .bool t1, .slice q1 m1 d1]
 simp only [World.size_alloc] at b
 exact bodyPost_ret (b.results rfl _ _ rfl Tryz.underlying37 rfl sizeQuot) rfl ⟨rfl, belowAlloc (belowAlloc (Below.refl _ _) _) _⟩
theorem r17got_qt {C : Array Value} {q : Rat} (Bs : Nat) (w : World) (h : QtV 600 w (.agg C) q) (bs : Box w Bs 131 #[.int .i64 0]) :
  Calls Tryz.prog 145 #[.pointer (some ⟨Bs, 0, none⟩), .agg C, .int .i64 0] w fun e w' => e = .returned (.agg C) ∧ Below w.heap.size w w' := by
 obtain ⟨s, p, n, c, s', p', n', c', hv, _, _⟩ := h
 cases hv
 exact r17got_ok _ _ _ _ _ _ _ _ Bs w bs
theorem r17add_ok {Ca Cb : Array Value} {a b : Rat} (Bs : Nat) (w : World) (bs : Box w Bs 131 #[.int .i64 0]) (h1 : QtV 600 w (.agg Ca) a) (h2 : QtV 600 w (.agg Cb) b) (hf : Fits (a + b)) :
  Calls Tryz.prog 65 #[.pointer (some ⟨Bs, 0, none⟩), .agg Ca, .agg Cb] w fun e w' => ∃ C, e = .returned (.agg C) ∧ QtV 600 w' (.agg C) (a + b) ∧ Below w.heap.size w w' := by
 have hc := fun (X : World) (hX : Ext w X) => r4add_ok X (h1.ext hX) (h2.ext hX) hf
 obtain ⟨s1, p1, n1, c1, t1, q1, m1, d1, hv1, _, _⟩ := h1
 obtain ⟨s2, p2, n2, c2, t2, q2, m2, d2, hv2, _, _⟩ := h2
 cases hv1
 cases hv2
 go_enter Tryz.func65, Tryz.ntmps65
 go_wp2_with fail
 refine boxes3c fun W hB hs b4 b5 bO => ?_
 refine (hc W (.of_below hB)).mono ?_
 rintro e W2 ⟨C, rfl, hV, hb⟩
 obtain ⟨_, e, zC, oC⟩ := hV.cells
 cases e
 replace bO := bO.below hb
 replace hB := belowCall hB hb
 replace bs := bs.below hB
 clear hb hc b4 b5 hs
 go_wp2_with first | (refine wpList_put1 37 7 _ C _ rfl rfl rfl rfl rfl rfl alloc_quot (by as_aux_lemma => (intro _; kernel_rfl)) (by as_aux_lemma => (intro _; kernel_rfl)) (by rw [zC]; exact sizeQuot) (by rw [zC]; rfl) oC ?_; intro W3 B7 _ hB3 b7; replace bO := bO.below hB3; replace bs := bs.below hB3; replace hV := hV.below hB3) | (refine wpList_load_box rfl 37 (.tmp 7) rfl B7 (by as_aux_lemma => kernel_rfl) 37 C b7 _ Tryz.underlying37 rfl (by rw [zC]; exact sizeQuot) ?_)
 refine (r17got_qt Bs W3 hV bs).mono ?_
 rintro e W4 ⟨rfl, hb4⟩
 replace bO := bO.below hb4
 replace hB := belowCall (belowCall hB hB3) hb4
 replace hV := hV.below hb4
 clear b7 bs hb4
 go_wp2_with first | (refine wpList_store_box rfl 37 (.tmp 6) (.tmp 18) rfl (w.heap.size + 1 + 1) 0 37 _ C C rfl rfl bO (by rw [zC]; exact sizeQuot) (Nat.le_of_eq (by rw [zC]; rfl)) oC (whole_new (by rw [zC]; rfl)) ?_; intro W6 hk b2)
 refine bodyPost_ret (b2.results rfl _ _ rfl Tryz.underlying37 rfl (by rw [zC]; exact sizeQuot)) rfl ?_
 exact ⟨_, rfl, hV.ext (hk.ext bO (by decide)), hk.below hB (by omega) hB.size⟩
theorem r17sub_ok {Ca Cb : Array Value} {a b : Rat} (Bs : Nat) (w : World) (bs : Box w Bs 131 #[.int .i64 0]) (h1 : QtV 600 w (.agg Ca) a) (h2 : QtV 600 w (.agg Cb) b) (hf : Fits (a - b)) :
  Calls Tryz.prog 64 #[.pointer (some ⟨Bs, 0, none⟩), .agg Ca, .agg Cb] w fun e w' => ∃ C, e = .returned (.agg C) ∧ QtV 600 w' (.agg C) (a - b) ∧ Below w.heap.size w w' := by
 have hc := fun (X : World) (hX : Ext w X) => r4sub_ok X (h1.ext hX) (h2.ext hX) hf
 obtain ⟨s1, p1, n1, c1, t1, q1, m1, d1, hv1, _, _⟩ := h1
 obtain ⟨s2, p2, n2, c2, t2, q2, m2, d2, hv2, _, _⟩ := h2
 cases hv1
 cases hv2
 go_enter Tryz.func64, Tryz.ntmps64
 go_wp2_with fail
 refine boxes3c fun W hB hs b4 b5 bO => ?_
 refine (hc W (.of_below hB)).mono ?_
 rintro e W2 ⟨C, rfl, hV, hb⟩
 obtain ⟨_, e, zC, oC⟩ := hV.cells
 cases e
 replace bO := bO.below hb
 replace hB := belowCall hB hb
 replace bs := bs.below hB
 clear hb hc b4 b5 hs
 go_wp2_with first | (refine wpList_put1 37 7 _ C _ rfl rfl rfl rfl rfl rfl alloc_quot (by as_aux_lemma => (intro _; kernel_rfl)) (by as_aux_lemma => (intro _; kernel_rfl)) (by rw [zC]; exact sizeQuot) (by rw [zC]; rfl) oC ?_; intro W3 B7 _ hB3 b7; replace bO := bO.below hB3; replace bs := bs.below hB3; replace hV := hV.below hB3) | (refine wpList_load_box rfl 37 (.tmp 7) rfl B7 (by as_aux_lemma => kernel_rfl) 37 C b7 _ Tryz.underlying37 rfl (by rw [zC]; exact sizeQuot) ?_)
 refine (r17got_qt Bs W3 hV bs).mono ?_
 rintro e W4 ⟨rfl, hb4⟩
 replace bO := bO.below hb4
 replace hB := belowCall (belowCall hB hB3) hb4
 replace hV := hV.below hb4
 clear b7 bs hb4
 go_wp2_with first | (refine wpList_store_box rfl 37 (.tmp 6) (.tmp 18) rfl (w.heap.size + 1 + 1) 0 37 _ C C rfl rfl bO (by rw [zC]; exact sizeQuot) (Nat.le_of_eq (by rw [zC]; rfl)) oC (whole_new (by rw [zC]; rfl)) ?_; intro W6 hk b2)
 refine bodyPost_ret (b2.results rfl _ _ rfl Tryz.underlying37 rfl (by rw [zC]; exact sizeQuot)) rfl ?_
 exact ⟨_, rfl, hV.ext (hk.ext bO (by decide)), hk.below hB (by omega) hB.size⟩
theorem r17mul_ok {Ca Cb : Array Value} {a b : Rat} (Bs : Nat) (w : World) (bs : Box w Bs 131 #[.int .i64 0]) (h1 : QtV 600 w (.agg Ca) a) (h2 : QtV 600 w (.agg Cb) b) (hf : Fits (a * b)) :
  Calls Tryz.prog 63 #[.pointer (some ⟨Bs, 0, none⟩), .agg Ca, .agg Cb] w fun e w' => ∃ C, e = .returned (.agg C) ∧ QtV 600 w' (.agg C) (a * b) ∧ Below w.heap.size w w' := by
 have hc := fun (X : World) (hX : Ext w X) => r4mul_ok X (h1.ext hX) (h2.ext hX) hf
 obtain ⟨s1, p1, n1, c1, t1, q1, m1, d1, hv1, _, _⟩ := h1
 obtain ⟨s2, p2, n2, c2, t2, q2, m2, d2, hv2, _, _⟩ := h2
 cases hv1
 cases hv2
 go_enter Tryz.func63, Tryz.ntmps63
 go_wp2_with fail
 refine boxes3c fun W hB hs b4 b5 bO => ?_
 refine (hc W (.of_below hB)).mono ?_
 rintro e W2 ⟨C, rfl, hV, hb⟩
 obtain ⟨_, e, zC, oC⟩ := hV.cells
 cases e
 replace bO := bO.below hb
 replace hB := belowCall hB hb
 replace bs := bs.below hB
 clear hb hc b4 b5 hs
 go_wp2_with first | (refine wpList_put1 37 7 _ C _ rfl rfl rfl rfl rfl rfl alloc_quot (by as_aux_lemma => (intro _; kernel_rfl)) (by as_aux_lemma => (intro _; kernel_rfl)) (by rw [zC]; exact sizeQuot) (by rw [zC]; rfl) oC ?_; intro W3 B7 _ hB3 b7; replace bO := bO.below hB3; replace bs := bs.below hB3; replace hV := hV.below hB3) | (refine wpList_load_box rfl 37 (.tmp 7) rfl B7 (by as_aux_lemma => kernel_rfl) 37 C b7 _ Tryz.underlying37 rfl (by rw [zC]; exact sizeQuot) ?_)
 refine (r17got_qt Bs W3 hV bs).mono ?_
 rintro e W4 ⟨rfl, hb4⟩
 replace bO := bO.below hb4
 replace hB := belowCall (belowCall hB hB3) hb4
 replace hV := hV.below hb4
 clear b7 bs hb4
 go_wp2_with first | (refine wpList_store_box rfl 37 (.tmp 6) (.tmp 18) rfl (w.heap.size + 1 + 1) 0 37 _ C C rfl rfl bO (by rw [zC]; exact sizeQuot) (Nat.le_of_eq (by rw [zC]; rfl)) oC (whole_new (by rw [zC]; rfl)) ?_; intro W6 hk b2)
 refine bodyPost_ret (b2.results rfl _ _ rfl Tryz.underlying37 rfl (by rw [zC]; exact sizeQuot)) rfl ?_
 exact ⟨_, rfl, hV.ext (hk.ext bO (by decide)), hk.below hB (by omega) hB.size⟩
theorem r17div_ok {Ca Cb : Array Value} {a b : Rat} (Bs : Nat) (w : World) (bs : Box w Bs 131 #[.int .i64 0]) (h1 : QtV 600 w (.agg Ca) a) (h2 : QtV 600 w (.agg Cb) b) (hb0 : 0 < b) (hf : Fits (a / b)) :
  Calls Tryz.prog 66 #[.pointer (some ⟨Bs, 0, none⟩), .agg Ca, .agg Cb] w fun e w' => ∃ C, e = .returned (.agg C) ∧ QtV 600 w' (.agg C) (a / b) ∧ Below w.heap.size w w' := by
 have hc := fun (X : World) (hX : Ext w X) => r4div_ok X (h1.ext hX) (h2.ext hX) hb0 hf
 obtain ⟨s1, p1, n1, c1, t1, q1, m1, d1, hv1, _, _⟩ := h1
 obtain ⟨s2, p2, n2, c2, t2, q2, m2, d2, hv2, _, _⟩ := h2
 cases hv1
 cases hv2
 go_enter Tryz.func66, Tryz.ntmps66
 go_wp2_with fail
 refine boxes3c fun W hB hs b4 b5 bO => ?_
 refine (hc W (.of_below hB)).mono ?_
 rintro e W2 ⟨C, rfl, hV, hb⟩
 obtain ⟨_, e, zC, oC⟩ := hV.cells
 cases e
 replace bO := bO.below hb
 replace hB := belowCall hB hb
 replace bs := bs.below hB
 clear hb hc b4 b5 hs
 go_wp2_with first | (refine wpList_put1 37 7 _ C _ rfl rfl rfl rfl rfl rfl alloc_quot (by as_aux_lemma => (intro _; kernel_rfl)) (by as_aux_lemma => (intro _; kernel_rfl)) (by rw [zC]; exact sizeQuot) (by rw [zC]; rfl) oC ?_; intro W3 B7 _ hB3 b7; replace bO := bO.below hB3; replace bs := bs.below hB3; replace hV := hV.below hB3) | (refine wpList_load_box rfl 37 (.tmp 7) rfl B7 (by as_aux_lemma => kernel_rfl) 37 C b7 _ Tryz.underlying37 rfl (by rw [zC]; exact sizeQuot) ?_)
 refine (r17got_qt Bs W3 hV bs).mono ?_
 rintro e W4 ⟨rfl, hb4⟩
 replace bO := bO.below hb4
 replace hB := belowCall (belowCall hB hB3) hb4
 replace hV := hV.below hb4
 clear b7 bs hb4
 go_wp2_with first | (refine wpList_store_box rfl 37 (.tmp 6) (.tmp 18) rfl (w.heap.size + 1 + 1) 0 37 _ C C rfl rfl bO (by rw [zC]; exact sizeQuot) (Nat.le_of_eq (by rw [zC]; rfl)) oC (whole_new (by rw [zC]; rfl)) ?_; intro W6 hk b2)
 refine bodyPost_ret (b2.results rfl _ _ rfl Tryz.underlying37 rfl (by rw [zC]; exact sizeQuot)) rfl ?_
 exact ⟨_, rfl, hV.ext (hk.ext bO (by decide)), hk.below hB (by omega) hB.size⟩
theorem sadd_ok {Ca Cb : Array Value} {a b : Rat} (Bs : Nat) (w : World) (bs : Box w Bs 131 #[.int .i64 0]) (h1 : QV w (.agg Ca) a) (h2 : QV w (.agg Cb) b) (hf : Fits (a + b)) :
  Calls Tryz.prog 65 #[.pointer (some ⟨Bs, 0, none⟩), .agg Ca, .agg Cb] w fun e w' => ∃ C, e = .returned (.agg C) ∧ QV w' (.agg C) (a + b) ∧ Below w.heap.size w w' :=
 (r17add_ok Bs w bs h1.qt h2.qt hf).mono fun e w' ⟨C, he, hC, hb⟩ => ⟨C, he, hC.qv, hb⟩
theorem ssub_ok {Ca Cb : Array Value} {a b : Rat} (Bs : Nat) (w : World) (bs : Box w Bs 131 #[.int .i64 0]) (h1 : QV w (.agg Ca) a) (h2 : QV w (.agg Cb) b) (hf : Fits (a - b)) :
  Calls Tryz.prog 64 #[.pointer (some ⟨Bs, 0, none⟩), .agg Ca, .agg Cb] w fun e w' => ∃ C, e = .returned (.agg C) ∧ QV w' (.agg C) (a - b) ∧ Below w.heap.size w w' :=
 (r17sub_ok Bs w bs h1.qt h2.qt hf).mono fun e w' ⟨C, he, hC, hb⟩ => ⟨C, he, hC.qv, hb⟩
theorem smul_ok {Ca Cb : Array Value} {a b : Rat} (Bs : Nat) (w : World) (bs : Box w Bs 131 #[.int .i64 0]) (h1 : QV w (.agg Ca) a) (h2 : QV w (.agg Cb) b) (hf : Fits (a * b)) :
  Calls Tryz.prog 63 #[.pointer (some ⟨Bs, 0, none⟩), .agg Ca, .agg Cb] w fun e w' => ∃ C, e = .returned (.agg C) ∧ QV w' (.agg C) (a * b) ∧ Below w.heap.size w w' :=
 (r17mul_ok Bs w bs h1.qt h2.qt hf).mono fun e w' ⟨C, he, hC, hb⟩ => ⟨C, he, hC.qv, hb⟩
theorem sdiv_ok {Ca Cb : Array Value} {a b : Rat} (Bs : Nat) (w : World) (bs : Box w Bs 131 #[.int .i64 0]) (h1 : QV w (.agg Ca) a) (h2 : QV w (.agg Cb) b) (hb0 : 0 < b) (hf : Fits (a / b)) :
  Calls Tryz.prog 66 #[.pointer (some ⟨Bs, 0, none⟩), .agg Ca, .agg Cb] w fun e w' => ∃ C, e = .returned (.agg C) ∧ QV w' (.agg C) (a / b) ∧ Below w.heap.size w w' :=
 (r17div_ok Bs w bs h1.qt h2.qt hb0 hf).mono fun e w' ⟨C, he, hC, hb⟩ => ⟨C, he, hC.qv, hb⟩
end Go.Proofs.YtdgodcgdlfjpaaaGreatDoor
