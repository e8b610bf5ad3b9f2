/- MatrixGroups: products of drafted matrices whose fractions are letters, walked by the evaluator. Part 5 of 6. No condition beside the row. -/
import Derived.Test.YtccmnjkgfgnmoaaGreatDoorA21
import Derived.Test.YtccmnjkgfgnmoaaGreatDoorA29
import Derived.Test.YtccmnjkgfgnmoaaGreatDoorG01
import Derived.Test.YtccmnjkgfgnmoaaGreatDoorG02
import Derived.Test.YtccmnjkgfgnmoaaGreatDoorG04
set_option linter.unusedVariables false
set_option linter.unusedSimpArgs false
set_option maxRecDepth 100000
set_option maxHeartbeats 4000000
namespace Go.Mono
open Go.RowKit
theorem QtV.cells {m : Nat} {w : World} {v : Value} {q : Rat} (h : QtV m w v q) : ∃ C : Array Value, v = .agg C ∧ C.size = 4 ∧ C.all (·.oneCell') = true := by
 obtain ⟨s, p, n, c, s', p', n', c', rfl, _, _⟩ := h
 exact ⟨_, rfl, rfl, by simp [Value.oneCell']⟩
theorem QtV.tight {m k : Nat} {w : World} {v : Value} {q : Rat} (h : QtV m w v q) (h1 : (q.num.natAbs : Int) < pw k) (h2 : (q.den : Int) < pw k) : QtV k w v q := by
 obtain ⟨s, p, n, c, s', p', n', c', rfl, x, y⟩ := h
 exact ⟨s, p, n, c, s', p', n', c', rfl, x.tight h1, y.tight (by simpa using h2)⟩
theorem rat_prod_divInt (a b : Rat) : Rat.divInt (a.num * b.num) ((a.den : Int) * b.den) = a * b := by
 rw [← Rat.divInt_mul_divInt, Rat.num_divInt_den, Rat.num_divInt_den]
theorem rat_sum_divInt (a b : Rat) : Rat.divInt (a.num * b.den + b.num * a.den) ((a.den : Int) * b.den) = a + b := by
 have h := Rat.divInt_add_divInt a.num b.num (d₁ := a.den) (d₂ := b.den) (by have := a.den_pos; omega) (by have := b.den_pos; omega)
 rw [← h, Rat.num_divInt_den, Rat.num_divInt_den]
end Go.Mono
namespace Go.Proofs.YtccmnjkgfgnmoaaGreatDoor
open Go.RowKit Go.Mono

theorem r4prod_ok {m : Nat} {v1 v2 : Value} {a b : Rat} (w : World) (h1 : QtV m w v1 a) (h2 : QtV m w v2 b) (hm : m ≤ 50000) :
  Calls Tryz.prog 245 #[v1, v2] w fun e w' => ∃ v, e = .returned v ∧ QtV (m + m) w' v (a * b) ∧ Below w.heap.size w w' := by
 have hab := rat_prod_divInt a b
 have hden : (0 : Int) < (a.den : Int) * b.den := Int.mul_pos (by have := a.den_pos; omega) (by have := b.den_pos; omega)
 obtain ⟨s1, p1, n1, c1, t1, q1, m1, d1, rfl, x1, x2⟩ := h1
 obtain ⟨s2, p2, n2, c2, t2, q2, m2, d2, rfl, y1, y2⟩ := h2
 go_enter Tryz.func245, Tryz.ntmps245
 go_wp2_with fail
 refine boxes3 fun W hB hs b0 b1 bO => ?_
 replace x1 := x1.below hB
 replace x2 := x2.below hB
 replace y1 := y1.below hB
 replace y2 := y2.below hB
 refine wp_region_held_drew (S := fun w' => (∀ b o, b < W.heap.size → b ≠ (w.heap.size + 1 + 1) → w'.cell? ⟨b, o, none⟩ = W.cell? ⟨b, o, none⟩) ∧ KeepBut (w.heap.size + 1 + 1) W.heap.size W w') (by as_aux_lemma => kernel_rfl) (KeepBut.S (KeepBut.refl _ _).drew) (fun hHeld => ?_)
 have hBel : Below W.heap.size W W.drew := (Below.refl _ _).drew
 refine tk 0 (some 5) ?_
 refine tl 1 (some 6) rfl (.agg #[.bool s1, .slice p1 n1 c1]) (exec_load 33 _ rfl w.heap.size 0 rfl  #[.bool s1, .slice p1 n1 c1] (fun w h => (h.2.box b0 b0.lt (by omega)).part 0 #[.bool s1, .slice p1 n1 c1] rfl) _ Tryz.underlying33 rfl sizeLong) ?_
 refine tk 2 (some 7) ?_
 refine tl 3 (some 8) rfl (.agg #[.bool s2, .slice p2 n2 c2]) (exec_load 33 _ rfl (w.heap.size + 1) 0 rfl  #[.bool s2, .slice p2 n2 c2] (fun w h => (h.2.box b1 b1.lt (by omega)).part 0 #[.bool s2, .slice p2 n2 c2] rfl) _ Tryz.underlying33 rfl sizeLong) ?_
 refine tk 5 (some 10) ?_
 refine tl 6 (some 11) rfl (.agg #[.bool t1, .slice q1 m1 d1]) (exec_load 33 _ rfl w.heap.size 2 rfl  #[.bool t1, .slice q1 m1 d1] (fun w h => (h.2.box b0 b0.lt (by omega)).part 2 #[.bool t1, .slice q1 m1 d1] rfl) _ Tryz.underlying33 rfl sizeLong) ?_
 refine tk 7 (some 12) ?_
 refine tl 8 (some 13) rfl (.agg #[.bool t2, .slice q2 m2 d2]) (exec_load 33 _ rfl (w.heap.size + 1) 2 rfl  #[.bool t2, .slice q2 m2 d2] (fun w h => (h.2.box b1 b1.lt (by omega)).part 2 #[.bool t2, .slice q2 m2 d2] rfl) _ Tryz.underlying33 rfl sizeLong) ?_
 refine Mono.stc 4 (some 9) (r3prod_ok _ (x1.ext (.of_below hBel)) (y1.ext (.of_below hBel)) (by omega) (by omega)) (fun e Wn4 hR => ?_)
 obtain ⟨V4, rfl, R4, hb4⟩ := hR
 replace hBel := belowCall hBel hb4
 refine ⟨(KeepBut.S (hHeld.2.call hb4)), fun hHeld => Mono.pt ?_⟩
 refine Mono.stc 9 (some 14) (r3prod_ok _ (x2.ext (.of_below hBel)) (y2.ext (.of_below hBel)) (by omega) (by omega)) (fun e Wn9 hR => ?_)
 obtain ⟨V9, rfl, R9, hb9⟩ := hR
 replace hBel := belowCall hBel hb9
 replace R4 := R4.ext (.of_below hb9)
 refine ⟨(KeepBut.S (hHeld.2.call hb9)), fun hHeld => Mono.pt ?_⟩
 refine Mono.stc 10 (some 15) (r4lowest_pos _ R4 R9 hden (by omega)) (fun e Wn10 hR => ?_)
 obtain ⟨V10, rfl, R10, hb10⟩ := hR
 replace hBel := belowCall hBel hb10
 replace R4 := R4.ext (.of_below hb10)
 replace R9 := R9.ext (.of_below hb10)
 refine ⟨(KeepBut.S (hHeld.2.call hb10)), fun hHeld => Mono.pt ?_⟩
 rw [hab] at R10
 obtain ⟨C, rfl, zC, oC⟩ := R10.cells
 refine wpAnyH_storeB (w.heap.size + 1 + 1) 35 11 rfl rfl rfl rfl 0 C _ C (by as_aux_lemma => kernel_rfl) (fun w' i u hS => KeepBut.S (hS.2.set i u)) rfl rfl (bO.below hBel) hHeld (by rw [zC]; exact sizeQuot) (Nat.le_of_eq (by rw [zC]; rfl)) oC (whole_new (by rw [zC]; rfl)) (fun Ws hks bs hHeld => ?_)
 refine wpAnyH_done (by as_aux_lemma => kernel_rfl) ?_ _
 have xS := hks.ext (bO.below hBel) (by decide)
 go_wp2
 refine bodyPost_ret (bs.results rfl _ _ rfl Tryz.underlying35 rfl (by rw [zC]; exact sizeQuot)) rfl ?_
 exact ⟨_, rfl, R10.ext xS, hHeld.2.below hB (by omega) hB.size⟩
theorem r4sum_ok {m : Nat} {v1 v2 : Value} {a b : Rat} (w : World) (h1 : QtV m w v1 a) (h2 : QtV m w v2 b) (hm : m ≤ 40000) :
  Calls Tryz.prog 244 #[v1, v2] w fun e w' => ∃ v, e = .returned v ∧ QtV (m + m + 1) w' v (a + b) ∧ Below w.heap.size w w' := by
 have hab := rat_sum_divInt a b
 have hden : (0 : Int) < (a.den : Int) * b.den := Int.mul_pos (by have := a.den_pos; omega) (by have := b.den_pos; omega)
 obtain ⟨s1, p1, n1, c1, t1, q1, m1, d1, rfl, x1, x2⟩ := h1
 obtain ⟨s2, p2, n2, c2, t2, q2, m2, d2, rfl, y1, y2⟩ := h2
 go_enter Tryz.func244, Tryz.ntmps244
 go_wp2_with fail
 refine boxes3 fun W hB hs b0 b1 bO => ?_
 replace x1 := x1.below hB
 replace x2 := x2.below hB
 replace y1 := y1.below hB
 replace y2 := y2.below hB
 refine wp_region_held_drew (S := fun w' => (∀ b o, b < W.heap.size → b ≠ (w.heap.size + 1 + 1) → w'.cell? ⟨b, o, none⟩ = W.cell? ⟨b, o, none⟩) ∧ KeepBut (w.heap.size + 1 + 1) W.heap.size W w') (by as_aux_lemma => kernel_rfl) (KeepBut.S (KeepBut.refl _ _).drew) (fun hHeld => ?_)
 have hBel : Below W.heap.size W W.drew := (Below.refl _ _).drew
 refine tk 0 (some 5) ?_
 refine tl 1 (some 6) rfl (.agg #[.bool s1, .slice p1 n1 c1]) (exec_load 33 _ rfl w.heap.size 0 rfl  #[.bool s1, .slice p1 n1 c1] (fun w h => (h.2.box b0 b0.lt (by omega)).part 0 #[.bool s1, .slice p1 n1 c1] rfl) _ Tryz.underlying33 rfl sizeLong) ?_
 refine tk 2 (some 7) ?_
 refine tl 3 (some 8) rfl (.agg #[.bool t2, .slice q2 m2 d2]) (exec_load 33 _ rfl (w.heap.size + 1) 2 rfl  #[.bool t2, .slice q2 m2 d2] (fun w h => (h.2.box b1 b1.lt (by omega)).part 2 #[.bool t2, .slice q2 m2 d2] rfl) _ Tryz.underlying33 rfl sizeLong) ?_
 refine tk 5 (some 10) ?_
 refine tl 6 (some 11) rfl (.agg #[.bool s2, .slice p2 n2 c2]) (exec_load 33 _ rfl (w.heap.size + 1) 0 rfl  #[.bool s2, .slice p2 n2 c2] (fun w h => (h.2.box b1 b1.lt (by omega)).part 0 #[.bool s2, .slice p2 n2 c2] rfl) _ Tryz.underlying33 rfl sizeLong) ?_
 refine tk 7 (some 12) ?_
 refine tl 8 (some 13) rfl (.agg #[.bool t1, .slice q1 m1 d1]) (exec_load 33 _ rfl w.heap.size 2 rfl  #[.bool t1, .slice q1 m1 d1] (fun w h => (h.2.box b0 b0.lt (by omega)).part 2 #[.bool t1, .slice q1 m1 d1] rfl) _ Tryz.underlying33 rfl sizeLong) ?_
 refine tk 11 (some 16) ?_
 refine tl 12 (some 17) rfl (.agg #[.bool t1, .slice q1 m1 d1]) (exec_load 33 _ rfl w.heap.size 2 rfl  #[.bool t1, .slice q1 m1 d1] (fun w h => (h.2.box b0 b0.lt (by omega)).part 2 #[.bool t1, .slice q1 m1 d1] rfl) _ Tryz.underlying33 rfl sizeLong) ?_
 refine tk 13 (some 18) ?_
 refine tl 14 (some 19) rfl (.agg #[.bool t2, .slice q2 m2 d2]) (exec_load 33 _ rfl (w.heap.size + 1) 2 rfl  #[.bool t2, .slice q2 m2 d2] (fun w h => (h.2.box b1 b1.lt (by omega)).part 2 #[.bool t2, .slice q2 m2 d2] rfl) _ Tryz.underlying33 rfl sizeLong) ?_
 refine Mono.stc 4 (some 9) (r3prod_ok _ (x1.ext (.of_below hBel)) (y2.ext (.of_below hBel)) (by omega) (by omega)) (fun e Wn4 hR => ?_)
 obtain ⟨V4, rfl, R4, hb4⟩ := hR
 replace hBel := belowCall hBel hb4
 refine ⟨(KeepBut.S (hHeld.2.call hb4)), fun hHeld => Mono.pt ?_⟩
 refine Mono.stc 9 (some 14) (r3prod_ok _ (y1.ext (.of_below hBel)) (x2.ext (.of_below hBel)) (by omega) (by omega)) (fun e Wn9 hR => ?_)
 obtain ⟨V9, rfl, R9, hb9⟩ := hR
 replace hBel := belowCall hBel hb9
 replace R4 := R4.ext (.of_below hb9)
 refine ⟨(KeepBut.S (hHeld.2.call hb9)), fun hHeld => Mono.pt ?_⟩
 refine Mono.stc 10 (some 15) (r3sum_ok _ R4 R9 (by omega) (by omega)) (fun e Wn10 hR => ?_)
 obtain ⟨V10, rfl, R10, hb10⟩ := hR
 replace hBel := belowCall hBel hb10
 replace R4 := R4.ext (.of_below hb10)
 replace R9 := R9.ext (.of_below hb10)
 refine ⟨(KeepBut.S (hHeld.2.call hb10)), fun hHeld => Mono.pt ?_⟩
 refine Mono.stc 15 (some 20) (r3prod_ok _ (x2.ext (.of_below hBel)) (y2.ext (.of_below hBel)) (by omega) (by omega)) (fun e Wn15 hR => ?_)
 obtain ⟨V15, rfl, R15, hb15⟩ := hR
 replace hBel := belowCall hBel hb15
 replace R4 := R4.ext (.of_below hb15)
 replace R9 := R9.ext (.of_below hb15)
 replace R10 := R10.ext (.of_below hb15)
 refine ⟨(KeepBut.S (hHeld.2.call hb15)), fun hHeld => Mono.pt ?_⟩
 refine Mono.stc 16 (some 21) (r4lowest_pos (m := m + m + 1) _ (R10.mono (by omega)) (R15.mono (by omega)) hden (by omega)) (fun e Wn16 hR => ?_)
 obtain ⟨V16, rfl, R16, hb16⟩ := hR
 replace hBel := belowCall hBel hb16
 replace R4 := R4.ext (.of_below hb16)
 replace R9 := R9.ext (.of_below hb16)
 replace R10 := R10.ext (.of_below hb16)
 replace R15 := R15.ext (.of_below hb16)
 refine ⟨(KeepBut.S (hHeld.2.call hb16)), fun hHeld => Mono.pt ?_⟩
 rw [hab] at R16
 obtain ⟨C, rfl, zC, oC⟩ := R16.cells
 refine wpAnyH_storeB (w.heap.size + 1 + 1) 35 17 rfl rfl rfl rfl 0 C _ C (by as_aux_lemma => kernel_rfl) (fun w' i u hS => KeepBut.S (hS.2.set i u)) rfl rfl (bO.below hBel) hHeld (by rw [zC]; exact sizeQuot) (Nat.le_of_eq (by rw [zC]; rfl)) oC (whole_new (by rw [zC]; rfl)) (fun Ws hks bs hHeld => ?_)
 refine wpAnyH_done (by as_aux_lemma => kernel_rfl) ?_ _
 have xS := hks.ext (bO.below hBel) (by decide)
 go_wp2
 refine bodyPost_ret (bs.results rfl _ _ rfl Tryz.underlying35 rfl (by rw [zC]; exact sizeQuot)) rfl ?_
 exact ⟨_, rfl, R16.ext xS, hHeld.2.below hB (by omega) hB.size⟩
end Go.Proofs.YtccmnjkgfgnmoaaGreatDoor
namespace Go.Mono
open Go.RowKit
theorem LgV.len {m : Nat} {w : World} {s : Bool} {p : Option Addr} {n c : Nat} {z : Int} (h : LgV m w (.agg #[.bool s, .slice p n c]) z) : n ≤ m ∧ s = decide (z < 0) ∧ (0 < z.natAbs ↔ 0 < n) := by
 obtain ⟨p', n', c', f, hv, h1, h2, h3, h4⟩ := h
 simp only [Value.agg.injEq, Array.mk.injEq, List.cons.injEq, Value.bool.injEq, Value.slice.injEq, and_true] at hv
 obtain ⟨rfl, rfl, rfl, rfl⟩ := hv
 refine ⟨h4, rfl, ?_⟩
 have := h2.pos
 rw [h3] at this
 omega
end Go.Mono
namespace Go.Proofs.YtccmnjkgfgnmoaaGreatDoor
open Go.RowKit Go.Mono
theorem r4told_ok {v1 : Value} {a : Rat} (w : World) (h1 : QtV 600 w v1 a) :
  Calls Tryz.prog 243 #[v1] w fun e w' => e = .returned (.tuple #[v1, .int .i64 0]) ∧ Below w.heap.size w w' := by
 obtain ⟨s1, p1, n1, c1, t1, q1, m1, d1, rfl, x1, x2⟩ := h1
 have l1 := x1.len.1
 have l2 := x2.len.1
 have l1' : ¬ ((600 : Int) < n1) := by omega
 have l2' : ¬ ((600 : Int) < m1) := by omega
 clear x1 x2
 go_enter Tryz.func243, Tryz.ntmps243
 go_wp2
 have b := Box.new (w.alloc (.cells #[.bool s1, .slice p1 n1 c1, .bool t1, .slice q1 m1 d1] 35)) 35 #[.bool s1, .slice p1 n1 c1, .bool t1, .slice q1 m1 d1]
 simp only [World.size_alloc] at b
 exact bodyPost_ret (b.resultsT rfl _ _ rfl Tryz.underlying35 rfl sizeQuot) rfl ⟨rfl, belowAlloc (belowAlloc (Below.refl _ _) _) _⟩
theorem r4same_ok {m1 m2 : Nat} {v1 v2 : Value} {a b : Rat} (w : World) (h1 : QtV m1 w v1 a) (h2 : QtV m2 w v2 b) :
  Calls Tryz.prog 197 #[v1, v2] w fun e w' => e = .returned (.bool (decide (a = b))) ∧ Below w.heap.size w w' := by
 obtain ⟨s1, p1, n1, c1, t1, q1, m1, d1, rfl, x1, x2⟩ := h1
 obtain ⟨s2, p2, n2, c2, t2, q2, m2, d2, rfl, y1, y2⟩ := h2
 have hab : decide (a = b) = (decide (a.num = b.num) && decide ((a.den : Int) = b.den)) := by
  rw [Bool.eq_iff_iff]
  simp only [decide_eq_true_eq, Bool.and_eq_true]
  exact ⟨fun h => by subst h; exact ⟨rfl, rfl⟩, fun h => Rat.ext h.1 (by omega)⟩
 rw [hab]
 clear hab
 have hs1 := fun (X : World) (hX : Ext w X) => r3same_ok X (x1.ext hX) (y1.ext hX)
 have hs2 := fun (X : World) (hX : Ext w X) => r3same_ok X (x2.ext hX) (y2.ext hX)
 generalize decide (a.num = b.num) = e1 at *
 generalize decide ((a.den : Int) = b.den) = e2 at *
 clear x1 x2 y1 y2
 go_enter Tryz.func197, Tryz.ntmps197
 go_wp2_with fail
 refine boxes2c fun W hB hs b0 b1 => ?_
 refine (hs1 W (.of_below hB)).mono ?_
 rintro e W2 ⟨rfl, hb⟩
 replace b0 := b0.below hb
 replace b1 := b1.below hb
 replace hB := belowCall hB hb
 have cb0 := b0.cell
 have lb0 := b0.lt
 have fb0 := b0.frozen
 have cb1 := b1.cell
 have lb1 := b1.lt
 have fb1 := b1.frozen
 clear hs1 hb hs
 cases e1
 ·go_wp2
  go_ret
  exact ⟨rfl, hB⟩
 ·go_wp2_with (go_at_call 246; refine (hs2 W2 (.of_below hB)).mono ?_; rintro e W3 ⟨rfl, hb3⟩)
  go_ret
  exact ⟨by simp, belowCall hB hb3⟩
theorem r4right_ok {v1 : Value} {a : Rat} (w : World) (h1 : QtV 600 w v1 a) :
  Calls Tryz.prog 242 #[v1] w fun e w' => e = .returned (.bool true) ∧ Below w.heap.size w w' := by
 obtain ⟨s1, p1, n1, c1, t1, q1, m1, d1, rfl, x1, x2⟩ := h1
 have hg : (Int.gcd a.num a.den : Int) = 1 := by
  have := a.reduced
  have h : Int.gcd a.num a.den = 1 := by simpa [Int.gcd, Nat.Coprime] using this
  rw [h]; rfl
 have ht : t1 = false := by
  rw [x2.len.2.1]
  exact decide_eq_false (by omega)
 subst ht
 have hn := x2.len.2.2.1 (by have := a.den_pos; omega)
 have hn' : (0 : Int) < m1 := by omega
 have hr1 := fun (X : World) (hX : Ext w X) => r3right_ok X (x1.ext hX)
 have hr2 := fun (X : World) (hX : Ext w X) => r3right_ok X (x2.ext hX)
 have hc := fun (X : World) (hX : Ext w X) => r3common_ok X (x1.ext hX) (x2.ext hX) (by decide)
 rw [hg] at hc
 clear x1 x2 hg
 go_enter Tryz.func242, Tryz.ntmps242
 go_wp2_with fail
 refine boxes1c fun W hB hs b0 => ?_
 refine (hr1 W (.of_below hB)).mono ?_
 rintro e W2 ⟨rfl, hb⟩
 replace b0 := b0.below hb
 replace hB := belowCall hB hb
 have cb0 := b0.cell
 have lb0 := b0.lt
 have fb0 := b0.frozen
 clear hb
 go_wp2_with (go_at_call 273; refine (hr2 W2 (.of_below hB)).mono ?_; rintro e W3 ⟨rfl, hb3⟩; replace b0 := b0.below hb3; replace hB := belowCall hB hb3; clear cb0 lb0 fb0 hb3; have cb0 := b0.cell; have lb0 := b0.lt; have fb0 := b0.frozen)
 go_wp2_with (go_at_call 280; refine (hc W3 (.of_below hB)).mono ?_; rintro e W4 ⟨v, rfl, hv, hb4⟩; replace hB := belowCall hB hb4)
 go_wp2_with (go_at_call 240; refine (r3of_ok 1 W4 (by decide) (by decide)).mono ?_; rintro e W5 ⟨u, rfl, hu, hb5⟩; replace hB := belowCall hB hb5)
 go_wp2_with (go_at_call 246; refine (r3same_ok W5 (hv.below hb5) hu).mono ?_; rintro e W6 ⟨rfl, hb6⟩; replace hB := belowCall hB hb6)
 go_wp2
 go_ret
 exact ⟨by simp, hB⟩
section
open Go.Ex
theorem r3rightBad_ok (s : Bool) (p : Option Addr) (n c : Nat) (f : Nat → Int) (w wf : World) (hx : Ext wf w) (h1 : SlF wf (.slice p n c) n f) (h4 : n ≤ 600) (hbad : ¬ LongOk s n f) :
  Calls Tryz.prog 273 #[.agg #[.bool s, .slice p n c]] w fun e w' => e = .returned (.bool false) ∧ Below w.heap.size w w' := by
 replace h1 := h1.ext hx
 clear hx
 obtain ⟨hc1, hn1, hx1⟩ := h1.opens
 clear h1
 by_cases hn : n = 0
 ·subst hn
  have hsf : s = true := by
   cases s
   ·exact absurd ⟨⟨fun i hi => by omega, fun i hi => by omega, fun h => by omega⟩, fun h => by cases h⟩ hbad
   ·rfl
  subst hsf
  clear hx1
  go_enter Tryz.func273, Tryz.ntmps273
  go_wp2
  go_ret
  exact ⟨rfl, belowAlloc (Below.refl _ _) _⟩
 ·have hn' : ((n : Int) == 0) = false := by simp; omega
  obtain ⟨b, off, rfl, hb, hcell⟩ := hx1 (by omega)
  clear hx1
  by_cases hall : ∀ i, i < n → 0 ≤ f i ∧ f i < 1000000000
  ·obtain ⟨k, rfl⟩ : ∃ k, n = k + 1 := ⟨n - 1, by omega⟩
   have ht : f k = 0 := by
    by_cases ht : f k = 0
    ·exact ht
    ·exact absurd ⟨⟨fun i hi => (hall i hi).1, fun i hi => (hall i hi).2, fun _ => by simpa using ht⟩, fun _ => by omega⟩ hbad
   clear hbad
   have hk6 : (k : Int) + 1 ≤ 600 := by omega
   go_enter Tryz.func273, Tryz.ntmps273
   go_wp2
   refine boxes1 fun W hB hs b0 => ?_
   go_loopw [3] (fun a wr => ∃ i : Nat, i ≤ k + 1 ∧ a = .int .i64 (i : Int) ∧ wr = W) (fun a _ => (k + 1 - RowKit.intOf a).toNat)
   case atStart => exact ⟨0, Nat.zero_le _, rfl, rfl⟩
   case round =>
    obtain ⟨i, hi, rfl, hWe⟩ := hrel
    obtain rfl : W = wr := hWe.symm
    have cb0 := b0.cell
    have lb0 := b0.lt
    have fb0 := b0.frozen
    by_cases hin : i < k + 1
    ·have a1 := (hB.cell (p := ⟨b, off + i, none⟩) hb).trans (hcell i hin)
     have hin' : (i : Int) < k + 1 := by omega
     have f0 := (hall i hin).1
     have f9 := (hall i hin).2
     clear ht hall
     generalize f i = x at *
     clear hcell
     go_wp2
     go_roundw
     case rel => refine ⟨i + 1, by omega, ?_⟩; simp
     case measure => simp [RowKit.intOf]; omega
    ·obtain rfl : i = k + 1 := by omega
     have a1 := (hB.cell (p := ⟨b, off + k, none⟩) hb).trans (hcell k (by omega))
     rw [ht] at a1
     clear hcell hall ht
     go_wp2
     go_ret
     exact ⟨rfl, hB⟩
  ·obtain ⟨j, hj, hlo, hjb⟩ := bad_digit f n hall
   clear hall hbad
   go_enter Tryz.func273, Tryz.ntmps273
   go_wp2
   refine boxes1 fun W hB hs b0 => ?_
   go_loopw [3] (fun a wr => ∃ i : Nat, i ≤ j ∧ a = .int .i64 (i : Int) ∧ wr = W) (fun a _ => (n - RowKit.intOf a).toNat)
   case atStart => exact ⟨0, Nat.zero_le _, rfl, rfl⟩
   case round =>
    obtain ⟨i, hi, rfl, hWe⟩ := hrel
    obtain rfl : W = wr := hWe.symm
    have cb0 := b0.cell
    have lb0 := b0.lt
    have fb0 := b0.frozen
    have hin' : (i : Int) < n := by omega
    have a1 := (hB.cell (p := ⟨b, off + i, none⟩) hb).trans (hcell i (by omega))
    by_cases hin : i < j
    ·have f0 := (hlo i hin).1
     have f9 := (hlo i hin).2
     clear hlo hjb
     generalize f i = x at *
     clear hcell
     go_wp2
     go_roundw
     case rel => refine ⟨i + 1, by omega, ?_⟩; simp
     case measure => simp [RowKit.intOf]; omega
    ·obtain rfl : i = j := by omega
     clear hlo hcell
     generalize f i = x at *
     by_cases a4 : x < 0
     ·clear hjb
      go_wp2
      go_ret
      exact ⟨rfl, hB⟩
     ·have a5 : 1000000000 ≤ x := by omega
      clear hjb
      go_wp2
      go_ret
      exact ⟨rfl, hB⟩
def lval (s : Bool) (n : Nat) (f : Nat → Int) : Int := bif s then -(vf f n) else vf f n
theorem LongOk.nonneg {s : Bool} {n : Nat} {f : Nat → Int} (h : LongOk s n f) : 0 ≤ vf f n ∧ (s = true → 0 < vf f n) := by
 by_cases hn : n = 0
 ·subst hn
  exact ⟨by simp [vf], fun hs => by have := h.2 hs; omega⟩
 ·have := h.1.ge (by omega)
  have := pw_pos (n - 1)
  exact ⟨by omega, fun _ => by omega⟩
theorem LongOk.lg {s : Bool} {n c : Nat} {f : Nat → Int} {p : Option Addr} {w : World} (h : LongOk s n f) (h1 : SlF w (.slice p n c) n f) (h4 : n ≤ 600) : LgV 600 w (.agg #[.bool s, .slice p n c]) (lval s n f) := by
 obtain ⟨h0, hs⟩ := h.nonneg
 have e : decide (lval s n f < 0) = s := by
  cases s with
  | true => exact decide_eq_true (by have := hs rfl; show -(vf f n) < 0; omega)
  | false => exact decide_eq_false (by show ¬ vf f n < 0; omega)
 refine ⟨p, n, c, f, by rw [e], h1, h.1, ?_, h4⟩
 cases s with
 | true =>
   show vf f n = ((-(vf f n)).natAbs : Int)
   rw [Int.natAbs_neg]
   exact (Int.natAbs_of_nonneg h0).symm
 | false => exact (Int.natAbs_of_nonneg h0).symm
theorem lval_gcd {s : Bool} {n m : Nat} {f g : Nat → Int} (h1 : LongOk s n f) (h2 : LongOk false m g) (hG : gcdZ (vf f n) (vf g m) ≠ 1) : ¬ ((Int.gcd (lval s n f) (lval false m g) : Int) = 1) := by
 intro h
 apply hG
 obtain ⟨a0, _⟩ := h1.nonneg
 obtain ⟨b0, _⟩ := h2.nonneg
 rw [← h]
 unfold gcdZ Int.gcd lval
 have e2 : (vf g m).natAbs = (vf g m).toNat := by omega
 cases s with
 | true => simp only [cond_true, cond_false, Int.natAbs_neg]; rw [e2, show (vf f n).natAbs = (vf f n).toNat by omega]
 | false => simp only [cond_false]; rw [e2, show (vf f n).natAbs = (vf f n).toNat by omega]
theorem rbad1 (s t : Bool) (p q : Option Addr) (n m c e : Nat) (f g : Nat → Int) (w : World) (h1 : SlF w (.slice p n c) n f) (h2 : SlF w (.slice q m e) m g) (hn : n ≤ 600) (hm : m ≤ 600) (hN : ¬ LongOk s n f) :
  Calls Tryz.prog 242 #[.agg #[.bool s, .slice p n c, .bool t, .slice q m e]] w fun e' w' => e' = .returned (.bool false) ∧ Below w.heap.size w w' := by
 have hr1 := fun (X : World) (hX : Ext w X) => r3rightBad_ok s p n c f X w hX h1 hn hN
 clear h1 h2 hn hm
 go_enter Tryz.func242, Tryz.ntmps242
 go_wp2_with fail
 refine boxes1c fun W hB hs b0 => ?_
 refine (hr1 W (.of_below hB)).mono ?_
 rintro e W2 ⟨rfl, hb⟩
 replace b0 := b0.below hb
 replace hB := belowCall hB hb
 have cb0 := b0.cell
 have lb0 := b0.lt
 have fb0 := b0.frozen
 clear hb
 go_wp2
 go_ret
 exact ⟨rfl, hB⟩
theorem rbad2 (s t : Bool) (p q : Option Addr) (n m c e : Nat) (f g : Nat → Int) (w : World) (h1 : SlF w (.slice p n c) n f) (h2 : SlF w (.slice q m e) m g) (hn : n ≤ 600) (hm : m ≤ 600) (hN : LongOk s n f) (hD : ¬ LongOk t m g) :
  Calls Tryz.prog 242 #[.agg #[.bool s, .slice p n c, .bool t, .slice q m e]] w fun e' w' => e' = .returned (.bool false) ∧ Below w.heap.size w w' := by
 have hr1 := fun (X : World) (hX : Ext w X) => r3right_ok X ((hN.lg h1 hn).ext hX)
 have hr2 := fun (X : World) (hX : Ext w X) => r3rightBad_ok t q m e g X w hX h2 hm hD
 clear h1 h2 hn hm
 go_enter Tryz.func242, Tryz.ntmps242
 go_wp2_with fail
 refine boxes1c fun W hB hs b0 => ?_
 refine (hr1 W (.of_below hB)).mono ?_
 rintro e W2 ⟨rfl, hb⟩
 replace b0 := b0.below hb
 replace hB := belowCall hB hb
 have cb0 := b0.cell
 have lb0 := b0.lt
 have fb0 := b0.frozen
 clear hb
 go_wp2_with (go_at_call 273; refine (hr2 W2 (.of_below hB)).mono ?_; rintro e W3 ⟨rfl, hb3⟩; replace b0 := b0.below hb3; replace hB := belowCall hB hb3; clear cb0 lb0 fb0 hb3; have cb0 := b0.cell; have lb0 := b0.lt; have fb0 := b0.frozen)
 go_wp2
 go_ret
 exact ⟨rfl, hB⟩
theorem rbad3 (s : Bool) (p q : Option Addr) (n m c e : Nat) (f g : Nat → Int) (w : World) (h1 : SlF w (.slice p n c) n f) (h2 : SlF w (.slice q m e) m g) (hn : n ≤ 600) (hm : m ≤ 600) (hN : LongOk s n f) (hD : LongOk true m g) :
  Calls Tryz.prog 242 #[.agg #[.bool s, .slice p n c, .bool true, .slice q m e]] w fun e' w' => e' = .returned (.bool false) ∧ Below w.heap.size w w' := by
 have hr1 := fun (X : World) (hX : Ext w X) => r3right_ok X ((hN.lg h1 hn).ext hX)
 have hr2 := fun (X : World) (hX : Ext w X) => r3right_ok X ((hD.lg h2 hm).ext hX)
 clear h1 h2 hn hm
 go_enter Tryz.func242, Tryz.ntmps242
 go_wp2_with fail
 refine boxes1c fun W hB hs b0 => ?_
 refine (hr1 W (.of_below hB)).mono ?_
 rintro e W2 ⟨rfl, hb⟩
 replace b0 := b0.below hb
 replace hB := belowCall hB hb
 have cb0 := b0.cell
 have lb0 := b0.lt
 have fb0 := b0.frozen
 clear hb
 go_wp2_with (go_at_call 273; refine (hr2 W2 (.of_below hB)).mono ?_; rintro e W3 ⟨rfl, hb3⟩; replace b0 := b0.below hb3; replace hB := belowCall hB hb3; clear cb0 lb0 fb0 hb3; have cb0 := b0.cell; have lb0 := b0.lt; have fb0 := b0.frozen)
 go_wp2
 go_ret
 exact ⟨rfl, hB⟩
theorem rbad4 (s : Bool) (p q : Option Addr) (n c e : Nat) (f g : Nat → Int) (w : World) (h1 : SlF w (.slice p n c) n f) (h2 : SlF w (.slice q 0 e) 0 g) (hn : n ≤ 600) (hm : 0 ≤ 600) (hN : LongOk s n f) (hD : LongOk false 0 g) :
  Calls Tryz.prog 242 #[.agg #[.bool s, .slice p n c, .bool false, .slice q 0 e]] w fun e' w' => e' = .returned (.bool false) ∧ Below w.heap.size w w' := by
 have hr1 := fun (X : World) (hX : Ext w X) => r3right_ok X ((hN.lg h1 hn).ext hX)
 have hr2 := fun (X : World) (hX : Ext w X) => r3right_ok X ((hD.lg h2 hm).ext hX)
 clear h1 h2 hn hm
 go_enter Tryz.func242, Tryz.ntmps242
 go_wp2_with fail
 refine boxes1c fun W hB hs b0 => ?_
 refine (hr1 W (.of_below hB)).mono ?_
 rintro e W2 ⟨rfl, hb⟩
 replace b0 := b0.below hb
 replace hB := belowCall hB hb
 have cb0 := b0.cell
 have lb0 := b0.lt
 have fb0 := b0.frozen
 clear hb
 go_wp2_with (go_at_call 273; refine (hr2 W2 (.of_below hB)).mono ?_; rintro e W3 ⟨rfl, hb3⟩; replace b0 := b0.below hb3; replace hB := belowCall hB hb3; clear cb0 lb0 fb0 hb3; have cb0 := b0.cell; have lb0 := b0.lt; have fb0 := b0.frozen)
 go_wp2
 go_ret
 exact ⟨rfl, hB⟩
theorem rbad5 (s : Bool) (p q : Option Addr) (n m c e : Nat) (f g : Nat → Int) (w : World) (h1 : SlF w (.slice p n c) n f) (h2 : SlF w (.slice q m e) m g) (hn : n ≤ 600) (hm : m ≤ 600) (hN : LongOk s n f) (hD : LongOk false m g) (h0 : 0 < m) (hG : gcdZ (vf f n) (vf g m) ≠ 1) :
  Calls Tryz.prog 242 #[.agg #[.bool s, .slice p n c, .bool false, .slice q m e]] w fun e' w' => e' = .returned (.bool false) ∧ Below w.heap.size w w' := by
 have hr1 := fun (X : World) (hX : Ext w X) => r3right_ok X ((hN.lg h1 hn).ext hX)
 have hr2 := fun (X : World) (hX : Ext w X) => r3right_ok X ((hD.lg h2 hm).ext hX)
 have hc := fun (X : World) (hX : Ext w X) => r3common_ok X ((hN.lg h1 hn).ext hX) ((hD.lg h2 hm).ext hX) (by decide)
 have hG' := lval_gcd hN hD hG
 have hn' : (0 : Int) < m := by omega
 clear h1 h2 hn hm
 go_enter Tryz.func242, Tryz.ntmps242
 go_wp2_with fail
 refine boxes1c fun W hB hs b0 => ?_
 refine (hr1 W (.of_below hB)).mono ?_
 rintro e W2 ⟨rfl, hb⟩
 replace b0 := b0.below hb
 replace hB := belowCall hB hb
 have cb0 := b0.cell
 have lb0 := b0.lt
 have fb0 := b0.frozen
 clear hb
 go_wp2_with (go_at_call 273; refine (hr2 W2 (.of_below hB)).mono ?_; rintro e W3 ⟨rfl, hb3⟩; replace b0 := b0.below hb3; replace hB := belowCall hB hb3; clear cb0 lb0 fb0 hb3; have cb0 := b0.cell; have lb0 := b0.lt; have fb0 := b0.frozen)
 go_wp2_with (go_at_call 280; refine (hc W3 (.of_below hB)).mono ?_; rintro e W4 ⟨v, rfl, hv, hb4⟩; replace hB := belowCall hB hb4)
 go_wp2_with (go_at_call 240; refine (r3of_ok 1 W4 (by decide) (by decide)).mono ?_; rintro e W5 ⟨u, rfl, hu, hb5⟩; replace hB := belowCall hB hb5)
 go_wp2_with (go_at_call 246; refine (r3same_ok W5 (hv.below hb5) hu).mono ?_; rintro e W6 ⟨rfl, hb6⟩; replace hB := belowCall hB hb6)
 go_wp2
 go_ret
 exact ⟨by simp, hB⟩
theorem r4rightBad_ok (cs : List Value) (w : World) (h : BadQ w cs) : Calls Tryz.prog 242 #[.agg cs.toArray] w fun e' w' => e' = .returned (.bool false) ∧ Below w.heap.size w w' := by
 obtain ⟨s, t, p, q, n, m, c, e, f, g, rfl, h1, h2, hn, hm, hbad⟩ := h
 by_cases hN : LongOk s n f
 ·by_cases hD : LongOk t m g
  ·cases t with
   | true => exact rbad3 s p q n m c e f g w h1 h2 hn hm hN hD
   | false =>
     by_cases h0 : 0 < m
     ·exact rbad5 s p q n m c e f g w h1 h2 hn hm hN hD h0 fun hG => hbad ⟨hN, hD, rfl, h0, hG⟩
     ·obtain rfl : m = 0 := by omega
      exact rbad4 s p q n c e f g w h1 h2 hn (by omega) hN hD
  ·exact rbad2 s t p q n m c e f g w h1 h2 hn hm hN hD
 ·exact rbad1 s t p q n m c e f g w h1 h2 hn hm hN
end
theorem r4add_ok {v1 v2 : Value} {a b : Rat} (w : World) (h1 : QtV 600 w v1 a) (h2 : QtV 600 w v2 b) (hf : Fits (a + b)) :
  Calls Tryz.prog 194 #[v1, v2] w fun e w' => ∃ C, e = .returned (.tuple #[.agg C, .int .i64 0]) ∧ QtV 600 w' (.agg C) (a + b) ∧ Below w.heap.size w w' := by
 have hr1 := fun (X : World) (hX : Ext w X) => r4right_ok X (h1.ext hX)
 have hr2 := fun (X : World) (hX : Ext w X) => r4right_ok X (h2.ext hX)
 have hc := fun (X : World) (hX : Ext w X) => r4sum_ok X (h1.ext hX) (h2.ext hX) (by decide)
 obtain ⟨s1, p1, n1, c1, t1, q1, m1, d1, rfl, x1, x2⟩ := h1
 obtain ⟨s2, p2, n2, c2, t2, q2, m2, d2, rfl, y1, y2⟩ := h2
 clear x1 x2 y1 y2
 go_enter Tryz.func194, Tryz.ntmps194
 go_wp2_with fail
 refine boxes3c fun W hB hs b0 b1 bO => ?_
 refine (hr1 W (.of_below hB)).mono ?_
 rintro e W2 ⟨rfl, hb⟩
 replace b0 := b0.below hb
 replace b1 := b1.below hb
 replace bO := bO.below hb
 replace hB := belowCall hB hb
 have cb0 := b0.cell
 have lb0 := b0.lt
 have fb0 := b0.frozen
 have cb1 := b1.cell
 have lb1 := b1.lt
 have fb1 := b1.frozen
 clear hb hr1 hs
 go_wp2_with fail
 refine (hr2 W2 (.of_below hB)).mono ?_
 rintro e W3 ⟨rfl, hb⟩
 replace b0 := b0.below hb
 replace b1 := b1.below hb
 replace bO := bO.below hb
 replace hB := belowCall hB hb
 clear cb0 lb0 fb0 cb1 lb1 fb1
 have cb0 := b0.cell
 have lb0 := b0.lt
 have fb0 := b0.frozen
 have cb1 := b1.cell
 have lb1 := b1.lt
 have fb1 := b1.frozen
 clear hb hr2
 go_wp2_with fail
 refine (hc W3 (.of_below hB)).mono ?_
 rintro e W4 ⟨V, rfl, hV, hb4⟩
 replace bO := bO.below hb4
 replace hB := belowCall hB hb4
 go_wp2_with fail
 refine (r4told_ok W4 (hV.tight hf.1 hf.2)).mono ?_
 rintro e W5 ⟨rfl, hb9⟩
 have h9 := (hV.tight hf.1 hf.2).below hb9
 obtain ⟨C, rfl, zC, oC⟩ := h9.cells
 replace bO := bO.below hb9
 replace hB := belowCall hB hb9
 go_wp2_with first | (refine wpList_store_box rfl 35 (.tmp 4) (.tmp 19) rfl (w.heap.size + 1 + 1) 0 35 _ C C rfl rfl bO (by rw [zC]; exact sizeQuot) (Nat.le_of_eq (by rw [zC]; rfl)) oC (whole_new (by rw [zC]; rfl)) ?_; intro W6 hk b2)
 refine bodyPost_ret (b2.resultsT rfl _ _ rfl Tryz.underlying35 rfl (by rw [zC]; exact sizeQuot)) rfl ?_
 exact ⟨_, rfl, h9.ext (hk.ext bO (by decide)), hk.below hB (by omega) hB.size⟩
theorem r4mul_ok {v1 v2 : Value} {a b : Rat} (w : World) (h1 : QtV 600 w v1 a) (h2 : QtV 600 w v2 b) (hf : Fits (a * b)) :
  Calls Tryz.prog 196 #[v1, v2] w fun e w' => ∃ C, e = .returned (.tuple #[.agg C, .int .i64 0]) ∧ QtV 600 w' (.agg C) (a * b) ∧ Below w.heap.size w w' := by
 have hr1 := fun (X : World) (hX : Ext w X) => r4right_ok X (h1.ext hX)
 have hr2 := fun (X : World) (hX : Ext w X) => r4right_ok X (h2.ext hX)
 have hc := fun (X : World) (hX : Ext w X) => r4prod_ok X (h1.ext hX) (h2.ext hX) (by decide)
 obtain ⟨s1, p1, n1, c1, t1, q1, m1, d1, rfl, x1, x2⟩ := h1
 obtain ⟨s2, p2, n2, c2, t2, q2, m2, d2, rfl, y1, y2⟩ := h2
 clear x1 x2 y1 y2
 go_enter Tryz.func196, Tryz.ntmps196
 go_wp2_with fail
 refine boxes3c fun W hB hs b0 b1 bO => ?_
 refine (hr1 W (.of_below hB)).mono ?_
 rintro e W2 ⟨rfl, hb⟩
 replace b0 := b0.below hb
 replace b1 := b1.below hb
 replace bO := bO.below hb
 replace hB := belowCall hB hb
 have cb0 := b0.cell
 have lb0 := b0.lt
 have fb0 := b0.frozen
 have cb1 := b1.cell
 have lb1 := b1.lt
 have fb1 := b1.frozen
 clear hb hr1 hs
 go_wp2_with fail
 refine (hr2 W2 (.of_below hB)).mono ?_
 rintro e W3 ⟨rfl, hb⟩
 replace b0 := b0.below hb
 replace b1 := b1.below hb
 replace bO := bO.below hb
 replace hB := belowCall hB hb
 clear cb0 lb0 fb0 cb1 lb1 fb1
 have cb0 := b0.cell
 have lb0 := b0.lt
 have fb0 := b0.frozen
 have cb1 := b1.cell
 have lb1 := b1.lt
 have fb1 := b1.frozen
 clear hb hr2
 go_wp2_with fail
 refine (hc W3 (.of_below hB)).mono ?_
 rintro e W4 ⟨V, rfl, hV, hb4⟩
 replace bO := bO.below hb4
 replace hB := belowCall hB hb4
 go_wp2_with fail
 refine (r4told_ok W4 (hV.tight hf.1 hf.2)).mono ?_
 rintro e W5 ⟨rfl, hb9⟩
 have h9 := (hV.tight hf.1 hf.2).below hb9
 obtain ⟨C, rfl, zC, oC⟩ := h9.cells
 replace bO := bO.below hb9
 replace hB := belowCall hB hb9
 go_wp2_with first | (refine wpList_store_box rfl 35 (.tmp 4) (.tmp 19) rfl (w.heap.size + 1 + 1) 0 35 _ C C rfl rfl bO (by rw [zC]; exact sizeQuot) (Nat.le_of_eq (by rw [zC]; rfl)) oC (whole_new (by rw [zC]; rfl)) ?_; intro W6 hk b2)
 refine bodyPost_ret (b2.resultsT rfl _ _ rfl Tryz.underlying35 rfl (by rw [zC]; exact sizeQuot)) rfl ?_
 exact ⟨_, rfl, h9.ext (hk.ext bO (by decide)), hk.below hB (by omega) hB.size⟩
end Go.Proofs.YtccmnjkgfgnmoaaGreatDoor
namespace Go.Mono
open Go.RowKit
theorem LgV.tail {m : Nat} {w : World} {v : Value} {z : Int} (h : LgV m w v z) : ∃ p n c, v = .agg #[.bool (decide (z < 0)), .slice p n c] ∧ (z ≠ 0 ↔ 0 < n) := by
 obtain ⟨p, n, c, f, rfl, h1, h2, h3, h4⟩ := h
 refine ⟨p, n, c, rfl, ?_⟩
 have := h2.pos
 rw [h3] at this
 omega
end Go.Mono
namespace Go.Proofs.YtccmnjkgfgnmoaaGreatDoor
open Go.RowKit Go.Mono
theorem r4make_pos {v1 v2 : Value} {n d : Int} (w : World) (h1 : LgV 3 w v1 n) (h2 : LgV 3 w v2 d) (hd : 0 < d) :
  Calls Tryz.prog 239 #[v1, v2] w fun e w' => ∃ C, e = .returned (.tuple #[.agg C, .int .i64 0]) ∧ QtV 3 w' (.agg C) (Rat.divInt n d) ∧ Below w.heap.size w w' := by
 have hr1 := fun (X : World) (hX : Ext w X) => r3right_ok X ((h1.ext hX).mono (by decide))
 have hr2 := fun (X : World) (hX : Ext w X) => r3right_ok X ((h2.ext hX).mono (by decide))
 have hc := fun (X : World) (hX : Ext w X) => r4lowest_pos X (h1.ext hX) (h2.ext hX) hd (by decide)
 obtain ⟨p1, n1, c1, rfl, _⟩ := h1.tail
 obtain ⟨p2, n2, c2, rfl, hn2⟩ := h2.tail
 have hn2' : ((n2 : Int) == 0) = false := by have := hn2.1 (by omega); simp; omega
 generalize decide (n < 0) = s1 at *
 generalize decide (d < 0) = s2 at *
 clear h1 h2 hn2
 go_enter Tryz.func239, Tryz.ntmps239
 go_wp2_with fail
 refine boxes3c fun W hB hs b0 b1 bO => ?_
 refine (hr1 W (.of_below hB)).mono ?_
 rintro e W2 ⟨rfl, hb⟩
 replace b0 := b0.below hb
 replace b1 := b1.below hb
 replace bO := bO.below hb
 replace hB := belowCall hB hb
 have cb0 := b0.cell
 have lb0 := b0.lt
 have fb0 := b0.frozen
 have cb1 := b1.cell
 have lb1 := b1.lt
 have fb1 := b1.frozen
 clear hb hr1 hs
 go_wp2_with fail
 refine (hr2 W2 (.of_below hB)).mono ?_
 rintro e W3 ⟨rfl, hb⟩
 replace b0 := b0.below hb
 replace b1 := b1.below hb
 replace bO := bO.below hb
 replace hB := belowCall hB hb
 clear cb0 lb0 fb0 cb1 lb1 fb1
 have cb0 := b0.cell
 have lb0 := b0.lt
 have fb0 := b0.frozen
 have cb1 := b1.cell
 have lb1 := b1.lt
 have fb1 := b1.frozen
 clear hb hr2
 go_wp2_with fail
 refine (hc W3 (.of_below hB)).mono ?_
 rintro e W4 ⟨V, rfl, hV, hb4⟩
 obtain ⟨C, rfl, zC, oC⟩ := hV.cells
 replace bO := bO.below hb4
 replace hB := belowCall hB hb4
 go_wp2_with first | (refine wpList_store_box rfl 35 (.tmp 4) (.tmp 22) rfl (w.heap.size + 1 + 1) 0 35 _ C C rfl rfl bO (by rw [zC]; exact sizeQuot) (Nat.le_of_eq (by rw [zC]; rfl)) oC (whole_new (by rw [zC]; rfl)) ?_; intro W6 hk b2)
 refine bodyPost_ret (b2.resultsT rfl _ _ rfl Tryz.underlying35 rfl (by rw [zC]; exact sizeQuot)) rfl ?_
 exact ⟨_, rfl, hV.ext (hk.ext bO (by decide)), hk.below hB (by omega) hB.size⟩
theorem r4of_ok (n d : Int) (w : World) (hd : 0 < d) (a1 : -9223372036854775808 ≤ n) (a2 : n ≤ 9223372036854775807) (b2 : d ≤ 9223372036854775807) :
  Calls Tryz.prog 186 #[.int .i64 n, .int .i64 d] w fun e w' => ∃ C, e = .returned (.tuple #[.agg C, .int .i64 0]) ∧ QtV 3 w' (.agg C) (Rat.divInt n d) ∧ Below w.heap.size w w' := by
 go_enter Tryz.func186, Tryz.ntmps186
 go_wp2_with fail
 refine boxes1c fun W hB hs bO => ?_
 refine (r3of_ok n W a1 a2).mono ?_
 rintro e W2 ⟨v1, rfl, h1, hb⟩
 replace bO := bO.below hb
 replace hB := belowCall hB hb
 clear hb
 go_wp2_with fail
 refine (r3of_ok d W2 (by omega) b2).mono ?_
 rintro e W3 ⟨v2, rfl, h2, hb⟩
 replace bO := bO.below hb
 replace hB := belowCall hB hb
 replace h1 := h1.below hb
 clear hb
 go_wp2_with fail
 refine (r4make_pos W3 h1 h2 hd).mono ?_
 rintro e W4 ⟨C, rfl, hV, hb⟩
 obtain ⟨_, e, zC, oC⟩ := hV.cells
 cases e
 replace bO := bO.below hb
 replace hB := belowCall hB hb
 clear hb h1 h2
 go_wp2_with first | (refine wpList_store_box rfl 35 (.tmp 4) (.tmp 11) rfl w.heap.size 0 35 _ C C rfl rfl bO (by rw [zC]; exact sizeQuot) (Nat.le_of_eq (by rw [zC]; rfl)) oC (whole_new (by rw [zC]; rfl)) ?_; intro W6 hk b2)
 refine bodyPost_ret (b2.resultsT rfl _ _ rfl Tryz.underlying35 rfl (by rw [zC]; exact sizeQuot)) rfl ?_
 exact ⟨_, rfl, hV.ext (hk.ext bO (by decide)), hk.below hB (by omega) hB.size⟩
theorem r17of_ok (n d : Int) (w : World) (hd : 0 < d) (a1 : -9223372036854775808 ≤ n) (a2 : n ≤ 9223372036854775807) (b2 : d ≤ 9223372036854775807) :
  Calls Tryz.prog 92 #[.int .i64 n, .int .i64 d] w fun e w' => ∃ C, e = .returned (.agg C) ∧ QtV 3 w' (.agg C) (Rat.divInt n d) ∧ Below w.heap.size w w' := by
 go_enter Tryz.func92, Tryz.ntmps92
 go_wp2_with fail
 refine boxes1c fun W hB hs bO => ?_
 refine (r4of_ok n d W hd a1 a2 b2).mono ?_
 rintro e W2 ⟨C, rfl, hV, hb⟩
 obtain ⟨_, e, zC, oC⟩ := hV.cells
 cases e
 replace bO := bO.below hb
 replace hB := belowCall hB hb
 clear hb
 go_wp2_with first | (refine wpList_put1 35 5 _ C _ rfl rfl rfl rfl rfl rfl alloc_quot (by as_aux_lemma => (intro _; kernel_rfl)) (by as_aux_lemma => (intro _; kernel_rfl)) (by rw [zC]; exact sizeQuot) (by rw [zC]; rfl) oC ?_; intro W3 B5 _ hB3 b5; replace bO := bO.below hB3) | (refine wpList_load_box rfl 35 (.tmp 5) rfl B5 (by as_aux_lemma => kernel_rfl) 35 C b5 _ Tryz.underlying35 rfl (by rw [zC]; exact sizeQuot) ?_) | (refine wpList_store_box rfl 35 (.tmp 4) (.tmp 13) rfl w.heap.size 0 35 _ C C rfl rfl bO (by rw [zC]; exact sizeQuot) (Nat.le_of_eq (by rw [zC]; rfl)) oC (whole_new (by rw [zC]; rfl)) ?_; intro W6 hk b2)
 refine bodyPost_ret (b2.results rfl _ _ rfl Tryz.underlying35 rfl (by rw [zC]; exact sizeQuot)) rfl ?_
 exact ⟨_, rfl, (hV.below hB3).ext (hk.ext bO (by decide)), hk.below (belowCall hB hB3) (by omega) (belowCall hB hB3).size⟩
section
open Go.Ex
variable {K : Nat → Value} {hK : ∀ i, (K i).oneCell' = true}
def cR4Add (S : Side) (w0 : World) (X : Nat → Prop) : Ctr (qDen K hK) Tryz.prog w0 X := binSpec S.cl w0 X 194 (fun a b => a + b) (fun a b => S.fit (a + b)) fun a b u v L w hs hL h1 h2 => (r4add_ok w h1.qt h2.qt (S.hfit _ _ hs hL)).mono fun e w' ⟨C, e1, hC, hb⟩ => ⟨_, e1, hC.qv, hb⟩
def cR4Mul (S : Side) (w0 : World) (X : Nat → Prop) : Ctr (qDen K hK) Tryz.prog w0 X := binSpec S.cl w0 X 196 (fun a b => a * b) (fun a b => S.fit (a * b)) fun a b u v L w hs hL h1 h2 => (r4mul_ok w h1.qt h2.qt (S.hfit _ _ hs hL)).mono fun e w' ⟨C, e1, hC, hb⟩ => ⟨_, e1, hC.qv, hb⟩
def ofR4 (args : List SA) (bk : List (Nat × Blk)) (orc : List (Option Bool)) : Option (SV × List Prop × List (Option Bool)) :=
 match args with
 | [x, y] => match intOf (some (.a x)), intOf (some (.a y)) with
   | some (.i64, n, _), some (.i64, d, _) => some (.tup [.agg [.quo (Rat.divInt n d)], okV], [inR n, inR d, 0 < d], orc)
   | _, _ => none
 | _ => none
def cR4Of (w0 : World) (X : Nat → Prop) : Ctr (qDen K hK) Tryz.prog w0 X := .plain 186 ofR4 <| by
    intro args bk orc v obl orc' hr hobl ρ w vals hfr hb hargs
    unfold ofR4 at hr
    split at hr
    ·rename_i x y
     split at hr
     ·rename_i n s d s' hx hy
      cases hr
      obtain ⟨v1, r1, rfl, h1, v2, r2, rfl, h2, h3⟩ := hargs
      obtain rfl : r2 = [] := h3
      obtain rfl := intOf_ok (D := qDen K hK) (ρ := ρ) (w := w) hx h1
      obtain rfl := intOf_ok (D := qDen K hK) (ρ := ρ) (w := w) hy h2
      obtain ⟨a1, a2⟩ := hobl (inR n) (by simp)
      obtain ⟨b1, b2⟩ := hobl (inR d) (by simp)
      refine (r4of_ok n d w (hobl (0 < d) (by simp)) a1 a2 b2).mono ?_
      rintro e w' ⟨C, rfl, hC, hbl⟩
      exact ⟨_, rfl, ⟨[_, .int .i64 0], rfl, _, _, rfl, den_quo.2 (hC.mono (by decide)).qv, _, _, rfl, ⟨rfl, rfl⟩, rfl⟩, hbl⟩
     ·cases hr
    ·cases hr
def cR4Same (w0 : World) (X : Nat → Prop) : Ctr (qDen K hK) Tryz.prog w0 X := .plain 197 sameRun <| by
    intro args bk orc v obl orc' hr hobl ρ w vals hfr hb hargs
    unfold sameRun at hr
    split at hr
    ·rename_i x y
     split at hr
     ·rename_i a b ha hb'
      cases hr
      obtain ⟨v1, r1, rfl, h1, v2, r2, rfl, h2, h3⟩ := hargs
      obtain rfl : r2 = [] := h3
      refine (r4same_ok w (asQ_ok ha h1).qt (asQ_ok hb' h2).qt).mono ?_
      rintro e w' ⟨rfl, hbl⟩
      exact ⟨_, rfl, rfl, hbl⟩
     ·cases hr
    ·cases hr
def cR4Right (w0 : World) (X : Nat → Prop) : Ctr (qDen K hK) Tryz.prog w0 X := .plain 242 (fun args _ orc => match args with
    | [.agg x] => (asQ x).map fun _ => (.a (.one (.val (.bool true))), [], orc)
    | _ => none) <| by
    intro args bk orc v obl orc' hr hobl ρ w vals hfr hb hargs
    split at hr
    ·rename_i x
     obtain ⟨a, ha, e⟩ := Option.map_eq_some_iff.1 hr
     cases e
     obtain ⟨v1, r1, rfl, h1, h3⟩ := hargs
     obtain rfl : r1 = [] := h3
     refine (r4right_ok w (asQ_ok ha h1).qt).mono ?_
     rintro e w' ⟨rfl, hbl⟩
     exact ⟨_, rfl, ⟨rfl, rfl⟩, hbl⟩
    ·cases hr
def spR (S : Side) (w0 : World) (X : Nat → Prop) : List (Ctr (qDen K hK) Tryz.prog w0 X) := [cR4Add S w0 X, cR4Mul S w0 X, cR4Of w0 X, cR4Same w0 X, cR4Right w0 X]
end
end Go.Proofs.YtccmnjkgfgnmoaaGreatDoor
namespace Go.Ex
open Go.Mono
def monF {α : Type} : Mon → (Mon → α) → α
 | [], k => k []
 | e :: r, k => ncase e fun e => monF r fun r => k (e :: r)
theorem monF_eq {α : Type} : ∀ (m : Mon) (k : Mon → α), monF m k = k m
 | [], k => rfl
 | e :: r, k => by unfold monF; rw [ncase_eq, monF_eq r]
def polF {α : Type} : Pol → (Pol → α) → α
 | [], k => k []
 | t :: r, k => icase t.1.n fun n => ncase t.1.d fun d => monF t.2 fun m => polF r fun r => k ((⟨n, d⟩, m) :: r)
theorem polF_eq {α : Type} : ∀ (p : Pol) (k : Pol → α), polF p k = k p
 | [], k => rfl
 | t :: r, k => by unfold polF; rw [icase_eq, ncase_eq, monF_eq, polF_eq r]
def Cf.inv (c : Cf) : Option Cf :=
 match c.n with
 | .ofNat 0 => none
 | .ofNat (k + 1) => some (Cf.low (Int.ofNat (c.d + 1)) (k + 1))
 | .negSucc k => some (Cf.low (-Int.ofNat (c.d + 1)) (k + 1))
theorem Cf.inv_ev {c e : Cf} (h : c.inv = some e) : e.ev = c.ev⁻¹ ∧ c.ev ≠ 0 := by
 unfold Cf.inv at h
 have key : ∀ n : Int, n ≠ 0 → c.n = n → c.ev⁻¹ = Rat.divInt (c.d + 1 : Nat) n ∧ c.ev ≠ 0 := by
  intro n hn e
  unfold Cf.ev
  rw [e]
  refine ⟨?_, fun h => hn ((Rat.mkRat_eq_zero (Nat.succ_ne_zero _)).1 h)⟩
  rw [← Rat.divInt_ofNat, Rat.inv_divInt]
 split at h
 ·cases h
 ·rename_i k hn
  cases h
  rw [Cf.low_ev _ _ (Nat.succ_pos k), ← Rat.divInt_ofNat]
  exact ⟨((key _ (by simp; omega) hn).1).symm, (key _ (by simp; omega) hn).2⟩
 ·rename_i k hn
  cases h
  rw [Cf.low_ev _ _ (Nat.succ_pos k), ← Rat.divInt_ofNat]
  refine ⟨?_, (key _ (by omega) hn).2⟩
  rw [(key _ (by omega) hn).1, Int.negSucc_eq, Rat.divInt_neg']
  rfl
end Go.Ex
namespace Go.Proofs.YtccmnjkgfgnmoaaGreatDoor
open Go.RowKit Go.Mono Go.Ex
section
section
variable {K : Nat → Value} {hK : ∀ i, (K i).oneCell' = true}
def asP (l : List U) : Option Pol :=
 match l with
 | [.qe p] => some p
 | [.quo q] => icase q.num fun n => ncase q.den fun d => match d with
   | 0 => none
   | d + 1 => some (polC n d)
 | _ => none
theorem den_qe {ρ : Nm} {w : World} {p : Pol} {v : Value} : denA (qDen K hK) ρ w (.agg [.qe p]) v ↔ QV w v (polEv (qDen K hK).env p) := den_quo (q := polEv (qDen K hK).env p)
theorem asP_ok {ρ : Nm} {w : World} {l : List U} {p : Pol} (h : asP l = some p) {v : Value} (hv : denA (qDen K hK) ρ w (.agg l) v) : QV w v (polEv (qDen K hK).env p) := by
 unfold asP at h
 split at h
 ·cases h
  exact den_qe.1 hv
 ·rename_i q
  rw [icase_eq, ncase_eq] at h
  split at h
  ·cases h
  ·rename_i d hd
   cases h
   have := den_quo.1 hv
   rw [polC_ev, show d + 1 = q.den from hd.symm, Rat.mkRat_self]
   exact this
 ·cases h
theorem szB_fits {ks : List Nat} (hks : LetS (qDen K hK).env ks) {p : Pol} (h : szB ks p = true) : Fits (polEv (qDen K hK).env p) := by
 unfold szB at h
 split at h
 ·rename_i n hn
  exact (szP_ok hks p n hn).fits (Nat.le_of_ble_eq_true h)
 ·cases h
def binRunP (ks : List Nat) (op : Pol → Pol → Option Pol) (args : List SA) (bk : List (Nat × Blk)) (orc : List (Option Bool)) : Option (SV × List Prop × List (Option Bool)) :=
 match args with
 | [.agg x, .agg y] => match asP x, asP y with
   | some a, some b => match op a b with
     | some p => polF p fun p => if szB ks p then some (.tup [.agg [.qe p], okV], [], orc) else none
     | none => none
   | _, _ => none
 | _ => none
def binSpecP (ks : List Nat) (hks : LetS (qDen K hK).env ks) (w0 : World) (X : Nat → Prop) (f : FuncId) (op : Pol → Pol → Option Pol) (rop : Rat → Rat → Rat)
    (h : ∀ (p q r : Pol) (u v : Value) (w : World), op p q = some r → Fits (polEv (qDen K hK).env r) → QV w u (polEv (qDen K hK).env p) → QV w v (polEv (qDen K hK).env q) →
     Calls Tryz.prog f #[u, v] w fun e w' => ∃ z, e = .returned (.tuple #[z, .int .i64 0]) ∧ QV w' z (polEv (qDen K hK).env r) ∧ Below w.heap.size w w') : Ctr (qDen K hK) Tryz.prog w0 X := .plain f (binRunP ks op) <| by
    intro args bk orc v obl orc' hr hobl ρ w vals hfr hb hargs
    unfold binRunP at hr
    split at hr
    ·rename_i x y
     split at hr
     ·rename_i a b ha hb'
      split at hr
      ·rename_i p hp
       rw [polF_eq] at hr
       split at hr
       ·rename_i hs
        cases hr
        obtain ⟨v1, r1, rfl, h1, v2, r2, rfl, h2, h3⟩ := hargs
        obtain rfl : r2 = [] := h3
        refine (h a b p v1 v2 w hp (szB_fits hks hs) (asP_ok ha h1) (asP_ok hb' h2)).mono ?_
        rintro e w' ⟨r, rfl, hr, hbl⟩
        exact ⟨_, rfl, ⟨[r, .int .i64 0], rfl, _, _, rfl, den_qe.2 hr, _, _, rfl, ⟨rfl, rfl⟩, rfl⟩, hbl⟩
       ·cases hr
      ·cases hr
     ·cases hr
    ·cases hr
def polDiv (p q : Pol) : Option Pol :=
 match polK q with
 | some c => match c.inv with
   | some e => some (polScale e [] p)
   | none => none
 | none => none
theorem polDiv_ok {env : Nat → Rat} {p q r : Pol} (h : polDiv p q = some r) : polEv env r = polEv env p / polEv env q ∧ polEv env q ≠ 0 := by
 unfold polDiv at h
 split at h
 ·rename_i c hc
  split at h
  ·rename_i e he
   cases h
   obtain ⟨h1, h2⟩ := Cf.inv_ev he
   rw [polScale_ev, polK_ev env hc, h1]
   exact ⟨by simp only [monEv]; rw [Rat.mul_one, Rat.div_def, Rat.mul_comm], h2⟩
  ·cases h
 ·cases h
def cAddP (ks : List Nat) (hks : LetS (qDen K hK).env ks) (w0 : World) (X : Nat → Prop) : Ctr (qDen K hK) Tryz.prog w0 X := binSpecP ks hks w0 X 145 (fun p q => some (polAdd p q)) (fun a b => a + b) fun p q r u v w h hf h1 h2 => by
 cases h
 rw [polAdd_ev] at hf ⊢
 exact add_ok _ _ u v w w (Ext.refl _) h1 h2 hf
def cSubP (ks : List Nat) (hks : LetS (qDen K hK).env ks) (w0 : World) (X : Nat → Prop) : Ctr (qDen K hK) Tryz.prog w0 X := binSpecP ks hks w0 X 56 (fun p q => some (polSub p q)) (fun a b => a - b) fun p q r u v w h hf h1 h2 => by
 cases h
 rw [polSub_ev] at hf ⊢
 exact sub_ok _ _ u v w w (Ext.refl _) h1 h2 hf
def cMulP (ks : List Nat) (hks : LetS (qDen K hK).env ks) (w0 : World) (X : Nat → Prop) : Ctr (qDen K hK) Tryz.prog w0 X := binSpecP ks hks w0 X 13 (fun p q => some (polMul p q)) (fun a b => a * b) fun p q r u v w h hf h1 h2 => by
 cases h
 rw [polMul_ev] at hf ⊢
 exact mul_ok _ _ u v w w (Ext.refl _) h1 h2 hf
def cDivP (ks : List Nat) (hks : LetS (qDen K hK).env ks) (w0 : World) (X : Nat → Prop) : Ctr (qDen K hK) Tryz.prog w0 X := binSpecP ks hks w0 X 148 polDiv (fun a b => a / b) fun p q r u v w h hf h1 h2 => by
 obtain ⟨e, hz⟩ := polDiv_ok (env := (qDen K hK).env) h
 rw [e] at hf ⊢
 exact div_ok _ _ u v w w (Ext.refl _) h1 h2 (fun hn => hz (Rat.num_eq_zero.1 hn)) hf
def cR4AddP (ks : List Nat) (hks : LetS (qDen K hK).env ks) (w0 : World) (X : Nat → Prop) : Ctr (qDen K hK) Tryz.prog w0 X := binSpecP ks hks w0 X 194 (fun p q => some (polAdd p q)) (fun a b => a + b) fun p q r u v w h hf h1 h2 => by
 cases h
 rw [polAdd_ev] at hf ⊢
 exact (r4add_ok w h1.qt h2.qt hf).mono fun e w' ⟨C, e1, hC, hb⟩ => ⟨_, e1, hC.qv, hb⟩
def cR4MulP (ks : List Nat) (hks : LetS (qDen K hK).env ks) (w0 : World) (X : Nat → Prop) : Ctr (qDen K hK) Tryz.prog w0 X := binSpecP ks hks w0 X 196 (fun p q => some (polMul p q)) (fun a b => a * b) fun p q r u v w h hf h1 h2 => by
 cases h
 rw [polMul_ev] at hf ⊢
 exact (r4mul_ok w h1.qt h2.qt hf).mono fun e w' ⟨C, e1, hC, hb⟩ => ⟨_, e1, hC.qv, hb⟩
def ofP (args : List SA) (orc : List (Option Bool)) (env : Nat → Rat) : Option (Pol × List Prop × List (Option Bool)) :=
 match args with
 | [.one (.val (.int .i64 n)), .one (.val (.int .i64 (.ofNat (k + 1))))] => if -9223372036854775808 ≤ n ∧ n ≤ 9223372036854775807 ∧ k + 1 ≤ 9223372036854775807 then some (polC n k, [], orc) else none
 | [.one (.sym z), .one (.val (.int .i64 (.ofNat (k + 1))))] => if k + 1 ≤ 9223372036854775807 then some (polScale (Cf.low 1 (k + 1)) [] (polVar (unar orc).1), [inR z, (z : Rat) = env (unar orc).1], (unar orc).2) else none
 | _ => none
theorem ofP_ok {env : Nat → Rat} {args : List SA} {orc orc' : List (Option Bool)} {p : Pol} {L : List Prop} (h : ofP args orc env = some (p, L, orc')) (hL : ∀ q ∈ L, q) {ρ : Nm} {w : World} {vals : List Value} (hv : denAs (qDen K hK) ρ w args vals) :
  ∃ n d : Int, vals = [.int .i64 n, .int .i64 d] ∧ -9223372036854775808 ≤ n ∧ n ≤ 9223372036854775807 ∧ 0 < d ∧ d ≤ 9223372036854775807 ∧ polEv env p = Rat.divInt n d := by
 unfold ofP at h
 split at h
 ·rename_i n k
  split at h
  ·rename_i hc
   cases h
   obtain ⟨v1, r1, rfl, h1, v2, r2, rfl, h2, h3⟩ := hv
   obtain rfl : r2 = [] := h3
   obtain rfl : v1 = .int .i64 n := by simpa using h1.1
   obtain rfl : v2 = .int .i64 (Int.ofNat (k + 1)) := by simpa using h2.1
   exact ⟨n, _, rfl, hc.1, hc.2.1, Int.ofNat_lt.2 (Nat.succ_pos k), by have := hc.2.2; exact Int.ofNat_le.2 this, by rw [polC_ev, ← Rat.divInt_ofNat]; rfl⟩
  ·cases h
 ·rename_i z k
  split at h
  ·rename_i hc
   cases h
   obtain ⟨v1, r1, rfl, h1, v2, r2, rfl, h2, h3⟩ := hv
   obtain rfl : r2 = [] := h3
   obtain rfl : v1 = .int .i64 z := by simpa [denA, denU] using h1
   obtain rfl : v2 = .int .i64 (Int.ofNat (k + 1)) := by simpa using h2.1
   have hz := hL (inR z) (by simp)
   have he := hL ((z : Rat) = env (unar orc).1) (by simp)
   refine ⟨z, _, rfl, hz.1, hz.2, Int.ofNat_lt.2 (Nat.succ_pos k), Int.ofNat_le.2 hc, ?_⟩
   rw [polScale_ev, polVar_ev, ← he, Cf.low_ev _ _ (Nat.succ_pos k), ← Rat.divInt_ofNat]
   simp only [monEv]
   rw [Rat.mul_one, Rat.divInt_eq_div, Rat.divInt_eq_div]
   show ((1 : Int) : Rat) / ((k + 1 : Nat) : Int) * (z : Rat) = (z : Rat) / ((k + 1 : Nat) : Int)
   rw [Rat.div_def, Rat.div_def, Rat.intCast_one, Rat.one_mul, Rat.mul_comm]
  ·cases h
 ·cases h
def ofRunP (env : Nat → Rat) (args : List SA) (bk : List (Nat × Blk)) (orc : List (Option Bool)) : Option (SV × List Prop × List (Option Bool)) :=
 match ofP args orc env with
 | some (p, L, orc') => polF p fun p => some (.tup [.agg [.qe p], okV], L, orc')
 | none => none
def cOfP (w0 : World) (X : Nat → Prop) : Ctr (qDen K hK) Tryz.prog w0 X := .plain 128 (ofRunP (qDen K hK).env) <| by
    intro args bk orc v obl orc' hr hobl ρ w vals hfr hb hargs
    unfold ofRunP at hr
    split at hr
    ·rename_i p L o hp
     rw [polF_eq] at hr
     cases hr
     obtain ⟨n, d, rfl, a1, a2, b1, b2, e⟩ := ofP_ok hp hobl hargs
     refine (qof_ok n d (by omega) w a1 a2 (by omega) b2).mono ?_
     rintro e' w' ⟨r, rfl, hr, hbl⟩
     rw [← e] at hr
     exact ⟨_, rfl, ⟨[r, .int .i64 0], rfl, _, _, rfl, den_qe.2 hr, _, _, rfl, ⟨rfl, rfl⟩, rfl⟩, hbl⟩
    ·cases hr
def cR4OfP (w0 : World) (X : Nat → Prop) : Ctr (qDen K hK) Tryz.prog w0 X := .plain 186 (ofRunP (qDen K hK).env) <| by
    intro args bk orc v obl orc' hr hobl ρ w vals hfr hb hargs
    unfold ofRunP at hr
    split at hr
    ·rename_i p L o hp
     rw [polF_eq] at hr
     cases hr
     obtain ⟨n, d, rfl, a1, a2, b1, b2, e⟩ := ofP_ok hp hobl hargs
     refine (r4of_ok n d w b1 a1 a2 b2).mono ?_
     rintro e' w' ⟨C, rfl, hC, hbl⟩
     rw [← e] at hC
     exact ⟨_, rfl, ⟨[_, .int .i64 0], rfl, _, _, rfl, den_qe.2 (hC.mono (by decide)).qv, _, _, rfl, ⟨rfl, rfl⟩, rfl⟩, hbl⟩
    ·cases hr
def sameP (env : Nat → Rat) (a b : Pol) : SV :=
 polF (polSub a b) fun r => match r with
  | [] => .a (.one (.val (.bool true)))
  | [(c, [])] => bif isZ0 c.n then .a (.one (.tst (decide (polEv env a = polEv env b)))) else .a (.one (.val (.bool false)))
  | _ => .a (.one (.tst (decide (polEv env a = polEv env b))))
theorem sameP_ok {env : Nat → Rat} {a b : Pol} {D : Den} {ρ : Nm} {w : World} : denV D ρ w (sameP env a b) (.bool (decide (polEv env a = polEv env b))) := by
 unfold sameP
 rw [polF_eq]
 have hs := polSub_ev env a b
 split
 ·rename_i h
  rw [h] at hs
  have : polEv env a = polEv env b := by
   simp only [polEv] at hs
   grind
  rw [decide_eq_true this]
  exact ⟨rfl, rfl⟩
 ·rename_i c h
  rw [h] at hs
  cases hz : isZ0 c.n with
  | true => exact rfl
  | false =>
    have : ¬ polEv env a = polEv env b := by
     intro e
     rw [e, polK_ev env (c := c) rfl, Rat.sub_self] at hs
     unfold Cf.ev at hs
     rw [Rat.mkRat_eq_zero (Nat.succ_ne_zero _)] at hs
     rw [hs] at hz
     cases hz
    rw [decide_eq_false this]
    exact ⟨rfl, rfl⟩
 ·exact rfl
def sameRunP (env : Nat → Rat) (args : List SA) (bk : List (Nat × Blk)) (orc : List (Option Bool)) : Option (SV × List Prop × List (Option Bool)) :=
 match args with
 | [.agg x, .agg y] => match asP x, asP y with
   | some a, some b => some (sameP env a b, [], orc)
   | _, _ => none
 | _ => none
def cSameP (w0 : World) (X : Nat → Prop) : Ctr (qDen K hK) Tryz.prog w0 X := .plain 15 (sameRunP (qDen K hK).env) <| by
    intro args bk orc v obl orc' hr hobl ρ w vals hfr hb hargs
    unfold sameRunP at hr
    split at hr
    ·rename_i x y
     split at hr
     ·rename_i a b ha hb'
      cases hr
      obtain ⟨v1, r1, rfl, h1, v2, r2, rfl, h2, h3⟩ := hargs
      obtain rfl : r2 = [] := h3
      refine (qsame_ok v1 v2 _ _ w w (Ext.refl _) (asP_ok ha h1) (asP_ok hb' h2)).mono ?_
      rintro e w' ⟨rfl, hbl⟩
      exact ⟨_, rfl, sameP_ok, hbl⟩
     ·cases hr
    ·cases hr
def cR4SameP (w0 : World) (X : Nat → Prop) : Ctr (qDen K hK) Tryz.prog w0 X := .plain 197 (sameRunP (qDen K hK).env) <| by
    intro args bk orc v obl orc' hr hobl ρ w vals hfr hb hargs
    unfold sameRunP at hr
    split at hr
    ·rename_i x y
     split at hr
     ·rename_i a b ha hb'
      cases hr
      obtain ⟨v1, r1, rfl, h1, v2, r2, rfl, h2, h3⟩ := hargs
      obtain rfl : r2 = [] := h3
      refine (r4same_ok w (asP_ok ha h1).qt (asP_ok hb' h2).qt).mono ?_
      rintro e w' ⟨rfl, hbl⟩
      exact ⟨_, rfl, sameP_ok, hbl⟩
     ·cases hr
    ·cases hr
def cCheckP (w0 : World) (X : Nat → Prop) : Ctr (qDen K hK) Tryz.prog w0 X := .plain 95 (fun args _ orc => match args with
    | [.agg [.bad]] => some (.a (.one (.val (.int .i64 40))), [], orc)
    | [.agg x] => match asP x with
      | some _ => some (.a okV, [], orc)
      | none => if isZ x then some (.a (.one (.val (.int .i64 40))), [], orc) else none
    | _ => none) <| by
    intro args bk orc v obl orc' hr hobl ρ w vals hfr hb hargs
    split at hr
    ·cases hr
     obtain ⟨v1, r1, rfl, ⟨cs, rfl, c, d, rfl, h1, hd⟩, h3⟩ := hargs
     obtain rfl : r1 = [] := h3
     obtain rfl : d = [] := hd
     rw [List.append_nil]
     refine (qcheckBad_ok c w h1).mono ?_
     rintro e w' ⟨rfl, hbl⟩
     exact ⟨_, rfl, ⟨rfl, rfl⟩, hbl⟩
    ·rename_i x _
     obtain ⟨v1, r1, rfl, h1, h3⟩ := hargs
     obtain rfl : r1 = [] := h3
     split at hr
     ·rename_i a ha
      cases hr
      refine (qcheck_ok v1 _ w w (Ext.refl _) (asP_ok ha h1)).mono ?_
      rintro e w' ⟨rfl, hbl⟩
      exact ⟨_, rfl, ⟨rfl, rfl⟩, hbl⟩
     ·split at hr
      ·rename_i hz
       cases hr
       unfold isZ at hz
       split at hz
       ·obtain ⟨cs, rfl, c1, d1, rfl, ⟨rfl, _⟩, c2, d2, rfl, ⟨rfl, _⟩, c3, d3, rfl, ⟨rfl, _⟩, c4, d4, rfl, ⟨rfl, _⟩, hd4⟩ := h1
        obtain rfl : d4 = [] := hd4
        refine (qcheck_z0 w).mono ?_
        rintro e w' ⟨rfl, hbl⟩
        exact ⟨_, rfl, ⟨rfl, rfl⟩, hbl⟩
       ·cases hz
      ·cases hr
    ·cases hr
def cR4RightP (w0 : World) (X : Nat → Prop) : Ctr (qDen K hK) Tryz.prog w0 X := .plain 242 (fun args _ orc => match args with
    | [.agg [.bad]] => some (.a (.one (.val (.bool false))), [], orc)
    | [.agg x] => match asP x with
      | some _ => some (.a (.one (.val (.bool true))), [], orc)
      | none => none
    | _ => none) <| by
    intro args bk orc v obl orc' hr hobl ρ w vals hfr hb hargs
    split at hr
    ·cases hr
     obtain ⟨v1, r1, rfl, ⟨cs, rfl, c, d, rfl, h1, hd⟩, h3⟩ := hargs
     obtain rfl : r1 = [] := h3
     obtain rfl : d = [] := hd
     rw [List.append_nil]
     refine (r4rightBad_ok c w h1).mono ?_
     rintro e w' ⟨rfl, hbl⟩
     exact ⟨_, rfl, ⟨rfl, rfl⟩, hbl⟩
    ·rename_i x _
     obtain ⟨v1, r1, rfl, h1, h3⟩ := hargs
     obtain rfl : r1 = [] := h3
     split at hr
     ·rename_i a ha
      cases hr
      refine (r4right_ok w (asP_ok ha h1).qt).mono ?_
      rintro e w' ⟨rfl, hbl⟩
      exact ⟨_, rfl, ⟨rfl, rfl⟩, hbl⟩
     ·cases hr
    ·cases hr
def spP (ks : List Nat) (hks : LetS (qDen K hK).env ks) (w0 : World) (X : Nat → Prop) : List (Ctr (qDen K hK) Tryz.prog w0 X) :=
 [cAddP ks hks w0 X, cSubP ks hks w0 X, cMulP ks hks w0 X, cDivP ks hks w0 X, cOfP w0 X, cSameP w0 X, cCheckP w0 X, cR4AddP ks hks w0 X, cR4MulP ks hks w0 X, cR4OfP w0 X, cR4SameP w0 X, cR4RightP w0 X]
end
end
section
section
variable {K : Nat → Value} {hK : ∀ i, (K i).oneCell' = true}
inductive QB where
 | q (x : Rat)
 | bad
def QB.u : QB → U
 | .q x => .quo x
 | .bad => .bad
def QB.ok : QB → Prop
 | .q x => Hs 27 x
 | .bad => True
theorem vf_bound {f : Nat → Int} {n : Nat} (h : Digs f n) : vf f n < pw n := by
 by_cases hn : n = 0
 ·subst hn; show (0 : Int) < 1; omega
 ·exact h.lt
theorem pw3 {n : Nat} (h : n ≤ 3) : pw n ≤ 1000000000000000000000000000 := by
 rcases (by omega : n = 0 ∨ n = 1 ∨ n = 2 ∨ n = 3) with rfl | rfl | rfl | rfl <;> decide
theorem odd_qb (s : Bool) (n m : Nat) (f g : Nat → Int) (hn : n ≤ 3) (hm : m ≤ 3) :
  ∃ o : QB, o.ok ∧ ∀ (ρ : Nm) (w : World) (v1 v2 : Value), SlF w v1 n f → SlF w v2 m g → denA (qDen K hK) ρ w (.agg [o.u]) (.agg #[.bool s, v1, .bool false, v2]) := by
 by_cases hv : LongOk s n f ∧ LongOk false m g ∧ false = false ∧ 0 < m ∧ gcdZ (vf f n) (vf g m) = 1
 ·obtain ⟨h1, h2, _, h0, hg⟩ := hv
  obtain ⟨a0, a1⟩ := h1.nonneg
  have b0 : 0 < vf g m := by
   have := h2.1.ge h0
   have := pw_pos (m - 1)
   omega
  have l1 := vf_bound h1.1
  have l2 := vf_bound h2.1
  have p1 := pw3 hn
  have p2 := pw3 hm
  have hred : (lval s n f).natAbs.Coprime (vf g m).toNat := by
   have e : (lval s n f).natAbs = (vf f n).toNat := by cases s <;> simp [lval] <;> omega
   rw [e]
   unfold gcdZ at hg
   exact Int.ofNat_inj.1 hg
  refine ⟨.q ⟨lval s n f, (vf g m).toNat, by omega, hred⟩, ⟨?_, ?_⟩, fun ρ w v1 v2 s1 s2 => ?_⟩
  ·show (lval s n f).natAbs ≤ 10 ^ 27
   cases s <;> simp [lval] <;> omega
  ·show (vf g m).toNat ≤ 10 ^ 27
   omega
  ·obtain ⟨p, c, rfl, _⟩ := s1.open
   obtain ⟨q, e, rfl, _⟩ := s2.open
   refine den_quo.2 ⟨p, n, c, q, m, e, ?_, ?_, ?_⟩
   ·show Value.agg _ = Value.agg #[.bool (decide (lval s n f < 0)), _, _, _]
    have : decide (lval s n f < 0) = s := by
     cases s with
     | true => exact decide_eq_true (by have := a1 rfl; show -(vf f n) < 0; omega)
     | false => exact decide_eq_false (by show ¬ vf f n < 0; omega)
    rw [this]
   ·have e : ((lval s n f).natAbs : Int) = vf f n := by
     cases s with
     | true =>
       show ((-(vf f n)).natAbs : Int) = vf f n
       rw [Int.natAbs_neg]
       exact Int.natAbs_of_nonneg a0
     | false => exact Int.natAbs_of_nonneg a0
    rw [e]
    exact (h1.sz s1 (by omega)).1
   ·show Sz 600 w _ ((vf g m).toNat : Int)
    rw [Int.toNat_of_nonneg (by omega)]
    exact (h2.sz s2 (by omega)).1
 ·refine ⟨.bad, trivial, fun ρ w v1 v2 s1 s2 => ?_⟩
  obtain ⟨p, c, rfl, _⟩ := s1.open
  obtain ⟨q, e, rfl, _⟩ := s2.open
  exact ⟨_, rfl, _, [], rfl, ⟨s, false, p, q, n, m, c, e, f, g, rfl, s1, s2, by omega, by omega, hv⟩, rfl⟩
def cOdd (w0 : World) (X : Nat → Prop) (x y z : Value) (o : QB) (h : ∀ ρ w, Frm w0 X w → Calls Tryz.prog 31 #[.agg #[x, y, z]] w fun e w' => ∃ v, e = .returned v ∧ denA (qDen K hK) ρ w' (.agg [o.u]) v ∧ Below w.heap.size w w') : Ctr (qDen K hK) Tryz.prog w0 X := .plain 31 (fun args _ orc => match args with
    | [.agg [.raw 1 [a], .raw 1 [b], .raw 1 [c]]] => some (.a (.agg [o.u]), [a = x, b = y, c = z], orc)
    | _ => none) <| by
 intro args bk orc v obl orc' hr hobl ρ w vals hfr hb hargs
 split at hr
 ·rename_i a b c
  cases hr
  obtain rfl := hobl (a = x) (by simp)
  obtain rfl := hobl (b = y) (by simp)
  obtain rfl := hobl (c = z) (by simp)
  obtain ⟨v1, r1, rfl, ⟨cs, rfl, c1, d1, rfl, ⟨rfl, _⟩, c2, d2, rfl, ⟨rfl, _⟩, c3, d3, rfl, ⟨rfl, _⟩, hd⟩, h3⟩ := hargs
  obtain rfl : r1 = [] := h3
  obtain rfl : d3 = [] := hd
  exact h ρ w hfr
 ·cases hr
end
end
def lK (m : Nat) (l : List Rat) : Nat → Value
 | 0 => .map (some m)
 | i => if 1000 ≤ i then (if i % 2 = 0 then .int .i64 ((l.getD ((i - 1000) / 2) 0).num) else .int .i64 ((l.getD ((i - 1000) / 2) 0).den)) else .bool false
theorem lK1 (m : Nat) (l : List Rat) (i : Nat) : (lK m l i).oneCell' = true := by
 unfold lK
 split
 ·rfl
 ·split
  ·split <;> rfl
  ·rfl
theorem lK_env (m : Nat) (l : List Rat) (i : Nat) : (qDen (lK m l) (lK1 m l)).env i = l.getD i 0 := by
 show (match lK m l (1000 + 2 * i), lK m l (1001 + 2 * i) with
  | .int _ n, .int _ d => mkRat n d.toNat
  | _, _ => 0) = _
 have e1 : lK m l (1000 + 2 * i) = .int .i64 ((l.getD i 0).num) := by
  unfold lK
  split
  ·omega
  ·rw [if_pos (by omega), if_pos (by omega), show (1000 + 2 * i - 1000) / 2 = i by omega]
 have e2 : lK m l (1001 + 2 * i) = .int .i64 ((l.getD i 0).den) := by
  unfold lK
  split
  ·omega
  ·rw [if_pos (by omega), if_neg (by omega), show (1001 + 2 * i - 1000) / 2 = i by omega]
 rw [e1, e2]
 dsimp only
 rw [Int.toNat_natCast, Rat.mkRat_self]
theorem lK_let {m : Nat} {l : List Rat} {ks : List Nat} (h : ∀ i k, ks[i]? = some k → Hs k (l.getD i 0)) : LetS (qDen (lK m l) (lK1 m l)).env ks := fun i k hi => by
 rw [lK_env]
 exact h i k hi
section
section
variable {K : Nat → Value} {hK : ∀ i, (K i).oneCell' = true}
def nq (n d : Int) : Rat := Rat.divInt n (1 + d)
theorem nq_hs {n d : Int} (h1 : -32768 ≤ n) (h2 : n ≤ 32767) (h3 : 0 ≤ d) (h4 : d ≤ 255) : Hs 27 (nq n d) := Hs.divInt _ _ (by omega) (by omega) (by omega)
structure DN where
 n0 : Int
 d0 : Int
 n1 : Int
 d1 : Int
 n2 : Int
 d2 : Int
 n3 : Int
 d3 : Int
structure DN.ok (a : DN) : Prop where
 n0 : -32768 ≤ a.n0 ∧ a.n0 ≤ 32767
 d0 : 0 ≤ a.d0 ∧ a.d0 ≤ 255
 n1 : -32768 ≤ a.n1 ∧ a.n1 ≤ 32767
 d1 : 0 ≤ a.d1 ∧ a.d1 ≤ 255
 n2 : -32768 ≤ a.n2 ∧ a.n2 ≤ 32767
 d2 : 0 ≤ a.d2 ∧ a.d2 ≤ 255
 n3 : -32768 ≤ a.n3 ∧ a.n3 ≤ 32767
 d3 : 0 ≤ a.d3 ∧ a.d3 ≤ 255
def DN.us (a : DN) : List U := [.sml .i16 a.n0, .sml .u8 a.d0, .sml .i16 a.n1, .sml .u8 a.d1, .sml .i16 a.n2, .sml .u8 a.d2, .sml .i16 a.n3, .sml .u8 a.d3]
def DN.cs (a : DN) (x y z : Value) (k : Int) : List Value := [.int .i16 a.n0, .int .u8 a.d0, .int .i16 a.n1, .int .u8 a.d1, .int .i16 a.n2, .int .u8 a.d2, .int .i16 a.n3, .int .u8 a.d3, x, y, z, .int .u8 k]
theorem DN.den {ρ : Nm} {w : World} (a : DN) (x y z : Value) (hx : x.oneCell' = true) (hy : y.oneCell' = true) (hz : z.oneCell' = true) (k : Int) : denL (qDen K hK) ρ w (a.us ++ [.raw 1 [x], .raw 1 [y], .raw 1 [z], .sml .u8 k]) (a.cs x y z k) :=
 ⟨[_], _, rfl, rfl, [_], _, rfl, rfl, [_], _, rfl, rfl, [_], _, rfl, rfl, [_], _, rfl, rfl, [_], _, rfl, rfl, [_], _, rfl, rfl, [_], _, rfl, rfl, [_], _, rfl, ⟨rfl, rfl, by simpa using hx⟩, [_], _, rfl, ⟨rfl, rfl, by simpa using hy⟩, [_], _, rfl, ⟨rfl, rfl, by simpa using hz⟩, [_], [], rfl, rfl, rfl⟩
def numL (n d : Int) : List Prop := [inR n, inR d, inR (1 + d), inR n, inR (1 + d), 0 < 1 + d]
def nums (a : DN) : List Prop := numL a.n0 a.d0 ++ (numL a.n1 a.d1 ++ (numL a.n2 a.d2 ++ numL a.n3 a.d3))
theorem numL_ok {n d : Int} (h1 : -32768 ≤ n ∧ n ≤ 32767) (h2 : 0 ≤ d ∧ d ≤ 255) : AllP (numL n d) := by
 unfold numL
 refine ⟨?_, ?_, ?_, ?_, ?_, ?_, trivial⟩ <;> first | (unfold inR; omega) | omega
theorem allP_app : ∀ {l m : List Prop}, AllP l → AllP m → AllP (l ++ m)
 | [], _, _, h => h
 | _ :: _, _, ⟨h1, h2⟩, h => ⟨h1, allP_app h2 h⟩
theorem nums_ok {a : DN} (h : a.ok) : AllP (nums a) := allP_app (numL_ok h.n0 h.d0) (allP_app (numL_ok h.n1 h.d1) (allP_app (numL_ok h.n2 h.d2) (numL_ok h.n3 h.d3)))
variable (a : DN) (x y z : Value) (k : Int)
theorem dq4 {w0 : World} : (evF Tryz.prog (w0 := w0) (X := fun _ => False) (D := qDen K hK) [cR4Of w0 _] [] 5 [] 9 [.agg (a.us ++ [.raw 1 [x], .raw 1 [y], .raw 1 [z], .sml .u8 k])] [] 0 0 [some false]).map (fun r => (r.v, r.obl, r.pan)) = some (.a (.agg [.quo (nq a.n0 a.d0), .quo (nq a.n1 a.d1), .quo (nq a.n2 a.d2), .quo (nq a.n3 a.d3)]), nums a ++ [decide (k < 4) = false], none) := by kernel_rfl
theorem dq0q {w0 : World} (t : Rat) (h : ∀ ρ w, Frm w0 (fun _ => False) w → Calls Tryz.prog 31 #[.agg #[x, y, z]] w fun e w' => ∃ v, e = .returned v ∧ denA (qDen K hK) ρ w' (.agg [QB.u (.q t)]) v ∧ Below w.heap.size w w') : (evF Tryz.prog (w0 := w0) (X := fun _ => False) (D := qDen K hK) [cR4Of w0 _, cOdd w0 _ x y z (.q t) h] [] 5 [] 9 [.agg (a.us ++ [.raw 1 [x], .raw 1 [y], .raw 1 [z], .sml .u8 k])] [] 0 0 [some true, some true, some true]).map (fun r => (r.v, r.obl, r.pan)) = some (.a (.agg [.quo t, .quo (nq a.n1 a.d1), .quo (nq a.n2 a.d2), .quo (nq a.n3 a.d3)]), nums a ++ [decide (k < 4) = true, (2 : Int) ≠ 0, inK .u8 (k.tdiv 2), (2 : Int) ≠ 0, x = x, y = y, z = z, k.tdiv 2 = ((0 : Nat) : Int), k.tmod 2 = ((0 : Nat) : Int)], none) := by kernel_rfl
theorem dq0b {w0 : World} (h : ∀ ρ w, Frm w0 (fun _ => False) w → Calls Tryz.prog 31 #[.agg #[x, y, z]] w fun e w' => ∃ v, e = .returned v ∧ denA (qDen K hK) ρ w' (.agg [QB.u .bad]) v ∧ Below w.heap.size w w') : (evF Tryz.prog (w0 := w0) (X := fun _ => False) (D := qDen K hK) [cR4Of w0 _, cOdd w0 _ x y z .bad h] [] 5 [] 9 [.agg (a.us ++ [.raw 1 [x], .raw 1 [y], .raw 1 [z], .sml .u8 k])] [] 0 0 [some true, some true, some true]).map (fun r => (r.v, r.obl, r.pan)) = some (.a (.agg [.bad, .quo (nq a.n1 a.d1), .quo (nq a.n2 a.d2), .quo (nq a.n3 a.d3)]), nums a ++ [decide (k < 4) = true, (2 : Int) ≠ 0, inK .u8 (k.tdiv 2), (2 : Int) ≠ 0, x = x, y = y, z = z, k.tdiv 2 = ((0 : Nat) : Int), k.tmod 2 = ((0 : Nat) : Int)], none) := by kernel_rfl
theorem dq1q {w0 : World} (t : Rat) (h : ∀ ρ w, Frm w0 (fun _ => False) w → Calls Tryz.prog 31 #[.agg #[x, y, z]] w fun e w' => ∃ v, e = .returned v ∧ denA (qDen K hK) ρ w' (.agg [QB.u (.q t)]) v ∧ Below w.heap.size w w') : (evF Tryz.prog (w0 := w0) (X := fun _ => False) (D := qDen K hK) [cR4Of w0 _, cOdd w0 _ x y z (.q t) h] [] 5 [] 9 [.agg (a.us ++ [.raw 1 [x], .raw 1 [y], .raw 1 [z], .sml .u8 k])] [] 0 0 [some true, some true, some false, some true]).map (fun r => (r.v, r.obl, r.pan)) = some (.a (.agg [.quo (nq a.n0 a.d0), .quo t, .quo (nq a.n2 a.d2), .quo (nq a.n3 a.d3)]), nums a ++ [decide (k < 4) = true, (2 : Int) ≠ 0, inK .u8 (k.tdiv 2), (2 : Int) ≠ 0, x = x, y = y, z = z, k.tdiv 2 = ((0 : Nat) : Int), k.tmod 2 = ((1 : Nat) : Int)], none) := by kernel_rfl
theorem dq1b {w0 : World} (h : ∀ ρ w, Frm w0 (fun _ => False) w → Calls Tryz.prog 31 #[.agg #[x, y, z]] w fun e w' => ∃ v, e = .returned v ∧ denA (qDen K hK) ρ w' (.agg [QB.u .bad]) v ∧ Below w.heap.size w w') : (evF Tryz.prog (w0 := w0) (X := fun _ => False) (D := qDen K hK) [cR4Of w0 _, cOdd w0 _ x y z .bad h] [] 5 [] 9 [.agg (a.us ++ [.raw 1 [x], .raw 1 [y], .raw 1 [z], .sml .u8 k])] [] 0 0 [some true, some true, some false, some true]).map (fun r => (r.v, r.obl, r.pan)) = some (.a (.agg [.quo (nq a.n0 a.d0), .bad, .quo (nq a.n2 a.d2), .quo (nq a.n3 a.d3)]), nums a ++ [decide (k < 4) = true, (2 : Int) ≠ 0, inK .u8 (k.tdiv 2), (2 : Int) ≠ 0, x = x, y = y, z = z, k.tdiv 2 = ((0 : Nat) : Int), k.tmod 2 = ((1 : Nat) : Int)], none) := by kernel_rfl
theorem dq2q {w0 : World} (t : Rat) (h : ∀ ρ w, Frm w0 (fun _ => False) w → Calls Tryz.prog 31 #[.agg #[x, y, z]] w fun e w' => ∃ v, e = .returned v ∧ denA (qDen K hK) ρ w' (.agg [QB.u (.q t)]) v ∧ Below w.heap.size w w') : (evF Tryz.prog (w0 := w0) (X := fun _ => False) (D := qDen K hK) [cR4Of w0 _, cOdd w0 _ x y z (.q t) h] [] 5 [] 9 [.agg (a.us ++ [.raw 1 [x], .raw 1 [y], .raw 1 [z], .sml .u8 k])] [] 0 0 [some true, some false, some true, some true]).map (fun r => (r.v, r.obl, r.pan)) = some (.a (.agg [.quo (nq a.n0 a.d0), .quo (nq a.n1 a.d1), .quo t, .quo (nq a.n3 a.d3)]), nums a ++ [decide (k < 4) = true, (2 : Int) ≠ 0, inK .u8 (k.tdiv 2), (2 : Int) ≠ 0, x = x, y = y, z = z, k.tdiv 2 = ((1 : Nat) : Int), k.tmod 2 = ((0 : Nat) : Int)], none) := by kernel_rfl
theorem dq2b {w0 : World} (h : ∀ ρ w, Frm w0 (fun _ => False) w → Calls Tryz.prog 31 #[.agg #[x, y, z]] w fun e w' => ∃ v, e = .returned v ∧ denA (qDen K hK) ρ w' (.agg [QB.u .bad]) v ∧ Below w.heap.size w w') : (evF Tryz.prog (w0 := w0) (X := fun _ => False) (D := qDen K hK) [cR4Of w0 _, cOdd w0 _ x y z .bad h] [] 5 [] 9 [.agg (a.us ++ [.raw 1 [x], .raw 1 [y], .raw 1 [z], .sml .u8 k])] [] 0 0 [some true, some false, some true, some true]).map (fun r => (r.v, r.obl, r.pan)) = some (.a (.agg [.quo (nq a.n0 a.d0), .quo (nq a.n1 a.d1), .bad, .quo (nq a.n3 a.d3)]), nums a ++ [decide (k < 4) = true, (2 : Int) ≠ 0, inK .u8 (k.tdiv 2), (2 : Int) ≠ 0, x = x, y = y, z = z, k.tdiv 2 = ((1 : Nat) : Int), k.tmod 2 = ((0 : Nat) : Int)], none) := by kernel_rfl
theorem dq3q {w0 : World} (t : Rat) (h : ∀ ρ w, Frm w0 (fun _ => False) w → Calls Tryz.prog 31 #[.agg #[x, y, z]] w fun e w' => ∃ v, e = .returned v ∧ denA (qDen K hK) ρ w' (.agg [QB.u (.q t)]) v ∧ Below w.heap.size w w') : (evF Tryz.prog (w0 := w0) (X := fun _ => False) (D := qDen K hK) [cR4Of w0 _, cOdd w0 _ x y z (.q t) h] [] 5 [] 9 [.agg (a.us ++ [.raw 1 [x], .raw 1 [y], .raw 1 [z], .sml .u8 k])] [] 0 0 [some true, some false, some true, some false, some true]).map (fun r => (r.v, r.obl, r.pan)) = some (.a (.agg [.quo (nq a.n0 a.d0), .quo (nq a.n1 a.d1), .quo (nq a.n2 a.d2), .quo t]), nums a ++ [decide (k < 4) = true, (2 : Int) ≠ 0, inK .u8 (k.tdiv 2), (2 : Int) ≠ 0, x = x, y = y, z = z, k.tdiv 2 = ((1 : Nat) : Int), k.tmod 2 = ((1 : Nat) : Int)], none) := by kernel_rfl
theorem dq3b {w0 : World} (h : ∀ ρ w, Frm w0 (fun _ => False) w → Calls Tryz.prog 31 #[.agg #[x, y, z]] w fun e w' => ∃ v, e = .returned v ∧ denA (qDen K hK) ρ w' (.agg [QB.u .bad]) v ∧ Below w.heap.size w w') : (evF Tryz.prog (w0 := w0) (X := fun _ => False) (D := qDen K hK) [cR4Of w0 _, cOdd w0 _ x y z .bad h] [] 5 [] 9 [.agg (a.us ++ [.raw 1 [x], .raw 1 [y], .raw 1 [z], .sml .u8 k])] [] 0 0 [some true, some false, some true, some false, some true]).map (fun r => (r.v, r.obl, r.pan)) = some (.a (.agg [.quo (nq a.n0 a.d0), .quo (nq a.n1 a.d1), .quo (nq a.n2 a.d2), .bad]), nums a ++ [decide (k < 4) = true, (2 : Int) ≠ 0, inK .u8 (k.tdiv 2), (2 : Int) ≠ 0, x = x, y = y, z = z, k.tdiv 2 = ((1 : Nat) : Int), k.tmod 2 = ((1 : Nat) : Int)], none) := by kernel_rfl
theorem QB.den_us {ρ ρ' : Nm} {w : World} : ∀ {l : List QB} {cs : List Value}, denL (qDen K hK) ρ w (l.map QB.u) cs → denL (qDen K hK) ρ' w (l.map QB.u) cs
 | [], _, h => h
 | o :: l, _, ⟨c, d, e, hc, hd⟩ => ⟨c, d, e, by cases o <;> exact hc, QB.den_us hd⟩
theorem draftQuad_ok (ha : a.ok) (hk : 0 ≤ k ∧ k ≤ 255) (hx : x.oneCell' = true) (hy : y.oneCell' = true) (hz : z.oneCell' = true) (o : QB) (ho : o.ok) (w0 : World)
  (hodd : ∀ ρ w, Frm w0 (fun _ => False) w → Calls Tryz.prog 31 #[.agg #[x, y, z]] w fun e w' => ∃ v, e = .returned v ∧ denA (qDen K hK) ρ w' (.agg [o.u]) v ∧ Below w.heap.size w w') :
  ∃ q0 q1 q2 q3 : QB, q0.ok ∧ q1.ok ∧ q2.ok ∧ q3.ok ∧ ∀ ρ w, Frm w0 (fun _ => False) w → Calls Tryz.prog 9 #[.agg (a.cs x y z k).toArray] w fun e w' => ∃ v, e = .returned v ∧ denA (qDen K hK) ρ w' (.agg ([q0, q1, q2, q3].map QB.u)) v ∧ Below w.heap.size w w' := by
 have hn := nums_ok ha
 have fin : ∀ (l : List QB) (orc : List (Option Bool)) (L : List Prop) (sp : ∀ w, Frm w0 (fun _ => False) w → List (Ctr (qDen K hK) Tryz.prog w (fun _ => False))), AllP L →
   (∀ w (h : Frm w0 (fun _ => False) w), (evF Tryz.prog (w0 := w) (X := fun _ => False) (D := qDen K hK) (sp w h) [] 5 [] 9 [.agg (a.us ++ [.raw 1 [x], .raw 1 [y], .raw 1 [z], .sml .u8 k])] [] 0 0 orc).map (fun r => (r.v, r.obl, r.pan)) = some (.a (.agg (l.map QB.u)), nums a ++ L, none)) →
   ∀ ρ w, Frm w0 (fun _ => False) w → Calls Tryz.prog 9 #[.agg (a.cs x y z k).toArray] w fun e w' => ∃ v, e = .returned v ∧ denA (qDen K hK) ρ w' (.agg (l.map QB.u)) v ∧ Below w.heap.size w w' := by
  intro l orc L sp hL hev ρ w hw
  refine (evRun0 (D := qDen K hK) (d := 5) (orc := orc) (args := [.agg (a.us ++ [.raw 1 [x], .raw 1 [y], .raw 1 [z], .sml .u8 k])]) wide_ (sp w hw) [] _ (nums a ++ L) (hev w hw) (allP_app hn hL) (vals := [.agg (a.cs x y z k).toArray]) ⟨_, [], rfl, ⟨_, rfl, a.den x y z hx hy hz k⟩, rfl⟩).mono ?_
  rintro e w' ⟨v, ρ', rfl, ⟨cs, rfl, hcs⟩, hb⟩
  exact ⟨_, rfl, ⟨cs, rfl, QB.den_us hcs⟩, hb⟩
 have h0 := nq_hs ha.n0.1 ha.n0.2 ha.d0.1 ha.d0.2
 have h1 := nq_hs ha.n1.1 ha.n1.2 ha.d1.1 ha.d1.2
 have h2 := nq_hs ha.n2.1 ha.n2.2 ha.d2.1 ha.d2.2
 have h3 := nq_hs ha.n3.1 ha.n3.2 ha.d3.1 ha.d3.2
 by_cases hk4 : k < 4
 ·have hodd' : ∀ w, Frm w0 (fun _ => False) w → ∀ ρ w', Frm w (fun _ => False) w' → Calls Tryz.prog 31 #[.agg #[x, y, z]] w' fun e w'' => ∃ v, e = .returned v ∧ denA (qDen K hK) ρ w'' (.agg [o.u]) v ∧ Below w'.heap.size w' w'' := fun w hw ρ w' hw' => hodd ρ w' (Frm.of_below (hw.below.trans (hw'.below.mono hw.size)) _)
  have hku : inK .u8 (k.tdiv 2) := by
   rcases (by omega : k = 0 ∨ k = 1 ∨ k = 2 ∨ k = 3) with rfl | rfl | rfl | rfl <;> (unfold inK; decide)
  rcases (by omega : k = 0 ∨ k = 1 ∨ k = 2 ∨ k = 3) with rfl | rfl | rfl | rfl
  ·cases o with
   | q t => exact ⟨.q t, .q (nq a.n1 a.d1), .q (nq a.n2 a.d2), .q (nq a.n3 a.d3), ho, h1, h2, h3, fin [.q t, .q (nq a.n1 a.d1), .q (nq a.n2 a.d2), .q (nq a.n3 a.d3)] [some true, some true, some true] [decide ((0 : Int) < 4) = true, (2 : Int) ≠ 0, inK .u8 ((0 : Int).tdiv 2), (2 : Int) ≠ 0, x = x, y = y, z = z, (0 : Int).tdiv 2 = ((0 : Nat) : Int), (0 : Int).tmod 2 = ((0 : Nat) : Int)] (fun w hw => [cR4Of w _, cOdd w _ x y z (.q t) (hodd' w hw)]) ⟨by decide, by decide, hku, by decide, rfl, rfl, rfl, by decide, by decide, trivial⟩ fun w hw => dq0q a x y z 0 t (hodd' w hw)⟩
   | bad => exact ⟨.bad, .q (nq a.n1 a.d1), .q (nq a.n2 a.d2), .q (nq a.n3 a.d3), ho, h1, h2, h3, fin [.bad, .q (nq a.n1 a.d1), .q (nq a.n2 a.d2), .q (nq a.n3 a.d3)] [some true, some true, some true] [decide ((0 : Int) < 4) = true, (2 : Int) ≠ 0, inK .u8 ((0 : Int).tdiv 2), (2 : Int) ≠ 0, x = x, y = y, z = z, (0 : Int).tdiv 2 = ((0 : Nat) : Int), (0 : Int).tmod 2 = ((0 : Nat) : Int)] (fun w hw => [cR4Of w _, cOdd w _ x y z (.bad) (hodd' w hw)]) ⟨by decide, by decide, hku, by decide, rfl, rfl, rfl, by decide, by decide, trivial⟩ fun w hw => dq0b a x y z 0 (hodd' w hw)⟩
  ·cases o with
   | q t => exact ⟨.q (nq a.n0 a.d0), .q t, .q (nq a.n2 a.d2), .q (nq a.n3 a.d3), h0, ho, h2, h3, fin [.q (nq a.n0 a.d0), .q t, .q (nq a.n2 a.d2), .q (nq a.n3 a.d3)] [some true, some true, some false, some true] [decide ((1 : Int) < 4) = true, (2 : Int) ≠ 0, inK .u8 ((1 : Int).tdiv 2), (2 : Int) ≠ 0, x = x, y = y, z = z, (1 : Int).tdiv 2 = ((0 : Nat) : Int), (1 : Int).tmod 2 = ((1 : Nat) : Int)] (fun w hw => [cR4Of w _, cOdd w _ x y z (.q t) (hodd' w hw)]) ⟨by decide, by decide, hku, by decide, rfl, rfl, rfl, by decide, by decide, trivial⟩ fun w hw => dq1q a x y z 1 t (hodd' w hw)⟩
   | bad => exact ⟨.q (nq a.n0 a.d0), .bad, .q (nq a.n2 a.d2), .q (nq a.n3 a.d3), h0, ho, h2, h3, fin [.q (nq a.n0 a.d0), .bad, .q (nq a.n2 a.d2), .q (nq a.n3 a.d3)] [some true, some true, some false, some true] [decide ((1 : Int) < 4) = true, (2 : Int) ≠ 0, inK .u8 ((1 : Int).tdiv 2), (2 : Int) ≠ 0, x = x, y = y, z = z, (1 : Int).tdiv 2 = ((0 : Nat) : Int), (1 : Int).tmod 2 = ((1 : Nat) : Int)] (fun w hw => [cR4Of w _, cOdd w _ x y z (.bad) (hodd' w hw)]) ⟨by decide, by decide, hku, by decide, rfl, rfl, rfl, by decide, by decide, trivial⟩ fun w hw => dq1b a x y z 1 (hodd' w hw)⟩
  ·cases o with
   | q t => exact ⟨.q (nq a.n0 a.d0), .q (nq a.n1 a.d1), .q t, .q (nq a.n3 a.d3), h0, h1, ho, h3, fin [.q (nq a.n0 a.d0), .q (nq a.n1 a.d1), .q t, .q (nq a.n3 a.d3)] [some true, some false, some true, some true] [decide ((2 : Int) < 4) = true, (2 : Int) ≠ 0, inK .u8 ((2 : Int).tdiv 2), (2 : Int) ≠ 0, x = x, y = y, z = z, (2 : Int).tdiv 2 = ((1 : Nat) : Int), (2 : Int).tmod 2 = ((0 : Nat) : Int)] (fun w hw => [cR4Of w _, cOdd w _ x y z (.q t) (hodd' w hw)]) ⟨by decide, by decide, hku, by decide, rfl, rfl, rfl, by decide, by decide, trivial⟩ fun w hw => dq2q a x y z 2 t (hodd' w hw)⟩
   | bad => exact ⟨.q (nq a.n0 a.d0), .q (nq a.n1 a.d1), .bad, .q (nq a.n3 a.d3), h0, h1, ho, h3, fin [.q (nq a.n0 a.d0), .q (nq a.n1 a.d1), .bad, .q (nq a.n3 a.d3)] [some true, some false, some true, some true] [decide ((2 : Int) < 4) = true, (2 : Int) ≠ 0, inK .u8 ((2 : Int).tdiv 2), (2 : Int) ≠ 0, x = x, y = y, z = z, (2 : Int).tdiv 2 = ((1 : Nat) : Int), (2 : Int).tmod 2 = ((0 : Nat) : Int)] (fun w hw => [cR4Of w _, cOdd w _ x y z (.bad) (hodd' w hw)]) ⟨by decide, by decide, hku, by decide, rfl, rfl, rfl, by decide, by decide, trivial⟩ fun w hw => dq2b a x y z 2 (hodd' w hw)⟩
  ·cases o with
   | q t => exact ⟨.q (nq a.n0 a.d0), .q (nq a.n1 a.d1), .q (nq a.n2 a.d2), .q t, h0, h1, h2, ho, fin [.q (nq a.n0 a.d0), .q (nq a.n1 a.d1), .q (nq a.n2 a.d2), .q t] [some true, some false, some true, some false, some true] [decide ((3 : Int) < 4) = true, (2 : Int) ≠ 0, inK .u8 ((3 : Int).tdiv 2), (2 : Int) ≠ 0, x = x, y = y, z = z, (3 : Int).tdiv 2 = ((1 : Nat) : Int), (3 : Int).tmod 2 = ((1 : Nat) : Int)] (fun w hw => [cR4Of w _, cOdd w _ x y z (.q t) (hodd' w hw)]) ⟨by decide, by decide, hku, by decide, rfl, rfl, rfl, by decide, by decide, trivial⟩ fun w hw => dq3q a x y z 3 t (hodd' w hw)⟩
   | bad => exact ⟨.q (nq a.n0 a.d0), .q (nq a.n1 a.d1), .q (nq a.n2 a.d2), .bad, h0, h1, h2, ho, fin [.q (nq a.n0 a.d0), .q (nq a.n1 a.d1), .q (nq a.n2 a.d2), .bad] [some true, some false, some true, some false, some true] [decide ((3 : Int) < 4) = true, (2 : Int) ≠ 0, inK .u8 ((3 : Int).tdiv 2), (2 : Int) ≠ 0, x = x, y = y, z = z, (3 : Int).tdiv 2 = ((1 : Nat) : Int), (3 : Int).tmod 2 = ((1 : Nat) : Int)] (fun w hw => [cR4Of w _, cOdd w _ x y z (.bad) (hodd' w hw)]) ⟨by decide, by decide, hku, by decide, rfl, rfl, rfl, by decide, by decide, trivial⟩ fun w hw => dq3b a x y z 3 (hodd' w hw)⟩
 ·exact ⟨.q (nq a.n0 a.d0), .q (nq a.n1 a.d1), .q (nq a.n2 a.d2), .q (nq a.n3 a.d3), h0, h1, h2, h3, fin [.q (nq a.n0 a.d0), .q (nq a.n1 a.d1), .q (nq a.n2 a.d2), .q (nq a.n3 a.d3)] [some false] [decide (k < 4) = false] (fun w hw => [cR4Of w _]) ⟨decide_eq_false hk4, trivial⟩ fun w hw => dq4 a x y z k⟩
end
end
section
section
variable {K : Nat → Value} {hK : ∀ i, (K i).oneCell' = true}
def prodRunP (ks : List Nat) (args : List SA) (bk : List (Nat × Blk)) (orc : List (Option Bool)) : Option (SV × List Prop × List (Option Bool)) :=
 match args with
 | [.agg [ua, ub, uc, ud], .agg [ue, uf, ug, uh]] => match asP [ua], asP [ub], asP [uc], asP [ud], asP [ue], asP [uf], asP [ug], asP [uh] with
   | some a, some b, some c, some d, some e, some f, some g, some h =>
     if [(polMul a e), (polMul b g), (polAdd (polMul a e) (polMul b g)), (polMul a f), (polMul b h), (polAdd (polMul a f) (polMul b h)), (polMul c e), (polMul d g), (polAdd (polMul c e) (polMul d g)), (polMul c f), (polMul d h), (polAdd (polMul c f) (polMul d h))].all (szB ks) then
      polF (polAdd (polMul a e) (polMul b g)) fun x => polF (polAdd (polMul a f) (polMul b h)) fun y => polF (polAdd (polMul c e) (polMul d g)) fun z => polF (polAdd (polMul c f) (polMul d h)) fun t => some (.a (.agg [.qe x, .qe y, .qe z, .qe t]), [], orc)
     else none
   | _, _, _, _, _, _, _, _ => none
 | _ => none
theorem asP_one {ρ : Nm} {w : World} {u : U} {p : Pol} (h : asP [u] = some p) {cs : List Value} (hd : denU (qDen K hK) ρ w u cs) : denU (qDen K hK) ρ w (.quo (polEv (qDen K hK).env p)) cs := by
 have hq : QV w (.agg cs.toArray) (polEv (qDen K hK).env p) := asP_ok (ρ := ρ) h ⟨cs, rfl, cs, [], (List.append_nil cs).symm, hd, rfl⟩
 exact hq
def cProductP (ks : List Nat) (hks : LetS (qDen K hK).env ks) (w0 : World) (X : Nat → Prop) : Ctr (qDen K hK) Tryz.prog w0 X := .plain 59 (prodRunP ks) <| by
    intro args bk orc v obl orc' hr hobl ρ w vals hfr hb hargs
    unfold prodRunP at hr
    split at hr
    ·rename_i ua ub uc ud ue uf ug uh
     split at hr
     ·rename_i a b c d e f g h ea eb ec ed ee ef eg eh
      split at hr
      ·rename_i hs
       rw [polF_eq, polF_eq, polF_eq, polF_eq] at hr
       cases hr
       obtain ⟨v1, r1, rfl, ⟨cs1, rfl, a1, _, rfl, ga, b1, _, rfl, gb, c1, _, rfl, gc, d1, z1, rfl, gd, hz1⟩, v2, r2, rfl, ⟨cs2, rfl, e1, _, rfl, ge, f1, _, rfl, gf, g1, _, rfl, gg, h1, z2, rfl, gh, hz2⟩, h3⟩ := hargs
       obtain rfl : r2 = [] := h3
       obtain rfl : z1 = [] := hz1
       obtain rfl : z2 = [] := hz2
       have hall : ∀ p ∈ [(polMul a e), (polMul b g), (polAdd (polMul a e) (polMul b g)), (polMul a f), (polMul b h), (polAdd (polMul a f) (polMul b h)), (polMul c e), (polMul d g), (polAdd (polMul c e) (polMul d g)), (polMul c f), (polMul d h), (polAdd (polMul c f) (polMul d h))], Fits (polEv (qDen K hK).env p) := fun p hp => szB_fits hks (List.all_eq_true.1 hs p hp)
       generalize hE : (qDen K hK).env = E at *
       have F : PFits (polEv E a) (polEv E b) (polEv E c) (polEv E d) (polEv E e) (polEv E f) (polEv E g) (polEv E h) := by
        have F := fun p hp => hall p hp
        simp only [List.forall_mem_cons, polAdd_ev, polMul_ev] at F
        exact ⟨F.1, F.2.1, F.2.2.1, F.2.2.2.1, F.2.2.2.2.1, F.2.2.2.2.2.1, F.2.2.2.2.2.2.1, F.2.2.2.2.2.2.2.1, F.2.2.2.2.2.2.2.2.1, F.2.2.2.2.2.2.2.2.2.1, F.2.2.2.2.2.2.2.2.2.2.1, F.2.2.2.2.2.2.2.2.2.2.2.1⟩
       have ha := asP_one ea ga
       have hb' := asP_one eb gb
       have hc := asP_one ec gc
       have hd := asP_one ed gd
       have he := asP_one ee ge
       have hf := asP_one ef gf
       have hg := asP_one eg gg
       have hh := asP_one eh gh
       rw [hE] at ha hb' hc hd he hf hg hh
       refine (product_ev (K := K) (hK := hK) _ _ _ _ _ _ _ _ F w ⟨_, rfl, quos_any (l := [polEv E a, polEv E b, polEv E c, polEv E d]) ⟨a1, _, rfl, ha, b1, _, rfl, hb', c1, _, rfl, hc, d1, [], rfl, hd, rfl⟩⟩ ⟨_, rfl, quos_any (l := [polEv E e, polEv E f, polEv E g, polEv E h]) ⟨e1, _, rfl, he, f1, _, rfl, hf, g1, _, rfl, hg, h1, [], rfl, hh, rfl⟩⟩).mono ?_
       rintro e' w' ⟨x, ρ', rfl, ⟨cs, rfl, hx⟩, hbl⟩
       rw [z0_] at hx
       simp only [Rat.zero_add] at hx
       refine ⟨_, rfl, ⟨cs, rfl, ?_⟩, hbl⟩
       have hy := quos_any (ρ' := ρ) (l := [polEv E a * polEv E e + polEv E b * polEv E g, polEv E a * polEv E f + polEv E b * polEv E h, polEv E c * polEv E e + polEv E d * polEv E g, polEv E c * polEv E f + polEv E d * polEv E h]) hx
       obtain ⟨k1, _, rfl, y1, k2, _, rfl, y2, k3, _, rfl, y3, k4, _, rfl, y4, y5⟩ := hy
       refine ⟨k1, _, rfl, ?_, k2, _, rfl, ?_, k3, _, rfl, ?_, k4, _, rfl, ?_, y5⟩
       all_goals
        show QV w' _ (polEv (qDen K hK).env _)
        rw [hE]
        simp only [polAdd_ev, polMul_ev]
        assumption
      ·cases hr
     ·cases hr
    ·cases hr
def cDraft3 (w0 : World) (X : Nat → Prop) (c0 c1 c2 : List Value) (o0 o1 o2 : List U)
    (h0 : ∀ ρ w, Frm w0 X w → Calls Tryz.prog 9 #[.agg c0.toArray] w fun e w' => ∃ v, e = .returned v ∧ denA (qDen K hK) ρ w' (.agg o0) v ∧ Below w.heap.size w w')
    (h1 : ∀ ρ w, Frm w0 X w → Calls Tryz.prog 9 #[.agg c1.toArray] w fun e w' => ∃ v, e = .returned v ∧ denA (qDen K hK) ρ w' (.agg o1) v ∧ Below w.heap.size w w')
    (h2 : ∀ ρ w, Frm w0 X w → Calls Tryz.prog 9 #[.agg c2.toArray] w fun e w' => ∃ v, e = .returned v ∧ denA (qDen K hK) ρ w' (.agg o2) v ∧ Below w.heap.size w w') : Ctr (qDen K hK) Tryz.prog w0 X := .plain 9 (fun args _ orc => match args with
    | [.agg [.raw 12 x]] => (match (unar orc).1 with
      | 0 => some (.a (.agg o0), [x = c0], (unar orc).2)
      | 1 => some (.a (.agg o1), [x = c1], (unar orc).2)
      | _ => some (.a (.agg o2), [x = c2], (unar orc).2))
    | _ => none) <| by
 intro args bk orc v obl orc' hr hobl ρ w vals hfr hb hargs
 split at hr
 ·rename_i x
  obtain ⟨v1, r1, rfl, ⟨cs, rfl, a1, z1, rfl, ⟨rfl, _⟩, hz1⟩, h3⟩ := hargs
  obtain rfl : r1 = [] := h3
  obtain rfl : z1 = [] := hz1
  rw [List.append_nil]
  split at hr
  ·cases hr
   obtain rfl := hobl (a1 = c0) (by simp)
   exact h0 ρ w hfr
  ·cases hr
   obtain rfl := hobl (a1 = c1) (by simp)
   exact h1 ρ w hfr
  ·cases hr
   obtain rfl := hobl (a1 = c2) (by simp)
   exact h2 ρ w hfr
 ·cases hr
end
end
end Go.Proofs.YtccmnjkgfgnmoaaGreatDoor
