/- The law CoatStacks: Film and Stack equal the reference, its walk by a verified evaluator, and its card. Part 8 of 11. No condition beside the row. -/
import Derived.Test.YtdgodcgdlfjpaaaGreatDoorA25
import Derived.Test.YtdgodcgdlfjpaaaGreatDoorA31
import Derived.Test.YtdgodcgdlfjpaaaGreatDoorA34
import Derived.Test.YtdgodcgdlfjpaaaGreatDoorT04
import Derived.Test.YtdgodcgdlfjpaaaGreatDoorT07
set_option linter.unusedVariables false
set_option linter.unusedSimpArgs false
namespace Go.Mono
open Go.RowKit
theorem LgV.tail {m : Nat} {w : World} {v : Value} {z : Int} (h : LgV m w v z) : ∃ p n c, v = .agg #[.bool (decide (z < 0)), .slice p n c] ∧ (z ≠ 0 ↔ 0 < n) := by
 obtain ⟨p, n, c, f, rfl, h1, h2, h3, h4⟩ := h
 refine ⟨p, n, c, rfl, ?_⟩
 have := h2.pos
 rw [h3] at this
 omega
end Go.Mono
namespace Go.Proofs.YtdgodcgdlfjpaaaGreatDoor
open Go.RowKit Go.Mono
set_option maxRecDepth 100000 in
set_option maxHeartbeats 2000000 in
theorem r4make_pos {v1 v2 : Value} {n d : Int} (w : World) (h1 : LgV 3 w v1 n) (h2 : LgV 3 w v2 d) (hd : 0 < d) :
  Calls Tryz.prog 199 #[v1, v2] w fun e w' => ∃ C, e = .returned (.tuple #[.agg C, .int .i64 0]) ∧ QtV 3 w' (.agg C) (Rat.divInt n d) ∧ Below w.heap.size w w' := by
 have hr1 := fun (X : World) (hX : Ext w X) => r3right_ok X ((h1.ext hX).mono (by decide))
 have hr2 := fun (X : World) (hX : Ext w X) => r3right_ok X ((h2.ext hX).mono (by decide))
 have hc := fun (X : World) (hX : Ext w X) => r4lowest_pos X (h1.ext hX) (h2.ext hX) hd (by decide)
 obtain ⟨p1, n1, c1, rfl, _⟩ := h1.tail
 obtain ⟨p2, n2, c2, rfl, hn2⟩ := h2.tail
 have hn2' : ((n2 : Int) == 0) = false := by have := hn2.1 (by omega); simp; omega
 generalize decide (n < 0) = s1 at *
 generalize decide (d < 0) = s2 at *
 clear h1 h2 hn2
 go_enter Tryz.func199, Tryz.ntmps199
 go_wp2_with fail
 refine boxes3c fun W hB hs b0 b1 bO => ?_
 refine (hr1 W (.of_below hB)).mono ?_
 rintro e W2 ⟨rfl, hb⟩
 replace b0 := b0.below hb
 replace b1 := b1.below hb
 replace bO := bO.below hb
 replace hB := belowCall hB hb
 have cb0 := b0.cell
 have lb0 := b0.lt
 have fb0 := b0.frozen
 have cb1 := b1.cell
 have lb1 := b1.lt
 have fb1 := b1.frozen
 clear hb hr1 hs
 go_wp2_with fail
 refine (hr2 W2 (.of_below hB)).mono ?_
 rintro e W3 ⟨rfl, hb⟩
 replace b0 := b0.below hb
 replace b1 := b1.below hb
 replace bO := bO.below hb
 replace hB := belowCall hB hb
 clear cb0 lb0 fb0 cb1 lb1 fb1
 have cb0 := b0.cell
 have lb0 := b0.lt
 have fb0 := b0.frozen
 have cb1 := b1.cell
 have lb1 := b1.lt
 have fb1 := b1.frozen
 clear hb hr2
 go_wp2_with fail
 refine (hc W3 (.of_below hB)).mono ?_
 rintro e W4 ⟨V, rfl, hV, hb4⟩
 obtain ⟨C, rfl, zC, oC⟩ := hV.cells
 replace bO := bO.below hb4
 replace hB := belowCall hB hb4
 go_wp2_with first | (refine wpList_store_box rfl 37 (.tmp 4) (.tmp 22) rfl (w.heap.size + 1 + 1) 0 37 _ C C rfl rfl bO (by rw [zC]; exact sizeQuot) (Nat.le_of_eq (by rw [zC]; rfl)) oC (whole_new (by rw [zC]; rfl)) ?_; intro W6 hk b2)
 refine bodyPost_ret (b2.resultsT rfl _ _ rfl Tryz.underlying37 rfl (by rw [zC]; exact sizeQuot)) rfl ?_
 exact ⟨_, rfl, hV.ext (hk.ext bO (by decide)), hk.below hB (by omega) hB.size⟩
set_option maxRecDepth 100000 in
set_option maxHeartbeats 2000000 in
theorem r4of_ok (n d : Int) (w : World) (hd : 0 < d) (a1 : -9223372036854775808 ≤ n) (a2 : n ≤ 9223372036854775807) (b2 : d ≤ 9223372036854775807) :
  Calls Tryz.prog 143 #[.int .i64 n, .int .i64 d] w fun e w' => ∃ C, e = .returned (.tuple #[.agg C, .int .i64 0]) ∧ QtV 3 w' (.agg C) (Rat.divInt n d) ∧ Below w.heap.size w w' := by
 go_enter Tryz.func143, Tryz.ntmps143
 go_wp2_with fail
 refine boxes1c fun W hB hs bO => ?_
 refine (r3of_ok n W a1 a2).mono ?_
 rintro e W2 ⟨v1, rfl, h1, hb⟩
 replace bO := bO.below hb
 replace hB := belowCall hB hb
 clear hb
 go_wp2_with fail
 refine (r3of_ok d W2 (by omega) b2).mono ?_
 rintro e W3 ⟨v2, rfl, h2, hb⟩
 replace bO := bO.below hb
 replace hB := belowCall hB hb
 replace h1 := h1.below hb
 clear hb
 go_wp2_with fail
 refine (r4make_pos W3 h1 h2 hd).mono ?_
 rintro e W4 ⟨C, rfl, hV, hb⟩
 obtain ⟨_, e, zC, oC⟩ := hV.cells
 cases e
 replace bO := bO.below hb
 replace hB := belowCall hB hb
 clear hb h1 h2
 go_wp2_with first | (refine wpList_store_box rfl 37 (.tmp 4) (.tmp 11) rfl w.heap.size 0 37 _ C C rfl rfl bO (by rw [zC]; exact sizeQuot) (Nat.le_of_eq (by rw [zC]; rfl)) oC (whole_new (by rw [zC]; rfl)) ?_; intro W6 hk b2)
 refine bodyPost_ret (b2.resultsT rfl _ _ rfl Tryz.underlying37 rfl (by rw [zC]; exact sizeQuot)) rfl ?_
 exact ⟨_, rfl, hV.ext (hk.ext bO (by decide)), hk.below hB (by omega) hB.size⟩
set_option maxRecDepth 100000 in
set_option maxHeartbeats 2000000 in
theorem r17of_ok (n d : Int) (w : World) (hd : 0 < d) (a1 : -9223372036854775808 ≤ n) (a2 : n ≤ 9223372036854775807) (b2 : d ≤ 9223372036854775807) :
  Calls Tryz.prog 62 #[.int .i64 n, .int .i64 d] w fun e w' => ∃ C, e = .returned (.agg C) ∧ QtV 3 w' (.agg C) (Rat.divInt n d) ∧ Below w.heap.size w w' := by
 go_enter Tryz.func62, Tryz.ntmps62
 go_wp2_with fail
 refine boxes1c fun W hB hs bO => ?_
 refine (r4of_ok n d W hd a1 a2 b2).mono ?_
 rintro e W2 ⟨C, rfl, hV, hb⟩
 obtain ⟨_, e, zC, oC⟩ := hV.cells
 cases e
 replace bO := bO.below hb
 replace hB := belowCall hB hb
 clear hb
 go_wp2_with first | (refine wpList_put1 37 5 _ C _ rfl rfl rfl rfl rfl rfl alloc_quot (by as_aux_lemma => (intro _; kernel_rfl)) (by as_aux_lemma => (intro _; kernel_rfl)) (by rw [zC]; exact sizeQuot) (by rw [zC]; rfl) oC ?_; intro W3 B5 _ hB3 b5; replace bO := bO.below hB3) | (refine wpList_load_box rfl 37 (.tmp 5) rfl B5 (by as_aux_lemma => kernel_rfl) 37 C b5 _ Tryz.underlying37 rfl (by rw [zC]; exact sizeQuot) ?_) | (refine wpList_store_box rfl 37 (.tmp 4) (.tmp 13) rfl w.heap.size 0 37 _ C C rfl rfl bO (by rw [zC]; exact sizeQuot) (Nat.le_of_eq (by rw [zC]; rfl)) oC (whole_new (by rw [zC]; rfl)) ?_; intro W6 hk b2)
 refine bodyPost_ret (b2.results rfl _ _ rfl Tryz.underlying37 rfl (by rw [zC]; exact sizeQuot)) rfl ?_
 exact ⟨_, rfl, (hV.below hB3).ext (hk.ext bO (by decide)), hk.below (belowCall hB hB3) (by omega) (belowCall hB hB3).size⟩
end Go.Proofs.YtdgodcgdlfjpaaaGreatDoor
namespace Go.Mono
open Go.RowKit
theorem setCell_id {w : World} {B i : Nat} {v : Value} (h : w.cell? ⟨B, i, none⟩ = some v) : w.setCell ⟨B, i, none⟩ v = w := by
 unfold World.setCell
 have e : (w.heap.modify B fun
   | .cells c elem frozen => .cells (if (none : Option Nat).isSome then c else c.setIfInBounds i v) elem frozen
   | o => o) = w.heap := by
  apply Array.ext_getElem?
  intro k
  rw [Array.getElem?_modify]
  by_cases hk : B = k
  ·subst hk
   simp only [if_true]
   unfold World.cell? at h
   cases hb : w.heap[B]? with
   | none => rfl
   | some o =>
     rw [hb] at h
     cases o with
     | cells c T fr =>
       have hc : c[i]? = some v := by simpa using h
       obtain ⟨hi, hv⟩ := Array.getElem?_eq_some_iff.1 hc
       have : c.setIfInBounds i v = c := by
        apply Array.ext_getElem?
        intro j
        rw [Array.getElem?_setIfInBounds]
        by_cases hj : i = j
        ·subst hj; simp [hi, hv]
        ·simp [hj]
       simp [this]
     | _ => rfl
  ·simp [hk]
 exact congrArg (fun h => { w with heap := h }) e
end Go.Mono
namespace Go.Proofs.YtdgodcgdlfjpaaaGreatDoor
open Go.RowKit Go.Mono
set_option maxRecDepth 100000 in
set_option maxHeartbeats 2000000 in
theorem r17got_ok (s1 t1 : Bool) (p1 q1 : Option Addr) (n1 c1 m1 d1 Bs : Nat) (w : World) (bs : Box w Bs 131 #[.int .i64 0]) :
  Calls Tryz.prog 145 #[.pointer (some ⟨Bs, 0, none⟩), .agg #[.bool s1, .slice p1 n1 c1, .bool t1, .slice q1 m1 d1], .int .i64 0] w fun e w' => e = .returned (.agg #[.bool s1, .slice p1 n1 c1, .bool t1, .slice q1 m1 d1]) ∧ Below w.heap.size w w' := by
 have cbs := bs.cell
 have lbs := bs.lt
 have fbs := bs.frozen
 go_enter Tryz.func145, Tryz.ntmps145
 go_wp2_with fail
 rw [setCell_id (v := .int .i64 0) (cbs 0)]
 have b := Box.new (w.alloc (.cells #[.bool s1, .slice p1 n1 c1, .bool t1, .slice q1 m1 d1] 37)) 37 #[.bool s1, .slice p1 n1 c1, .bool t1, .slice q1 m1 d1]
 simp only [World.size_alloc] at b
 exact bodyPost_ret (b.results rfl _ _ rfl Tryz.underlying37 rfl sizeQuot) rfl ⟨rfl, belowAlloc (belowAlloc (Below.refl _ _) _) _⟩
theorem r17got_qt {C : Array Value} {q : Rat} (Bs : Nat) (w : World) (h : QtV 600 w (.agg C) q) (bs : Box w Bs 131 #[.int .i64 0]) :
  Calls Tryz.prog 145 #[.pointer (some ⟨Bs, 0, none⟩), .agg C, .int .i64 0] w fun e w' => e = .returned (.agg C) ∧ Below w.heap.size w w' := by
 obtain ⟨s, p, n, c, s', p', n', c', hv, _, _⟩ := h
 cases hv
 exact r17got_ok _ _ _ _ _ _ _ _ Bs w bs
set_option maxRecDepth 100000 in
set_option maxHeartbeats 2000000 in
theorem r17add_ok {Ca Cb : Array Value} {a b : Rat} (Bs : Nat) (w : World) (bs : Box w Bs 131 #[.int .i64 0]) (h1 : QtV 600 w (.agg Ca) a) (h2 : QtV 600 w (.agg Cb) b) (hf : Fits (a + b)) :
  Calls Tryz.prog 65 #[.pointer (some ⟨Bs, 0, none⟩), .agg Ca, .agg Cb] w fun e w' => ∃ C, e = .returned (.agg C) ∧ QtV 600 w' (.agg C) (a + b) ∧ Below w.heap.size w w' := by
 have hc := fun (X : World) (hX : Ext w X) => r4add_ok X (h1.ext hX) (h2.ext hX) hf
 obtain ⟨s1, p1, n1, c1, t1, q1, m1, d1, hv1, _, _⟩ := h1
 obtain ⟨s2, p2, n2, c2, t2, q2, m2, d2, hv2, _, _⟩ := h2
 cases hv1
 cases hv2
 go_enter Tryz.func65, Tryz.ntmps65
 go_wp2_with fail
 refine boxes3c fun W hB hs b4 b5 bO => ?_
 refine (hc W (.of_below hB)).mono ?_
 rintro e W2 ⟨C, rfl, hV, hb⟩
 obtain ⟨_, e, zC, oC⟩ := hV.cells
 cases e
 replace bO := bO.below hb
 replace hB := belowCall hB hb
 replace bs := bs.below hB
 clear hb hc b4 b5 hs
 go_wp2_with first | (refine wpList_put1 37 7 _ C _ rfl rfl rfl rfl rfl rfl alloc_quot (by as_aux_lemma => (intro _; kernel_rfl)) (by as_aux_lemma => (intro _; kernel_rfl)) (by rw [zC]; exact sizeQuot) (by rw [zC]; rfl) oC ?_; intro W3 B7 _ hB3 b7; replace bO := bO.below hB3; replace bs := bs.below hB3; replace hV := hV.below hB3) | (refine wpList_load_box rfl 37 (.tmp 7) rfl B7 (by as_aux_lemma => kernel_rfl) 37 C b7 _ Tryz.underlying37 rfl (by rw [zC]; exact sizeQuot) ?_)
 refine (r17got_qt Bs W3 hV bs).mono ?_
 rintro e W4 ⟨rfl, hb4⟩
 replace bO := bO.below hb4
 replace hB := belowCall (belowCall hB hB3) hb4
 replace hV := hV.below hb4
 clear b7 bs hb4
 go_wp2_with first | (refine wpList_store_box rfl 37 (.tmp 6) (.tmp 18) rfl (w.heap.size + 1 + 1) 0 37 _ C C rfl rfl bO (by rw [zC]; exact sizeQuot) (Nat.le_of_eq (by rw [zC]; rfl)) oC (whole_new (by rw [zC]; rfl)) ?_; intro W6 hk b2)
 refine bodyPost_ret (b2.results rfl _ _ rfl Tryz.underlying37 rfl (by rw [zC]; exact sizeQuot)) rfl ?_
 exact ⟨_, rfl, hV.ext (hk.ext bO (by decide)), hk.below hB (by omega) hB.size⟩
set_option maxRecDepth 100000 in
set_option maxHeartbeats 2000000 in
theorem r17sub_ok {Ca Cb : Array Value} {a b : Rat} (Bs : Nat) (w : World) (bs : Box w Bs 131 #[.int .i64 0]) (h1 : QtV 600 w (.agg Ca) a) (h2 : QtV 600 w (.agg Cb) b) (hf : Fits (a - b)) :
  Calls Tryz.prog 64 #[.pointer (some ⟨Bs, 0, none⟩), .agg Ca, .agg Cb] w fun e w' => ∃ C, e = .returned (.agg C) ∧ QtV 600 w' (.agg C) (a - b) ∧ Below w.heap.size w w' := by
 have hc := fun (X : World) (hX : Ext w X) => r4sub_ok X (h1.ext hX) (h2.ext hX) hf
 obtain ⟨s1, p1, n1, c1, t1, q1, m1, d1, hv1, _, _⟩ := h1
 obtain ⟨s2, p2, n2, c2, t2, q2, m2, d2, hv2, _, _⟩ := h2
 cases hv1
 cases hv2
 go_enter Tryz.func64, Tryz.ntmps64
 go_wp2_with fail
 refine boxes3c fun W hB hs b4 b5 bO => ?_
 refine (hc W (.of_below hB)).mono ?_
 rintro e W2 ⟨C, rfl, hV, hb⟩
 obtain ⟨_, e, zC, oC⟩ := hV.cells
 cases e
 replace bO := bO.below hb
 replace hB := belowCall hB hb
 replace bs := bs.below hB
 clear hb hc b4 b5 hs
 go_wp2_with first | (refine wpList_put1 37 7 _ C _ rfl rfl rfl rfl rfl rfl alloc_quot (by as_aux_lemma => (intro _; kernel_rfl)) (by as_aux_lemma => (intro _; kernel_rfl)) (by rw [zC]; exact sizeQuot) (by rw [zC]; rfl) oC ?_; intro W3 B7 _ hB3 b7; replace bO := bO.below hB3; replace bs := bs.below hB3; replace hV := hV.below hB3) | (refine wpList_load_box rfl 37 (.tmp 7) rfl B7 (by as_aux_lemma => kernel_rfl) 37 C b7 _ Tryz.underlying37 rfl (by rw [zC]; exact sizeQuot) ?_)
 refine (r17got_qt Bs W3 hV bs).mono ?_
 rintro e W4 ⟨rfl, hb4⟩
 replace bO := bO.below hb4
 replace hB := belowCall (belowCall hB hB3) hb4
 replace hV := hV.below hb4
 clear b7 bs hb4
 go_wp2_with first | (refine wpList_store_box rfl 37 (.tmp 6) (.tmp 18) rfl (w.heap.size + 1 + 1) 0 37 _ C C rfl rfl bO (by rw [zC]; exact sizeQuot) (Nat.le_of_eq (by rw [zC]; rfl)) oC (whole_new (by rw [zC]; rfl)) ?_; intro W6 hk b2)
 refine bodyPost_ret (b2.results rfl _ _ rfl Tryz.underlying37 rfl (by rw [zC]; exact sizeQuot)) rfl ?_
 exact ⟨_, rfl, hV.ext (hk.ext bO (by decide)), hk.below hB (by omega) hB.size⟩
set_option maxRecDepth 100000 in
set_option maxHeartbeats 2000000 in
theorem r17mul_ok {Ca Cb : Array Value} {a b : Rat} (Bs : Nat) (w : World) (bs : Box w Bs 131 #[.int .i64 0]) (h1 : QtV 600 w (.agg Ca) a) (h2 : QtV 600 w (.agg Cb) b) (hf : Fits (a * b)) :
  Calls Tryz.prog 63 #[.pointer (some ⟨Bs, 0, none⟩), .agg Ca, .agg Cb] w fun e w' => ∃ C, e = .returned (.agg C) ∧ QtV 600 w' (.agg C) (a * b) ∧ Below w.heap.size w w' := by
 have hc := fun (X : World) (hX : Ext w X) => r4mul_ok X (h1.ext hX) (h2.ext hX) hf
 obtain ⟨s1, p1, n1, c1, t1, q1, m1, d1, hv1, _, _⟩ := h1
 obtain ⟨s2, p2, n2, c2, t2, q2, m2, d2, hv2, _, _⟩ := h2
 cases hv1
 cases hv2
 go_enter Tryz.func63, Tryz.ntmps63
 go_wp2_with fail
 refine boxes3c fun W hB hs b4 b5 bO => ?_
 refine (hc W (.of_below hB)).mono ?_
 rintro e W2 ⟨C, rfl, hV, hb⟩
 obtain ⟨_, e, zC, oC⟩ := hV.cells
 cases e
 replace bO := bO.below hb
 replace hB := belowCall hB hb
 replace bs := bs.below hB
 clear hb hc b4 b5 hs
 go_wp2_with first | (refine wpList_put1 37 7 _ C _ rfl rfl rfl rfl rfl rfl alloc_quot (by as_aux_lemma => (intro _; kernel_rfl)) (by as_aux_lemma => (intro _; kernel_rfl)) (by rw [zC]; exact sizeQuot) (by rw [zC]; rfl) oC ?_; intro W3 B7 _ hB3 b7; replace bO := bO.below hB3; replace bs := bs.below hB3; replace hV := hV.below hB3) | (refine wpList_load_box rfl 37 (.tmp 7) rfl B7 (by as_aux_lemma => kernel_rfl) 37 C b7 _ Tryz.underlying37 rfl (by rw [zC]; exact sizeQuot) ?_)
 refine (r17got_qt Bs W3 hV bs).mono ?_
 rintro e W4 ⟨rfl, hb4⟩
 replace bO := bO.below hb4
 replace hB := belowCall (belowCall hB hB3) hb4
 replace hV := hV.below hb4
 clear b7 bs hb4
 go_wp2_with first | (refine wpList_store_box rfl 37 (.tmp 6) (.tmp 18) rfl (w.heap.size + 1 + 1) 0 37 _ C C rfl rfl bO (by rw [zC]; exact sizeQuot) (Nat.le_of_eq (by rw [zC]; rfl)) oC (whole_new (by rw [zC]; rfl)) ?_; intro W6 hk b2)
 refine bodyPost_ret (b2.results rfl _ _ rfl Tryz.underlying37 rfl (by rw [zC]; exact sizeQuot)) rfl ?_
 exact ⟨_, rfl, hV.ext (hk.ext bO (by decide)), hk.below hB (by omega) hB.size⟩
set_option maxRecDepth 100000 in
set_option maxHeartbeats 2000000 in
theorem r17div_ok {Ca Cb : Array Value} {a b : Rat} (Bs : Nat) (w : World) (bs : Box w Bs 131 #[.int .i64 0]) (h1 : QtV 600 w (.agg Ca) a) (h2 : QtV 600 w (.agg Cb) b) (hb0 : 0 < b) (hf : Fits (a / b)) :
  Calls Tryz.prog 66 #[.pointer (some ⟨Bs, 0, none⟩), .agg Ca, .agg Cb] w fun e w' => ∃ C, e = .returned (.agg C) ∧ QtV 600 w' (.agg C) (a / b) ∧ Below w.heap.size w w' := by
 have hc := fun (X : World) (hX : Ext w X) => r4div_ok X (h1.ext hX) (h2.ext hX) hb0 hf
 obtain ⟨s1, p1, n1, c1, t1, q1, m1, d1, hv1, _, _⟩ := h1
 obtain ⟨s2, p2, n2, c2, t2, q2, m2, d2, hv2, _, _⟩ := h2
 cases hv1
 cases hv2
 go_enter Tryz.func66, Tryz.ntmps66
 go_wp2_with fail
 refine boxes3c fun W hB hs b4 b5 bO => ?_
 refine (hc W (.of_below hB)).mono ?_
 rintro e W2 ⟨C, rfl, hV, hb⟩
 obtain ⟨_, e, zC, oC⟩ := hV.cells
 cases e
 replace bO := bO.below hb
 replace hB := belowCall hB hb
 replace bs := bs.below hB
 clear hb hc b4 b5 hs
 go_wp2_with first | (refine wpList_put1 37 7 _ C _ rfl rfl rfl rfl rfl rfl alloc_quot (by as_aux_lemma => (intro _; kernel_rfl)) (by as_aux_lemma => (intro _; kernel_rfl)) (by rw [zC]; exact sizeQuot) (by rw [zC]; rfl) oC ?_; intro W3 B7 _ hB3 b7; replace bO := bO.below hB3; replace bs := bs.below hB3; replace hV := hV.below hB3) | (refine wpList_load_box rfl 37 (.tmp 7) rfl B7 (by as_aux_lemma => kernel_rfl) 37 C b7 _ Tryz.underlying37 rfl (by rw [zC]; exact sizeQuot) ?_)
 refine (r17got_qt Bs W3 hV bs).mono ?_
 rintro e W4 ⟨rfl, hb4⟩
 replace bO := bO.below hb4
 replace hB := belowCall (belowCall hB hB3) hb4
 replace hV := hV.below hb4
 clear b7 bs hb4
 go_wp2_with first | (refine wpList_store_box rfl 37 (.tmp 6) (.tmp 18) rfl (w.heap.size + 1 + 1) 0 37 _ C C rfl rfl bO (by rw [zC]; exact sizeQuot) (Nat.le_of_eq (by rw [zC]; rfl)) oC (whole_new (by rw [zC]; rfl)) ?_; intro W6 hk b2)
 refine bodyPost_ret (b2.results rfl _ _ rfl Tryz.underlying37 rfl (by rw [zC]; exact sizeQuot)) rfl ?_
 exact ⟨_, rfl, hV.ext (hk.ext bO (by decide)), hk.below hB (by omega) hB.size⟩
end Go.Proofs.YtdgodcgdlfjpaaaGreatDoor
namespace Go.Proofs.YtdgodcgdlfjpaaaGreatDoor
open Go.RowKit Go.Mono
theorem sadd_ok {Ca Cb : Array Value} {a b : Rat} (Bs : Nat) (w : World) (bs : Box w Bs 131 #[.int .i64 0]) (h1 : QV w (.agg Ca) a) (h2 : QV w (.agg Cb) b) (hf : Fits (a + b)) :
  Calls Tryz.prog 65 #[.pointer (some ⟨Bs, 0, none⟩), .agg Ca, .agg Cb] w fun e w' => ∃ C, e = .returned (.agg C) ∧ QV w' (.agg C) (a + b) ∧ Below w.heap.size w w' :=
 (r17add_ok Bs w bs h1.qt h2.qt hf).mono fun e w' ⟨C, he, hC, hb⟩ => ⟨C, he, hC.qv, hb⟩
theorem ssub_ok {Ca Cb : Array Value} {a b : Rat} (Bs : Nat) (w : World) (bs : Box w Bs 131 #[.int .i64 0]) (h1 : QV w (.agg Ca) a) (h2 : QV w (.agg Cb) b) (hf : Fits (a - b)) :
  Calls Tryz.prog 64 #[.pointer (some ⟨Bs, 0, none⟩), .agg Ca, .agg Cb] w fun e w' => ∃ C, e = .returned (.agg C) ∧ QV w' (.agg C) (a - b) ∧ Below w.heap.size w w' :=
 (r17sub_ok Bs w bs h1.qt h2.qt hf).mono fun e w' ⟨C, he, hC, hb⟩ => ⟨C, he, hC.qv, hb⟩
theorem smul_ok {Ca Cb : Array Value} {a b : Rat} (Bs : Nat) (w : World) (bs : Box w Bs 131 #[.int .i64 0]) (h1 : QV w (.agg Ca) a) (h2 : QV w (.agg Cb) b) (hf : Fits (a * b)) :
  Calls Tryz.prog 63 #[.pointer (some ⟨Bs, 0, none⟩), .agg Ca, .agg Cb] w fun e w' => ∃ C, e = .returned (.agg C) ∧ QV w' (.agg C) (a * b) ∧ Below w.heap.size w w' :=
 (r17mul_ok Bs w bs h1.qt h2.qt hf).mono fun e w' ⟨C, he, hC, hb⟩ => ⟨C, he, hC.qv, hb⟩
theorem sdiv_ok {Ca Cb : Array Value} {a b : Rat} (Bs : Nat) (w : World) (bs : Box w Bs 131 #[.int .i64 0]) (h1 : QV w (.agg Ca) a) (h2 : QV w (.agg Cb) b) (hb0 : 0 < b) (hf : Fits (a / b)) :
  Calls Tryz.prog 66 #[.pointer (some ⟨Bs, 0, none⟩), .agg Ca, .agg Cb] w fun e w' => ∃ C, e = .returned (.agg C) ∧ QV w' (.agg C) (a / b) ∧ Below w.heap.size w w' :=
 (r17div_ok Bs w bs h1.qt h2.qt hb0 hf).mono fun e w' ⟨C, he, hC, hb⟩ => ⟨C, he, hC.qv, hb⟩
end Go.Proofs.YtdgodcgdlfjpaaaGreatDoor
namespace Go.Proofs.YtdgodcgdlfjpaaaGreatDoor
open Go.RowKit Go.Mono Go.Ev
def qDen : Den where
 R := fun w q cs => QV w (.agg cs.toArray) q
 ext := fun h hx => h.ext hx
 len := fun h => by
  obtain ⟨p, k, c, p', k', c', e, _⟩ := h
  have := congrArg Value.cells e
  simp only [Value.cells] at this
  have := congrArg Array.size this
  simpa using this
 one := fun h => by
  obtain ⟨p, k, c, p', k', c', e, _⟩ := h
  have := congrArg Value.cells e
  simp only [Value.cells] at this
  have := congrArg Array.toList this
  simp only [List.toList_toArray] at this
  rw [this]
  simp [Value.oneCell']
theorem den_quo {ρ : Nm} {w : World} {q : Rat} {v : Value} : denA qDen ρ w (.agg [.quo q]) v ↔ QV w v q := by
 constructor
 ·rintro ⟨cs, e, c, d, e2, hc, hd⟩
  obtain rfl : d = [] := hd
  rw [List.append_nil] at e2
  subst e2
  rw [e]
  exact hc
 ·intro h
  obtain ⟨p, k, c, p', k', c', e, h2⟩ := h
  refine ⟨[.bool (decide (q.num < 0)), .slice p k c, .bool false, .slice p' k' c'], e, _, [], (List.append_nil _).symm, ?_, rfl⟩
  exact ⟨p, k, c, p', k', c', rfl, h2⟩
theorem QV.agg {w : World} {v : Value} {q : Rat} (h : QV w v q) : ∃ C : Array Value, v = .agg C := by
 obtain ⟨p, k, c, p', k', c', e, h2⟩ := h
 exact ⟨_, e⟩
def okSums (bk : List (Nat × Blk)) (k : Nat) : Bool :=
 match bk.lookup k with
 | some b => match b.cells with
   | [.val (.int .i64 e)] => Nat.beq b.T 131 && (e == 0) && !b.ro
   | _ => false
 | none => false
theorem okSums_box {ρ : Nm} {w : World} {bk : List (Nat × Blk)} {k : Nat} (h : okSums bk k = true) (hb : BkOk qDen ρ w w bk) : ∃ B, ρ k = some B ∧ B.base = 0 ∧ Box w B.blk 131 #[.int .i64 0] := by
 unfold okSums at h
 split at h
 ·rename_i b hk
  split at h
  ·rename_i e hc
   rw [Bool.and_eq_true, Bool.and_eq_true] at h
   obtain ⟨⟨hT, he⟩, hro⟩ := h
   obtain ⟨B, cs, h1, h2, h3, h4⟩ := hb k b hk
   replace hT := Nat.eq_of_beq_eq_true hT
   replace he : e = 0 := by simpa using he
   subst he
   rw [hc] at h3
   obtain ⟨c, d, rfl, ⟨rfl, _⟩, hd⟩ := h3
   obtain rfl : d = [] := hd
   rcases h2 with ⟨g, _⟩ | ⟨_, g0, g⟩
   ·rw [h4] at g; rw [g] at hro; cases hro
   ·rw [hT] at g
    exact ⟨B, h1, g0, g⟩
  ·cases h
 ·cases h
def sumsRun (op : Rat → Rat → SV × List Prop) (args : List SA) (bk : List (Nat × Blk)) (orc : List (Option Bool)) : Option (SV × List Prop × List (Option Bool)) :=
 match args with
 | [.one (.ptr k 0), .agg [.quo a], .agg [.quo b]] => if okSums bk k then some ((op a b).1, (op a b).2, orc) else none
 | _ => none
def sumsSpec (w0 : World) (X : Nat → Prop) (f : FuncId) (op : Rat → Rat → Rat) (side : Rat → Rat → List Prop)
    (h : ∀ (Ca Cb : Array Value) (a b : Rat) (Bs : Nat) (w : World), (∀ p ∈ side a b, p) → Box w Bs 131 #[.int .i64 0] → QV w (.agg Ca) a → QV w (.agg Cb) b →
     Calls Tryz.prog f #[.pointer (some ⟨Bs, 0, none⟩), .agg Ca, .agg Cb] w fun e w' => ∃ C, e = .returned (.agg C) ∧ QV w' (.agg C) (op a b) ∧ Below w.heap.size w w') : Ctr qDen Tryz.prog w0 X := .plain (f) (sumsRun fun a b => (.a (.agg [.quo (op a b)]), side a b)) <| by
    intro args bk orc v obl orc' hr hobl ρ w vals hfr hb hargs
    unfold sumsRun at hr
    split at hr
    ·rename_i k a b
     split at hr
     ·rename_i hk
      cases hr
      obtain ⟨v1, r1, rfl, h1, v2, r2, rfl, h2, v3, r3, rfl, h3, h4⟩ := hargs
      obtain rfl : r3 = [] := h4
      obtain ⟨B, hB, hbase, bx⟩ := okSums_box hk hb
      obtain ⟨B', hB', e1⟩ := h1
      cases hB.symm.trans hB'
      have e2 : v1 = .pointer (some ⟨B.blk, 0, none⟩) := by rw [hbase] at e1; simpa using e1
      subst e2
      have q2 := den_quo.1 h2
      have q3 := den_quo.1 h3
      obtain ⟨C2, rfl⟩ := QV.agg q2
      obtain ⟨C3, rfl⟩ := QV.agg q3
      refine (h C2 C3 a b B.blk w hobl bx q2 q3).mono ?_
      rintro e w' ⟨C, rfl, hC, hbl⟩
      exact ⟨_, rfl, den_quo.2 hC, hbl⟩
     ·cases hr
    ·cases hr
def specAdd (w0 : World) (X : Nat → Prop) : Ctr qDen Tryz.prog w0 X := sumsSpec w0 X 65 (fun a b => a + b) (fun a b => [Fits (a + b)]) fun Ca Cb a b Bs w hs bs h1 h2 => sadd_ok Bs w bs h1 h2 (hs _ (by simp))
def specSub (w0 : World) (X : Nat → Prop) : Ctr qDen Tryz.prog w0 X := sumsSpec w0 X 64 (fun a b => a - b) (fun a b => [Fits (a - b)]) fun Ca Cb a b Bs w hs bs h1 h2 => ssub_ok Bs w bs h1 h2 (hs _ (by simp))
def specMul (w0 : World) (X : Nat → Prop) : Ctr qDen Tryz.prog w0 X := sumsSpec w0 X 63 (fun a b => a * b) (fun a b => [Fits (a * b)]) fun Ca Cb a b Bs w hs bs h1 h2 => smul_ok Bs w bs h1 h2 (hs _ (by simp))
def specDiv (w0 : World) (X : Nat → Prop) : Ctr qDen Tryz.prog w0 X := sumsSpec w0 X 66 (fun a b => a / b) (fun a b => [0 < b, Fits (a / b)]) fun Ca Cb a b Bs w hs bs h1 h2 => sdiv_ok Bs w bs h1 h2 (hs _ (by simp)) (hs _ (by simp))
def of17Run (args : List SA) (bk : List (Nat × Blk)) (orc : List (Option Bool)) : Option (SV × List Prop × List (Option Bool)) :=
 match args with
 | [x, y] => match intOf (some (.a x)), intOf (some (.a y)) with
   | some (n, _), some (d, _) => some (.a (.agg [.quo (Rat.divInt n d)]), [inR n, 0 < d ∧ d ≤ 9223372036854775807], orc)
   | _, _ => none
 | _ => none
def specOf17 (w0 : World) (X : Nat → Prop) : Ctr qDen Tryz.prog w0 X := .plain (62) (of17Run) <| by
    intro args bk orc v obl orc' hr hobl ρ w vals hfr hb hargs
    unfold of17Run at hr
    split at hr
    ·rename_i x y
     split at hr
     ·rename_i n s d s' hx hy
      cases hr
      obtain ⟨v1, r1, rfl, h1, v2, r2, rfl, h2, h3⟩ := hargs
      obtain rfl : r2 = [] := h3
      obtain rfl := intOf_ok (D := qDen) (ρ := ρ) (w := w) hx h1
      obtain rfl := intOf_ok (D := qDen) (ρ := ρ) (w := w) hy h2
      obtain ⟨a1, a2⟩ := hobl (inR n) (by simp)
      obtain ⟨hd, b2⟩ := hobl (0 < d ∧ d ≤ 9223372036854775807) (by simp)
      refine (r17of_ok n d w hd a1 a2 b2).mono ?_
      rintro e w' ⟨C, rfl, hC, hbl⟩
      exact ⟨_, rfl, den_quo.2 (hC.mono (by decide)).qv, hbl⟩
     ·cases hr
    ·cases hr
def same04Run (args : List SA) (bk : List (Nat × Blk)) (orc : List (Option Bool)) : Option (SV × List Prop × List (Option Bool)) :=
 match args with
 | [.agg [.quo a], .agg [.quo b]] => some (.a (.one (.tst (decide (a = b)))), [], orc)
 | _ => none
def specSame04 (w0 : World) (X : Nat → Prop) : Ctr qDen Tryz.prog w0 X := .plain (17) (same04Run) <| by
    intro args bk orc v obl orc' hr hobl ρ w vals hfr hb hargs
    unfold same04Run at hr
    split at hr
    ·rename_i a b
     cases hr
     obtain ⟨v1, r1, rfl, h1, v2, r2, rfl, h2, h3⟩ := hargs
     obtain rfl : r2 = [] := h3
     refine (r4same_ok w (den_quo.1 h1).qt (den_quo.1 h2).qt).mono ?_
     rintro e w' ⟨rfl, hbl⟩
     exact ⟨_, rfl, rfl, hbl⟩
    ·cases hr
theorem wide_ : Tryz.prog.follows .mixedOrders = true := by kernel_rfl
end Go.Proofs.YtdgodcgdlfjpaaaGreatDoor
namespace Go.Proofs.YtdgodcgdlfjpaaaGreatDoor
open Go.RowKit Go.Mono Go.Ev
theorem idx_pos0 {n : Int} (h : 10000000 ≤ n) : 0 < idx n := by
 unfold idx
 rw [Rat.divInt_eq_div, Rat.div_def]
 refine Rat.mul_pos ?_ (Rat.inv_pos.2 (by decide +kernel))
 exact Rat.intCast_pos.2 (by omega)
theorem den_film {ρ : Nm} {w : World} (f : Flm) : denA qDen ρ w (.agg [.sym f.ix, .sym f.p, .sym f.q]) (.agg f.vals) :=
 ⟨[.int .i64 f.ix, .int .i64 f.p, .int .i64 f.q], rfl, [.int .i64 f.ix], _, rfl, rfl, [.int .i64 f.p], _, rfl, rfl, [.int .i64 f.q], _, rfl, rfl, rfl⟩
theorem film_den {ρ : Nm} {w : World} {a b c : Int} {v : Value} (h : denA qDen ρ w (.agg [.sym a, .sym b, .sym c]) v) : v = .agg (Flm.vals ⟨a, b, c⟩) := by
 obtain ⟨cs, rfl, x1, r1, rfl, h1, x2, r2, rfl, h2, x3, r3, rfl, h3, h4⟩ := h
 obtain rfl : r3 = [] := h4
 rw [show x1 = _ from h1, show x2 = _ from h2, show x3 = _ from h3]
 rfl
theorem den_mat {ρ : Nm} {w : World} {m : Mat} {v : Value} : denA qDen ρ w (.agg [.quo m.a, .quo m.b, .quo m.c, .quo m.d]) v ↔ ∃ C, v = .agg C ∧ MV w C m := by
 constructor
 ·rintro ⟨cs, rfl, x1, r1, rfl, h1, x2, r2, rfl, h2, x3, r3, rfl, h3, x4, r4, rfl, h4, h5⟩
  obtain rfl : r4 = [] := h5
  obtain ⟨a0, a1, a2, a3, rfl⟩ : ∃ a0 a1 a2 a3, x1 = [a0, a1, a2, a3] := by have := qDen.len h1; match x1, this with | [a, b, c, d], _ => exact ⟨_, _, _, _, rfl⟩
  obtain ⟨b0, b1, b2, b3, rfl⟩ : ∃ a0 a1 a2 a3, x2 = [a0, a1, a2, a3] := by have := qDen.len h2; match x2, this with | [a, b, c, d], _ => exact ⟨_, _, _, _, rfl⟩
  obtain ⟨c0, c1, c2, c3, rfl⟩ : ∃ a0 a1 a2 a3, x3 = [a0, a1, a2, a3] := by have := qDen.len h3; match x3, this with | [a, b, c, d], _ => exact ⟨_, _, _, _, rfl⟩
  obtain ⟨d0, d1, d2, d3, rfl⟩ : ∃ a0 a1 a2 a3, x4 = [a0, a1, a2, a3] := by have := qDen.len h4; match x4, this with | [a, b, c, d], _ => exact ⟨_, _, _, _, rfl⟩
  exact ⟨_, rfl, ⟨⟨_, _, _, _, _, _, _, _, _, _, _, _, _, _, _, _, rfl, h1, h2, h3, h4⟩⟩⟩
 ·rintro ⟨C, rfl, h⟩
  obtain ⟨a0, a1, a2, a3, b0, b1, b2, b3, c0, c1, c2, c3, d0, d1, d2, d3, rfl, h1, h2, h3, h4⟩ := h.parts
  exact ⟨_, rfl, [a0, a1, a2, a3], _, rfl, h1, [b0, b1, b2, b3], _, rfl, h2, [c0, c1, c2, c3], _, rfl, h3, [d0, d1, d2, d3], [], rfl, h4, rfl⟩
theorem run11 (f : Flm) (w : World) (orc : List (Option Bool)) (b : Bool) (L : List Prop)
  (h : (evF Tryz.prog ([] : List (Ctr qDen Tryz.prog w fun _ => False)) 2 75 [.agg [.sym f.ix, .sym f.p, .sym f.q]] [] 0 orc).map (fun r => (r.v, r.obl)) = some (.a (.one (.val (.bool b))), L)) (hL : AllP L) :
  Calls Tryz.prog 75 #[.agg f.vals] w fun e w' => e = .returned (.bool b) ∧ Below w.heap.size w w' := by
 refine (evRun0 wide_ _ _ L h hL (vals := [.agg f.vals]) ⟨_, _, rfl, den_film f, rfl⟩).mono ?_
 rintro e w' ⟨v, ρ', rfl, hv, hb⟩
 exact ⟨by rw [show v = .bool b by simpa using hv.1], hb⟩
theorem r11film_ok (f : Flm) (w : World) : Calls Tryz.prog 75 #[.agg f.vals] w fun e w' => e = .returned (.bool (decide f.ok)) ∧ Below w.heap.size w w' := by
 by_cases h1 : f.ix ≥ 10000000
 rotate_left
 ·rw [decide_eq_false (fun hf : f.ok => h1 (by unfold Flm.ok at hf; omega))]
  exact run11 f w [some false] false [decide (f.ix ≥ 10000000) = false] (by kernel_rfl) ⟨decide_eq_false h1, trivial⟩
 by_cases h2 : f.ix ≤ 40000000
 rotate_left
 ·rw [decide_eq_false (fun hf : f.ok => h2 (by unfold Flm.ok at hf; omega))]
  exact run11 f w [some true, some false] false [decide (f.ix ≥ 10000000) = true, decide (f.ix ≤ 40000000) = false] (by kernel_rfl) ⟨decide_eq_true h1, decide_eq_false h2, trivial⟩
 by_cases h3 : f.p ≥ 0
 rotate_left
 ·rw [decide_eq_false (fun hf : f.ok => h3 (by unfold Flm.ok at hf; omega))]
  exact run11 f w [some true, some true, some false] false [decide (f.ix ≥ 10000000) = true, decide (f.ix ≤ 40000000) = true, decide (f.p ≥ 0) = false] (by kernel_rfl) ⟨decide_eq_true h1, decide_eq_true h2, decide_eq_false h3, trivial⟩
 by_cases h4 : f.p ≤ 1000
 rotate_left
 ·rw [decide_eq_false (fun hf : f.ok => h4 (by unfold Flm.ok at hf; omega))]
  exact run11 f w [some true, some true, some true, some false] false [decide (f.ix ≥ 10000000) = true, decide (f.ix ≤ 40000000) = true, decide (f.p ≥ 0) = true, decide (f.p ≤ 1000) = false] (by kernel_rfl) ⟨decide_eq_true h1, decide_eq_true h2, decide_eq_true h3, decide_eq_false h4, trivial⟩
 by_cases h5 : f.q ≥ 1
 rotate_left
 ·rw [decide_eq_false (fun hf : f.ok => h5 (by unfold Flm.ok at hf; omega))]
  exact run11 f w [some true, some true, some true, some true, some false] false [decide (f.ix ≥ 10000000) = true, decide (f.ix ≤ 40000000) = true, decide (f.p ≥ 0) = true, decide (f.p ≤ 1000) = true, decide (f.q ≥ 1) = false] (by kernel_rfl) ⟨decide_eq_true h1, decide_eq_true h2, decide_eq_true h3, decide_eq_true h4, decide_eq_false h5, trivial⟩
 by_cases h6 : f.q ≤ 1000
 rotate_left
 ·rw [decide_eq_false (fun hf : f.ok => h6 (by unfold Flm.ok at hf; omega))]
  exact run11 f w [some true, some true, some true, some true, some true, some false] false [decide (f.ix ≥ 10000000) = true, decide (f.ix ≤ 40000000) = true, decide (f.p ≥ 0) = true, decide (f.p ≤ 1000) = true, decide (f.q ≥ 1) = true, decide (f.q ≤ 1000) = false] (by kernel_rfl) ⟨decide_eq_true h1, decide_eq_true h2, decide_eq_true h3, decide_eq_true h4, decide_eq_true h5, decide_eq_false h6, trivial⟩
 rw [decide_eq_true (show f.ok by unfold Flm.ok; omega)]
 exact run11 f w [some true, some true, some true, some true, some true, some true] true [decide (f.ix ≥ 10000000) = true, decide (f.ix ≤ 40000000) = true, decide (f.p ≥ 0) = true, decide (f.p ≤ 1000) = true, decide (f.q ≥ 1) = true, decide (f.q ≤ 1000) = true] (by kernel_rfl) ⟨decide_eq_true h1, decide_eq_true h2, decide_eq_true h3, decide_eq_true h4, decide_eq_true h5, decide_eq_true h6, trivial⟩
def film11Run (args : List SA) (bk : List (Nat × Blk)) (orc : List (Option Bool)) : Option (SV × List Prop × List (Option Bool)) :=
 match args with
 | [.agg [.sym a, .sym b, .sym c]] => some (.a (.one (.tst (decide (Flm.ok ⟨a, b, c⟩)))), [], orc)
 | _ => none
def specFilm11 (w0 : World) (X : Nat → Prop) : Ctr qDen Tryz.prog w0 X := .plain (75) (film11Run) <| by
    intro args bk orc v obl orc' hr hobl ρ w vals hfr hb hargs
    unfold film11Run at hr
    split at hr
    ·rename_i a b c
     cases hr
     obtain ⟨v1, r1, rfl, h1, h2⟩ := hargs
     obtain rfl : r1 = [] := h2
     obtain rfl := film_den h1
     refine (r11film_ok ⟨a, b, c⟩ w).mono ?_
     rintro e w' ⟨rfl, hbl⟩
     exact ⟨_, rfl, rfl, hbl⟩
    ·cases hr
def sums (w0 : World) (X : Nat → Prop) : List (Ctr qDen Tryz.prog w0 X) := [specAdd w0 X, specSub w0 X, specMul w0 X, specDiv w0 X, specOf17 w0 X, specFilm11 w0 X]
theorem r40times_ok (x y : Mat) (hf : MFits x y) (Cx Cy : Array Value) (Bs : Nat) (w : World) (bs : Box w Bs 131 #[.int .i64 0]) (hx : MV w Cx x) (hy : MV w Cy y) :
  Calls Tryz.prog 91 #[.pointer (some ⟨Bs, 0, none⟩), .agg Cx, .agg Cy] w fun e w' => ∃ C, e = .returned (.agg C) ∧ MV w' C (x.mul y) ∧ Below w.heap.size w w' := by
 have h0 : ∀ k B, (fun k => if k = 0 then some (⟨Bs, 0, false⟩ : Pl) else none : Nm) k = some B → k = 0 ∧ B = ⟨Bs, 0, false⟩ := by
  intro k B hk
  dsimp only at hk
  split at hk
  ·rename_i e; cases hk; exact ⟨e, rfl⟩
  ·cases hk
 refine (evRun (w := w) (X := fun i => i = Bs) (d := 3) (orc := []) (c := 1) (bk := [(0, ⟨131, [.val (.int .i64 0)], false⟩)]) (args := [.one (.ptr 0 0), .agg [.quo x.a, .quo x.b, .quo x.c, .quo x.d], .agg [.quo y.a, .quo y.b, .quo y.c, .quo y.d]]) wide_ (sums w _)
  (.a (.agg [.quo (x.mul y).a, .quo (x.mul y).b, .quo (x.mul y).c, .quo (x.mul y).d])) [Fits (x.a * y.a), Fits (x.b * y.c), Fits (x.a * y.a - x.b * y.c), Fits (x.a * y.b), Fits (x.b * y.d), Fits (x.a * y.b + x.b * y.d), Fits (x.c * y.a), Fits (x.d * y.c), Fits (x.c * y.a + x.d * y.c), Fits (x.d * y.d), Fits (x.c * y.b), Fits (x.d * y.d - x.c * y.b)]
  (fun k => if k = 0 then some ⟨Bs, 0, false⟩ else none) (by kernel_rfl) ?_ (fun k hk => ?_) (fun k k' B B' h1 h2 _ => ?_) (fun k B h1 => ?_) (fun k bl hk => ?_) (vals := [.pointer (some ⟨Bs, 0, none⟩), .agg Cx, .agg Cy]) ⟨_, _, rfl, ⟨⟨Bs, 0, false⟩, rfl, rfl⟩, _, _, rfl, den_mat.2 ⟨Cx, rfl, hx⟩, _, _, rfl, den_mat.2 ⟨Cy, rfl, hy⟩, rfl⟩).mono ?_
 ·exact ⟨hf.pr _ _ (by simp) (by simp), hf.pr _ _ (by simp) (by simp), hf.a, hf.pr _ _ (by simp) (by simp), hf.pr _ _ (by simp) (by simp), hf.b, hf.pr _ _ (by simp) (by simp), hf.pr _ _ (by simp) (by simp), hf.c, hf.pr _ _ (by simp) (by simp), hf.pr _ _ (by simp) (by simp), hf.d, trivial⟩
 ·show (if k = 0 then _ else none) = none
  rw [if_neg (by omega)]
 ·obtain ⟨rfl, _⟩ := h0 k B h1
  obtain ⟨rfl, _⟩ := h0 k' B' h2
  exact .inl rfl
 ·obtain ⟨_, rfl⟩ := h0 k B h1
  exact bs.lt
 ·rw [lookup_cons] at hk
  split at hk
  ·rename_i e
   cases hk
   subst e
   exact ⟨by omega, ⟨Bs, 0, false⟩, [.int .i64 0], rfl, rfl, .inr ⟨rfl, rfl, bs⟩, ⟨_, _, rfl, ⟨rfl, rfl⟩, rfl⟩, fun _ => ⟨rfl, rfl⟩⟩
  ·simp at hk
 ·rintro e w' ⟨v, ρ', rfl, hv, hb⟩
  obtain ⟨C, rfl, hC⟩ := den_mat.1 hv
  exact ⟨C, rfl, hC, hb⟩
theorem r40film_ok (f : Flm) (hf : f.ok) (w : World) : Calls Tryz.prog 25 #[.agg f.vals] w fun e w' => ∃ C, e = .returned (.tuple #[.agg C, .int .i64 0]) ∧ MV w' C f.mat ∧ Below w.heap.size w w' := by
 obtain ⟨hm, hsin, hcos, hix⟩ := film_hs hf
 have fits_b := hm.2.1.fits (by decide)
 have fits_c := hm.2.2.1.fits (by decide)
 have hn0 : 0 < Rat.divInt f.ix 10000000 := idx_pos0 hf.1
 have hf' := hf
 obtain ⟨i1, i2, p1, p2, q1, q2⟩ := hf
 have pq : (f.p * f.q).natAbs ≤ 1000 * 1000 := mul_in (by omega) (by omega)
 have pp : (f.p * f.p).natAbs ≤ 1000 * 1000 := mul_in (by omega) (by omega)
 have qq : (f.q * f.q).natAbs ≤ 1000 * 1000 := mul_in (by omega) (by omega)
 have pq2 : 2 * f.p * f.q = 2 * (f.p * f.q) := by grind
 have hq0 : 0 < f.q * f.q := Int.mul_pos (by omega) (by omega)
 have hp0 : 0 ≤ f.p * f.p := Int.mul_nonneg (by omega) (by omega)
 refine (evRun0 (d := 3) (orc := [some true]) (args := [.agg [.sym f.ix, .sym f.p, .sym f.q]]) wide_ (sums w _) (.tup [.agg [.quo f.mat.a, .quo f.mat.b, .quo f.mat.c, .quo f.mat.d], .one (.val (.int .i64 0))])
  [decide f.ok = true, inR (f.q * f.q), inR (f.p * f.p), inR (f.q * f.q + f.p * f.p), inR (f.q * f.q), inR (f.p * f.p), inR (f.q * f.q - f.p * f.p), inR (f.q * f.q - f.p * f.p), 0 < f.q * f.q + f.p * f.p ∧ f.q * f.q + f.p * f.p ≤ 9223372036854775807,
   inR (2 * f.p), inR (2 * f.p * f.q), inR (2 * f.p * f.q), 0 < f.q * f.q + f.p * f.p ∧ f.q * f.q + f.p * f.p ≤ 9223372036854775807, inR f.ix, (0 : Int) < 10000000 ∧ (10000000 : Int) ≤ 9223372036854775807, 0 < Rat.divInt f.ix 10000000, Fits f.mat.b, Fits f.mat.c]
  (by kernel_rfl) ?_ (vals := [.agg f.vals]) ⟨_, _, rfl, den_film f, rfl⟩).mono ?_
 ·unfold inR
  exact ⟨decide_eq_true hf', by omega, by omega, by omega, by omega, by omega, by omega, by omega, by omega, by omega, by omega, by omega, by omega, by omega, by omega, hn0, fits_b, fits_c, trivial⟩
 ·rintro e w' ⟨v, ρ', rfl, ⟨vs, rfl, v1, r1, rfl, h1, v2, r2, rfl, h2, h3⟩, hb⟩
  obtain rfl : r2 = [] := h3
  obtain ⟨C, rfl, hC⟩ := den_mat.1 h1
  refine ⟨C, ?_, hC, hb⟩
  rw [show v2 = .int .i64 0 by simpa using h2.1]
theorem r40film_no (f : Flm) (hf : ¬ f.ok) (w : World) : Calls Tryz.prog 25 #[.agg f.vals] w fun e w' => e = .returned (.tuple #[.agg quad0, .int .i64 400]) ∧ Below w.heap.size w w' := by
 refine (evRun0 (d := 3) (orc := [some false]) (args := [.agg [.sym f.ix, .sym f.p, .sym f.q]]) wide_ (sums w _) (.tup [.agg (quad0.toList.map .val), .one (.val (.int .i64 400))])
  [decide f.ok = false] (by kernel_rfl) ⟨decide_eq_false hf, trivial⟩ (vals := [.agg f.vals]) ⟨_, _, rfl, den_film f, rfl⟩).mono ?_
 rintro e w' ⟨v, ρ', rfl, ⟨vs, rfl, v1, r1, rfl, h1, v2, r2, rfl, h2, h3⟩, hb⟩
 obtain rfl : r2 = [] := h3
 have hr : realA (.agg (quad0.toList.map .val)) = some (.agg quad0) := rfl
 rw [realA_den hr h1, show v2 = .int .i64 400 by simpa using h2.1]
 exact ⟨rfl, hb⟩
end Go.Proofs.YtdgodcgdlfjpaaaGreatDoor
namespace Go.Proofs.YtdgodcgdlfjpaaaGreatDoor
open Go.RowKit Go.Mono Go.Ev
def film40Run (args : List SA) (bk : List (Nat × Blk)) (orc : List (Option Bool)) : Option (SV × List Prop × List (Option Bool)) :=
 match args with
 | [.agg [.sym a, .sym b, .sym c]] => some (.tup [.agg [.quo (Flm.mat ⟨a, b, c⟩).a, .quo (Flm.mat ⟨a, b, c⟩).b, .quo (Flm.mat ⟨a, b, c⟩).c, .quo (Flm.mat ⟨a, b, c⟩).d], .one (.val (.int .i64 0))], [Flm.ok ⟨a, b, c⟩], orc)
 | _ => none
theorem den_tup2 {ρ : Nm} {w : World} {a b : SA} {u v : Value} (h1 : denA qDen ρ w a u) (h2 : denA qDen ρ w b v) : denV qDen ρ w (.tup [a, b]) (.tuple #[u, v]) := ⟨[u, v], rfl, u, [v], rfl, h1, v, [], rfl, h2, rfl⟩
def specFilm40 (w0 : World) (X : Nat → Prop) : Ctr qDen Tryz.prog w0 X := .plain (25) (film40Run) <| by
    intro args bk orc v obl orc' hr hobl ρ w vals hfr hb hargs
    unfold film40Run at hr
    split at hr
    ·rename_i a b c
     cases hr
     obtain ⟨v1, r1, rfl, h1, h2⟩ := hargs
     obtain rfl : r1 = [] := h2
     obtain rfl := film_den h1
     refine (r40film_ok ⟨a, b, c⟩ (hobl _ (List.mem_singleton.2 rfl)) w).mono ?_
     rintro e w' ⟨C, rfl, hC, hbl⟩
     exact ⟨_, rfl, den_tup2 (den_mat.2 ⟨C, rfl, hC⟩) ⟨rfl, rfl⟩, hbl⟩
    ·cases hr
def timesRun (args : List SA) (bk : List (Nat × Blk)) (orc : List (Option Bool)) : Option (SV × List Prop × List (Option Bool)) :=
 match args with
 | [.one (.ptr k 0), .agg [.quo a, .quo b, .quo c, .quo d], .agg [.quo a', .quo b', .quo c', .quo d']] => if okSums bk k then
   some (.a (.agg [.quo (Mat.mul ⟨a, b, c, d⟩ ⟨a', b', c', d'⟩).a, .quo (Mat.mul ⟨a, b, c, d⟩ ⟨a', b', c', d'⟩).b, .quo (Mat.mul ⟨a, b, c, d⟩ ⟨a', b', c', d'⟩).c, .quo (Mat.mul ⟨a, b, c, d⟩ ⟨a', b', c', d'⟩).d]), [MFits ⟨a, b, c, d⟩ ⟨a', b', c', d'⟩], orc) else none
 | _ => none
def specTimes40 (w0 : World) (X : Nat → Prop) : Ctr qDen Tryz.prog w0 X := .plain (91) (timesRun) <| by
    intro args bk orc v obl orc' hr hobl ρ w vals hfr hb hargs
    unfold timesRun at hr
    split at hr
    ·rename_i k a b c d a' b' c' d'
     split at hr
     ·rename_i hk
      cases hr
      obtain ⟨v1, r1, rfl, h1, v2, r2, rfl, h2, v3, r3, rfl, h3, h4⟩ := hargs
      obtain rfl : r3 = [] := h4
      obtain ⟨B, hB, hbase, bx⟩ := okSums_box hk hb
      obtain ⟨B', hB', e1⟩ := h1
      cases hB.symm.trans hB'
      have e2 : v1 = .pointer (some ⟨B.blk, 0, none⟩) := by rw [hbase] at e1; simpa using e1
      subst e2
      obtain ⟨C2, rfl, q2⟩ := (den_mat (m := ⟨a, b, c, d⟩)).1 h2
      obtain ⟨C3, rfl, q3⟩ := (den_mat (m := ⟨a', b', c', d'⟩)).1 h3
      refine (r40times_ok ⟨a, b, c, d⟩ ⟨a', b', c', d'⟩ (hobl _ (List.mem_singleton.2 rfl)) C2 C3 B.blk w bx q2 q3).mono ?_
      rintro e w' ⟨C, rfl, hC, hbl⟩
      exact ⟨_, rfl, den_mat.2 ⟨C, rfl, hC⟩, hbl⟩
     ·cases hr
    ·cases hr
def stackSp (w0 : World) (X : Nat → Prop) : List (Ctr qDen Tryz.prog w0 X) := [specTimes40 w0 X, specFilm40 w0 X, specFilm11 w0 X, specOf17 w0 X]
def Flm.tell (f : Flm) : Flm := ⟨f.ix, f.p, f.q⟩
def Mat.tell (m : Mat) : Mat := ⟨m.a, m.b, m.c, m.d⟩
def stackE (F : Nat → Flm) : Nat → Mat
 | 0 => ⟨Rat.divInt 1 1, Rat.divInt 0 1, Rat.divInt 0 1, Rat.divInt 1 1⟩
 | k + 1 => Mat.mul ⟨(stackE F k).a, (stackE F k).b, (stackE F k).c, (stackE F k).d⟩ ⟨(Flm.mat ⟨(F k).ix, (F k).p, (F k).q⟩).a, (Flm.mat ⟨(F k).ix, (F k).p, (F k).q⟩).b, (Flm.mat ⟨(F k).ix, (F k).p, (F k).q⟩).c, (Flm.mat ⟨(F k).ix, (F k).p, (F k).q⟩).d⟩
theorem stackE_eq (F : Nat → Flm) : ∀ n, stackE F n = stackN F n
 | 0 => by
   show (⟨Rat.divInt 1 1, Rat.divInt 0 1, Rat.divInt 0 1, Rat.divInt 1 1⟩ : Mat) = Mat.one
   rw [show Rat.divInt 1 1 = 1 from by decide +kernel, show Rat.divInt 0 1 = 0 from by decide +kernel]
   rfl
 | k + 1 => by
   rw [stackN_succ, ← stackE_eq F k]
   rfl
def filmU (F : Nat → Flm) (n : Nat) : List U := (List.range n).flatMap fun i => [.sym (F i).ix, .sym (F i).p, .sym (F i).q]
def matU (m : Mat) : SA := .agg [.quo m.a, .quo m.b, .quo m.c, .quo m.d]
def stackL (F : Nat → Flm) (n : Nat) : List Prop :=
 (List.range n).map (fun i => decide (Flm.ok ⟨(F i).ix, (F i).p, (F i).q⟩) = true) ++ ([inR 1, (0 : Int) < 1 ∧ (1 : Int) ≤ 9223372036854775807, inR 0, (0 : Int) < 1 ∧ (1 : Int) ≤ 9223372036854775807] ++
  (List.range n).flatMap fun i => [Flm.ok ⟨(F i).ix, (F i).p, (F i).q⟩, MFits ⟨(stackE F i).a, (stackE F i).b, (stackE F i).c, (stackE F i).d⟩ ⟨(Flm.mat ⟨(F i).ix, (F i).p, (F i).q⟩).a, (Flm.mat ⟨(F i).ix, (F i).p, (F i).q⟩).b, (Flm.mat ⟨(F i).ix, (F i).p, (F i).q⟩).c, (Flm.mat ⟨(F i).ix, (F i).p, (F i).q⟩).d⟩])
def yes (n : Nat) : List (Option Bool) := List.replicate n (some true)
def filmVs (F : Nat → Flm) (n : Nat) : List Value := (List.range n).flatMap fun i => [.int .i64 (F i).ix, .int .i64 (F i).p, .int .i64 (F i).q]
theorem filmVs_len (F : Nat → Flm) : ∀ n, (filmVs F n).length = n * 3
 | 0 => rfl
 | n + 1 => by
   have ih := filmVs_len F n
   unfold filmVs at ih ⊢
   rw [List.range_succ, List.flatMap_append, List.length_append, ih]
   simp
   omega
theorem filmU_den (F : Nat → Flm) (ρ : Nm) (w : World) : ∀ n, denL qDen ρ w (filmU F n) (filmVs F n)
 | 0 => rfl
 | n + 1 => by
   have ih := filmU_den F ρ w n
   unfold filmU filmVs at ih ⊢
   rw [List.range_succ, List.flatMap_append, List.flatMap_append]
   refine ih.append ?_
   exact ⟨[.int .i64 (F n).ix], _, rfl, rfl, [.int .i64 (F n).p], _, rfl, rfl, [.int .i64 (F n).q], [], rfl, rfl, rfl⟩
theorem rangeAt_app {w : World} {b o : Nat} {l m : List Value} (h : w.rangeAt b o l) (g : w.rangeAt b (o + l.length) m) : w.rangeAt b o (l ++ m) := by
 intro j v hj
 by_cases hl : j < l.length
 ·rw [List.getElem?_append_left hl] at hj
  exact h j v hj
 ·rw [List.getElem?_append_right (by omega)] at hj
  have := g _ v hj
  rwa [show o + l.length + (j - l.length) = o + j by omega] at this
theorem films_view {w : World} {F : Nat → Flm} {n c : Nat} {p : Option Addr} (hn : 0 < n) (h : FilmsAt w p n c F) :
  ∃ b off, p = some ⟨b, off, none⟩ ∧ b < w.heap.size ∧ w.rangeAt b off (filmVs F n) := by
 obtain ⟨b, off, hp, hb, hr⟩ := h.range hn
 refine ⟨b, off, hp, hb, ?_⟩
 have key : ∀ m, m ≤ n → w.rangeAt b off (filmVs F m) := by
  intro m
  induction m with
  | zero => intro _ j v hj; simp [filmVs] at hj
  | succ m ih =>
    intro hm
    have h1 := ih (by omega)
    have h2 := hr m (by omega) w (Below.refl _ _)
    have e : filmVs F (m + 1) = filmVs F m ++ (F m).vals.toList := by
     unfold filmVs
     rw [List.range_succ, List.flatMap_append]
     simp [Flm.vals]
    rw [e]
    exact rangeAt_app h1 (by rw [filmVs_len]; exact h2)
 exact key n (Nat.le_refl n)
def filmBk (F : Nat → Flm) (n : Nat) : List (Nat × Blk) := [(0, ⟨24, filmU F n, true⟩)]
theorem evRunF {w : World} (sp : List (Ctr qDen Tryz.prog w (fun _ => False))) {F : Nat → Flm} {n c : Nat} {p : Option Addr} (hn : 0 < n) (h : FilmsAt w p n c F) {f : FuncId} {d : Nat} {args : List SA} {orc : List (Option Bool)} (V : SV) (L : List Prop)
  (hev : (evF Tryz.prog sp d f args (filmBk F n) 1 orc).map (fun r => (r.v, r.obl, fin (filmBk F n) r.wr)) = some (V, L, ini (filmBk F n))) (hL : AllP L) {vals : List Value}
  (hargs : ∀ ρ : Nm, (∃ B, ρ 0 = some B ∧ p = some ⟨B.blk, B.base, none⟩) → denAs qDen ρ w args vals) :
  Calls Tryz.prog f vals.toArray w fun e w' => ∃ v ρ', e = .returned v ∧ denV qDen ρ' w' V v ∧ Below w.heap.size w w' := by
 obtain ⟨b, off, hp, hb, hr⟩ := films_view hn h
 have h0 : ∀ k B, (fun k => if k = 0 then some (⟨b, off, true⟩ : Pl) else none : Nm) k = some B → k = 0 ∧ B = ⟨b, off, true⟩ := by
  intro k B hk
  dsimp only at hk
  split at hk
  ·rename_i e; cases hk; exact ⟨e, rfl⟩
  ·cases hk
 refine evRun wide_ sp V L (fun k => if k = 0 then some ⟨b, off, true⟩ else none) hev hL (fun k hk => ?_) (fun k k' B B' h1 h2 _ => ?_) (fun k B h1 => ?_) (fun k bl hk => ?_) (hargs _ ⟨⟨b, off, true⟩, rfl, hp⟩)
 ·show (if k = 0 then _ else none) = none
  rw [if_neg (by omega)]
 ·obtain ⟨rfl, _⟩ := h0 k B h1
  obtain ⟨rfl, _⟩ := h0 k' B' h2
  exact .inl rfl
 ·obtain ⟨_, rfl⟩ := h0 k B h1
  exact hb
 ·unfold filmBk at hk
  rw [lookup_cons] at hk
  split at hk
  ·rename_i e
   cases hk
   subst e
   exact ⟨by omega, ⟨b, off, true⟩, filmVs F n, rfl, rfl, .inl ⟨rfl, hr⟩, filmU_den F _ w n, fun hh => by cases hh⟩
  ·simp at hk
theorem AllP.of : ∀ {l : List Prop}, (∀ p ∈ l, p) → AllP l
 | [], _ => trivial
 | p :: r, h => ⟨h p (by simp), AllP.of fun q hq => h q (by simp [hq])⟩
theorem stack_run (w : World) (F : Nat → Flm) (n c : Nat) (h0 : 0 < n) (hn : n ≤ 8) : (evF Tryz.prog (stackSp w (fun _ => False)) 3 28 [.one (.slc 0 0 n c)] (filmBk F n) 1 (yes n)).map (fun r => (r.v, r.obl, fin (filmBk F n) r.wr)) = some (.tup [matU (stackE F n), .one (.val (.int .i64 0))], stackL F n, ini (filmBk F n)) := by
 rcases (show n = 1 ∨ n = 2 ∨ n = 3 ∨ n = 4 ∨ n = 5 ∨ n = 6 ∨ n = 7 ∨ n = 8 by omega) with rfl | rfl | rfl | rfl | rfl | rfl | rfl | rfl <;> kernel_rfl
theorem stackL_ok (F : Nat → Flm) (n : Nat) (hn : n ≤ 8) (hF : ∀ i, i < n → (F i).ok) : AllP (stackL F n) := by
 apply AllP.of
 intro p hp
 unfold stackL at hp
 rcases List.mem_append.1 hp with hp | hp
 ·obtain ⟨i, hi, rfl⟩ := List.mem_map.1 hp
  exact decide_eq_true (hF i (List.mem_range.1 hi))
 ·rcases List.mem_append.1 hp with hp | hp
  ·simp only [List.mem_cons, List.not_mem_nil, or_false] at hp
   rcases hp with rfl | rfl | rfl | rfl <;> first | (unfold inR; decide) | decide
  ·obtain ⟨i, hi, hp⟩ := List.mem_flatMap.1 hp
   have hi := List.mem_range.1 hi
   simp only [List.mem_cons, List.not_mem_nil, or_false] at hp
   rcases hp with rfl | rfl
   ·exact hF i hi
   ·have := mfitsN (F := F) (n := i) (fun j hj => hF j (by omega)) (by omega)
    rw [← stackE_eq] at this
    exact this
theorem r40stack_ok (F : Nat → Flm) (n : Nat) (hn : n ≤ 8) (hF : ∀ i, i < n → (F i).ok) (p : Option Addr) (c : Nat) (w : World) (h : FilmsAt w p n c F) :
  Calls Tryz.prog 28 #[.slice p n c] w fun e w' => ∃ C, e = .returned (.tuple #[.agg C, .int .i64 0]) ∧ MV w' C (stackN F n) ∧ Below w.heap.size w w' := by
 have fini : ∀ {e : Ending} {w' : World}, (∃ v ρ', e = .returned v ∧ denV qDen ρ' w' (.tup [matU (stackE F n), .one (.val (.int .i64 0))]) v ∧ Below w.heap.size w w') → ∃ C, e = .returned (.tuple #[.agg C, .int .i64 0]) ∧ MV w' C (stackN F n) ∧ Below w.heap.size w w' := by
  rintro e w' ⟨v, ρ', rfl, ⟨vs, rfl, v1, r1, rfl, h1, v2, r2, rfl, h2, h3⟩, hb⟩
  obtain rfl : r2 = [] := h3
  obtain ⟨C, rfl, hC⟩ := den_mat.1 h1
  refine ⟨C, ?_, by rw [← stackE_eq]; exact hC, hb⟩
  rw [show v2 = .int .i64 0 by simpa using h2.1]
 by_cases h0 : 0 < n
 ·refine (evRunF (stackSp w _) h0 h _ _ (stack_run w F n c h0 hn) (stackL_ok F n hn hF) (vals := [.slice p n c]) ?_).mono fun e w' h => fini h
  rintro ρ ⟨B, hB, rfl⟩
  exact ⟨_, _, rfl, ⟨B, hB, rfl⟩, rfl⟩
 ·obtain rfl : n = 0 := by omega
  refine (evRun0 (d := 3) (orc := []) (args := [.one (.val (.slice p 0 c))]) wide_ (stackSp w _) _ (stackL F 0) (by kernel_rfl) (stackL_ok F 0 (by omega) (fun i hi => by omega)) (vals := [.slice p 0 c]) ⟨_, _, rfl, ⟨rfl, rfl⟩, rfl⟩).mono fun e w' h => fini h
theorem r40stack_long (F : Nat → Flm) (n : Nat) (hn : n = 9 ∨ n = 10) (p : Option Addr) (c : Nat) (w : World) :
  Calls Tryz.prog 28 #[.slice p n c] w fun e w' => e = .returned (.tuple #[.agg quad0, .int .i64 3]) ∧ Below w.heap.size w w' := by
 have hev : (evF Tryz.prog (stackSp w (fun _ => False)) 3 28 [.one (.val (.slice p n c))] [] 0 []).map (fun r => (r.v, r.obl)) = some (.tup [.agg (quad0.toList.map .val), .one (.val (.int .i64 3))], []) := by
  rcases hn with rfl | rfl <;> kernel_rfl
 refine (evRun0 wide_ _ _ _ hev trivial (vals := [.slice p n c]) ⟨_, _, rfl, ⟨rfl, rfl⟩, rfl⟩).mono ?_
 rintro e w' ⟨v, ρ', rfl, ⟨vs, rfl, v1, r1, rfl, h1, v2, r2, rfl, h2, h3⟩, hb⟩
 obtain rfl : r2 = [] := h3
 have hr : realA (.agg (quad0.toList.map .val)) = some (.agg quad0) := rfl
 rw [realA_den hr h1, show v2 = .int .i64 3 by simpa using h2.1]
 exact ⟨rfl, hb⟩
def badL (F : Nat → Flm) (j : Nat) : List Prop := (List.range j).map (fun i => decide (Flm.ok ⟨(F i).ix, (F i).p, (F i).q⟩) = true) ++ [decide (Flm.ok ⟨(F j).ix, (F j).p, (F j).q⟩) = false]
theorem stack_bad (w : World) (F : Nat → Flm) (n c j : Nat) (hj : j < n) (hn : n ≤ 8) : (evF Tryz.prog (stackSp w (fun _ => False)) 3 28 [.one (.slc 0 0 n c)] (filmBk F n) 1 (yes j ++ [some false])).map (fun r => (r.v, r.obl, fin (filmBk F n) r.wr)) = some (.tup [.agg (quad0.toList.map .val), .one (.val (.int .i64 400))], badL F j, ini (filmBk F n)) := by
 rcases (show n = 1 ∨ n = 2 ∨ n = 3 ∨ n = 4 ∨ n = 5 ∨ n = 6 ∨ n = 7 ∨ n = 8 by omega) with rfl | rfl | rfl | rfl | rfl | rfl | rfl | rfl <;>
  rcases (show j = 0 ∨ j = 1 ∨ j = 2 ∨ j = 3 ∨ j = 4 ∨ j = 5 ∨ j = 6 ∨ j = 7 by omega) with rfl | rfl | rfl | rfl | rfl | rfl | rfl | rfl <;> first | (exfalso; omega) | kernel_rfl
theorem r40stack_bad (F : Nat → Flm) (n j : Nat) (hn : n ≤ 8) (hj : j < n) (hF : ∀ i, i < j → (F i).ok) (hb : ¬ (F j).ok) (p : Option Addr) (c : Nat) (w : World) (h : FilmsAt w p n c F) :
  Calls Tryz.prog 28 #[.slice p n c] w fun e w' => e = .returned (.tuple #[.agg quad0, .int .i64 400]) ∧ Below w.heap.size w w' := by
 have hL : AllP (badL F j) := by
  apply AllP.of
  intro p hp
  rcases List.mem_append.1 hp with hp | hp
  ·obtain ⟨i, hi, rfl⟩ := List.mem_map.1 hp
   exact decide_eq_true (hF i (List.mem_range.1 hi))
  ·obtain rfl := List.mem_singleton.1 hp
   exact decide_eq_false hb
 refine (evRunF (stackSp w _) (by omega) h _ _ (stack_bad w F n c j hj hn) hL (vals := [.slice p n c]) ?_).mono ?_
 ·rintro ρ ⟨B, hB, rfl⟩
  exact ⟨_, _, rfl, ⟨B, hB, rfl⟩, rfl⟩
 ·rintro e w' ⟨v, ρ', rfl, ⟨vs, rfl, v1, r1, rfl, h1, v2, r2, rfl, h2, h3⟩, hb⟩
  obtain rfl : r2 = [] := h3
  have hr : realA (.agg (quad0.toList.map .val)) = some (.agg quad0) := rfl
  rw [realA_den hr h1, show v2 = .int .i64 400 by simpa using h2.1]
  exact ⟨rfl, hb⟩
end Go.Proofs.YtdgodcgdlfjpaaaGreatDoor
