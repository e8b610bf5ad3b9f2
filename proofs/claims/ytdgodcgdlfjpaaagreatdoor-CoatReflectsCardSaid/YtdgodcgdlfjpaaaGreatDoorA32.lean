/- Contracts of package coat and of the examples of its law, for the laws of layer 40. Part 32 of 40. No condition beside the row. -/
import Derived.Test.YtdgodcgdlfjpaaaGreatDoorA31
set_option linter.unusedVariables false
set_option linter.unusedSimpArgs false
set_option maxRecDepth 100000
set_option maxHeartbeats 4000000
namespace Go.Proofs.YtdgodcgdlfjpaaaGreatDoor
open Go.RowKit Go.Mono
theorem crow0_ok (x y : Mat) (hf : MFits x y) (Cx Cy : Array Value) (Ba Bb : Nat) (w : World) (ba : Box w Ba 57 Cx) (bb : Box w Bb 57 Cy) (hx : MV w Cx x) (hy : MV w Cy y) :
  Calls Tryz.prog 161 #[.int .i64 0, .pointer (some ⟨Ba, 0, none⟩), .pointer (some ⟨Bb, 0, none⟩)] w fun e w' => ∃ x0 x1 x2 x3 y0 y1 y2 y3 : Value, e = .returned (.agg #[x0, x1, x2, x3, y0, y1, y2, y3]) ∧ QV w' (.agg #[x0, x1, x2, x3]) (x.mul y).a ∧ QV w' (.agg #[y0, y1, y2, y3]) (x.mul y).b ∧ Below w.heap.size w w' := by
 have f1 := hf.pr x.a y.a (by simp) (by simp)
 have f2 := hf.pr x.b y.c (by simp) (by simp)
 have f3 := hf.pr x.a y.b (by simp) (by simp)
 have f4 := hf.pr x.b y.d (by simp) (by simp)
 have f5 := hf.a
 have f6 := hf.b
 clear hf
 obtain ⟨m0, m1, m2, m3, n0, n1, n2, n3, k0, k1, k2, k3, l0, l1, l2, l3, rfl, xa, xb, xc, xd⟩ := hx.parts
 obtain ⟨p0, p1, p2, p3, q0, q1, q2, q3, r0, r1, r2, r3, s0, s1, s2, s3, rfl, yp, yq, yr, ys⟩ := hy.parts
 clear hx hy
 go_enter Tryz.func161, Tryz.ntmps161
 go_wp2_with (refine wpList_new rfl 55 rfl _ alloc_q2 ?_; intro W BO hleO hB bO; replace ba := ba.below hB; replace bb := bb.below hB)
 replace xa := xa.ext (.of_below hB)
 replace xb := xb.ext (.of_below hB)
 replace xc := xc.ext (.of_below hB)
 replace xd := xd.ext (.of_below hB)
 replace yp := yp.ext (.of_below hB)
 replace yq := yq.ext (.of_below hB)
 replace yr := yr.ext (.of_below hB)
 replace ys := ys.ext (.of_below hB)
 have lba := ba.lt
 have lbb := bb.lt
 have lO := bO.lt

 try simp only [Act.put, List.setIfInBounds_toArray, List.set_cons_zero, List.set_cons_succ]
 generalize ha : Act.mk _ [] = aX
 refine wp_mono (Q := fun e a' V => match e with | .normal => ∃ (v9 v10 v11 v12 v13 v14 v15 v16 v17 v18 v19 v20 v21 v22 v23 v24 : Value) (B3 B4 : Nat) (C3 C4 : Array Value), a' = ((((((((((((((((((aX.put (some 9) v9).put (some 10) v10).put (some 11) v11).put (some 12) v12).put (some 13) v13).put (some 14) v14).put (some 15) v15).put (some 16) v16).put (some 17) v17).put (some 18) v18).put (some 19) v19).put (some 20) v20).put (some 21) v21).put (some 22) v22).put (some 23) v23).put (some 24) v24).put (some 5) (.pointer (some ⟨B3, 0, none⟩))).put (some 6) (.pointer (some ⟨B4, 0, none⟩))) ∧ Below W.heap.size W V ∧ W.heap.size ≤ B3 ∧ Box V B3 37 C3 ∧ QV V (.agg C3) (x.a * y.a) ∧ W.heap.size ≤ B4 ∧ Box V B4 37 C4 ∧ QV V (.agg C4) (x.b * y.c) ∧ B3 ≠ B4 | _ => False) ?_ ?_
 ·subst ha
  refine wp_region_held_drew (S := fun w' => (∀ b o, b < W.heap.size → w'.cell? ⟨b, o, none⟩ = W.cell? ⟨b, o, none⟩) ∧ Below W.heap.size W w') (by as_aux_lemma => kernel_rfl) (belowS (Below.refl _ _).drew) (fun hHeld => ?_)
  have hBel : Below W.heap.size W W.drew := (Below.refl _ _).drew
  refine tk 0 (some 9) ?_
  refine tk 1 (some 10) ?_
  refine tk 2 (some 11) ?_
  refine tl 3 (some 12) rfl (.agg #[m0, m1, m2, m3]) (exec_load 37 _ rfl Ba 0 rfl  #[m0, m1, m2, m3] (fun w h => (ba.below h.2).part 0 #[m0, m1, m2, m3] rfl) _ Tryz.underlying37 rfl sizeQuot) ?_
  refine tk 4 (some 13) ?_
  refine tk 5 (some 14) ?_
  refine tl 6 (some 15) rfl (.agg #[p0, p1, p2, p3]) (exec_load 37 _ rfl Bb 0 rfl  #[p0, p1, p2, p3] (fun w h => (bb.below h.2).part 0 #[p0, p1, p2, p3] rfl) _ Tryz.underlying37 rfl sizeQuot) ?_
  refine tk 8 (some 17) ?_
  refine tk 9 (some 18) ?_
  refine tk 10 (some 19) ?_
  refine tl 11 (some 20) rfl (.agg #[n0, n1, n2, n3]) (exec_load 37 _ rfl Ba 4 rfl  #[n0, n1, n2, n3] (fun w h => (ba.below h.2).part 4 #[n0, n1, n2, n3] rfl) _ Tryz.underlying37 rfl sizeQuot) ?_
  refine tk 12 (some 21) ?_
  refine tk 13 (some 22) ?_
  refine tl 14 (some 23) rfl (.agg #[r0, r1, r2, r3]) (exec_load 37 _ rfl Bb 8 rfl  #[r0, r1, r2, r3] (fun w h => (bb.below h.2).part 8 #[r0, r1, r2, r3] rfl) _ Tryz.underlying37 rfl sizeQuot) ?_
  refine Mono.Fl.open [⟨16, 5, 37, _⟩, ⟨17, 6, 37, _⟩] (.cons (.of alloc_quot) (.cons (.of alloc_quot) .nil)) (fun hfa => ?_)
  refine Mono.Fl.call 7 16 (fun wc hV => have hBel := belowCall hBel hV; (cmul_ok x.a y.a _ _ _ (xa.ext (.of_below hBel)) (yp.ext (.of_below hBel)) f1)) ?_ (hN := hBel.size)
  intro wc hV hHeld e Wn7 hR
  obtain ⟨C3, rfl, R3, hb3⟩ := hR
  replace hBel := belowCall (belowCall hBel hV) hb3
  refine ⟨hb3, Mono.Fl.pt ?_⟩
  refine Mono.Fl.call 15 24 (fun wc hV => have hBel := belowCall hBel hV; (cmul_ok x.b y.c _ _ _ (xb.ext (.of_below hBel)) (yr.ext (.of_below hBel)) f2)) ?_ (hN := hBel.size)
  intro wc hV hHeld e Wn15 hR
  obtain ⟨C4, rfl, R4, hb4⟩ := hR
  replace hBel := belowCall (belowCall hBel hV) hb4
  replace R3 := R3.ext (.of_below (belowCall hV hb4))
  refine ⟨hb4, Mono.Fl.pt ?_⟩
  refine Mono.Fl.close2 (fun B3 B4 wc hV hHeld hg3 hg4 hne3_4 b3 b4 => ?_) (hN := hBel.size)
  replace hBel := belowCall hBel hV
  replace R3 := R3.ext (.of_below hV)
  replace R4 := R4.ext (.of_below hV)
  replace hg3 : W.heap.size ≤ B3 := hg3
  replace hg4 : W.heap.size ≤ B4 := hg4
  refine Mono.pt ?_
  obtain ⟨_, e3, z3, o3⟩ := R3.cells
  cases e3
  obtain ⟨_, e4, z4, o4⟩ := R4.cells
  cases e4
  refine wpAnyH_storeB B3 37 18 rfl rfl rfl rfl 0 C3 _ C3 (by as_aux_lemma => kernel_rfl) (fun w' i u hS => belowS (hS.2.setCell (p := ⟨B3, i, none⟩) hg3 u)) rfl rfl b3 hHeld (by rw [z3]; exact sizeQuot) (Nat.le_of_eq (by rw [z3]; rfl)) o3 (whole_new (by rw [z3]; rfl)) (fun Ws0 hk0 bs3 hHeld => ?_)
  replace b4 := hk0.box b4 b4.lt (Ne.symm hne3_4)
  replace R3 := R3.ext (hk0.ext b3 (by decide))
  replace R4 := R4.ext (hk0.ext b3 (by decide))
  refine wpAnyH_storeB B4 37 19 rfl rfl rfl rfl 0 C4 _ C4 (by as_aux_lemma => kernel_rfl) (fun w' i u hS => belowS (hS.2.setCell (p := ⟨B4, i, none⟩) hg4 u)) rfl rfl b4 hHeld (by rw [z4]; exact sizeQuot) (Nat.le_of_eq (by rw [z4]; rfl)) o4 (whole_new (by rw [z4]; rfl)) (fun Ws1 hk1 bs4 hHeld => ?_)
  replace bs3 := hk1.box bs3 bs3.lt hne3_4
  replace R3 := R3.ext (hk1.ext b4 (by decide))
  replace R4 := R4.ext (hk1.ext b4 (by decide))
  refine wpAnyH_done (by as_aux_lemma => kernel_rfl) ?_ _
  exact ⟨_, _, _, _, _, _, _, _, _, _, _, _, _, _, _, _, B3, B4, C3, C4, by (simp only [Act.put, List.setIfInBounds_toArray, List.set_cons_zero, List.set_cons_succ]); try rfl, hHeld.2, hg3, bs3, R3, hg4, bs4, R4, hne3_4⟩
 ·rintro e a' V4 hmid
  cases e with
  | normal => ?_
  | _ => exact hmid.elim
  obtain ⟨v9, v10, v11, v12, v13, v14, v15, v16, v17, v18, v19, v20, v21, v22, v23, v24, B3, B4, C3, C4, rfl, hbV, hg3, b3, R3, hg4, b4, R4, hne3_4⟩ := hmid
  subst ha
  simp only [Act.put, List.setIfInBounds_toArray, List.set_cons_zero, List.set_cons_succ]
  replace hB := belowCall hB hbV
  replace ba := ba.below hbV
  replace bb := bb.below hbV
  replace bO := bO.below hbV
  replace xa := xa.ext (.of_below hbV)
  replace xb := xb.ext (.of_below hbV)
  replace xc := xc.ext (.of_below hbV)
  replace xd := xd.ext (.of_below hbV)
  replace yp := yp.ext (.of_below hbV)
  replace yq := yq.ext (.of_below hbV)
  replace yr := yr.ext (.of_below hbV)
  replace ys := ys.ext (.of_below hbV)
  have hO3 : BO < B3 := by omega
  have hO4 : BO < B4 := by omega
  clear hbV lO
  have lO := bO.lt
  go_wp2_with fail
  try simp only [Act.put, List.setIfInBounds_toArray, List.set_cons_zero, List.set_cons_succ]
  generalize ha : Act.mk _ [] = aX
  refine wp_mono (Q := fun e a' V => match e with | .normal => ∃ (v25 v26 v27 v28 v29 v30 v31 v32 v33 v34 v35 v36 v37 v38 v39 v40 : Value) (B5 B6 : Nat) (C5 C6 : Array Value), a' = ((((((((((((((((((aX.put (some 25) v25).put (some 26) v26).put (some 27) v27).put (some 28) v28).put (some 29) v29).put (some 30) v30).put (some 31) v31).put (some 32) v32).put (some 33) v33).put (some 34) v34).put (some 35) v35).put (some 36) v36).put (some 37) v37).put (some 38) v38).put (some 39) v39).put (some 40) v40).put (some 7) (.pointer (some ⟨B5, 0, none⟩))).put (some 8) (.pointer (some ⟨B6, 0, none⟩))) ∧ Below V4.heap.size V4 V ∧ V4.heap.size ≤ B5 ∧ Box V B5 37 C5 ∧ QV V (.agg C5) (x.a * y.b) ∧ V4.heap.size ≤ B6 ∧ Box V B6 37 C6 ∧ QV V (.agg C6) (x.b * y.d) ∧ B5 ≠ B6 | _ => False) ?_ ?_
  ·subst ha
   refine wp_region_held_drew (S := fun w' => (∀ b o, b < V4.heap.size → w'.cell? ⟨b, o, none⟩ = V4.cell? ⟨b, o, none⟩) ∧ Below V4.heap.size V4 w') (by as_aux_lemma => kernel_rfl) (belowS (Below.refl _ _).drew) (fun hHeld => ?_)
   have hBel : Below V4.heap.size V4 V4.drew := (Below.refl _ _).drew
   refine tk 0 (some 25) ?_
   refine tk 1 (some 26) ?_
   refine tk 2 (some 27) ?_
   refine tl 3 (some 28) rfl (.agg #[m0, m1, m2, m3]) (exec_load 37 _ rfl Ba 0 rfl  #[m0, m1, m2, m3] (fun w h => (ba.below h.2).part 0 #[m0, m1, m2, m3] rfl) _ Tryz.underlying37 rfl sizeQuot) ?_
   refine tk 4 (some 29) ?_
   refine tk 5 (some 30) ?_
   refine tl 6 (some 31) rfl (.agg #[q0, q1, q2, q3]) (exec_load 37 _ rfl Bb 4 rfl  #[q0, q1, q2, q3] (fun w h => (bb.below h.2).part 4 #[q0, q1, q2, q3] rfl) _ Tryz.underlying37 rfl sizeQuot) ?_
   refine tk 8 (some 33) ?_
   refine tk 9 (some 34) ?_
   refine tk 10 (some 35) ?_
   refine tl 11 (some 36) rfl (.agg #[n0, n1, n2, n3]) (exec_load 37 _ rfl Ba 4 rfl  #[n0, n1, n2, n3] (fun w h => (ba.below h.2).part 4 #[n0, n1, n2, n3] rfl) _ Tryz.underlying37 rfl sizeQuot) ?_
   refine tk 12 (some 37) ?_
   refine tk 13 (some 38) ?_
   refine tl 14 (some 39) rfl (.agg #[s0, s1, s2, s3]) (exec_load 37 _ rfl Bb 12 rfl  #[s0, s1, s2, s3] (fun w h => (bb.below h.2).part 12 #[s0, s1, s2, s3] rfl) _ Tryz.underlying37 rfl sizeQuot) ?_
   refine Mono.Fl.open [⟨16, 7, 37, _⟩, ⟨17, 8, 37, _⟩] (.cons (.of alloc_quot) (.cons (.of alloc_quot) .nil)) (fun hfa => ?_)
   refine Mono.Fl.call 7 32 (fun wc hV => have hBel := belowCall hBel hV; (cmul_ok x.a y.b _ _ _ (xa.ext (.of_below hBel)) (yq.ext (.of_below hBel)) f3)) ?_ (hN := hBel.size)
   intro wc hV hHeld e Wn7 hR
   obtain ⟨C5, rfl, R5, hb5⟩ := hR
   replace hBel := belowCall (belowCall hBel hV) hb5
   refine ⟨hb5, Mono.Fl.pt ?_⟩
   refine Mono.Fl.call 15 40 (fun wc hV => have hBel := belowCall hBel hV; (cmul_ok x.b y.d _ _ _ (xb.ext (.of_below hBel)) (ys.ext (.of_below hBel)) f4)) ?_ (hN := hBel.size)
   intro wc hV hHeld e Wn15 hR
   obtain ⟨C6, rfl, R6, hb6⟩ := hR
   replace hBel := belowCall (belowCall hBel hV) hb6
   replace R5 := R5.ext (.of_below (belowCall hV hb6))
   refine ⟨hb6, Mono.Fl.pt ?_⟩
   refine Mono.Fl.close2 (fun B5 B6 wc hV hHeld hg5 hg6 hne5_6 b5 b6 => ?_) (hN := hBel.size)
   replace hBel := belowCall hBel hV
   replace R5 := R5.ext (.of_below hV)
   replace R6 := R6.ext (.of_below hV)
   replace hg5 : V4.heap.size ≤ B5 := hg5
   replace hg6 : V4.heap.size ≤ B6 := hg6
   refine Mono.pt ?_
   obtain ⟨_, e5, z5, o5⟩ := R5.cells
   cases e5
   obtain ⟨_, e6, z6, o6⟩ := R6.cells
   cases e6
   refine wpAnyH_storeB B5 37 18 rfl rfl rfl rfl 0 C5 _ C5 (by as_aux_lemma => kernel_rfl) (fun w' i u hS => belowS (hS.2.setCell (p := ⟨B5, i, none⟩) hg5 u)) rfl rfl b5 hHeld (by rw [z5]; exact sizeQuot) (Nat.le_of_eq (by rw [z5]; rfl)) o5 (whole_new (by rw [z5]; rfl)) (fun Ws0 hk0 bs5 hHeld => ?_)
   replace b6 := hk0.box b6 b6.lt (Ne.symm hne5_6)
   replace R5 := R5.ext (hk0.ext b5 (by decide))
   replace R6 := R6.ext (hk0.ext b5 (by decide))
   refine wpAnyH_storeB B6 37 19 rfl rfl rfl rfl 0 C6 _ C6 (by as_aux_lemma => kernel_rfl) (fun w' i u hS => belowS (hS.2.setCell (p := ⟨B6, i, none⟩) hg6 u)) rfl rfl b6 hHeld (by rw [z6]; exact sizeQuot) (Nat.le_of_eq (by rw [z6]; rfl)) o6 (whole_new (by rw [z6]; rfl)) (fun Ws1 hk1 bs6 hHeld => ?_)
   replace bs5 := hk1.box bs5 bs5.lt hne5_6
   replace R5 := R5.ext (hk1.ext b6 (by decide))
   replace R6 := R6.ext (hk1.ext b6 (by decide))
   refine wpAnyH_done (by as_aux_lemma => kernel_rfl) ?_ _
   exact ⟨_, _, _, _, _, _, _, _, _, _, _, _, _, _, _, _, B5, B6, C5, C6, by (simp only [Act.put, List.setIfInBounds_toArray, List.set_cons_zero, List.set_cons_succ]); try rfl, hHeld.2, hg5, bs5, R5, hg6, bs6, R6, hne5_6⟩
  ·rintro e a' V6 hmid
   cases e with
   | normal => ?_
   | _ => exact hmid.elim
   obtain ⟨v25, v26, v27, v28, v29, v30, v31, v32, v33, v34, v35, v36, v37, v38, v39, v40, B5, B6, C5, C6, rfl, hbV, hg5, b5, R5, hg6, b6, R6, hne5_6⟩ := hmid
   subst ha
   simp only [Act.put, List.setIfInBounds_toArray, List.set_cons_zero, List.set_cons_succ]
   replace hB := belowCall hB hbV
   replace b3 := b3.below hbV
   replace b4 := b4.below hbV
   replace bO := bO.below hbV
   replace R3 := R3.ext (.of_below hbV)
   replace R4 := R4.ext (.of_below hbV)
   have hn3 : B3 ≠ BO := by omega
   have hn4 : B4 ≠ BO := by omega
   have hn5 : B5 ≠ BO := by omega
   have hn6 : B6 ≠ BO := by omega
   have i3 : (Tryz.prog.info? 37).map (·.size) = some C3.size := by obtain ⟨_, e, z, o⟩ := R3.cells; cases e; rw [z]; exact sizeQuot
   have i4 : (Tryz.prog.info? 37).map (·.size) = some C4.size := by obtain ⟨_, e, z, o⟩ := R4.cells; cases e; rw [z]; exact sizeQuot
   have i5 : (Tryz.prog.info? 37).map (·.size) = some C5.size := by obtain ⟨_, e, z, o⟩ := R5.cells; cases e; rw [z]; exact sizeQuot
   have i6 : (Tryz.prog.info? 37).map (·.size) = some C6.size := by obtain ⟨_, e, z, o⟩ := R6.cells; cases e; rw [z]; exact sizeQuot
   clear xa xb xc xd yp yq yr ys ba bb lba lbb hbV lO
   go_wp2_with fail
   refine wp_region_held_drew (S := fun w' => (∀ b o, b < V6.heap.size → b ≠ BO → w'.cell? ⟨b, o, none⟩ = V6.cell? ⟨b, o, none⟩) ∧ KeepBut BO V6.heap.size V6 w') (by as_aux_lemma => kernel_rfl) (KeepBut.S (KeepBut.refl _ _).drew) (fun hHeld => ?_)
   have hBel : Below V6.heap.size V6 V6.drew := (Below.refl _ _).drew
   refine tl 0 (some 43) rfl (.agg C3) (exec_load 37 _ rfl B3 0 rfl  C3 (fun w h => (h.2.box b3 b3.lt hn3).range) _ Tryz.underlying37 rfl i3) ?_
   refine tl 1 (some 44) rfl (.agg C4) (exec_load 37 _ rfl B4 0 rfl  C4 (fun w h => (h.2.box b4 b4.lt hn4).range) _ Tryz.underlying37 rfl i4) ?_
   refine tl 3 (some 46) rfl (.agg C5) (exec_load 37 _ rfl B5 0 rfl  C5 (fun w h => (h.2.box b5 b5.lt hn5).range) _ Tryz.underlying37 rfl i5) ?_
   refine tl 4 (some 47) rfl (.agg C6) (exec_load 37 _ rfl B6 0 rfl  C6 (fun w h => (h.2.box b6 b6.lt hn6).range) _ Tryz.underlying37 rfl i6) ?_
   refine Mono.stc 2 (some 45) (csub_ok _ _ _ _ _ (R3.ext (.of_below hBel)) (R4.ext (.of_below hBel)) f5) (fun e Wn2 hR => ?_)
   obtain ⟨C8, rfl, R8, hb8⟩ := hR
   obtain ⟨x0, x1, x2, x3, rfl, xo0, xo1, xo2, xo3⟩ := R8.four
   replace hBel := belowCall hBel hb8
   refine ⟨(KeepBut.S (hHeld.2.call hb8)), fun hHeld => Mono.pt ?_⟩
   refine Mono.stc 5 (some 48) (cadd_ok _ _ _ _ _ (R5.ext (.of_below hBel)) (R6.ext (.of_below hBel)) f6) (fun e Wn5 hR => ?_)
   obtain ⟨C9, rfl, R9, hb9⟩ := hR
   obtain ⟨y0, y1, y2, y3, rfl, yo0, yo1, yo2, yo3⟩ := R9.four
   replace hBel := belowCall hBel hb9
   replace R8 := R8.ext (.of_below hb9)
   refine ⟨(KeepBut.S (hHeld.2.call hb9)), fun hHeld => Mono.pt ?_⟩
   refine tl 6 (some 49) rfl (.agg #[x0, x1, x2, x3, y0, y1, y2, y3]) (exec_build 55 _ rfl #[x0, x1, x2, x3, y0, y1, y2, y3] (by as_aux_lemma => kernel_rfl)) ?_
   refine wpAnyH_storeB BO 55 7 rfl rfl rfl rfl 0 #[x0, x1, x2, x3, y0, y1, y2, y3] _ #[x0, x1, x2, x3, y0, y1, y2, y3] (by as_aux_lemma => kernel_rfl) (fun w' i u hS => KeepBut.S (hS.2.set i u)) rfl rfl (bO.below hBel) hHeld sizeQ2 (Nat.le_of_eq rfl) (by simp [*]) (whole_new rfl) (fun Ws hks bs hHeld => ?_)
   refine wpAnyH_done (by as_aux_lemma => kernel_rfl) ?_ _
   have xS := hks.ext (bO.below hBel) (by decide)
   go_wp2
   refine bodyPost_ret (bs.results rfl _ _ rfl Tryz.underlying55 rfl sizeQ2) rfl ?_
   exact ⟨_, _, _, _, _, _, _, _, rfl, R8.ext xS, R9.ext xS, hHeld.2.below hB (by omega) hB.size⟩
theorem crow1_ok (x y : Mat) (hf : MFits x y) (Cx Cy : Array Value) (Ba Bb : Nat) (w : World) (ba : Box w Ba 57 Cx) (bb : Box w Bb 57 Cy) (hx : MV w Cx x) (hy : MV w Cy y) :
  Calls Tryz.prog 161 #[.int .i64 1, .pointer (some ⟨Ba, 0, none⟩), .pointer (some ⟨Bb, 0, none⟩)] w fun e w' => ∃ x0 x1 x2 x3 y0 y1 y2 y3 : Value, e = .returned (.agg #[x0, x1, x2, x3, y0, y1, y2, y3]) ∧ QV w' (.agg #[x0, x1, x2, x3]) (x.mul y).c ∧ QV w' (.agg #[y0, y1, y2, y3]) (x.mul y).d ∧ Below w.heap.size w w' := by
 have f1 := hf.pr x.c y.a (by simp) (by simp)
 have f2 := hf.pr x.d y.c (by simp) (by simp)
 have f3 := hf.pr x.c y.b (by simp) (by simp)
 have f4 := hf.pr x.d y.d (by simp) (by simp)
 have f5 := hf.c
 have f6 := hf.d
 clear hf
 obtain ⟨m0, m1, m2, m3, n0, n1, n2, n3, k0, k1, k2, k3, l0, l1, l2, l3, rfl, xa, xb, xc, xd⟩ := hx.parts
 obtain ⟨p0, p1, p2, p3, q0, q1, q2, q3, r0, r1, r2, r3, s0, s1, s2, s3, rfl, yp, yq, yr, ys⟩ := hy.parts
 clear hx hy
 go_enter Tryz.func161, Tryz.ntmps161
 go_wp2_with (refine wpList_new rfl 55 rfl _ alloc_q2 ?_; intro W BO hleO hB bO; replace ba := ba.below hB; replace bb := bb.below hB)
 replace xa := xa.ext (.of_below hB)
 replace xb := xb.ext (.of_below hB)
 replace xc := xc.ext (.of_below hB)
 replace xd := xd.ext (.of_below hB)
 replace yp := yp.ext (.of_below hB)
 replace yq := yq.ext (.of_below hB)
 replace yr := yr.ext (.of_below hB)
 replace ys := ys.ext (.of_below hB)
 have lba := ba.lt
 have lbb := bb.lt
 have lO := bO.lt

 try simp only [Act.put, List.setIfInBounds_toArray, List.set_cons_zero, List.set_cons_succ]
 generalize ha : Act.mk _ [] = aX
 refine wp_mono (Q := fun e a' V => match e with | .normal => ∃ (v9 v10 v11 v12 v13 v14 v15 v16 v17 v18 v19 v20 v21 v22 v23 v24 : Value) (B3 B4 : Nat) (C3 C4 : Array Value), a' = ((((((((((((((((((aX.put (some 9) v9).put (some 10) v10).put (some 11) v11).put (some 12) v12).put (some 13) v13).put (some 14) v14).put (some 15) v15).put (some 16) v16).put (some 17) v17).put (some 18) v18).put (some 19) v19).put (some 20) v20).put (some 21) v21).put (some 22) v22).put (some 23) v23).put (some 24) v24).put (some 5) (.pointer (some ⟨B3, 0, none⟩))).put (some 6) (.pointer (some ⟨B4, 0, none⟩))) ∧ Below W.heap.size W V ∧ W.heap.size ≤ B3 ∧ Box V B3 37 C3 ∧ QV V (.agg C3) (x.c * y.a) ∧ W.heap.size ≤ B4 ∧ Box V B4 37 C4 ∧ QV V (.agg C4) (x.d * y.c) ∧ B3 ≠ B4 | _ => False) ?_ ?_
 ·subst ha
  refine wp_region_held_drew (S := fun w' => (∀ b o, b < W.heap.size → w'.cell? ⟨b, o, none⟩ = W.cell? ⟨b, o, none⟩) ∧ Below W.heap.size W w') (by as_aux_lemma => kernel_rfl) (belowS (Below.refl _ _).drew) (fun hHeld => ?_)
  have hBel : Below W.heap.size W W.drew := (Below.refl _ _).drew
  refine tk 0 (some 9) ?_
  refine tk 1 (some 10) ?_
  refine tk 2 (some 11) ?_
  refine tl 3 (some 12) rfl (.agg #[k0, k1, k2, k3]) (exec_load 37 _ rfl Ba 8 rfl  #[k0, k1, k2, k3] (fun w h => (ba.below h.2).part 8 #[k0, k1, k2, k3] rfl) _ Tryz.underlying37 rfl sizeQuot) ?_
  refine tk 4 (some 13) ?_
  refine tk 5 (some 14) ?_
  refine tl 6 (some 15) rfl (.agg #[p0, p1, p2, p3]) (exec_load 37 _ rfl Bb 0 rfl  #[p0, p1, p2, p3] (fun w h => (bb.below h.2).part 0 #[p0, p1, p2, p3] rfl) _ Tryz.underlying37 rfl sizeQuot) ?_
  refine tk 8 (some 17) ?_
  refine tk 9 (some 18) ?_
  refine tk 10 (some 19) ?_
  refine tl 11 (some 20) rfl (.agg #[l0, l1, l2, l3]) (exec_load 37 _ rfl Ba 12 rfl  #[l0, l1, l2, l3] (fun w h => (ba.below h.2).part 12 #[l0, l1, l2, l3] rfl) _ Tryz.underlying37 rfl sizeQuot) ?_
  refine tk 12 (some 21) ?_
  refine tk 13 (some 22) ?_
  refine tl 14 (some 23) rfl (.agg #[r0, r1, r2, r3]) (exec_load 37 _ rfl Bb 8 rfl  #[r0, r1, r2, r3] (fun w h => (bb.below h.2).part 8 #[r0, r1, r2, r3] rfl) _ Tryz.underlying37 rfl sizeQuot) ?_
  refine Mono.Fl.open [⟨16, 5, 37, _⟩, ⟨17, 6, 37, _⟩] (.cons (.of alloc_quot) (.cons (.of alloc_quot) .nil)) (fun hfa => ?_)
  refine Mono.Fl.call 7 16 (fun wc hV => have hBel := belowCall hBel hV; (cmul_ok x.c y.a _ _ _ (xc.ext (.of_below hBel)) (yp.ext (.of_below hBel)) f1)) ?_ (hN := hBel.size)
  intro wc hV hHeld e Wn7 hR
  obtain ⟨C3, rfl, R3, hb3⟩ := hR
  replace hBel := belowCall (belowCall hBel hV) hb3
  refine ⟨hb3, Mono.Fl.pt ?_⟩
  refine Mono.Fl.call 15 24 (fun wc hV => have hBel := belowCall hBel hV; (cmul_ok x.d y.c _ _ _ (xd.ext (.of_below hBel)) (yr.ext (.of_below hBel)) f2)) ?_ (hN := hBel.size)
  intro wc hV hHeld e Wn15 hR
  obtain ⟨C4, rfl, R4, hb4⟩ := hR
  replace hBel := belowCall (belowCall hBel hV) hb4
  replace R3 := R3.ext (.of_below (belowCall hV hb4))
  refine ⟨hb4, Mono.Fl.pt ?_⟩
  refine Mono.Fl.close2 (fun B3 B4 wc hV hHeld hg3 hg4 hne3_4 b3 b4 => ?_) (hN := hBel.size)
  replace hBel := belowCall hBel hV
  replace R3 := R3.ext (.of_below hV)
  replace R4 := R4.ext (.of_below hV)
  replace hg3 : W.heap.size ≤ B3 := hg3
  replace hg4 : W.heap.size ≤ B4 := hg4
  refine Mono.pt ?_
  obtain ⟨_, e3, z3, o3⟩ := R3.cells
  cases e3
  obtain ⟨_, e4, z4, o4⟩ := R4.cells
  cases e4
  refine wpAnyH_storeB B3 37 18 rfl rfl rfl rfl 0 C3 _ C3 (by as_aux_lemma => kernel_rfl) (fun w' i u hS => belowS (hS.2.setCell (p := ⟨B3, i, none⟩) hg3 u)) rfl rfl b3 hHeld (by rw [z3]; exact sizeQuot) (Nat.le_of_eq (by rw [z3]; rfl)) o3 (whole_new (by rw [z3]; rfl)) (fun Ws0 hk0 bs3 hHeld => ?_)
  replace b4 := hk0.box b4 b4.lt (Ne.symm hne3_4)
  replace R3 := R3.ext (hk0.ext b3 (by decide))
  replace R4 := R4.ext (hk0.ext b3 (by decide))
  refine wpAnyH_storeB B4 37 19 rfl rfl rfl rfl 0 C4 _ C4 (by as_aux_lemma => kernel_rfl) (fun w' i u hS => belowS (hS.2.setCell (p := ⟨B4, i, none⟩) hg4 u)) rfl rfl b4 hHeld (by rw [z4]; exact sizeQuot) (Nat.le_of_eq (by rw [z4]; rfl)) o4 (whole_new (by rw [z4]; rfl)) (fun Ws1 hk1 bs4 hHeld => ?_)
  replace bs3 := hk1.box bs3 bs3.lt hne3_4
  replace R3 := R3.ext (hk1.ext b4 (by decide))
  replace R4 := R4.ext (hk1.ext b4 (by decide))
  refine wpAnyH_done (by as_aux_lemma => kernel_rfl) ?_ _
  exact ⟨_, _, _, _, _, _, _, _, _, _, _, _, _, _, _, _, B3, B4, C3, C4, by (simp only [Act.put, List.setIfInBounds_toArray, List.set_cons_zero, List.set_cons_succ]); try rfl, hHeld.2, hg3, bs3, R3, hg4, bs4, R4, hne3_4⟩
 ·rintro e a' V4 hmid
  cases e with
  | normal => ?_
  | _ => exact hmid.elim
  obtain ⟨v9, v10, v11, v12, v13, v14, v15, v16, v17, v18, v19, v20, v21, v22, v23, v24, B3, B4, C3, C4, rfl, hbV, hg3, b3, R3, hg4, b4, R4, hne3_4⟩ := hmid
  subst ha
  simp only [Act.put, List.setIfInBounds_toArray, List.set_cons_zero, List.set_cons_succ]
  replace hB := belowCall hB hbV
  replace ba := ba.below hbV
  replace bb := bb.below hbV
  replace bO := bO.below hbV
  replace xa := xa.ext (.of_below hbV)
  replace xb := xb.ext (.of_below hbV)
  replace xc := xc.ext (.of_below hbV)
  replace xd := xd.ext (.of_below hbV)
  replace yp := yp.ext (.of_below hbV)
  replace yq := yq.ext (.of_below hbV)
  replace yr := yr.ext (.of_below hbV)
  replace ys := ys.ext (.of_below hbV)
  have hO3 : BO < B3 := by omega
  have hO4 : BO < B4 := by omega
  clear hbV lO
  have lO := bO.lt
  go_wp2_with fail
  try simp only [Act.put, List.setIfInBounds_toArray, List.set_cons_zero, List.set_cons_succ]
  generalize ha : Act.mk _ [] = aX
  refine wp_mono (Q := fun e a' V => match e with | .normal => ∃ (v25 v26 v27 v28 v29 v30 v31 v32 v33 v34 v35 v36 v37 v38 v39 v40 : Value) (B5 B6 : Nat) (C5 C6 : Array Value), a' = ((((((((((((((((((aX.put (some 25) v25).put (some 26) v26).put (some 27) v27).put (some 28) v28).put (some 29) v29).put (some 30) v30).put (some 31) v31).put (some 32) v32).put (some 33) v33).put (some 34) v34).put (some 35) v35).put (some 36) v36).put (some 37) v37).put (some 38) v38).put (some 39) v39).put (some 40) v40).put (some 7) (.pointer (some ⟨B5, 0, none⟩))).put (some 8) (.pointer (some ⟨B6, 0, none⟩))) ∧ Below V4.heap.size V4 V ∧ V4.heap.size ≤ B5 ∧ Box V B5 37 C5 ∧ QV V (.agg C5) (x.c * y.b) ∧ V4.heap.size ≤ B6 ∧ Box V B6 37 C6 ∧ QV V (.agg C6) (x.d * y.d) ∧ B5 ≠ B6 | _ => False) ?_ ?_
  ·subst ha
   refine wp_region_held_drew (S := fun w' => (∀ b o, b < V4.heap.size → w'.cell? ⟨b, o, none⟩ = V4.cell? ⟨b, o, none⟩) ∧ Below V4.heap.size V4 w') (by as_aux_lemma => kernel_rfl) (belowS (Below.refl _ _).drew) (fun hHeld => ?_)
   have hBel : Below V4.heap.size V4 V4.drew := (Below.refl _ _).drew
   refine tk 0 (some 25) ?_
   refine tk 1 (some 26) ?_
   refine tk 2 (some 27) ?_
   refine tl 3 (some 28) rfl (.agg #[k0, k1, k2, k3]) (exec_load 37 _ rfl Ba 8 rfl  #[k0, k1, k2, k3] (fun w h => (ba.below h.2).part 8 #[k0, k1, k2, k3] rfl) _ Tryz.underlying37 rfl sizeQuot) ?_
   refine tk 4 (some 29) ?_
   refine tk 5 (some 30) ?_
   refine tl 6 (some 31) rfl (.agg #[q0, q1, q2, q3]) (exec_load 37 _ rfl Bb 4 rfl  #[q0, q1, q2, q3] (fun w h => (bb.below h.2).part 4 #[q0, q1, q2, q3] rfl) _ Tryz.underlying37 rfl sizeQuot) ?_
   refine tk 8 (some 33) ?_
   refine tk 9 (some 34) ?_
   refine tk 10 (some 35) ?_
   refine tl 11 (some 36) rfl (.agg #[l0, l1, l2, l3]) (exec_load 37 _ rfl Ba 12 rfl  #[l0, l1, l2, l3] (fun w h => (ba.below h.2).part 12 #[l0, l1, l2, l3] rfl) _ Tryz.underlying37 rfl sizeQuot) ?_
   refine tk 12 (some 37) ?_
   refine tk 13 (some 38) ?_
   refine tl 14 (some 39) rfl (.agg #[s0, s1, s2, s3]) (exec_load 37 _ rfl Bb 12 rfl  #[s0, s1, s2, s3] (fun w h => (bb.below h.2).part 12 #[s0, s1, s2, s3] rfl) _ Tryz.underlying37 rfl sizeQuot) ?_
   refine Mono.Fl.open [⟨16, 7, 37, _⟩, ⟨17, 8, 37, _⟩] (.cons (.of alloc_quot) (.cons (.of alloc_quot) .nil)) (fun hfa => ?_)
   refine Mono.Fl.call 7 32 (fun wc hV => have hBel := belowCall hBel hV; (cmul_ok x.c y.b _ _ _ (xc.ext (.of_below hBel)) (yq.ext (.of_below hBel)) f3)) ?_ (hN := hBel.size)
   intro wc hV hHeld e Wn7 hR
   obtain ⟨C5, rfl, R5, hb5⟩ := hR
   replace hBel := belowCall (belowCall hBel hV) hb5
   refine ⟨hb5, Mono.Fl.pt ?_⟩
   refine Mono.Fl.call 15 40 (fun wc hV => have hBel := belowCall hBel hV; (cmul_ok x.d y.d _ _ _ (xd.ext (.of_below hBel)) (ys.ext (.of_below hBel)) f4)) ?_ (hN := hBel.size)
   intro wc hV hHeld e Wn15 hR
   obtain ⟨C6, rfl, R6, hb6⟩ := hR
   replace hBel := belowCall (belowCall hBel hV) hb6
   replace R5 := R5.ext (.of_below (belowCall hV hb6))
   refine ⟨hb6, Mono.Fl.pt ?_⟩
   refine Mono.Fl.close2 (fun B5 B6 wc hV hHeld hg5 hg6 hne5_6 b5 b6 => ?_) (hN := hBel.size)
   replace hBel := belowCall hBel hV
   replace R5 := R5.ext (.of_below hV)
   replace R6 := R6.ext (.of_below hV)
   replace hg5 : V4.heap.size ≤ B5 := hg5
   replace hg6 : V4.heap.size ≤ B6 := hg6
   refine Mono.pt ?_
   obtain ⟨_, e5, z5, o5⟩ := R5.cells
   cases e5
   obtain ⟨_, e6, z6, o6⟩ := R6.cells
   cases e6
   refine wpAnyH_storeB B5 37 18 rfl rfl rfl rfl 0 C5 _ C5 (by as_aux_lemma => kernel_rfl) (fun w' i u hS => belowS (hS.2.setCell (p := ⟨B5, i, none⟩) hg5 u)) rfl rfl b5 hHeld (by rw [z5]; exact sizeQuot) (Nat.le_of_eq (by rw [z5]; rfl)) o5 (whole_new (by rw [z5]; rfl)) (fun Ws0 hk0 bs5 hHeld => ?_)
   replace b6 := hk0.box b6 b6.lt (Ne.symm hne5_6)
   replace R5 := R5.ext (hk0.ext b5 (by decide))
   replace R6 := R6.ext (hk0.ext b5 (by decide))
   refine wpAnyH_storeB B6 37 19 rfl rfl rfl rfl 0 C6 _ C6 (by as_aux_lemma => kernel_rfl) (fun w' i u hS => belowS (hS.2.setCell (p := ⟨B6, i, none⟩) hg6 u)) rfl rfl b6 hHeld (by rw [z6]; exact sizeQuot) (Nat.le_of_eq (by rw [z6]; rfl)) o6 (whole_new (by rw [z6]; rfl)) (fun Ws1 hk1 bs6 hHeld => ?_)
   replace bs5 := hk1.box bs5 bs5.lt hne5_6
   replace R5 := R5.ext (hk1.ext b6 (by decide))
   replace R6 := R6.ext (hk1.ext b6 (by decide))
   refine wpAnyH_done (by as_aux_lemma => kernel_rfl) ?_ _
   exact ⟨_, _, _, _, _, _, _, _, _, _, _, _, _, _, _, _, B5, B6, C5, C6, by (simp only [Act.put, List.setIfInBounds_toArray, List.set_cons_zero, List.set_cons_succ]); try rfl, hHeld.2, hg5, bs5, R5, hg6, bs6, R6, hne5_6⟩
  ·rintro e a' V6 hmid
   cases e with
   | normal => ?_
   | _ => exact hmid.elim
   obtain ⟨v25, v26, v27, v28, v29, v30, v31, v32, v33, v34, v35, v36, v37, v38, v39, v40, B5, B6, C5, C6, rfl, hbV, hg5, b5, R5, hg6, b6, R6, hne5_6⟩ := hmid
   subst ha
   simp only [Act.put, List.setIfInBounds_toArray, List.set_cons_zero, List.set_cons_succ]
   replace hB := belowCall hB hbV
   replace b3 := b3.below hbV
   replace b4 := b4.below hbV
   replace bO := bO.below hbV
   replace R3 := R3.ext (.of_below hbV)
   replace R4 := R4.ext (.of_below hbV)
   have hn3 : B3 ≠ BO := by omega
   have hn4 : B4 ≠ BO := by omega
   have hn5 : B5 ≠ BO := by omega
   have hn6 : B6 ≠ BO := by omega
   have i3 : (Tryz.prog.info? 37).map (·.size) = some C3.size := by obtain ⟨_, e, z, o⟩ := R3.cells; cases e; rw [z]; exact sizeQuot
   have i4 : (Tryz.prog.info? 37).map (·.size) = some C4.size := by obtain ⟨_, e, z, o⟩ := R4.cells; cases e; rw [z]; exact sizeQuot
   have i5 : (Tryz.prog.info? 37).map (·.size) = some C5.size := by obtain ⟨_, e, z, o⟩ := R5.cells; cases e; rw [z]; exact sizeQuot
   have i6 : (Tryz.prog.info? 37).map (·.size) = some C6.size := by obtain ⟨_, e, z, o⟩ := R6.cells; cases e; rw [z]; exact sizeQuot
   clear xa xb xc xd yp yq yr ys ba bb lba lbb hbV lO
   go_wp2_with fail
   refine wp_region_held_drew (S := fun w' => (∀ b o, b < V6.heap.size → b ≠ BO → w'.cell? ⟨b, o, none⟩ = V6.cell? ⟨b, o, none⟩) ∧ KeepBut BO V6.heap.size V6 w') (by as_aux_lemma => kernel_rfl) (KeepBut.S (KeepBut.refl _ _).drew) (fun hHeld => ?_)
   have hBel : Below V6.heap.size V6 V6.drew := (Below.refl _ _).drew
   refine tl 0 (some 50) rfl (.agg C3) (exec_load 37 _ rfl B3 0 rfl  C3 (fun w h => (h.2.box b3 b3.lt hn3).range) _ Tryz.underlying37 rfl i3) ?_
   refine tl 1 (some 51) rfl (.agg C4) (exec_load 37 _ rfl B4 0 rfl  C4 (fun w h => (h.2.box b4 b4.lt hn4).range) _ Tryz.underlying37 rfl i4) ?_
   refine tl 3 (some 53) rfl (.agg C6) (exec_load 37 _ rfl B6 0 rfl  C6 (fun w h => (h.2.box b6 b6.lt hn6).range) _ Tryz.underlying37 rfl i6) ?_
   refine tl 4 (some 54) rfl (.agg C5) (exec_load 37 _ rfl B5 0 rfl  C5 (fun w h => (h.2.box b5 b5.lt hn5).range) _ Tryz.underlying37 rfl i5) ?_
   refine Mono.stc 2 (some 52) (cadd_ok _ _ _ _ _ (R3.ext (.of_below hBel)) (R4.ext (.of_below hBel)) f5) (fun e Wn2 hR => ?_)
   obtain ⟨C8, rfl, R8, hb8⟩ := hR
   obtain ⟨x0, x1, x2, x3, rfl, xo0, xo1, xo2, xo3⟩ := R8.four
   replace hBel := belowCall hBel hb8
   refine ⟨(KeepBut.S (hHeld.2.call hb8)), fun hHeld => Mono.pt ?_⟩
   refine Mono.stc 5 (some 55) (csub_ok _ _ _ _ _ (R6.ext (.of_below hBel)) (R5.ext (.of_below hBel)) f6) (fun e Wn5 hR => ?_)
   obtain ⟨C9, rfl, R9, hb9⟩ := hR
   obtain ⟨y0, y1, y2, y3, rfl, yo0, yo1, yo2, yo3⟩ := R9.four
   replace hBel := belowCall hBel hb9
   replace R8 := R8.ext (.of_below hb9)
   refine ⟨(KeepBut.S (hHeld.2.call hb9)), fun hHeld => Mono.pt ?_⟩
   refine tl 6 (some 56) rfl (.agg #[x0, x1, x2, x3, y0, y1, y2, y3]) (exec_build 55 _ rfl #[x0, x1, x2, x3, y0, y1, y2, y3] (by as_aux_lemma => kernel_rfl)) ?_
   refine wpAnyH_storeB BO 55 7 rfl rfl rfl rfl 0 #[x0, x1, x2, x3, y0, y1, y2, y3] _ #[x0, x1, x2, x3, y0, y1, y2, y3] (by as_aux_lemma => kernel_rfl) (fun w' i u hS => KeepBut.S (hS.2.set i u)) rfl rfl (bO.below hBel) hHeld sizeQ2 (Nat.le_of_eq rfl) (by simp [*]) (whole_new rfl) (fun Ws hks bs hHeld => ?_)
   refine wpAnyH_done (by as_aux_lemma => kernel_rfl) ?_ _
   have xS := hks.ext (bO.below hBel) (by decide)
   go_wp2
   refine bodyPost_ret (bs.results rfl _ _ rfl Tryz.underlying55 rfl sizeQ2) rfl ?_
   exact ⟨_, _, _, _, _, _, _, _, rfl, R8.ext xS, R9.ext xS, hHeld.2.below hB (by omega) hB.size⟩
theorem csize_ok (gj : Nat) (eg : ∀ args w, (callFunc gj args).run Tryz.prog w = .ok (.enter gj args) w) (x0 x1 y0 y1 x y : Rat)
  (hjx : ∀ W Ca Cb, QV W (.agg Ca) x0 → QV W (.agg Cb) x1 → Calls Tryz.prog gj #[.agg Ca, .agg Cb] W fun e w' => ∃ C, e = .returned (.agg C) ∧ QV w' (.agg C) x ∧ Below W.heap.size W w')
  (hjy : ∀ W Ca Cb, QV W (.agg Ca) y0 → QV W (.agg Cb) y1 → Calls Tryz.prog gj #[.agg Ca, .agg Cb] W fun e w' => ∃ C, e = .returned (.agg C) ∧ QV w' (.agg C) y ∧ Below W.heap.size W w')
  (f1 : Fits (x * x)) (f2 : Fits (y * y)) (f3 : Fits (x * x + y * y)) (m0 m1 m2 m3 n0 n1 n2 n3 p0 p1 p2 p3 q0 q1 q2 q3 : Value) (Br Bs : Nat) (w : World)
  (br : Box w Br 55 #[m0, m1, m2, m3, n0, n1, n2, n3]) (bs : Box w Bs 55 #[p0, p1, p2, p3, q0, q1, q2, q3])
  (xm : QV w (.agg #[m0, m1, m2, m3]) x0) (xn : QV w (.agg #[n0, n1, n2, n3]) x1) (yp : QV w (.agg #[p0, p1, p2, p3]) y0) (yq : QV w (.agg #[q0, q1, q2, q3]) y1) :
  Calls Tryz.prog 139 #[.func (.func gj) #[] #[], .pointer (some ⟨Br, 0, none⟩), .pointer (some ⟨Bs, 0, none⟩)] w fun e w' => ∃ C, e = .returned (.agg C) ∧ QV w' (.agg C) (x * x + y * y) ∧ Below w.heap.size w w' := by
 go_enter Tryz.func139, Tryz.ntmps139
 go_wp2_with (refine wpList_new rfl 37 rfl _ alloc_quot ?_; intro W BO hleO hB bO; replace br := br.below hB; replace bs := bs.below hB)
 replace xm := xm.ext (.of_below hB)
 replace xn := xn.ext (.of_below hB)
 replace yp := yp.ext (.of_below hB)
 replace yq := yq.ext (.of_below hB)
 have lbr := br.lt
 have lbs := bs.lt
 have lO := bO.lt
 try simp only [Act.put, List.setIfInBounds_toArray, List.set_cons_zero, List.set_cons_succ]
 generalize ha : Act.mk _ [] = aX
 refine wp_mono (Q := fun e a' V => match e with | .normal => ∃ (v7 v8 v9 v10 v11 v12 v13 v14 v15 v16 v17 v18 : Value) (B3 B4 : Nat) (C3 C4 : Array Value), a' = ((((((((((((((aX.put (some 7) v7).put (some 8) v8).put (some 9) v9).put (some 10) v10).put (some 11) v11).put (some 12) v12).put (some 13) v13).put (some 14) v14).put (some 15) v15).put (some 16) v16).put (some 17) v17).put (some 18) v18).put (some 5) (.pointer (some ⟨B3, 0, none⟩))).put (some 6) (.pointer (some ⟨B4, 0, none⟩))) ∧ Below W.heap.size W V ∧ W.heap.size ≤ B3 ∧ Box V B3 37 C3 ∧ QV V (.agg C3) (x) ∧ W.heap.size ≤ B4 ∧ Box V B4 37 C4 ∧ QV V (.agg C4) (y) ∧ B3 ≠ B4 | _ => False) ?_ ?_
 ·subst ha
  refine wp_region_held_drew (S := fun w' => (∀ b o, b < W.heap.size → w'.cell? ⟨b, o, none⟩ = W.cell? ⟨b, o, none⟩) ∧ Below W.heap.size W w') (by as_aux_lemma => kernel_rfl) (belowS (Below.refl _ _).drew) (fun hHeld => ?_)
  have hBel : Below W.heap.size W W.drew := (Below.refl _ _).drew
  refine tk 0 (some 7) ?_
  refine tk 1 (some 8) ?_
  refine tl 2 (some 9) rfl (.agg #[m0, m1, m2, m3]) (exec_load 37 _ rfl Br 0 rfl  #[m0, m1, m2, m3] (fun w h => (br.below h.2).part 0 #[m0, m1, m2, m3] rfl) _ Tryz.underlying37 rfl sizeQuot) ?_
  refine tk 3 (some 10) ?_
  refine tl 4 (some 11) rfl (.agg #[n0, n1, n2, n3]) (exec_load 37 _ rfl Br 4 rfl  #[n0, n1, n2, n3] (fun w h => (br.below h.2).part 4 #[n0, n1, n2, n3] rfl) _ Tryz.underlying37 rfl sizeQuot) ?_
  refine tk 6 (some 13) ?_
  refine tk 7 (some 14) ?_
  refine tl 8 (some 15) rfl (.agg #[p0, p1, p2, p3]) (exec_load 37 _ rfl Bs 0 rfl  #[p0, p1, p2, p3] (fun w h => (bs.below h.2).part 0 #[p0, p1, p2, p3] rfl) _ Tryz.underlying37 rfl sizeQuot) ?_
  refine tk 9 (some 16) ?_
  refine tl 10 (some 17) rfl (.agg #[q0, q1, q2, q3]) (exec_load 37 _ rfl Bs 4 rfl  #[q0, q1, q2, q3] (fun w h => (bs.below h.2).part 4 #[q0, q1, q2, q3] rfl) _ Tryz.underlying37 rfl sizeQuot) ?_
  refine Mono.Fl.open [⟨12, 5, 37, _⟩, ⟨13, 6, 37, _⟩] (.cons (.of alloc_quot) (.cons (.of alloc_quot) .nil)) (fun hfa => ?_)
  refine Mono.Fl.call 5 12 (fun wc hV => have hBel := belowCall hBel hV; (hjx _ _ _ (xm.ext (.of_below hBel)) (xn.ext (.of_below hBel)))) ?_ (hN := hBel.size) (hx := fun _ => by go_simp)
  intro wc hV hHeld e Wn5 hR
  obtain ⟨C3, rfl, R3, hb3⟩ := hR
  replace hBel := belowCall (belowCall hBel hV) hb3
  refine ⟨hb3, Mono.Fl.pt ?_⟩
  refine Mono.Fl.call 11 18 (fun wc hV => have hBel := belowCall hBel hV; (hjy _ _ _ (yp.ext (.of_below hBel)) (yq.ext (.of_below hBel)))) ?_ (hN := hBel.size) (hx := fun _ => by go_simp)
  intro wc hV hHeld e Wn11 hR
  obtain ⟨C4, rfl, R4, hb4⟩ := hR
  replace hBel := belowCall (belowCall hBel hV) hb4
  replace R3 := R3.ext (.of_below (belowCall hV hb4))
  refine ⟨hb4, Mono.Fl.pt ?_⟩
  refine Mono.Fl.close2 (fun B3 B4 wc hV hHeld hg3 hg4 hne3_4 b3 b4 => ?_) (hN := hBel.size)
  replace hBel := belowCall hBel hV
  replace R3 := R3.ext (.of_below hV)
  replace R4 := R4.ext (.of_below hV)
  replace hg3 : W.heap.size ≤ B3 := hg3
  replace hg4 : W.heap.size ≤ B4 := hg4
  refine Mono.pt ?_
  obtain ⟨_, e3, z3, o3⟩ := R3.cells
  cases e3
  obtain ⟨_, e4, z4, o4⟩ := R4.cells
  cases e4
  refine wpAnyH_storeB B3 37 14 rfl rfl rfl rfl 0 C3 _ C3 (by as_aux_lemma => kernel_rfl) (fun w' i u hS => belowS (hS.2.setCell (p := ⟨B3, i, none⟩) hg3 u)) rfl rfl b3 hHeld (by rw [z3]; exact sizeQuot) (Nat.le_of_eq (by rw [z3]; rfl)) o3 (whole_new (by rw [z3]; rfl)) (fun Ws0 hk0 bs3 hHeld => ?_)
  replace b4 := hk0.box b4 b4.lt (Ne.symm hne3_4)
  replace R3 := R3.ext (hk0.ext b3 (by decide))
  replace R4 := R4.ext (hk0.ext b3 (by decide))
  refine wpAnyH_storeB B4 37 15 rfl rfl rfl rfl 0 C4 _ C4 (by as_aux_lemma => kernel_rfl) (fun w' i u hS => belowS (hS.2.setCell (p := ⟨B4, i, none⟩) hg4 u)) rfl rfl b4 hHeld (by rw [z4]; exact sizeQuot) (Nat.le_of_eq (by rw [z4]; rfl)) o4 (whole_new (by rw [z4]; rfl)) (fun Ws1 hk1 bs4 hHeld => ?_)
  replace bs3 := hk1.box bs3 bs3.lt hne3_4
  replace R3 := R3.ext (hk1.ext b4 (by decide))
  replace R4 := R4.ext (hk1.ext b4 (by decide))
  refine wpAnyH_done (by as_aux_lemma => kernel_rfl) ?_ _
  exact ⟨_, _, _, _, _, _, _, _, _, _, _, _, B3, B4, C3, C4, by (simp only [Act.put, List.setIfInBounds_toArray, List.set_cons_zero, List.set_cons_succ]); try rfl, hHeld.2, hg3, bs3, R3, hg4, bs4, R4, hne3_4⟩
 ·rintro e a' V4 hmid
  cases e with
  | normal => ?_
  | _ => exact hmid.elim
  obtain ⟨v7, v8, v9, v10, v11, v12, v13, v14, v15, v16, v17, v18, B3, B4, C3, C4, rfl, hbV, hg3, b3, R3, hg4, b4, R4, hne3_4⟩ := hmid
  subst ha
  simp only [Act.put, List.setIfInBounds_toArray, List.set_cons_zero, List.set_cons_succ]
  replace hB := belowCall hB hbV
  replace bO := bO.below hbV
  have hn3 : B3 ≠ BO := by omega
  have hn4 : B4 ≠ BO := by omega
  have i3 : (Tryz.prog.info? 37).map (·.size) = some C3.size := by obtain ⟨_, e, z, o⟩ := R3.cells; cases e; rw [z]; exact sizeQuot
  have i4 : (Tryz.prog.info? 37).map (·.size) = some C4.size := by obtain ⟨_, e, z, o⟩ := R4.cells; cases e; rw [z]; exact sizeQuot
  clear br bs xm xn yp yq lbr lbs lO hbV
  go_wp2_with fail
  refine wp_region_held_drew (S := fun w' => (∀ b o, b < V4.heap.size → b ≠ BO → w'.cell? ⟨b, o, none⟩ = V4.cell? ⟨b, o, none⟩) ∧ KeepBut BO V4.heap.size V4 w') (by as_aux_lemma => kernel_rfl) (KeepBut.S (KeepBut.refl _ _).drew) (fun hHeld => ?_)
  have hBel : Below V4.heap.size V4 V4.drew := (Below.refl _ _).drew
  refine tl 0 (some 19) rfl (.agg C3) (exec_load 37 _ rfl B3 0 rfl  C3 (fun w h => (h.2.box b3 b3.lt hn3).range) _ Tryz.underlying37 rfl i3) ?_
  refine tl 1 (some 20) rfl (.agg C3) (exec_load 37 _ rfl B3 0 rfl  C3 (fun w h => (h.2.box b3 b3.lt hn3).range) _ Tryz.underlying37 rfl i3) ?_
  refine tl 3 (some 22) rfl (.agg C4) (exec_load 37 _ rfl B4 0 rfl  C4 (fun w h => (h.2.box b4 b4.lt hn4).range) _ Tryz.underlying37 rfl i4) ?_
  refine tl 4 (some 23) rfl (.agg C4) (exec_load 37 _ rfl B4 0 rfl  C4 (fun w h => (h.2.box b4 b4.lt hn4).range) _ Tryz.underlying37 rfl i4) ?_
  refine Mono.stc 2 (some 21) (cmul_ok x x _ _ _ (R3.ext (.of_below hBel)) (R3.ext (.of_below hBel)) f1) (fun e Wn2 hR => ?_)
  obtain ⟨C8, rfl, R8, hb8⟩ := hR
  replace hBel := belowCall hBel hb8
  refine ⟨(KeepBut.S (hHeld.2.call hb8)), fun hHeld => Mono.pt ?_⟩
  refine Mono.stc 5 (some 24) (cmul_ok y y _ _ _ (R4.ext (.of_below hBel)) (R4.ext (.of_below hBel)) f2) (fun e Wn5 hR => ?_)
  obtain ⟨C9, rfl, R9, hb9⟩ := hR
  replace hBel := belowCall hBel hb9
  replace R8 := R8.ext (.of_below hb9)
  refine ⟨(KeepBut.S (hHeld.2.call hb9)), fun hHeld => Mono.pt ?_⟩
  refine Mono.stc 6 (some 25) (cadd_ok _ _ _ _ _ R8 R9 f3) (fun e Wn6 hR => ?_)
  obtain ⟨C10, rfl, R10, hb10⟩ := hR
  obtain ⟨_, e10, z10, o10⟩ := R10.cells
  cases e10
  replace hBel := belowCall hBel hb10
  replace R8 := R8.ext (.of_below hb10)
  replace R9 := R9.ext (.of_below hb10)
  refine ⟨(KeepBut.S (hHeld.2.call hb10)), fun hHeld => Mono.pt ?_⟩
  refine wpAnyH_storeB BO 37 7 rfl rfl rfl rfl 0 C10 _ C10 (by as_aux_lemma => kernel_rfl) (fun w' i u hS => KeepBut.S (hS.2.set i u)) rfl rfl (bO.below hBel) hHeld (by rw [z10]; exact sizeQuot) (Nat.le_of_eq (by rw [z10]; rfl)) o10 (whole_new (by rw [z10]; rfl)) (fun Ws hks bs hHeld => ?_)
  refine wpAnyH_done (by as_aux_lemma => kernel_rfl) ?_ _
  have xS := hks.ext (bO.below hBel) (by decide)
  go_wp2
  refine bodyPost_ret (bs.results rfl _ _ rfl Tryz.underlying37 rfl (by rw [z10]; exact sizeQuot)) rfl ?_
  exact ⟨_, rfl, R10.ext xS, hHeld.2.below hB (by omega) hB.size⟩
end Go.Proofs.YtdgodcgdlfjpaaaGreatDoor
