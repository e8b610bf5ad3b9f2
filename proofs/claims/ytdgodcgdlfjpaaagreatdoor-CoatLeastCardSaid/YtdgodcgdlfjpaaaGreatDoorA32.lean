/- Contracts of package coat and of the examples of its law, for the laws of layer 40. Part 32 of 39. No condition beside the row. -/
import Derived.Test.YtdgodcgdlfjpaaaGreatDoorA29
set_option linter.unusedVariables false
set_option linter.unusedSimpArgs false
namespace Go.Proofs.YtdgodcgdlfjpaaaGreatDoor
open Go.RowKit Go.Mono
set_option maxRecDepth 100000 in
set_option maxHeartbeats 4000000 in
/-- the sum of two squares, of what a function makes of two pairs -/
theorem csize_ok (gj : Nat) (eg : ∀ args w, (callFunc gj args).run Tryz.prog w = .ok (.enter gj args) w) (x0 x1 y0 y1 x y : Rat)
    (hjx : ∀ W Ca Cb, QV W (.agg Ca) x0 → QV W (.agg Cb) x1 → Calls Tryz.prog gj #[.agg Ca, .agg Cb] W fun e w' => ∃ C, e = .returned (.agg C) ∧ QV w' (.agg C) x ∧ Below W.heap.size W w')
    (hjy : ∀ W Ca Cb, QV W (.agg Ca) y0 → QV W (.agg Cb) y1 → Calls Tryz.prog gj #[.agg Ca, .agg Cb] W fun e w' => ∃ C, e = .returned (.agg C) ∧ QV w' (.agg C) y ∧ Below W.heap.size W w')
    (f1 : Fits (x * x)) (f2 : Fits (y * y)) (f3 : Fits (x * x + y * y)) (m0 m1 m2 m3 n0 n1 n2 n3 p0 p1 p2 p3 q0 q1 q2 q3 : Value) (Br Bs : Nat) (w : World)
    (br : Box w Br 55 #[m0, m1, m2, m3, n0, n1, n2, n3]) (bs : Box w Bs 55 #[p0, p1, p2, p3, q0, q1, q2, q3])
    (xm : QV w (.agg #[m0, m1, m2, m3]) x0) (xn : QV w (.agg #[n0, n1, n2, n3]) x1) (yp : QV w (.agg #[p0, p1, p2, p3]) y0) (yq : QV w (.agg #[q0, q1, q2, q3]) y1) :
    Calls Tryz.prog 139 #[.func (.func gj) #[] #[], .pointer (some ⟨Br, 0, none⟩), .pointer (some ⟨Bs, 0, none⟩)] w fun e w' => ∃ C, e = .returned (.agg C) ∧ QV w' (.agg C) (x * x + y * y) ∧ Below w.heap.size w w' := by
  go_enter Tryz.func139, Tryz.ntmps139
  go_wp2_with (refine wpList_new rfl 37 rfl _ alloc_quot ?_; intro W BO hleO hB bO; replace br := br.below hB; replace bs := bs.below hB)
  replace xm := xm.ext (.of_below hB)
  replace xn := xn.ext (.of_below hB)
  replace yp := yp.ext (.of_below hB)
  replace yq := yq.ext (.of_below hB)
  have lbr := br.lt
  have lbs := bs.lt
  have lO := bO.lt
  try simp only [Act.put, List.setIfInBounds_toArray, List.set_cons_zero, List.set_cons_succ]
  generalize ha : Act.mk _ [] = aX
  refine wp_mono (Q := fun e a' V => match e with | .normal => ∃ (v7 v8 v9 v10 v11 v12 v13 v14 v15 v16 v17 v18 : Value) (B3 B4 : Nat) (C3 C4 : Array Value), a' = ((((((((((((((aX.put (some 7) v7).put (some 8) v8).put (some 9) v9).put (some 10) v10).put (some 11) v11).put (some 12) v12).put (some 13) v13).put (some 14) v14).put (some 15) v15).put (some 16) v16).put (some 17) v17).put (some 18) v18).put (some 5) (.pointer (some ⟨B3, 0, none⟩))).put (some 6) (.pointer (some ⟨B4, 0, none⟩))) ∧ Below W.heap.size W V ∧ W.heap.size ≤ B3 ∧ Box V B3 37 C3 ∧ QV V (.agg C3) (x) ∧ W.heap.size ≤ B4 ∧ Box V B4 37 C4 ∧ QV V (.agg C4) (y) ∧ B3 ≠ B4 | _ => False) ?_ ?_
  · subst ha
    refine wp_region_held_drew (S := fun w' => (∀ b o, b < W.heap.size → w'.cell? ⟨b, o, none⟩ = W.cell? ⟨b, o, none⟩) ∧ Below W.heap.size W w') (by as_aux_lemma => kernel_rfl) (belowS (Below.refl _ _).drew) (fun hHeld => ?_)
    have hBel : Below W.heap.size W W.drew := (Below.refl _ _).drew
    refine tk 0 (some 7) ?_
    refine tk 1 (some 8) ?_
    refine tl 2 (some 9) rfl (.agg #[m0, m1, m2, m3]) (exec_load 37 _ rfl Br 0 rfl  #[m0, m1, m2, m3] (fun w h => (br.below h.2).part 0 #[m0, m1, m2, m3] rfl) _ Tryz.underlying37 rfl sizeQuot) ?_
    refine tk 3 (some 10) ?_
    refine tl 4 (some 11) rfl (.agg #[n0, n1, n2, n3]) (exec_load 37 _ rfl Br 4 rfl  #[n0, n1, n2, n3] (fun w h => (br.below h.2).part 4 #[n0, n1, n2, n3] rfl) _ Tryz.underlying37 rfl sizeQuot) ?_
    refine tk 6 (some 13) ?_
    refine tk 7 (some 14) ?_
    refine tl 8 (some 15) rfl (.agg #[p0, p1, p2, p3]) (exec_load 37 _ rfl Bs 0 rfl  #[p0, p1, p2, p3] (fun w h => (bs.below h.2).part 0 #[p0, p1, p2, p3] rfl) _ Tryz.underlying37 rfl sizeQuot) ?_
    refine tk 9 (some 16) ?_
    refine tl 10 (some 17) rfl (.agg #[q0, q1, q2, q3]) (exec_load 37 _ rfl Bs 4 rfl  #[q0, q1, q2, q3] (fun w h => (bs.below h.2).part 4 #[q0, q1, q2, q3] rfl) _ Tryz.underlying37 rfl sizeQuot) ?_
    refine wpAnyH_ready (rs := [5, 12, 13]) (by as_aux_lemma => kernel_rfl) (by simp) ?_
    refine (AllReadyH.cons rfl (fun K hK => ?_) (AllReadyH.cons rfl (fun K hK => ?_) (AllReadyH.cons rfl (fun K hK => ?_) AllReadyH.nil)))
    · skip
      go_simp
      refine (hjx _ _ _ (xm.ext (.of_below hBel)) (xn.ext (.of_below hBel))).mono ?_
      rintro e Wn5 ⟨C3, rfl, R3, hb3⟩
      refine hK.out _ _ (belowS (belowCall hHeld.2 hb3)) (fun hHeld => ?_)
      clear hK K
      replace hBel := belowCall hBel hb3
      try simp only [Act.put, List.setIfInBounds_toArray, List.set_cons_zero, List.set_cons_succ]
      refine wpAnyH_ready (rs := [11, 12, 13]) (by as_aux_lemma => kernel_rfl) (by simp) ?_
      refine (AllReadyH.cons rfl (fun K hK => ?_) (AllReadyH.cons rfl (fun K hK => ?_) (AllReadyH.cons rfl (fun K hK => ?_) AllReadyH.nil)))
      · skip
        go_simp
        refine (hjy _ _ _ (yp.ext (.of_below hBel)) (yq.ext (.of_below hBel))).mono ?_
        rintro e Wn11 ⟨C4, rfl, R4, hb4⟩
        refine hK.out _ _ (belowS (belowCall hHeld.2 hb4)) (fun hHeld => ?_)
        clear hK K
        replace hBel := belowCall hBel hb4
        replace R3 := R3.ext (.of_below hb4)
        try simp only [Act.put, List.setIfInBounds_toArray, List.set_cons_zero, List.set_cons_succ]
        refine wpAnyH_ready (rs := [12, 13]) (by as_aux_lemma => kernel_rfl) (by simp) ?_
        refine (AllReadyH.cons rfl (fun K hK => ?_) (AllReadyH.cons rfl (fun K hK => ?_) AllReadyH.nil))
        · skip
          rw [if_pos (by rfl)]
          refine wp_fresh 37 rfl _ alloc_quot ?_
          intro Wn12 B3 hle3 hb3 b3
          have hg3 : W.heap.size ≤ B3 := Nat.le_trans hBel.size hle3
          refine hK.out _ _ (belowS (belowCall hHeld.2 hb3)) (fun hHeld => ?_)
          clear hK K
          replace hBel := belowCall hBel hb3
          replace R3 := R3.ext (.of_below hb3)
          replace R4 := R4.ext (.of_below hb3)
          try simp only [Act.put, List.setIfInBounds_toArray, List.set_cons_zero, List.set_cons_succ]
          refine wpAnyH_ready (rs := [13]) (by as_aux_lemma => kernel_rfl) (by simp) ?_
          refine AllReadyH.cons rfl (fun K hK => ?_) AllReadyH.nil
          rw [if_pos (by rfl)]
          refine wp_fresh 37 rfl _ alloc_quot ?_
          intro Wn13 B4 hle4 hb4 b4
          have hg4 : W.heap.size ≤ B4 := Nat.le_trans hBel.size hle4
          have hne3_4 : B3 ≠ B4 := by have := b3.lt; omega
          refine hK.out _ _ (belowS (belowCall hHeld.2 hb4)) (fun hHeld => ?_)
          clear hK K
          replace hBel := belowCall hBel hb4
          replace R3 := R3.ext (.of_below hb4)
          replace R4 := R4.ext (.of_below hb4)
          replace b3 := b3.below hb4
          try simp only [Act.put, List.setIfInBounds_toArray, List.set_cons_zero, List.set_cons_succ]
          obtain ⟨_, e3, z3, o3⟩ := R3.cells
          cases e3
          obtain ⟨_, e4, z4, o4⟩ := R4.cells
          cases e4
          refine wpAnyH_storeB B3 37 14 rfl rfl rfl rfl 0 C3 _ C3 (by as_aux_lemma => kernel_rfl) (fun w' i u hS => belowS (hS.2.setCell (p := ⟨B3, i, none⟩) hg3 u)) rfl rfl b3 hHeld (by rw [z3]; exact sizeQuot) (Nat.le_of_eq (by rw [z3]; rfl)) o3 (whole_new (by rw [z3]; rfl)) (fun Ws0 hk0 bs3 hHeld => ?_)
          replace b4 := hk0.box b4 b4.lt (Ne.symm hne3_4)
          replace R3 := R3.ext (hk0.ext b3 (by decide))
          replace R4 := R4.ext (hk0.ext b3 (by decide))
          refine wpAnyH_storeB B4 37 15 rfl rfl rfl rfl 0 C4 _ C4 (by as_aux_lemma => kernel_rfl) (fun w' i u hS => belowS (hS.2.setCell (p := ⟨B4, i, none⟩) hg4 u)) rfl rfl b4 hHeld (by rw [z4]; exact sizeQuot) (Nat.le_of_eq (by rw [z4]; rfl)) o4 (whole_new (by rw [z4]; rfl)) (fun Ws1 hk1 bs4 hHeld => ?_)
          replace bs3 := hk1.box bs3 bs3.lt hne3_4
          replace R3 := R3.ext (hk1.ext b4 (by decide))
          replace R4 := R4.ext (hk1.ext b4 (by decide))
          refine wpAnyH_done (by as_aux_lemma => kernel_rfl) ?_ _
          exact ⟨_, _, _, _, _, _, _, _, _, _, _, _, B3, B4, C3, C4, by first | rfl | simp only [Act.put, List.setIfInBounds_toArray, List.set_cons_zero, List.set_cons_succ], hHeld.2, hg3, bs3, R3, hg4, bs4, R4, hne3_4⟩
        · skip
          rw [if_pos (by rfl)]
          refine wp_fresh 37 rfl _ alloc_quot ?_
          intro Wn13 B4 hle4 hb4 b4
          have hg4 : W.heap.size ≤ B4 := Nat.le_trans hBel.size hle4
          refine hK.out _ _ (belowS (belowCall hHeld.2 hb4)) (fun hHeld => ?_)
          clear hK K
          replace hBel := belowCall hBel hb4
          replace R3 := R3.ext (.of_below hb4)
          replace R4 := R4.ext (.of_below hb4)
          try simp only [Act.put, List.setIfInBounds_toArray, List.set_cons_zero, List.set_cons_succ]
          refine wpAnyH_ready (rs := [12]) (by as_aux_lemma => kernel_rfl) (by simp) ?_
          refine AllReadyH.cons rfl (fun K hK => ?_) AllReadyH.nil
          rw [if_pos (by rfl)]
          refine wp_fresh 37 rfl _ alloc_quot ?_
          intro Wn12 B3 hle3 hb3 b3
          have hg3 : W.heap.size ≤ B3 := Nat.le_trans hBel.size hle3
          have hne4_3 : B4 ≠ B3 := by have := b4.lt; omega
          refine hK.out _ _ (belowS (belowCall hHeld.2 hb3)) (fun hHeld => ?_)
          clear hK K
          replace hBel := belowCall hBel hb3
          replace R3 := R3.ext (.of_below hb3)
          replace R4 := R4.ext (.of_below hb3)
          replace b4 := b4.below hb3
          try simp only [Act.put, List.setIfInBounds_toArray, List.set_cons_zero, List.set_cons_succ]
          obtain ⟨_, e3, z3, o3⟩ := R3.cells
          cases e3
          obtain ⟨_, e4, z4, o4⟩ := R4.cells
          cases e4
          have hne3_4 := Ne.symm hne4_3
          refine wpAnyH_storeB B3 37 14 rfl rfl rfl rfl 0 C3 _ C3 (by as_aux_lemma => kernel_rfl) (fun w' i u hS => belowS (hS.2.setCell (p := ⟨B3, i, none⟩) hg3 u)) rfl rfl b3 hHeld (by rw [z3]; exact sizeQuot) (Nat.le_of_eq (by rw [z3]; rfl)) o3 (whole_new (by rw [z3]; rfl)) (fun Ws0 hk0 bs3 hHeld => ?_)
          replace b4 := hk0.box b4 b4.lt (Ne.symm hne3_4)
          replace R3 := R3.ext (hk0.ext b3 (by decide))
          replace R4 := R4.ext (hk0.ext b3 (by decide))
          refine wpAnyH_storeB B4 37 15 rfl rfl rfl rfl 0 C4 _ C4 (by as_aux_lemma => kernel_rfl) (fun w' i u hS => belowS (hS.2.setCell (p := ⟨B4, i, none⟩) hg4 u)) rfl rfl b4 hHeld (by rw [z4]; exact sizeQuot) (Nat.le_of_eq (by rw [z4]; rfl)) o4 (whole_new (by rw [z4]; rfl)) (fun Ws1 hk1 bs4 hHeld => ?_)
          replace bs3 := hk1.box bs3 bs3.lt hne3_4
          replace R3 := R3.ext (hk1.ext b4 (by decide))
          replace R4 := R4.ext (hk1.ext b4 (by decide))
          refine wpAnyH_done (by as_aux_lemma => kernel_rfl) ?_ _
          exact ⟨_, _, _, _, _, _, _, _, _, _, _, _, B3, B4, C3, C4, by first | rfl | simp only [Act.put, List.setIfInBounds_toArray, List.set_cons_zero, List.set_cons_succ], hHeld.2, hg3, bs3, R3, hg4, bs4, R4, hne3_4⟩
      · skip
        rw [if_pos (by rfl)]
        refine wp_fresh 37 rfl _ alloc_quot ?_
        intro Wn12 B3 hle3 hb3 b3
        have hg3 : W.heap.size ≤ B3 := Nat.le_trans hBel.size hle3
        refine hK.out _ _ (belowS (belowCall hHeld.2 hb3)) (fun hHeld => ?_)
        clear hK K
        replace hBel := belowCall hBel hb3
        replace R3 := R3.ext (.of_below hb3)
        try simp only [Act.put, List.setIfInBounds_toArray, List.set_cons_zero, List.set_cons_succ]
        refine wpAnyH_ready (rs := [11, 13]) (by as_aux_lemma => kernel_rfl) (by simp) ?_
        refine (AllReadyH.cons rfl (fun K hK => ?_) (AllReadyH.cons rfl (fun K hK => ?_) AllReadyH.nil))
        · skip
          go_simp
          refine (hjy _ _ _ (yp.ext (.of_below hBel)) (yq.ext (.of_below hBel))).mono ?_
          rintro e Wn11 ⟨C4, rfl, R4, hb4⟩
          refine hK.out _ _ (belowS (belowCall hHeld.2 hb4)) (fun hHeld => ?_)
          clear hK K
          replace hBel := belowCall hBel hb4
          replace R3 := R3.ext (.of_below hb4)
          replace b3 := b3.below hb4
          try simp only [Act.put, List.setIfInBounds_toArray, List.set_cons_zero, List.set_cons_succ]
          refine wpAnyH_ready (rs := [13]) (by as_aux_lemma => kernel_rfl) (by simp) ?_
          refine AllReadyH.cons rfl (fun K hK => ?_) AllReadyH.nil
          rw [if_pos (by rfl)]
          refine wp_fresh 37 rfl _ alloc_quot ?_
          intro Wn13 B4 hle4 hb4 b4
          have hg4 : W.heap.size ≤ B4 := Nat.le_trans hBel.size hle4
          have hne3_4 : B3 ≠ B4 := by have := b3.lt; omega
          refine hK.out _ _ (belowS (belowCall hHeld.2 hb4)) (fun hHeld => ?_)
          clear hK K
          replace hBel := belowCall hBel hb4
          replace R3 := R3.ext (.of_below hb4)
          replace b3 := b3.below hb4
          replace R4 := R4.ext (.of_below hb4)
          try simp only [Act.put, List.setIfInBounds_toArray, List.set_cons_zero, List.set_cons_succ]
          obtain ⟨_, e3, z3, o3⟩ := R3.cells
          cases e3
          obtain ⟨_, e4, z4, o4⟩ := R4.cells
          cases e4
          refine wpAnyH_storeB B3 37 14 rfl rfl rfl rfl 0 C3 _ C3 (by as_aux_lemma => kernel_rfl) (fun w' i u hS => belowS (hS.2.setCell (p := ⟨B3, i, none⟩) hg3 u)) rfl rfl b3 hHeld (by rw [z3]; exact sizeQuot) (Nat.le_of_eq (by rw [z3]; rfl)) o3 (whole_new (by rw [z3]; rfl)) (fun Ws0 hk0 bs3 hHeld => ?_)
          replace b4 := hk0.box b4 b4.lt (Ne.symm hne3_4)
          replace R3 := R3.ext (hk0.ext b3 (by decide))
          replace R4 := R4.ext (hk0.ext b3 (by decide))
          refine wpAnyH_storeB B4 37 15 rfl rfl rfl rfl 0 C4 _ C4 (by as_aux_lemma => kernel_rfl) (fun w' i u hS => belowS (hS.2.setCell (p := ⟨B4, i, none⟩) hg4 u)) rfl rfl b4 hHeld (by rw [z4]; exact sizeQuot) (Nat.le_of_eq (by rw [z4]; rfl)) o4 (whole_new (by rw [z4]; rfl)) (fun Ws1 hk1 bs4 hHeld => ?_)
          replace bs3 := hk1.box bs3 bs3.lt hne3_4
          replace R3 := R3.ext (hk1.ext b4 (by decide))
          replace R4 := R4.ext (hk1.ext b4 (by decide))
          refine wpAnyH_done (by as_aux_lemma => kernel_rfl) ?_ _
          exact ⟨_, _, _, _, _, _, _, _, _, _, _, _, B3, B4, C3, C4, by first | rfl | simp only [Act.put, List.setIfInBounds_toArray, List.set_cons_zero, List.set_cons_succ], hHeld.2, hg3, bs3, R3, hg4, bs4, R4, hne3_4⟩
        · skip
          rw [if_pos (by rfl)]
          refine wp_fresh 37 rfl _ alloc_quot ?_
          intro Wn13 B4 hle4 hb4 b4
          have hg4 : W.heap.size ≤ B4 := Nat.le_trans hBel.size hle4
          have hne3_4 : B3 ≠ B4 := by have := b3.lt; omega
          refine hK.out _ _ (belowS (belowCall hHeld.2 hb4)) (fun hHeld => ?_)
          clear hK K
          replace hBel := belowCall hBel hb4
          replace R3 := R3.ext (.of_below hb4)
          replace b3 := b3.below hb4
          try simp only [Act.put, List.setIfInBounds_toArray, List.set_cons_zero, List.set_cons_succ]
          refine wpAnyH_ready (rs := [11]) (by as_aux_lemma => kernel_rfl) (by simp) ?_
          refine AllReadyH.cons rfl (fun K hK => ?_) AllReadyH.nil
          go_simp
          refine (hjy _ _ _ (yp.ext (.of_below hBel)) (yq.ext (.of_below hBel))).mono ?_
          rintro e Wn11 ⟨C4, rfl, R4, hb4⟩
          refine hK.out _ _ (belowS (belowCall hHeld.2 hb4)) (fun hHeld => ?_)
          clear hK K
          replace hBel := belowCall hBel hb4
          replace R3 := R3.ext (.of_below hb4)
          replace b3 := b3.below hb4
          replace b4 := b4.below hb4
          try simp only [Act.put, List.setIfInBounds_toArray, List.set_cons_zero, List.set_cons_succ]
          obtain ⟨_, e3, z3, o3⟩ := R3.cells
          cases e3
          obtain ⟨_, e4, z4, o4⟩ := R4.cells
          cases e4
          refine wpAnyH_storeB B3 37 14 rfl rfl rfl rfl 0 C3 _ C3 (by as_aux_lemma => kernel_rfl) (fun w' i u hS => belowS (hS.2.setCell (p := ⟨B3, i, none⟩) hg3 u)) rfl rfl b3 hHeld (by rw [z3]; exact sizeQuot) (Nat.le_of_eq (by rw [z3]; rfl)) o3 (whole_new (by rw [z3]; rfl)) (fun Ws0 hk0 bs3 hHeld => ?_)
          replace b4 := hk0.box b4 b4.lt (Ne.symm hne3_4)
          replace R3 := R3.ext (hk0.ext b3 (by decide))
          replace R4 := R4.ext (hk0.ext b3 (by decide))
          refine wpAnyH_storeB B4 37 15 rfl rfl rfl rfl 0 C4 _ C4 (by as_aux_lemma => kernel_rfl) (fun w' i u hS => belowS (hS.2.setCell (p := ⟨B4, i, none⟩) hg4 u)) rfl rfl b4 hHeld (by rw [z4]; exact sizeQuot) (Nat.le_of_eq (by rw [z4]; rfl)) o4 (whole_new (by rw [z4]; rfl)) (fun Ws1 hk1 bs4 hHeld => ?_)
          replace bs3 := hk1.box bs3 bs3.lt hne3_4
          replace R3 := R3.ext (hk1.ext b4 (by decide))
          replace R4 := R4.ext (hk1.ext b4 (by decide))
          refine wpAnyH_done (by as_aux_lemma => kernel_rfl) ?_ _
          exact ⟨_, _, _, _, _, _, _, _, _, _, _, _, B3, B4, C3, C4, by first | rfl | simp only [Act.put, List.setIfInBounds_toArray, List.set_cons_zero, List.set_cons_succ], hHeld.2, hg3, bs3, R3, hg4, bs4, R4, hne3_4⟩
      · skip
        rw [if_pos (by rfl)]
        refine wp_fresh 37 rfl _ alloc_quot ?_
        intro Wn13 B4 hle4 hb4 b4
        have hg4 : W.heap.size ≤ B4 := Nat.le_trans hBel.size hle4
        refine hK.out _ _ (belowS (belowCall hHeld.2 hb4)) (fun hHeld => ?_)
        clear hK K
        replace hBel := belowCall hBel hb4
        replace R3 := R3.ext (.of_below hb4)
        try simp only [Act.put, List.setIfInBounds_toArray, List.set_cons_zero, List.set_cons_succ]
        refine wpAnyH_ready (rs := [11, 12]) (by as_aux_lemma => kernel_rfl) (by simp) ?_
        refine (AllReadyH.cons rfl (fun K hK => ?_) (AllReadyH.cons rfl (fun K hK => ?_) AllReadyH.nil))
        · skip
          go_simp
          refine (hjy _ _ _ (yp.ext (.of_below hBel)) (yq.ext (.of_below hBel))).mono ?_
          rintro e Wn11 ⟨C4, rfl, R4, hb4⟩
          refine hK.out _ _ (belowS (belowCall hHeld.2 hb4)) (fun hHeld => ?_)
          clear hK K
          replace hBel := belowCall hBel hb4
          replace R3 := R3.ext (.of_below hb4)
          replace b4 := b4.below hb4
          try simp only [Act.put, List.setIfInBounds_toArray, List.set_cons_zero, List.set_cons_succ]
          refine wpAnyH_ready (rs := [12]) (by as_aux_lemma => kernel_rfl) (by simp) ?_
          refine AllReadyH.cons rfl (fun K hK => ?_) AllReadyH.nil
          rw [if_pos (by rfl)]
          refine wp_fresh 37 rfl _ alloc_quot ?_
          intro Wn12 B3 hle3 hb3 b3
          have hg3 : W.heap.size ≤ B3 := Nat.le_trans hBel.size hle3
          have hne4_3 : B4 ≠ B3 := by have := b4.lt; omega
          refine hK.out _ _ (belowS (belowCall hHeld.2 hb3)) (fun hHeld => ?_)
          clear hK K
          replace hBel := belowCall hBel hb3
          replace R3 := R3.ext (.of_below hb3)
          replace b4 := b4.below hb3
          replace R4 := R4.ext (.of_below hb3)
          try simp only [Act.put, List.setIfInBounds_toArray, List.set_cons_zero, List.set_cons_succ]
          obtain ⟨_, e3, z3, o3⟩ := R3.cells
          cases e3
          obtain ⟨_, e4, z4, o4⟩ := R4.cells
          cases e4
          have hne3_4 := Ne.symm hne4_3
          refine wpAnyH_storeB B3 37 14 rfl rfl rfl rfl 0 C3 _ C3 (by as_aux_lemma => kernel_rfl) (fun w' i u hS => belowS (hS.2.setCell (p := ⟨B3, i, none⟩) hg3 u)) rfl rfl b3 hHeld (by rw [z3]; exact sizeQuot) (Nat.le_of_eq (by rw [z3]; rfl)) o3 (whole_new (by rw [z3]; rfl)) (fun Ws0 hk0 bs3 hHeld => ?_)
          replace b4 := hk0.box b4 b4.lt (Ne.symm hne3_4)
          replace R3 := R3.ext (hk0.ext b3 (by decide))
          replace R4 := R4.ext (hk0.ext b3 (by decide))
          refine wpAnyH_storeB B4 37 15 rfl rfl rfl rfl 0 C4 _ C4 (by as_aux_lemma => kernel_rfl) (fun w' i u hS => belowS (hS.2.setCell (p := ⟨B4, i, none⟩) hg4 u)) rfl rfl b4 hHeld (by rw [z4]; exact sizeQuot) (Nat.le_of_eq (by rw [z4]; rfl)) o4 (whole_new (by rw [z4]; rfl)) (fun Ws1 hk1 bs4 hHeld => ?_)
          replace bs3 := hk1.box bs3 bs3.lt hne3_4
          replace R3 := R3.ext (hk1.ext b4 (by decide))
          replace R4 := R4.ext (hk1.ext b4 (by decide))
          refine wpAnyH_done (by as_aux_lemma => kernel_rfl) ?_ _
          exact ⟨_, _, _, _, _, _, _, _, _, _, _, _, B3, B4, C3, C4, by first | rfl | simp only [Act.put, List.setIfInBounds_toArray, List.set_cons_zero, List.set_cons_succ], hHeld.2, hg3, bs3, R3, hg4, bs4, R4, hne3_4⟩
        · skip
          rw [if_pos (by rfl)]
          refine wp_fresh 37 rfl _ alloc_quot ?_
          intro Wn12 B3 hle3 hb3 b3
          have hg3 : W.heap.size ≤ B3 := Nat.le_trans hBel.size hle3
          have hne4_3 : B4 ≠ B3 := by have := b4.lt; omega
          refine hK.out _ _ (belowS (belowCall hHeld.2 hb3)) (fun hHeld => ?_)
          clear hK K
          replace hBel := belowCall hBel hb3
          replace R3 := R3.ext (.of_below hb3)
          replace b4 := b4.below hb3
          try simp only [Act.put, List.setIfInBounds_toArray, List.set_cons_zero, List.set_cons_succ]
          refine wpAnyH_ready (rs := [11]) (by as_aux_lemma => kernel_rfl) (by simp) ?_
          refine AllReadyH.cons rfl (fun K hK => ?_) AllReadyH.nil
          go_simp
          refine (hjy _ _ _ (yp.ext (.of_below hBel)) (yq.ext (.of_below hBel))).mono ?_
          rintro e Wn11 ⟨C4, rfl, R4, hb4⟩
          refine hK.out _ _ (belowS (belowCall hHeld.2 hb4)) (fun hHeld => ?_)
          clear hK K
          replace hBel := belowCall hBel hb4
          replace R3 := R3.ext (.of_below hb4)
          replace b4 := b4.below hb4
          replace b3 := b3.below hb4
          try simp only [Act.put, List.setIfInBounds_toArray, List.set_cons_zero, List.set_cons_succ]
          obtain ⟨_, e3, z3, o3⟩ := R3.cells
          cases e3
          obtain ⟨_, e4, z4, o4⟩ := R4.cells
          cases e4
          have hne3_4 := Ne.symm hne4_3
          refine wpAnyH_storeB B3 37 14 rfl rfl rfl rfl 0 C3 _ C3 (by as_aux_lemma => kernel_rfl) (fun w' i u hS => belowS (hS.2.setCell (p := ⟨B3, i, none⟩) hg3 u)) rfl rfl b3 hHeld (by rw [z3]; exact sizeQuot) (Nat.le_of_eq (by rw [z3]; rfl)) o3 (whole_new (by rw [z3]; rfl)) (fun Ws0 hk0 bs3 hHeld => ?_)
          replace b4 := hk0.box b4 b4.lt (Ne.symm hne3_4)
          replace R3 := R3.ext (hk0.ext b3 (by decide))
          replace R4 := R4.ext (hk0.ext b3 (by decide))
          refine wpAnyH_storeB B4 37 15 rfl rfl rfl rfl 0 C4 _ C4 (by as_aux_lemma => kernel_rfl) (fun w' i u hS => belowS (hS.2.setCell (p := ⟨B4, i, none⟩) hg4 u)) rfl rfl b4 hHeld (by rw [z4]; exact sizeQuot) (Nat.le_of_eq (by rw [z4]; rfl)) o4 (whole_new (by rw [z4]; rfl)) (fun Ws1 hk1 bs4 hHeld => ?_)
          replace bs3 := hk1.box bs3 bs3.lt hne3_4
          replace R3 := R3.ext (hk1.ext b4 (by decide))
          replace R4 := R4.ext (hk1.ext b4 (by decide))
          refine wpAnyH_done (by as_aux_lemma => kernel_rfl) ?_ _
          exact ⟨_, _, _, _, _, _, _, _, _, _, _, _, B3, B4, C3, C4, by first | rfl | simp only [Act.put, List.setIfInBounds_toArray, List.set_cons_zero, List.set_cons_succ], hHeld.2, hg3, bs3, R3, hg4, bs4, R4, hne3_4⟩
    · skip
      rw [if_pos (by rfl)]
      refine wp_fresh 37 rfl _ alloc_quot ?_
      intro Wn12 B3 hle3 hb3 b3
      have hg3 : W.heap.size ≤ B3 := Nat.le_trans hBel.size hle3
      refine hK.out _ _ (belowS (belowCall hHeld.2 hb3)) (fun hHeld => ?_)
      clear hK K
      replace hBel := belowCall hBel hb3
      try simp only [Act.put, List.setIfInBounds_toArray, List.set_cons_zero, List.set_cons_succ]
      refine wpAnyH_ready (rs := [5, 13]) (by as_aux_lemma => kernel_rfl) (by simp) ?_
      refine (AllReadyH.cons rfl (fun K hK => ?_) (AllReadyH.cons rfl (fun K hK => ?_) AllReadyH.nil))
      · skip
        go_simp
        refine (hjx _ _ _ (xm.ext (.of_below hBel)) (xn.ext (.of_below hBel))).mono ?_
        rintro e Wn5 ⟨C3, rfl, R3, hb3⟩
        refine hK.out _ _ (belowS (belowCall hHeld.2 hb3)) (fun hHeld => ?_)
        clear hK K
        replace hBel := belowCall hBel hb3
        replace b3 := b3.below hb3
        try simp only [Act.put, List.setIfInBounds_toArray, List.set_cons_zero, List.set_cons_succ]
        refine wpAnyH_ready (rs := [11, 13]) (by as_aux_lemma => kernel_rfl) (by simp) ?_
        refine (AllReadyH.cons rfl (fun K hK => ?_) (AllReadyH.cons rfl (fun K hK => ?_) AllReadyH.nil))
        · skip
          go_simp
          refine (hjy _ _ _ (yp.ext (.of_below hBel)) (yq.ext (.of_below hBel))).mono ?_
          rintro e Wn11 ⟨C4, rfl, R4, hb4⟩
          refine hK.out _ _ (belowS (belowCall hHeld.2 hb4)) (fun hHeld => ?_)
          clear hK K
          replace hBel := belowCall hBel hb4
          replace b3 := b3.below hb4
          replace R3 := R3.ext (.of_below hb4)
          try simp only [Act.put, List.setIfInBounds_toArray, List.set_cons_zero, List.set_cons_succ]
          refine wpAnyH_ready (rs := [13]) (by as_aux_lemma => kernel_rfl) (by simp) ?_
          refine AllReadyH.cons rfl (fun K hK => ?_) AllReadyH.nil
          rw [if_pos (by rfl)]
          refine wp_fresh 37 rfl _ alloc_quot ?_
          intro Wn13 B4 hle4 hb4 b4
          have hg4 : W.heap.size ≤ B4 := Nat.le_trans hBel.size hle4
          have hne3_4 : B3 ≠ B4 := by have := b3.lt; omega
          refine hK.out _ _ (belowS (belowCall hHeld.2 hb4)) (fun hHeld => ?_)
          clear hK K
          replace hBel := belowCall hBel hb4
          replace b3 := b3.below hb4
          replace R3 := R3.ext (.of_below hb4)
          replace R4 := R4.ext (.of_below hb4)
          try simp only [Act.put, List.setIfInBounds_toArray, List.set_cons_zero, List.set_cons_succ]
          obtain ⟨_, e3, z3, o3⟩ := R3.cells
          cases e3
          obtain ⟨_, e4, z4, o4⟩ := R4.cells
          cases e4
          refine wpAnyH_storeB B3 37 14 rfl rfl rfl rfl 0 C3 _ C3 (by as_aux_lemma => kernel_rfl) (fun w' i u hS => belowS (hS.2.setCell (p := ⟨B3, i, none⟩) hg3 u)) rfl rfl b3 hHeld (by rw [z3]; exact sizeQuot) (Nat.le_of_eq (by rw [z3]; rfl)) o3 (whole_new (by rw [z3]; rfl)) (fun Ws0 hk0 bs3 hHeld => ?_)
          replace b4 := hk0.box b4 b4.lt (Ne.symm hne3_4)
          replace R3 := R3.ext (hk0.ext b3 (by decide))
          replace R4 := R4.ext (hk0.ext b3 (by decide))
          refine wpAnyH_storeB B4 37 15 rfl rfl rfl rfl 0 C4 _ C4 (by as_aux_lemma => kernel_rfl) (fun w' i u hS => belowS (hS.2.setCell (p := ⟨B4, i, none⟩) hg4 u)) rfl rfl b4 hHeld (by rw [z4]; exact sizeQuot) (Nat.le_of_eq (by rw [z4]; rfl)) o4 (whole_new (by rw [z4]; rfl)) (fun Ws1 hk1 bs4 hHeld => ?_)
          replace bs3 := hk1.box bs3 bs3.lt hne3_4
          replace R3 := R3.ext (hk1.ext b4 (by decide))
          replace R4 := R4.ext (hk1.ext b4 (by decide))
          refine wpAnyH_done (by as_aux_lemma => kernel_rfl) ?_ _
          exact ⟨_, _, _, _, _, _, _, _, _, _, _, _, B3, B4, C3, C4, by first | rfl | simp only [Act.put, List.setIfInBounds_toArray, List.set_cons_zero, List.set_cons_succ], hHeld.2, hg3, bs3, R3, hg4, bs4, R4, hne3_4⟩
        · skip
          rw [if_pos (by rfl)]
          refine wp_fresh 37 rfl _ alloc_quot ?_
          intro Wn13 B4 hle4 hb4 b4
          have hg4 : W.heap.size ≤ B4 := Nat.le_trans hBel.size hle4
          have hne3_4 : B3 ≠ B4 := by have := b3.lt; omega
          refine hK.out _ _ (belowS (belowCall hHeld.2 hb4)) (fun hHeld => ?_)
          clear hK K
          replace hBel := belowCall hBel hb4
          replace b3 := b3.below hb4
          replace R3 := R3.ext (.of_below hb4)
          try simp only [Act.put, List.setIfInBounds_toArray, List.set_cons_zero, List.set_cons_succ]
          refine wpAnyH_ready (rs := [11]) (by as_aux_lemma => kernel_rfl) (by simp) ?_
          refine AllReadyH.cons rfl (fun K hK => ?_) AllReadyH.nil
          go_simp
          refine (hjy _ _ _ (yp.ext (.of_below hBel)) (yq.ext (.of_below hBel))).mono ?_
          rintro e Wn11 ⟨C4, rfl, R4, hb4⟩
          refine hK.out _ _ (belowS (belowCall hHeld.2 hb4)) (fun hHeld => ?_)
          clear hK K
          replace hBel := belowCall hBel hb4
          replace b3 := b3.below hb4
          replace R3 := R3.ext (.of_below hb4)
          replace b4 := b4.below hb4
          try simp only [Act.put, List.setIfInBounds_toArray, List.set_cons_zero, List.set_cons_succ]
          obtain ⟨_, e3, z3, o3⟩ := R3.cells
          cases e3
          obtain ⟨_, e4, z4, o4⟩ := R4.cells
          cases e4
          refine wpAnyH_storeB B3 37 14 rfl rfl rfl rfl 0 C3 _ C3 (by as_aux_lemma => kernel_rfl) (fun w' i u hS => belowS (hS.2.setCell (p := ⟨B3, i, none⟩) hg3 u)) rfl rfl b3 hHeld (by rw [z3]; exact sizeQuot) (Nat.le_of_eq (by rw [z3]; rfl)) o3 (whole_new (by rw [z3]; rfl)) (fun Ws0 hk0 bs3 hHeld => ?_)
          replace b4 := hk0.box b4 b4.lt (Ne.symm hne3_4)
          replace R3 := R3.ext (hk0.ext b3 (by decide))
          replace R4 := R4.ext (hk0.ext b3 (by decide))
          refine wpAnyH_storeB B4 37 15 rfl rfl rfl rfl 0 C4 _ C4 (by as_aux_lemma => kernel_rfl) (fun w' i u hS => belowS (hS.2.setCell (p := ⟨B4, i, none⟩) hg4 u)) rfl rfl b4 hHeld (by rw [z4]; exact sizeQuot) (Nat.le_of_eq (by rw [z4]; rfl)) o4 (whole_new (by rw [z4]; rfl)) (fun Ws1 hk1 bs4 hHeld => ?_)
          replace bs3 := hk1.box bs3 bs3.lt hne3_4
          replace R3 := R3.ext (hk1.ext b4 (by decide))
          replace R4 := R4.ext (hk1.ext b4 (by decide))
          refine wpAnyH_done (by as_aux_lemma => kernel_rfl) ?_ _
          exact ⟨_, _, _, _, _, _, _, _, _, _, _, _, B3, B4, C3, C4, by first | rfl | simp only [Act.put, List.setIfInBounds_toArray, List.set_cons_zero, List.set_cons_succ], hHeld.2, hg3, bs3, R3, hg4, bs4, R4, hne3_4⟩
      · skip
        rw [if_pos (by rfl)]
        refine wp_fresh 37 rfl _ alloc_quot ?_
        intro Wn13 B4 hle4 hb4 b4
        have hg4 : W.heap.size ≤ B4 := Nat.le_trans hBel.size hle4
        have hne3_4 : B3 ≠ B4 := by have := b3.lt; omega
        refine hK.out _ _ (belowS (belowCall hHeld.2 hb4)) (fun hHeld => ?_)
        clear hK K
        replace hBel := belowCall hBel hb4
        replace b3 := b3.below hb4
        try simp only [Act.put, List.setIfInBounds_toArray, List.set_cons_zero, List.set_cons_succ]
        refine wpAnyH_ready (rs := [5]) (by as_aux_lemma => kernel_rfl) (by simp) ?_
        refine AllReadyH.cons rfl (fun K hK => ?_) AllReadyH.nil
        go_simp
        refine (hjx _ _ _ (xm.ext (.of_below hBel)) (xn.ext (.of_below hBel))).mono ?_
        rintro e Wn5 ⟨C3, rfl, R3, hb3⟩
        refine hK.out _ _ (belowS (belowCall hHeld.2 hb3)) (fun hHeld => ?_)
        clear hK K
        replace hBel := belowCall hBel hb3
        replace b3 := b3.below hb3
        replace b4 := b4.below hb3
        try simp only [Act.put, List.setIfInBounds_toArray, List.set_cons_zero, List.set_cons_succ]
        refine wpAnyH_ready (rs := [11]) (by as_aux_lemma => kernel_rfl) (by simp) ?_
        refine AllReadyH.cons rfl (fun K hK => ?_) AllReadyH.nil
        go_simp
        refine (hjy _ _ _ (yp.ext (.of_below hBel)) (yq.ext (.of_below hBel))).mono ?_
        rintro e Wn11 ⟨C4, rfl, R4, hb4⟩
        refine hK.out _ _ (belowS (belowCall hHeld.2 hb4)) (fun hHeld => ?_)
        clear hK K
        replace hBel := belowCall hBel hb4
        replace b3 := b3.below hb4
        replace b4 := b4.below hb4
        replace R3 := R3.ext (.of_below hb4)
        try simp only [Act.put, List.setIfInBounds_toArray, List.set_cons_zero, List.set_cons_succ]
        obtain ⟨_, e3, z3, o3⟩ := R3.cells
        cases e3
        obtain ⟨_, e4, z4, o4⟩ := R4.cells
        cases e4
        refine wpAnyH_storeB B3 37 14 rfl rfl rfl rfl 0 C3 _ C3 (by as_aux_lemma => kernel_rfl) (fun w' i u hS => belowS (hS.2.setCell (p := ⟨B3, i, none⟩) hg3 u)) rfl rfl b3 hHeld (by rw [z3]; exact sizeQuot) (Nat.le_of_eq (by rw [z3]; rfl)) o3 (whole_new (by rw [z3]; rfl)) (fun Ws0 hk0 bs3 hHeld => ?_)
        replace b4 := hk0.box b4 b4.lt (Ne.symm hne3_4)
        replace R3 := R3.ext (hk0.ext b3 (by decide))
        replace R4 := R4.ext (hk0.ext b3 (by decide))
        refine wpAnyH_storeB B4 37 15 rfl rfl rfl rfl 0 C4 _ C4 (by as_aux_lemma => kernel_rfl) (fun w' i u hS => belowS (hS.2.setCell (p := ⟨B4, i, none⟩) hg4 u)) rfl rfl b4 hHeld (by rw [z4]; exact sizeQuot) (Nat.le_of_eq (by rw [z4]; rfl)) o4 (whole_new (by rw [z4]; rfl)) (fun Ws1 hk1 bs4 hHeld => ?_)
        replace bs3 := hk1.box bs3 bs3.lt hne3_4
        replace R3 := R3.ext (hk1.ext b4 (by decide))
        replace R4 := R4.ext (hk1.ext b4 (by decide))
        refine wpAnyH_done (by as_aux_lemma => kernel_rfl) ?_ _
        exact ⟨_, _, _, _, _, _, _, _, _, _, _, _, B3, B4, C3, C4, by first | rfl | simp only [Act.put, List.setIfInBounds_toArray, List.set_cons_zero, List.set_cons_succ], hHeld.2, hg3, bs3, R3, hg4, bs4, R4, hne3_4⟩
    · skip
      rw [if_pos (by rfl)]
      refine wp_fresh 37 rfl _ alloc_quot ?_
      intro Wn13 B4 hle4 hb4 b4
      have hg4 : W.heap.size ≤ B4 := Nat.le_trans hBel.size hle4
      refine hK.out _ _ (belowS (belowCall hHeld.2 hb4)) (fun hHeld => ?_)
      clear hK K
      replace hBel := belowCall hBel hb4
      try simp only [Act.put, List.setIfInBounds_toArray, List.set_cons_zero, List.set_cons_succ]
      refine wpAnyH_ready (rs := [5, 12]) (by as_aux_lemma => kernel_rfl) (by simp) ?_
      refine (AllReadyH.cons rfl (fun K hK => ?_) (AllReadyH.cons rfl (fun K hK => ?_) AllReadyH.nil))
      · skip
        go_simp
        refine (hjx _ _ _ (xm.ext (.of_below hBel)) (xn.ext (.of_below hBel))).mono ?_
        rintro e Wn5 ⟨C3, rfl, R3, hb3⟩
        refine hK.out _ _ (belowS (belowCall hHeld.2 hb3)) (fun hHeld => ?_)
        clear hK K
        replace hBel := belowCall hBel hb3
        replace b4 := b4.below hb3
        try simp only [Act.put, List.setIfInBounds_toArray, List.set_cons_zero, List.set_cons_succ]
        refine wpAnyH_ready (rs := [11, 12]) (by as_aux_lemma => kernel_rfl) (by simp) ?_
        refine (AllReadyH.cons rfl (fun K hK => ?_) (AllReadyH.cons rfl (fun K hK => ?_) AllReadyH.nil))
        · skip
          go_simp
          refine (hjy _ _ _ (yp.ext (.of_below hBel)) (yq.ext (.of_below hBel))).mono ?_
          rintro e Wn11 ⟨C4, rfl, R4, hb4⟩
          refine hK.out _ _ (belowS (belowCall hHeld.2 hb4)) (fun hHeld => ?_)
          clear hK K
          replace hBel := belowCall hBel hb4
          replace b4 := b4.below hb4
          replace R3 := R3.ext (.of_below hb4)
          try simp only [Act.put, List.setIfInBounds_toArray, List.set_cons_zero, List.set_cons_succ]
          refine wpAnyH_ready (rs := [12]) (by as_aux_lemma => kernel_rfl) (by simp) ?_
          refine AllReadyH.cons rfl (fun K hK => ?_) AllReadyH.nil
          rw [if_pos (by rfl)]
          refine wp_fresh 37 rfl _ alloc_quot ?_
          intro Wn12 B3 hle3 hb3 b3
          have hg3 : W.heap.size ≤ B3 := Nat.le_trans hBel.size hle3
          have hne4_3 : B4 ≠ B3 := by have := b4.lt; omega
          refine hK.out _ _ (belowS (belowCall hHeld.2 hb3)) (fun hHeld => ?_)
          clear hK K
          replace hBel := belowCall hBel hb3
          replace b4 := b4.below hb3
          replace R3 := R3.ext (.of_below hb3)
          replace R4 := R4.ext (.of_below hb3)
          try simp only [Act.put, List.setIfInBounds_toArray, List.set_cons_zero, List.set_cons_succ]
          obtain ⟨_, e3, z3, o3⟩ := R3.cells
          cases e3
          obtain ⟨_, e4, z4, o4⟩ := R4.cells
          cases e4
          have hne3_4 := Ne.symm hne4_3
          refine wpAnyH_storeB B3 37 14 rfl rfl rfl rfl 0 C3 _ C3 (by as_aux_lemma => kernel_rfl) (fun w' i u hS => belowS (hS.2.setCell (p := ⟨B3, i, none⟩) hg3 u)) rfl rfl b3 hHeld (by rw [z3]; exact sizeQuot) (Nat.le_of_eq (by rw [z3]; rfl)) o3 (whole_new (by rw [z3]; rfl)) (fun Ws0 hk0 bs3 hHeld => ?_)
          replace b4 := hk0.box b4 b4.lt (Ne.symm hne3_4)
          replace R3 := R3.ext (hk0.ext b3 (by decide))
          replace R4 := R4.ext (hk0.ext b3 (by decide))
          refine wpAnyH_storeB B4 37 15 rfl rfl rfl rfl 0 C4 _ C4 (by as_aux_lemma => kernel_rfl) (fun w' i u hS => belowS (hS.2.setCell (p := ⟨B4, i, none⟩) hg4 u)) rfl rfl b4 hHeld (by rw [z4]; exact sizeQuot) (Nat.le_of_eq (by rw [z4]; rfl)) o4 (whole_new (by rw [z4]; rfl)) (fun Ws1 hk1 bs4 hHeld => ?_)
          replace bs3 := hk1.box bs3 bs3.lt hne3_4
          replace R3 := R3.ext (hk1.ext b4 (by decide))
          replace R4 := R4.ext (hk1.ext b4 (by decide))
          refine wpAnyH_done (by as_aux_lemma => kernel_rfl) ?_ _
          exact ⟨_, _, _, _, _, _, _, _, _, _, _, _, B3, B4, C3, C4, by first | rfl | simp only [Act.put, List.setIfInBounds_toArray, List.set_cons_zero, List.set_cons_succ], hHeld.2, hg3, bs3, R3, hg4, bs4, R4, hne3_4⟩
        · skip
          rw [if_pos (by rfl)]
          refine wp_fresh 37 rfl _ alloc_quot ?_
          intro Wn12 B3 hle3 hb3 b3
          have hg3 : W.heap.size ≤ B3 := Nat.le_trans hBel.size hle3
          have hne4_3 : B4 ≠ B3 := by have := b4.lt; omega
          refine hK.out _ _ (belowS (belowCall hHeld.2 hb3)) (fun hHeld => ?_)
          clear hK K
          replace hBel := belowCall hBel hb3
          replace b4 := b4.below hb3
          replace R3 := R3.ext (.of_below hb3)
          try simp only [Act.put, List.setIfInBounds_toArray, List.set_cons_zero, List.set_cons_succ]
          refine wpAnyH_ready (rs := [11]) (by as_aux_lemma => kernel_rfl) (by simp) ?_
          refine AllReadyH.cons rfl (fun K hK => ?_) AllReadyH.nil
          go_simp
          refine (hjy _ _ _ (yp.ext (.of_below hBel)) (yq.ext (.of_below hBel))).mono ?_
          rintro e Wn11 ⟨C4, rfl, R4, hb4⟩
          refine hK.out _ _ (belowS (belowCall hHeld.2 hb4)) (fun hHeld => ?_)
          clear hK K
          replace hBel := belowCall hBel hb4
          replace b4 := b4.below hb4
          replace R3 := R3.ext (.of_below hb4)
          replace b3 := b3.below hb4
          try simp only [Act.put, List.setIfInBounds_toArray, List.set_cons_zero, List.set_cons_succ]
          obtain ⟨_, e3, z3, o3⟩ := R3.cells
          cases e3
          obtain ⟨_, e4, z4, o4⟩ := R4.cells
          cases e4
          have hne3_4 := Ne.symm hne4_3
          refine wpAnyH_storeB B3 37 14 rfl rfl rfl rfl 0 C3 _ C3 (by as_aux_lemma => kernel_rfl) (fun w' i u hS => belowS (hS.2.setCell (p := ⟨B3, i, none⟩) hg3 u)) rfl rfl b3 hHeld (by rw [z3]; exact sizeQuot) (Nat.le_of_eq (by rw [z3]; rfl)) o3 (whole_new (by rw [z3]; rfl)) (fun Ws0 hk0 bs3 hHeld => ?_)
          replace b4 := hk0.box b4 b4.lt (Ne.symm hne3_4)
          replace R3 := R3.ext (hk0.ext b3 (by decide))
          replace R4 := R4.ext (hk0.ext b3 (by decide))
          refine wpAnyH_storeB B4 37 15 rfl rfl rfl rfl 0 C4 _ C4 (by as_aux_lemma => kernel_rfl) (fun w' i u hS => belowS (hS.2.setCell (p := ⟨B4, i, none⟩) hg4 u)) rfl rfl b4 hHeld (by rw [z4]; exact sizeQuot) (Nat.le_of_eq (by rw [z4]; rfl)) o4 (whole_new (by rw [z4]; rfl)) (fun Ws1 hk1 bs4 hHeld => ?_)
          replace bs3 := hk1.box bs3 bs3.lt hne3_4
          replace R3 := R3.ext (hk1.ext b4 (by decide))
          replace R4 := R4.ext (hk1.ext b4 (by decide))
          refine wpAnyH_done (by as_aux_lemma => kernel_rfl) ?_ _
          exact ⟨_, _, _, _, _, _, _, _, _, _, _, _, B3, B4, C3, C4, by first | rfl | simp only [Act.put, List.setIfInBounds_toArray, List.set_cons_zero, List.set_cons_succ], hHeld.2, hg3, bs3, R3, hg4, bs4, R4, hne3_4⟩
      · skip
        rw [if_pos (by rfl)]
        refine wp_fresh 37 rfl _ alloc_quot ?_
        intro Wn12 B3 hle3 hb3 b3
        have hg3 : W.heap.size ≤ B3 := Nat.le_trans hBel.size hle3
        have hne4_3 : B4 ≠ B3 := by have := b4.lt; omega
        refine hK.out _ _ (belowS (belowCall hHeld.2 hb3)) (fun hHeld => ?_)
        clear hK K
        replace hBel := belowCall hBel hb3
        replace b4 := b4.below hb3
        try simp only [Act.put, List.setIfInBounds_toArray, List.set_cons_zero, List.set_cons_succ]
        refine wpAnyH_ready (rs := [5]) (by as_aux_lemma => kernel_rfl) (by simp) ?_
        refine AllReadyH.cons rfl (fun K hK => ?_) AllReadyH.nil
        go_simp
        refine (hjx _ _ _ (xm.ext (.of_below hBel)) (xn.ext (.of_below hBel))).mono ?_
        rintro e Wn5 ⟨C3, rfl, R3, hb3⟩
        refine hK.out _ _ (belowS (belowCall hHeld.2 hb3)) (fun hHeld => ?_)
        clear hK K
        replace hBel := belowCall hBel hb3
        replace b4 := b4.below hb3
        replace b3 := b3.below hb3
        try simp only [Act.put, List.setIfInBounds_toArray, List.set_cons_zero, List.set_cons_succ]
        refine wpAnyH_ready (rs := [11]) (by as_aux_lemma => kernel_rfl) (by simp) ?_
        refine AllReadyH.cons rfl (fun K hK => ?_) AllReadyH.nil
        go_simp
        refine (hjy _ _ _ (yp.ext (.of_below hBel)) (yq.ext (.of_below hBel))).mono ?_
        rintro e Wn11 ⟨C4, rfl, R4, hb4⟩
        refine hK.out _ _ (belowS (belowCall hHeld.2 hb4)) (fun hHeld => ?_)
        clear hK K
        replace hBel := belowCall hBel hb4
        replace b4 := b4.below hb4
        replace b3 := b3.below hb4
        replace R3 := R3.ext (.of_below hb4)
        try simp only [Act.put, List.setIfInBounds_toArray, List.set_cons_zero, List.set_cons_succ]
        obtain ⟨_, e3, z3, o3⟩ := R3.cells
        cases e3
        obtain ⟨_, e4, z4, o4⟩ := R4.cells
        cases e4
        have hne3_4 := Ne.symm hne4_3
        refine wpAnyH_storeB B3 37 14 rfl rfl rfl rfl 0 C3 _ C3 (by as_aux_lemma => kernel_rfl) (fun w' i u hS => belowS (hS.2.setCell (p := ⟨B3, i, none⟩) hg3 u)) rfl rfl b3 hHeld (by rw [z3]; exact sizeQuot) (Nat.le_of_eq (by rw [z3]; rfl)) o3 (whole_new (by rw [z3]; rfl)) (fun Ws0 hk0 bs3 hHeld => ?_)
        replace b4 := hk0.box b4 b4.lt (Ne.symm hne3_4)
        replace R3 := R3.ext (hk0.ext b3 (by decide))
        replace R4 := R4.ext (hk0.ext b3 (by decide))
        refine wpAnyH_storeB B4 37 15 rfl rfl rfl rfl 0 C4 _ C4 (by as_aux_lemma => kernel_rfl) (fun w' i u hS => belowS (hS.2.setCell (p := ⟨B4, i, none⟩) hg4 u)) rfl rfl b4 hHeld (by rw [z4]; exact sizeQuot) (Nat.le_of_eq (by rw [z4]; rfl)) o4 (whole_new (by rw [z4]; rfl)) (fun Ws1 hk1 bs4 hHeld => ?_)
        replace bs3 := hk1.box bs3 bs3.lt hne3_4
        replace R3 := R3.ext (hk1.ext b4 (by decide))
        replace R4 := R4.ext (hk1.ext b4 (by decide))
        refine wpAnyH_done (by as_aux_lemma => kernel_rfl) ?_ _
        exact ⟨_, _, _, _, _, _, _, _, _, _, _, _, B3, B4, C3, C4, by first | rfl | simp only [Act.put, List.setIfInBounds_toArray, List.set_cons_zero, List.set_cons_succ], hHeld.2, hg3, bs3, R3, hg4, bs4, R4, hne3_4⟩
  · rintro e a' V4 hmid
    cases e with
    | normal => ?_
    | _ => exact hmid.elim
    obtain ⟨v7, v8, v9, v10, v11, v12, v13, v14, v15, v16, v17, v18, B3, B4, C3, C4, rfl, hbV, hg3, b3, R3, hg4, b4, R4, hne3_4⟩ := hmid
    subst ha
    simp only [Act.put, List.setIfInBounds_toArray, List.set_cons_zero, List.set_cons_succ]
    replace hB := belowCall hB hbV
    replace bO := bO.below hbV
    have hn3 : B3 ≠ BO := by omega
    have hn4 : B4 ≠ BO := by omega
    have i3 : (Tryz.prog.info? 37).map (·.size) = some C3.size := by obtain ⟨_, e, z, o⟩ := R3.cells; cases e; rw [z]; exact sizeQuot
    have i4 : (Tryz.prog.info? 37).map (·.size) = some C4.size := by obtain ⟨_, e, z, o⟩ := R4.cells; cases e; rw [z]; exact sizeQuot
    clear br bs xm xn yp yq lbr lbs lO hbV
    go_wp2_with fail
    refine wp_region_held_drew (S := fun w' => (∀ b o, b < V4.heap.size → b ≠ BO → w'.cell? ⟨b, o, none⟩ = V4.cell? ⟨b, o, none⟩) ∧ KeepBut BO V4.heap.size V4 w') (by as_aux_lemma => kernel_rfl) (KeepBut.S (KeepBut.refl _ _).drew) (fun hHeld => ?_)
    have hBel : Below V4.heap.size V4 V4.drew := (Below.refl _ _).drew
    refine tl 0 (some 19) rfl (.agg C3) (exec_load 37 _ rfl B3 0 rfl  C3 (fun w h => (h.2.box b3 b3.lt hn3).range) _ Tryz.underlying37 rfl i3) ?_
    refine tl 1 (some 20) rfl (.agg C3) (exec_load 37 _ rfl B3 0 rfl  C3 (fun w h => (h.2.box b3 b3.lt hn3).range) _ Tryz.underlying37 rfl i3) ?_
    refine tl 3 (some 22) rfl (.agg C4) (exec_load 37 _ rfl B4 0 rfl  C4 (fun w h => (h.2.box b4 b4.lt hn4).range) _ Tryz.underlying37 rfl i4) ?_
    refine tl 4 (some 23) rfl (.agg C4) (exec_load 37 _ rfl B4 0 rfl  C4 (fun w h => (h.2.box b4 b4.lt hn4).range) _ Tryz.underlying37 rfl i4) ?_
    refine wpAnyH_ready (rs := [2]) (by as_aux_lemma => kernel_rfl) (by simp) ?_
    refine AllReadyH.cons rfl (fun K hK => ?_) AllReadyH.nil
    go_simp
    refine (cmul_ok x x _ _ _ (R3.ext (.of_below hBel)) (R3.ext (.of_below hBel)) f1).mono ?_
    rintro e Wn2 ⟨C8, rfl, R8, hb8⟩
    refine hK.out _ _ (KeepBut.S (hHeld.2.call hb8)) (fun hHeld => ?_)
    clear hK K
    replace hBel := belowCall hBel hb8
    try simp only [Act.put, List.setIfInBounds_toArray, List.set_cons_zero, List.set_cons_succ]
    refine wpAnyH_ready (rs := [5]) (by as_aux_lemma => kernel_rfl) (by simp) ?_
    refine AllReadyH.cons rfl (fun K hK => ?_) AllReadyH.nil
    go_simp
    refine (cmul_ok y y _ _ _ (R4.ext (.of_below hBel)) (R4.ext (.of_below hBel)) f2).mono ?_
    rintro e Wn5 ⟨C9, rfl, R9, hb9⟩
    refine hK.out _ _ (KeepBut.S (hHeld.2.call hb9)) (fun hHeld => ?_)
    clear hK K
    replace hBel := belowCall hBel hb9
    replace R8 := R8.ext (.of_below hb9)
    try simp only [Act.put, List.setIfInBounds_toArray, List.set_cons_zero, List.set_cons_succ]
    refine wpAnyH_ready (rs := [6]) (by as_aux_lemma => kernel_rfl) (by simp) ?_
    refine AllReadyH.cons rfl (fun K hK => ?_) AllReadyH.nil
    go_simp
    refine (cadd_ok _ _ _ _ _ R8 R9 f3).mono ?_
    rintro e Wn6 ⟨C10, rfl, R10, hb10⟩
    obtain ⟨_, e10, z10, o10⟩ := R10.cells
    cases e10
    refine hK.out _ _ (KeepBut.S (hHeld.2.call hb10)) (fun hHeld => ?_)
    clear hK K
    replace hBel := belowCall hBel hb10
    replace R8 := R8.ext (.of_below hb10)
    replace R9 := R9.ext (.of_below hb10)
    try simp only [Act.put, List.setIfInBounds_toArray, List.set_cons_zero, List.set_cons_succ]
    refine wpAnyH_storeB BO 37 7 rfl rfl rfl rfl 0 C10 _ C10 (by as_aux_lemma => kernel_rfl) (fun w' i u hS => KeepBut.S (hS.2.set i u)) rfl rfl (bO.below hBel) hHeld (by rw [z10]; exact sizeQuot) (Nat.le_of_eq (by rw [z10]; rfl)) o10 (whole_new (by rw [z10]; rfl)) (fun Ws hks bs hHeld => ?_)
    refine wpAnyH_done (by as_aux_lemma => kernel_rfl) ?_ _
    have xS := hks.ext (bO.below hBel) (by decide)
    go_wp2
    refine bodyPost_ret (bs.results rfl _ _ rfl Tryz.underlying37 rfl (by rw [z10]; exact sizeQuot)) rfl ?_
    exact ⟨_, rfl, R10.ext xS, hHeld.2.below hB (by omega) hB.size⟩
end Go.Proofs.YtdgodcgdlfjpaaaGreatDoor
