/- Contracts of package coat and of the examples of its law, for the laws of layer 40. Part 26 of 40. No condition beside the row. -/
import Derived.Test.YtdgodcgdlfjpaaaGreatDoorA12
import Derived.Test.YtdgodcgdlfjpaaaGreatDoorA25
set_option linter.unusedVariables false
set_option linter.unusedSimpArgs false
set_option maxRecDepth 100000
set_option maxHeartbeats 4000000
namespace Go.Mono
def cmpQ (a b : Rat) : Int := (a.num * b.den - b.num * a.den).sign
theorem cmpQ_neg {a b : Rat} : cmpQ a b < 0 ↔ a < b := by
 unfold cmpQ
 rw [Int.sign_neg_iff, Rat.lt_iff]
 omega
end Go.Mono
namespace Go.Proofs.YtdgodcgdlfjpaaaGreatDoor
open Go.RowKit Go.Mono
theorem sizeRatio : (Tryz.prog.info? 151).map (·.size) = some 3 := by kernel_rfl
theorem sizeWhole : (Tryz.prog.info? 149).map (·.size) = some 2 := by kernel_rfl
theorem alloc_ratio (w : World) : (Instr.alloc 151 true (.tuple #[])).run Tryz.prog w = .ok (.pointer (some ⟨w.heap.size, 0, none⟩)) (w.alloc (.cells #[.bool false, .slice none 0 0, .slice none 0 0] 151)) := by
 go_simp
theorem alloc_whole (w : World) : (Instr.alloc 149 true (.tuple #[])).run Tryz.prog w = .ok (.pointer (some ⟨w.heap.size, 0, none⟩)) (w.alloc (.cells #[.bool false, .slice none 0 0] 149)) := by
 go_simp
theorem wsign_ok (s : Bool) (m : Nat) (p : Option Addr) (n c : Nat) (z : Int) (w : World) (h : Sz m w (.slice p n c) z.natAbs) (g : Sg s z) :
  Calls Tryz.prog 83 #[.agg #[.bool s, .slice p n c]] w fun e w' => e = .returned (.int .i64 z.sign) ∧ Below w.heap.size w w' := by
 have hl := h.len_pos
 by_cases hz : z = 0
 ·subst hz
  have hn : ((n : Int) == 0) = true := by
   have := hl.2
   rw [beq_iff_eq]
   simp at hl
   omega
  clear hl g h
  go_enter Tryz.func83, Tryz.ntmps83
  go_wp2
  go_ret
  exact ⟨rfl, belowAlloc (Below.refl _ _) _⟩
 ·have hn : ((n : Int) == 0) = false := by
   rw [beq_eq_false_iff_ne]
   have := hl.1 (by omega)
   omega
  cases s with
  | true =>
    have hs : z.sign = -1 := Int.sign_eq_neg_one_of_neg (by have := g.1 rfl; omega)
    rw [hs]
    clear hl g h hz hs
    go_enter Tryz.func83, Tryz.ntmps83
    go_wp2
    go_ret
    exact ⟨rfl, belowAlloc (Below.refl _ _) _⟩
  | false =>
    have hs : z.sign = 1 := Int.sign_eq_one_of_pos (by have := g.2 rfl; omega)
    rw [hs]
    clear hl g h hz hs
    go_enter Tryz.func83, Tryz.ntmps83
    go_wp2
    go_ret
    exact ⟨rfl, belowAlloc (Below.refl _ _) _⟩
theorem qcmp_ok (a b : Rat) (Ca Cb : Array Value) (w : World) (ha : QV w (.agg Ca) a) (hb : QV w (.agg Cb) b) :
  Calls Tryz.prog 22 #[.agg Ca, .agg Cb] w fun e w' => e = .returned (.tuple #[.int .i64 (cmpQ a b), .int .i64 0]) ∧ Below w.heap.size w w' := by
 have ha' := ha
 have hb' := hb
 obtain ⟨p1, k1, c1, q1, l1, d1, eA, x1, x2⟩ := ha
 obtain ⟨p2, k2, c2, q2, l2, d2, eB, y1, y2⟩ := hb
 cases eA
 cases eB
 have g1 := Sg.self a.num
 have g2 := Sg.self b.num
 have e3 : cmpQ a b = (a.num * b.den + -(b.num * a.den)).sign := rfl
 rw [e3]
 clear e3
 obtain ⟨zz, hzz⟩ : ∃ zz, (a.num * b.den + -(b.num * a.den)).sign = zz := ⟨_, rfl⟩
 rw [hzz]
 replace hzz := Lib.hid hzz
 go_enter Tryz.func22, Tryz.ntmps22
 go_wp2_with fail
 refine boxes3c (T2 := 37) fun W hB hs b0 b1 b2 => ?_
 refine (all2_ok a b _ _ _ _ p1 q1 p2 q2 k1 c1 l1 d1 k2 c2 l2 d2 _ W b2 (ha'.ext (.of_below hB)) (hb'.ext (.of_below hB))).mono ?_
 rintro e W1 ⟨rfl, hb1⟩
 replace hB := belowCall hB hb1
 replace b0 := b0.below hb1
 replace b1 := b1.below hb1
 replace x1 := x1.ext (.of_below hB)
 replace x2 := x2.ext (.of_below hB)
 replace y1 := y1.ext (.of_below hB)
 replace y2 := y2.ext (.of_below hB)
 have e1 : ((a.num * b.den).natAbs : Int) = a.num.natAbs * b.den := by rw [Int.natAbs_mul, Int.natCast_mul, Int.natAbs_natCast]
 have e2 : ((-(b.num * a.den)).natAbs : Int) = b.num.natAbs * a.den := by rw [Int.natAbs_neg, Int.natAbs_mul, Int.natCast_mul, Int.natAbs_natCast]
 have s1 : Sg (decide (a.num < 0)) (a.num * b.den) := g1.mul (by omega)
 have s2 : Sg (!decide (b.num < 0)) (-(b.num * a.den)) := by
  have := g2.mul (y := (a.den : Int)) (by omega)
  generalize decide (b.num < 0) = t at this ⊢
  obtain ⟨h1, h2⟩ := this
  cases t <;> constructor <;> intro h <;> simp at h h1 h2 ⊢ <;> omega
 clear ha' hb' g1 g2 hs hb1 b2
 generalize decide (a.num < 0) = sa at *
 generalize decide (b.num < 0) = sb at *
 have lb0 := b0.lt
 have lb1 := b1.lt
 go_wp2_with fail
 try simp only [Act.put, List.setIfInBounds_toArray, List.set_cons_zero, List.set_cons_succ]
 generalize ha : Act.mk _ [] = aX
 refine wp_mono (Q := fun e a' V => match e with | .normal => ∃ (v17 v18 v19 v20 : Value) (B7 B8 : Nat), a' = ((((((aX.put (some 17) v17).put (some 18) v18).put (some 19) v19).put (some 20) v20).put (some 7) (.pointer (some ⟨B7, 0, none⟩))).put (some 8) (.pointer (some ⟨B8, 0, none⟩))) ∧ Below W1.heap.size W1 V ∧ W1.heap.size ≤ B7 ∧ Box V B7 151 #[.bool sa, .slice p1 k1 c1, .slice q1 l1 d1] ∧ W1.heap.size ≤ B8 ∧ Box V B8 151 #[.bool sb, .slice p2 k2 c2, .slice q2 l2 d2] ∧ B7 ≠ B8 | _ => False) ?_ ?_
 ·subst ha
  refine wp_region_held_drew (S := fun w' => (∀ b o, b < W1.heap.size → w'.cell? ⟨b, o, none⟩ = W1.cell? ⟨b, o, none⟩) ∧ Below W1.heap.size W1 w') (by as_aux_lemma => kernel_rfl) (belowS (Below.refl _ _).drew) (fun hHeld => ?_)
  have hBel : Below W1.heap.size W1 W1.drew := (Below.refl _ _).drew
  refine tl 0 (some 17) rfl (.agg #[.bool sa, .slice p1 k1 c1, .bool false, .slice q1 l1 d1]) (exec_load 37 _ rfl w.heap.size 0 rfl  #[.bool sa, .slice p1 k1 c1, .bool false, .slice q1 l1 d1] (fun w h => (b0.below h.2).range) _ Tryz.underlying37 rfl sizeQuot) ?_
  refine tl 2 (some 19) rfl (.agg #[.bool sb, .slice p2 k2 c2, .bool false, .slice q2 l2 d2]) (exec_load 37 _ rfl (w.heap.size + 1) 0 rfl  #[.bool sb, .slice p2 k2 c2, .bool false, .slice q2 l2 d2] (fun w h => (b1.below h.2).range) _ Tryz.underlying37 rfl sizeQuot) ?_
  refine Mono.Fl.open [⟨4, 7, 151, _⟩, ⟨5, 8, 151, _⟩] (.cons (.of alloc_ratio) (.cons (.of alloc_ratio) .nil)) (fun hfa => ?_)
  refine Mono.Fl.call 1 18 (fun wc hV => have hBel := belowCall hBel hV; (read_any sa false p1 q1 k1 c1 l1 d1 _)) ?_ (hN := hBel.size)
  intro wc hV hHeld e Wn1 hR
  obtain ⟨rfl, hb2⟩ := hR
  replace hBel := belowCall (belowCall hBel hV) hb2
  refine ⟨hb2, Mono.Fl.pt ?_⟩
  refine Mono.Fl.call 3 20 (fun wc hV => have hBel := belowCall hBel hV; (read_any sb false p2 q2 k2 c2 l2 d2 _)) ?_ (hN := hBel.size)
  intro wc hV hHeld e Wn3 hR
  obtain ⟨rfl, hb3⟩ := hR
  replace hBel := belowCall (belowCall hBel hV) hb3
  refine ⟨hb3, Mono.Fl.pt ?_⟩
  refine Mono.Fl.close2 (fun B7 B8 wc hV hHeld hg7 hg8 hne7_8 b7 b8 => ?_) (hN := hBel.size)
  replace hBel := belowCall hBel hV
  replace hg7 : W1.heap.size ≤ B7 := hg7
  replace hg8 : W1.heap.size ≤ B8 := hg8
  refine Mono.pt ?_
  refine wpAnyH_storeB B7 151 6 rfl rfl rfl rfl 0 #[.bool sa, .slice p1 k1 c1, .slice q1 l1 d1] _ #[.bool sa, .slice p1 k1 c1, .slice q1 l1 d1] (by as_aux_lemma => kernel_rfl) (fun w' i u hS => belowS (hS.2.setCell (p := ⟨B7, i, none⟩) hg7 u)) rfl rfl b7 hHeld sizeRatio (Nat.le_of_eq rfl) (by simp [Value.oneCell']) (whole_new rfl) (fun Ws0 hk0 bs7 hHeld => ?_)
  replace b8 := hk0.box b8 b8.lt (Ne.symm hne7_8)
  refine wpAnyH_storeB B8 151 7 rfl rfl rfl rfl 0 #[.bool sb, .slice p2 k2 c2, .slice q2 l2 d2] _ #[.bool sb, .slice p2 k2 c2, .slice q2 l2 d2] (by as_aux_lemma => kernel_rfl) (fun w' i u hS => belowS (hS.2.setCell (p := ⟨B8, i, none⟩) hg8 u)) rfl rfl b8 hHeld sizeRatio (Nat.le_of_eq rfl) (by simp [Value.oneCell']) (whole_new rfl) (fun Ws1 hk1 bs8 hHeld => ?_)
  replace bs7 := hk1.box bs7 bs7.lt hne7_8
  refine wpAnyH_done (by as_aux_lemma => kernel_rfl) ?_ _
  exact ⟨_, _, _, _, B7, B8, by (simp only [Act.put, List.setIfInBounds_toArray, List.set_cons_zero, List.set_cons_succ]); try rfl, hHeld.2, hg7, bs7, hg8, bs8, hne7_8⟩
 ·rintro e a' V2 hmid
  cases e with
  | normal => ?_
  | _ => exact hmid.elim
  obtain ⟨v17, v18, v19, v20, B7, B8, rfl, hbV, hg7, b7, hg8, b8, hne7_8⟩ := hmid
  subst ha
  simp only [Act.put, List.setIfInBounds_toArray, List.set_cons_zero, List.set_cons_succ]
  have hwW1 := hB.size
  replace hB := belowCall hB hbV
  replace x1 := x1.ext (.of_below hbV)
  replace x2 := x2.ext (.of_below hbV)
  replace y1 := y1.ext (.of_below hbV)
  replace y2 := y2.ext (.of_below hbV)
  clear b0 b1 lb0 lb1
  have c8 := b8.cell
  have f8 := b8.frozen
  have l8 := b8.lt
  have l7 := b7.lt
  go_wp2_with fail
  have b88 := b8.set 0 (.bool (!sb))
  have b77 := b7.other ⟨B8, 0, none⟩ (.bool (!sb)) hne7_8
  have hx := (Ext.refl V2).set b8 (by decide) 0 (.bool (!sb))
  have hB2 := hB.setCell (p := ⟨B8, 0, none⟩) (by simp; omega) (.bool (!sb))
  replace x1 := x1.ext hx
  replace x2 := x2.ext hx
  replace y1 := y1.ext hx
  replace y2 := y2.ext hx
  clear c8 f8 l8 l7 b7 b8 hB hbV hx
  generalize V2.setCell ⟨B8, 0, none⟩ (.bool (!sb)) = V3 at *
  simp only [List.setIfInBounds_toArray, List.set_cons_zero] at b88
  have c7 := b77.cell
  have l7 := b77.lt
  have c8 := b88.cell
  have l8 := b88.lt
  try simp only [Act.put, List.setIfInBounds_toArray, List.set_cons_zero, List.set_cons_succ]
  generalize ha : Act.mk _ [] = aX
  refine wp_mono (Q := fun e a' V => match e with | .normal => ∃ (v27 v28 v29 v30 v31 v32 v33 v34 v35 v36 v37 : Value) (B9 : Nat) (sz : Bool) (u3 : Option Addr) (t3 w3 : Nat), a' = ((((((((((((aX.put (some 27) v27).put (some 28) v28).put (some 29) v29).put (some 30) v30).put (some 31) v31).put (some 32) v32).put (some 33) v33).put (some 34) v34).put (some 35) v35).put (some 36) v36).put (some 37) v37).put (some 9) (.pointer (some ⟨B9, 0, none⟩))) ∧ Below V3.heap.size V3 V ∧ V3.heap.size ≤ B9 ∧ Box V B9 149 #[.bool sz, .slice u3 t3 w3] ∧ Sg sz (a.num * b.den + -(b.num * a.den)) ∧ Sz 1201 V (.slice u3 t3 w3) (a.num * b.den + -(b.num * a.den)).natAbs | _ => False) ?_ ?_
  ·subst ha
   refine wp_region_held_drew (S := fun w' => (∀ b o, b < V3.heap.size → w'.cell? ⟨b, o, none⟩ = V3.cell? ⟨b, o, none⟩) ∧ Below V3.heap.size V3 w') (by as_aux_lemma => kernel_rfl) (belowS (Below.refl _ _).drew) (fun hHeld => ?_)
   have hBel : Below V3.heap.size V3 V3.drew := (Below.refl _ _).drew
   refine tk 0 (some 27) ?_
   refine tl 1 (some 28) rfl (.agg #[.bool sa, .slice p1 k1 c1]) (exec_load 149 _ rfl B7 0 rfl  #[.bool sa, .slice p1 k1 c1] (fun w h => (b77.below h.2).part 0 #[.bool sa, .slice p1 k1 c1] rfl) _ Tryz.underlying149 rfl sizeWhole) ?_
   refine tk 2 (some 29) ?_
   refine tk 3 (some 30) ?_
   refine tk 5 (some 32) ?_
   refine tl 6 (some 33) rfl (.agg #[.bool (!sb), .slice p2 k2 c2]) (exec_load 149 _ rfl B8 0 rfl  #[.bool (!sb), .slice p2 k2 c2] (fun w h => (b88.below h.2).part 0 #[.bool (!sb), .slice p2 k2 c2] rfl) _ Tryz.underlying149 rfl sizeWhole) ?_
   refine tk 7 (some 34) ?_
   refine tk 8 (some 35) ?_
   refine Mono.Fl.open [⟨11, 9, 149, _⟩] (.cons (.of alloc_whole) .nil) (fun hfa => ?_)
   refine Mono.Fl.call 4 31 (fun wc hV => have hBel := belowCall hBel hV; (wtimes_sz sa p1 q2 k1 c1 l2 d2 600 600 _ _ _ _ (.of_below hBel) x1 y2 (by decide) (by decide))) ?_ (hN := hBel.size)
   intro wc hV hHeld e Wn4 hR
   obtain ⟨u1, t1, w1, rfl, z1, hb4⟩ := hR
   replace hBel := belowCall (belowCall hBel hV) hb4
   refine ⟨hb4, Mono.Fl.pt ?_⟩
   refine Mono.Fl.call 9 36 (fun wc hV => have hBel := belowCall hBel hV; (wtimes_sz (!sb) p2 q1 k2 c2 l1 d1 600 600 _ _ _ _ (.of_below hBel) y1 x2 (by decide) (by decide))) ?_ (hN := hBel.size)
   intro wc hV hHeld e Wn9 hR
   obtain ⟨u2, t2, w2, rfl, z2, hb5⟩ := hR
   replace hBel := belowCall (belowCall hBel hV) hb5
   replace z1 := z1.ext (.of_below (belowCall hV hb5))
   refine ⟨hb5, Mono.Fl.pt ?_⟩
   refine Mono.Fl.call 10 37 (fun wc hV => have hBel := belowCall hBel hV; have z1 := z1.ext (.of_below hV); have z2 := z2.ext (.of_below hV); (wplus_sz sa (!sb) u1 u2 t1 w1 t2 w2 1200 (a.num * b.den) (-(b.num * a.den)) _ _ (Ext.refl _) (by rw [e1]; exact z1) (by rw [e2]; exact z2) s1 s2 (by decide))) ?_ (hN := hBel.size)
   intro wc hV hHeld e Wn10 hR
   obtain ⟨sz, u3, t3, w3, rfl, sg3, z3, hb6⟩ := hR
   replace hBel := belowCall (belowCall hBel hV) hb6
   replace z1 := z1.ext (.of_below (belowCall hV hb6))
   replace z2 := z2.ext (.of_below (belowCall hV hb6))
   refine ⟨hb6, Mono.Fl.pt ?_⟩
   refine Mono.Fl.close1 (fun B9 wc hV hHeld hg9 b9 => ?_) (hN := hBel.size)
   replace hBel := belowCall hBel hV
   replace z1 := z1.ext (.of_below hV)
   replace z2 := z2.ext (.of_below hV)
   replace z3 := z3.ext (.of_below hV)
   replace hg9 : V3.heap.size ≤ B9 := hg9
   refine Mono.pt ?_
   refine wpAnyH_storeB B9 149 12 rfl rfl rfl rfl 0 #[.bool sz, .slice u3 t3 w3] _ #[.bool sz, .slice u3 t3 w3] (by as_aux_lemma => kernel_rfl) (fun w' i u hS => belowS (hS.2.setCell (p := ⟨B9, i, none⟩) hg9 u)) rfl rfl b9 hHeld sizeWhole (Nat.le_of_eq rfl) (by simp [Value.oneCell']) (whole_new rfl) (fun Ws hk0 bs9 hHeld => ?_)
   refine wpAnyH_done (by as_aux_lemma => kernel_rfl) ?_ _
   exact ⟨_, _, _, _, _, _, _, _, _, _, _, B9, sz, u3, t3, w3, by (simp only [Act.put, List.setIfInBounds_toArray, List.set_cons_zero, List.set_cons_succ]); try rfl, hHeld.2, hg9, bs9, sg3, z3.ext (hk0.ext b9 (by decide))⟩
  ·rintro e a' V4 hmid
   cases e with
   | normal => ?_
   | _ => exact hmid.elim
   obtain ⟨v27, v28, v29, v30, v31, v32, v33, v34, v35, v36, v37, B9, sz, u3, t3, w3, rfl, hbV, hg9, b9, sg3, z3⟩ := hmid
   subst ha
   simp only [Act.put, List.setIfInBounds_toArray, List.set_cons_zero, List.set_cons_succ]
   have hB4 := belowCall hB2 hbV
   have hsg := fun W (hW : Below V4.heap.size V4 W) => wsign_ok sz 1201 u3 t3 w3 _ W (z3.ext (.of_below hW)) sg3
   clear c7 l7 c8 l8 b77 b88 e1 e2 s1 s2 x1 x2 y1 y2
   rw [hzz.out] at hsg
   go_wp2_with (refine wpList_load_box rfl 149 (.tmp 9) rfl B9 rfl 149 #[.bool sz, .slice u3 t3 w3] b9 _ Tryz.underlying149 rfl sizeWhole ?_)
   refine (hsg V4 (Below.refl _ _)).mono ?_
   rintro e V5 ⟨rfl, hb5⟩
   go_wp2
   go_ret2
   exact ⟨rfl, belowCall hB4 hb5⟩
end Go.Proofs.YtdgodcgdlfjpaaaGreatDoor
