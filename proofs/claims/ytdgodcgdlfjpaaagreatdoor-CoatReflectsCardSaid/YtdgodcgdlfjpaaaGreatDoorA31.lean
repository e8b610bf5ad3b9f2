/- Contracts of package coat and of the examples of its law, for the laws of layer 40. Part 31 of 40. No condition beside the row. -/
import Derived.WalkMore
import Derived.Outline
import Derived.Defers
import Derived.Recover
import Derived.Laws.Pointers
import Derived.Test.YtdgodcgdlfjpaaaGreatDoorA03
import Derived.Test.YtdgodcgdlfjpaaaGreatDoorA30
set_option linter.unusedVariables false
set_option linter.unusedSimpArgs false
set_option maxRecDepth 100000
set_option maxHeartbeats 4000000
namespace Go.Proofs.YtdgodcgdlfjpaaaGreatDoor
open Go.RowKit Go.Mono
theorem crefuse_no (z : Int) (w : World) : Calls Tryz.prog 70 #[.bool false, .int .i64 z] w fun e w' => e = .returned (.tuple #[]) ∧ w' = w := by
 go_enter Tryz.func70, Tryz.ntmps70
 go_wp2
 go_end0
 exact ⟨rfl, rfl⟩
theorem crefuse_yes (z : Int) (w : World) : Calls Tryz.prog 70 #[.bool true, .int .i64 z] w fun e w' => e = .panicked [{ v := .iface 194 (.agg #[.int .i64 z]), recovered := false }] ∧ Below w.heap.size w w' := by
 go_enter Tryz.func70, Tryz.ntmps70
 go_wp2
 exact ⟨rfl, rfl, Below.refl _ _⟩
theorem cindex_ok (n : Int) (w : World) : Calls Tryz.prog 71 #[.int .i64 n] w fun e w' => e = .returned (.bool (decide (10000000 ≤ n ∧ n ≤ 40000000))) ∧ w' = w := by
 by_cases h1 : 10000000 ≤ n
 ·by_cases h2 : n ≤ 40000000
  ·rw [decide_eq_true ⟨h1, h2⟩]
   go_enter Tryz.func71, Tryz.ntmps71
   go_wp2
   go_ret
   exact ⟨rfl, rfl⟩
  ·rw [decide_eq_false (fun h => h2 h.2)]
   go_enter Tryz.func71, Tryz.ntmps71
   go_wp2
   go_ret
   exact ⟨rfl, rfl⟩
 ·rw [decide_eq_false (fun h => h1 h.1)]
  go_enter Tryz.func71, Tryz.ntmps71
  go_wp2
  go_ret
  exact ⟨rfl, rfl⟩
def quad0 : Array Value := #[.bool false, .slice none 0 0, .bool false, .slice none 0 0, .bool false, .slice none 0 0, .bool false, .slice none 0 0, .bool false, .slice none 0 0, .bool false, .slice none 0 0, .bool false, .slice none 0 0, .bool false, .slice none 0 0]
theorem alloc_quad (w : World) : (Instr.alloc 57 true (.tuple #[])).run Tryz.prog w = .ok (.pointer (some ⟨w.heap.size, 0, none⟩)) (w.alloc (.cells quad0 57)) := by
 unfold quad0
 go_simp
theorem sizeQuad : (Tryz.prog.info? 57).map (·.size) = some 16 := by kernel_rfl

theorem layer_ok (f : Flm) (hf : f.ok) (w : World) : Calls Tryz.prog 87 #[.agg f.vals] w fun e w' => ∃ C, e = .returned (.agg C) ∧ MV w' C f.mat ∧ Below w.heap.size w w' := by
 have hsound := fun W => sound_ok f W
 rw [decide_eq_true hf] at hsound
 obtain ⟨hm, hsin, hcos, hix⟩ := film_hs hf
 have fits_ix := hix.fits (by decide)
 have fits_b := hm.2.1.fits (by decide)
 have fits_c := hm.2.2.1.fits (by decide)
 obtain ⟨hs0, hi0⟩ := hf.ne
 have hn0 : (idx f.ix).num ≠ 0 := fun e => idx_ne hi0 (Rat.num_eq_zero.1 e)
 have hsq := hf.sq_pos
 have eC : f.cos = Rat.divInt (f.q * f.q - f.p * f.p) (f.q * f.q + f.p * f.p) := rfl
 have eS : f.sin = Rat.divInt (2 * f.p * f.q) (f.q * f.q + f.p * f.p) := rfl
 have eI : idx f.ix = Rat.divInt f.ix 10000000 := rfl
 have eM : f.mat = ⟨f.cos, f.sin / idx f.ix, idx f.ix * f.sin, f.cos⟩ := rfl
 have e0 : f.sq = f.q * f.q + f.p * f.p := rfl
 obtain ⟨i1, i2, p1, p2, q1, q2⟩ := hf
 have pq : (f.p * f.q).natAbs ≤ 1000 * 1000 := mul_in (by omega) (by omega)
 have pp : (f.p * f.p).natAbs ≤ 1000 * 1000 := mul_in (by omega) (by omega)
 have qq : (f.q * f.q).natAbs ≤ 1000 * 1000 := mul_in (by omega) (by omega)
 have pq2 : 2 * f.p * f.q = 2 * (f.p * f.q) := by grind
 have w1 : IntKind.i64.wrap (f.q * f.q) = f.q * f.q := by rw [IntKind.wrap_i64]; omega
 have w2 : IntKind.i64.wrap (f.p * f.p) = f.p * f.p := by rw [IntKind.wrap_i64]; omega
 have w3 : IntKind.i64.wrap (f.q * f.q + f.p * f.p) = f.q * f.q + f.p * f.p := by rw [IntKind.wrap_i64]; omega
 have w4 : IntKind.i64.wrap (f.q * f.q - f.p * f.p) = f.q * f.q - f.p * f.p := by rw [IntKind.wrap_i64]; omega
 have w5 : IntKind.i64.wrap (2 * f.p) = 2 * f.p := by rw [IntKind.wrap_i64]; omega
 have w6 : IntKind.i64.wrap (2 * f.p * f.q) = 2 * f.p * f.q := by rw [IntKind.wrap_i64]; omega
 have hcosC := fun W => cof_ok (f.q * f.q - f.p * f.p) (f.q * f.q + f.p * f.p) (by omega) W (by omega) (by omega) (by omega) (by omega)
 have hsinC := fun W => cof_ok (2 * f.p * f.q) (f.q * f.q + f.p * f.p) (by omega) W (by omega) (by omega) (by omega) (by omega)
 have hixC := fun W => cof_ok f.ix 10000000 (by omega) W (by omega) (by omega) (by omega) (by omega)
 rw [← eC] at hcosC
 rw [← eS] at hsinC
 rw [← eI] at hixC
 rw [eM] at fits_b fits_c ⊢
 clear eC eS eI eM hm hsin hcos hix pq pp qq pq2 hsq e0 hs0 hi0 i1 i2 p1 p2 q1 q2
 unfold Flm.vals at hsound ⊢
 generalize f.cos = cc at *
 generalize f.sin = ss at *
 generalize idx f.ix = nn at *
 generalize f.ix = vi at *
 generalize f.p = vp at *
 generalize f.q = vq at *
 have hsz : (Tryz.prog.info? 24).map (·.size) = some 3 := by kernel_rfl
 go_enter Tryz.func87, Tryz.ntmps87
 go_wp2_with first | (refine boxes1l fun W0 hB0 hs0 bF => ?_) | (refine wpList_new rfl 57 rfl _ alloc_quad ?_; intro W BO hleO hBO bO; replace bF := bF.below hBO; have hB := belowCall hB0 hBO; have cF := bF.cell; have lF := bF.lt)
 have hneFO : w.heap.size ≠ BO := by omega
 refine (hsound W).mono ?_
 rintro e W1 ⟨rfl, hb⟩
 replace hB := belowCall hB hb
 replace bF := bF.below hb
 replace bO := bO.below hb
 clear cF lF hb
 have cF := bF.cell
 have lF := bF.lt
 go_wp2_with (go_at_call 70; refine (crefuse_no _ _).mono ?_; rintro e w5 ⟨rfl, h5⟩; rw [h5]; clear h5 w5)

 have lO1 := bO.lt
 try simp only [Act.put, List.setIfInBounds_toArray, List.set_cons_zero, List.set_cons_succ]
 generalize ha : Act.mk _ [] = aX
 refine wp_mono (Q := fun e a' V => match e with | .normal => ∃ (v22 v23 v24 v25 v26 v27 v28 v29 v30 v31 v32 v33 v34 v35 v36 v37 v38 v39 v40 v41 v42 : Value) (B3 B4 : Nat) (C3 C4 : Array Value), a' = (((((((((((((((((((((((aX.put (some 22) v22).put (some 23) v23).put (some 24) v24).put (some 25) v25).put (some 26) v26).put (some 27) v27).put (some 28) v28).put (some 29) v29).put (some 30) v30).put (some 31) v31).put (some 32) v32).put (some 33) v33).put (some 34) v34).put (some 35) v35).put (some 36) v36).put (some 37) v37).put (some 38) v38).put (some 39) v39).put (some 40) v40).put (some 41) v41).put (some 42) v42).put (some 4) (.pointer (some ⟨B3, 0, none⟩))).put (some 5) (.pointer (some ⟨B4, 0, none⟩))) ∧ Below W1.heap.size W1 V ∧ W1.heap.size ≤ B3 ∧ Box V B3 37 C3 ∧ QV V (.agg C3) (cc) ∧ W1.heap.size ≤ B4 ∧ Box V B4 37 C4 ∧ QV V (.agg C4) (ss) ∧ B3 ≠ B4 | _ => False) ?_ ?_
 ·subst ha
  refine wp_region_held_drew (S := fun w' => (∀ b o, b < W1.heap.size → w'.cell? ⟨b, o, none⟩ = W1.cell? ⟨b, o, none⟩) ∧ Below W1.heap.size W1 w') (by as_aux_lemma => kernel_rfl) (belowS (Below.refl _ _).drew) (fun hHeld => ?_)
  have hBel : Below W1.heap.size W1 W1.drew := (Below.refl _ _).drew
  refine tk 0 (some 22) ?_
  refine tk 1 (some 23) ?_
  refine tk 2 (some 24) ?_
  refine tk 3 (some 25) ?_
  refine tk 4 (some 26) ?_
  refine tk 5 (some 27) ?_
  refine tk 6 (some 28) ?_
  refine tk 7 (some 29) ?_
  refine tk 8 (some 30) ?_
  refine tk 9 (some 31) ?_
  refine tk 10 (some 32) ?_
  refine tk 11 (some 33) ?_
  refine tk 13 (some 35) ?_
  refine tk 14 (some 36) ?_
  refine tk 15 (some 37) ?_
  refine tk 16 (some 38) ?_
  refine tk 17 (some 39) ?_
  refine tk 18 (some 40) ?_
  refine tk 19 (some 41) ?_
  refine Mono.Fl.open [⟨21, 4, 37, _⟩, ⟨22, 5, 37, _⟩] (.cons (.of alloc_quot) (.cons (.of alloc_quot) .nil)) (fun hfa => ?_)
  refine Mono.Fl.call 12 34 (fun wc hV => have hBel := belowCall hBel hV; (hcosC _)) ?_ (hN := hBel.size)
  intro wc hV hHeld e Wn12 hR
  obtain ⟨C3, rfl, R3, hb3⟩ := hR
  replace hBel := belowCall (belowCall hBel hV) hb3
  refine ⟨hb3, Mono.Fl.pt ?_⟩
  refine Mono.Fl.call 20 42 (fun wc hV => have hBel := belowCall hBel hV; (hsinC _)) ?_ (hN := hBel.size)
  intro wc hV hHeld e Wn20 hR
  obtain ⟨C4, rfl, R4, hb4⟩ := hR
  replace hBel := belowCall (belowCall hBel hV) hb4
  replace R3 := R3.ext (.of_below (belowCall hV hb4))
  refine ⟨hb4, Mono.Fl.pt ?_⟩
  refine Mono.Fl.close2 (fun B3 B4 wc hV hHeld hg3 hg4 hne3_4 b3 b4 => ?_) (hN := hBel.size)
  replace hBel := belowCall hBel hV
  replace R3 := R3.ext (.of_below hV)
  replace R4 := R4.ext (.of_below hV)
  replace hg3 : W1.heap.size ≤ B3 := hg3
  replace hg4 : W1.heap.size ≤ B4 := hg4
  refine Mono.pt ?_
  obtain ⟨_, e3, z3, o3⟩ := R3.cells
  cases e3
  obtain ⟨_, e4, z4, o4⟩ := R4.cells
  cases e4
  refine wpAnyH_storeB B3 37 23 rfl rfl rfl rfl 0 C3 _ C3 (by as_aux_lemma => kernel_rfl) (fun w' i u hS => belowS (hS.2.setCell (p := ⟨B3, i, none⟩) hg3 u)) rfl rfl b3 hHeld (by rw [z3]; exact sizeQuot) (Nat.le_of_eq (by rw [z3]; rfl)) o3 (whole_new (by rw [z3]; rfl)) (fun Ws0 hk0 bs3 hHeld => ?_)
  replace b4 := hk0.box b4 b4.lt (Ne.symm hne3_4)
  replace R3 := R3.ext (hk0.ext b3 (by decide))
  replace R4 := R4.ext (hk0.ext b3 (by decide))
  refine wpAnyH_storeB B4 37 24 rfl rfl rfl rfl 0 C4 _ C4 (by as_aux_lemma => kernel_rfl) (fun w' i u hS => belowS (hS.2.setCell (p := ⟨B4, i, none⟩) hg4 u)) rfl rfl b4 hHeld (by rw [z4]; exact sizeQuot) (Nat.le_of_eq (by rw [z4]; rfl)) o4 (whole_new (by rw [z4]; rfl)) (fun Ws1 hk1 bs4 hHeld => ?_)
  replace bs3 := hk1.box bs3 bs3.lt hne3_4
  replace R3 := R3.ext (hk1.ext b4 (by decide))
  replace R4 := R4.ext (hk1.ext b4 (by decide))
  refine wpAnyH_done (by as_aux_lemma => kernel_rfl) ?_ _
  exact ⟨_, _, _, _, _, _, _, _, _, _, _, _, _, _, _, _, _, _, _, _, _, B3, B4, C3, C4, by (simp only [Act.put, List.setIfInBounds_toArray, List.set_cons_zero, List.set_cons_succ]); try rfl, hHeld.2, hg3, bs3, R3, hg4, bs4, R4, hne3_4⟩
 ·rintro e a' V4 hmid
  cases e with
  | normal => ?_
  | _ => exact hmid.elim
  obtain ⟨v22, v23, v24, v25, v26, v27, v28, v29, v30, v31, v32, v33, v34, v35, v36, v37, v38, v39, v40, v41, v42, B3, B4, C3, C4, rfl, hbV, hg3, b3, R3, hg4, b4, R4, hne3_4⟩ := hmid
  subst ha
  simp only [Act.put, List.setIfInBounds_toArray, List.set_cons_zero, List.set_cons_succ]
  have hB4 := belowCall hB hbV
  replace bF := bF.below hbV
  replace bO := bO.below hbV
  have hneO3 : BO ≠ B3 := by have := lO1; omega
  have hneO4 : BO < B4 := by have := lO1; omega
  have hneO6 : BO < V4.heap.size := bO.lt
  clear cF lF
  have cF := bF.cell
  have lF := bF.lt
  go_wp2_with fail
  refine (hixC V4).mono ?_
  rintro e V5 ⟨C5, rfl, R5, hb5⟩
  obtain ⟨_, e5, z5, o5⟩ := R5.cells
  cases e5
  have i5 : (Tryz.prog.info? 37).map (·.size) = some C5.size := by rw [z5]; exact sizeQuot
  go_wp2_with first | (refine wpList_new rfl 37 rfl _ alloc_quot ?_; intro V6 B6 hle6 hb6 b6) | (refine wpList_store_box rfl 37 _ _ rfl B6 0 37 _ C5 C5 rfl rfl b6 i5 (Nat.le_of_eq (by rw [z5]; rfl)) o5 (whole_new (by rw [z5]; rfl)) ?_; intro V7 hk7 b7)
  have hb7 : Below V5.heap.size V5 V7 := hk7.below hb6 hle6 hb6.size
  have hb57 := belowCall hb5 hb7
  have hB7 := belowCall hB4 hb57
  replace bO := bO.below hb57
  replace b3 := b3.below hb57
  replace b4 := b4.below hb57
  replace R3 := R3.ext (.of_below hb57)
  replace R4 := R4.ext (.of_below hb57)
  replace R5 := R5.ext (.of_below hb7)
  have hnO6 : B6 ≠ BO := by have := hb5.size; omega
  clear hk7 b6 hb6 hb5 hb7 hb57 cF lF bF hB4
  obtain ⟨c0, c1, c2, c3, rfl, u0, u1, u2, u3⟩ := R3.four
  obtain ⟨s0, s1, s2, s3, rfl, t0, t1, t2, t3⟩ := R4.four
  obtain ⟨n0, n1, n2, n3, rfl, m0, m1, m2, m3⟩ := R5.four
  have div45 := fun W (hW : Below V7.heap.size V7 W) => cdiv_ok ss nn _ _ W (R4.ext (.of_below hW)) (R5.ext (.of_below hW)) hn0 fits_b
  have mul54 := fun W (hW : Below V7.heap.size V7 W) => cmul_ok nn ss _ _ W (R5.ext (.of_below hW)) (R4.ext (.of_below hW)) fits_c

  have hnO3 : B3 ≠ BO := Ne.symm hneO3
  have hnO4 : B4 ≠ BO := by omega
  refine wp_region_held_drew (S := fun w' => (∀ b o, b < V7.heap.size → b ≠ BO → w'.cell? ⟨b, o, none⟩ = V7.cell? ⟨b, o, none⟩) ∧ KeepBut BO V7.heap.size V7 w') (by as_aux_lemma => kernel_rfl) (KeepBut.S (KeepBut.refl _ _).drew) (fun hHeld => ?_)
  have hBel : Below V7.heap.size V7 V7.drew := (Below.refl _ _).drew
  refine tl 0 (some 46) rfl (.agg #[c0, c1, c2, c3]) (exec_load 37 _ rfl B3 0 rfl  #[c0, c1, c2, c3] (fun w h => (h.2.box b3 b3.lt hnO3).range) _ Tryz.underlying37 rfl sizeQuot) ?_
  refine tl 1 (some 47) rfl (.agg #[s0, s1, s2, s3]) (exec_load 37 _ rfl B4 0 rfl  #[s0, s1, s2, s3] (fun w h => (h.2.box b4 b4.lt hnO4).range) _ Tryz.underlying37 rfl sizeQuot) ?_
  refine tl 2 (some 48) rfl (.agg #[n0, n1, n2, n3]) (exec_load 37 _ rfl B6 0 rfl  #[n0, n1, n2, n3] (fun w h => (h.2.box b7 b7.lt hnO6).range) _ Tryz.underlying37 rfl sizeQuot) ?_
  refine tl 5 (some 51) rfl (.agg #[n0, n1, n2, n3]) (exec_load 37 _ rfl B6 0 rfl  #[n0, n1, n2, n3] (fun w h => (h.2.box b7 b7.lt hnO6).range) _ Tryz.underlying37 rfl sizeQuot) ?_
  refine tl 6 (some 52) rfl (.agg #[s0, s1, s2, s3]) (exec_load 37 _ rfl B4 0 rfl  #[s0, s1, s2, s3] (fun w h => (h.2.box b4 b4.lt hnO4).range) _ Tryz.underlying37 rfl sizeQuot) ?_
  refine tl 8 (some 54) rfl (.agg #[c0, c1, c2, c3]) (exec_load 37 _ rfl B3 0 rfl  #[c0, c1, c2, c3] (fun w h => (h.2.box b3 b3.lt hnO3).range) _ Tryz.underlying37 rfl sizeQuot) ?_
  refine Mono.stc 3 (some 49) (div45 _ hBel) (fun e Wn3 hR => ?_)
  obtain ⟨C8, rfl, R8, hb8⟩ := hR
  obtain ⟨x0, x1, x2, x3, rfl, xo0, xo1, xo2, xo3⟩ := R8.four
  replace hBel := belowCall hBel hb8
  refine ⟨(KeepBut.S (hHeld.2.call hb8)), fun hHeld => Mono.pt ?_⟩
  refine tl 4 (some 50) rfl (.agg #[c0, c1, c2, c3, x0, x1, x2, x3]) (exec_build 55 _ rfl #[c0, c1, c2, c3, x0, x1, x2, x3] (by as_aux_lemma => kernel_rfl)) ?_
  refine Mono.stc 7 (some 53) (mul54 _ hBel) (fun e Wn7 hR => ?_)
  obtain ⟨C9, rfl, R9, hb9⟩ := hR
  obtain ⟨y0, y1, y2, y3, rfl, yo0, yo1, yo2, yo3⟩ := R9.four
  replace hBel := belowCall hBel hb9
  replace R8 := R8.ext (.of_below hb9)
  refine ⟨(KeepBut.S (hHeld.2.call hb9)), fun hHeld => Mono.pt ?_⟩
  refine tl 9 (some 55) rfl (.agg #[y0, y1, y2, y3, c0, c1, c2, c3]) (exec_build 55 _ rfl #[y0, y1, y2, y3, c0, c1, c2, c3] (by as_aux_lemma => kernel_rfl)) ?_
  refine tl 10 (some 56) rfl (.agg #[c0, c1, c2, c3, x0, x1, x2, x3, y0, y1, y2, y3, c0, c1, c2, c3]) (exec_build 57 _ rfl #[c0, c1, c2, c3, x0, x1, x2, x3, y0, y1, y2, y3, c0, c1, c2, c3] (by as_aux_lemma => kernel_rfl)) ?_
  refine wpAnyH_storeB BO 57 11 rfl rfl rfl rfl 0 #[c0, c1, c2, c3, x0, x1, x2, x3, y0, y1, y2, y3, c0, c1, c2, c3] _ #[c0, c1, c2, c3, x0, x1, x2, x3, y0, y1, y2, y3, c0, c1, c2, c3] (by as_aux_lemma => kernel_rfl) (fun w' i u hS => KeepBut.S (hS.2.set i u)) rfl rfl (bO.below hBel) hHeld sizeQuad (Nat.le_of_eq rfl) (by simp [*]) (whole_new rfl) (fun Ws hks bs hHeld => ?_)
  refine wpAnyH_done (by as_aux_lemma => kernel_rfl) ?_ _
  have xS := hks.ext (bO.below hBel) (by decide)
  have xE := (Ext.of_below hBel).trans xS
  go_wp2
  refine bodyPost_ret (bs.results rfl _ _ rfl Tryz.underlying57 rfl sizeQuad) rfl ?_
  exact ⟨_, rfl, ⟨⟨_, _, _, _, _, _, _, _, _, _, _, _, _, _, _, _, rfl, R3.ext xE, R8.ext xS, R9.ext xS, R3.ext xE⟩⟩, hHeld.2.below hB7 (by omega) hB7.size⟩
def qq0 : Array Value := #[.bool false, .slice none 0 0, .bool false, .slice none 0 0, .bool false, .slice none 0 0, .bool false, .slice none 0 0]
theorem alloc_q2 (w : World) : (Instr.alloc 55 true (.tuple #[])).run Tryz.prog w = .ok (.pointer (some ⟨w.heap.size, 0, none⟩)) (w.alloc (.cells qq0 55)) := by
 unfold qq0
 go_simp
theorem sizeQ2 : (Tryz.prog.info? 55).map (·.size) = some 8 := by kernel_rfl
end Go.Proofs.YtdgodcgdlfjpaaaGreatDoor

