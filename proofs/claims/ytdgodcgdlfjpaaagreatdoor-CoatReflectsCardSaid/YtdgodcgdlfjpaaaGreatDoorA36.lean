/- Contracts of package coat and of the examples of its law, for the laws of layer 40. Part 36 of 40. No condition beside the row. -/
import Derived.Test.YtdgodcgdlfjpaaaGreatDoorA32
import Derived.Test.YtdgodcgdlfjpaaaGreatDoorA35
set_option linter.unusedVariables false
set_option linter.unusedSimpArgs false
set_option maxRecDepth 100000
set_option maxHeartbeats 4000000
namespace Go.Mono
structure RFits (n m : Rat) (x : Mat) : Prop where
 nm : Fits (n * m)
 r0 : Fits (n * x.a)
 r1 : Fits (m * x.d)
 o0 : Fits (n * m * x.b)
 ra : Fits (n * x.a + m * x.d)
 rs : Fits (n * x.a - m * x.d)
 oa : Fits (n * m * x.b + x.c)
 os : Fits (n * m * x.b - x.c)
 ra2 : Fits ((n * x.a + m * x.d) * (n * x.a + m * x.d))
 rs2 : Fits ((n * x.a - m * x.d) * (n * x.a - m * x.d))
 oa2 : Fits ((n * m * x.b + x.c) * (n * m * x.b + x.c))
 os2 : Fits ((n * m * x.b - x.c) * (n * m * x.b - x.c))
 big : Fits (big n m x)
 low : Fits (low n m x)
 four : Fits (4 * (n * m))
 back : Fits (back n m x)
 through : Fits (through n m x)
theorem rfits {n m : Rat} {x : Mat} (hn : Hs 8 n) (hm : Hs 8 m) (hx : Mhs 198 x) : RFits n m x := by
 obtain ⟨ha, hb, hc, hd⟩ := hx
 have nm := hn.mul hm
 have r0 := hn.mul ha
 have r1 := hm.mul hd
 have o0 := nm.mul hb
 have ra := r0.add r1
 have rs := r0.sub r1
 have oa := o0.add hc
 have os := o0.sub hc
 have ra2 := ra.mul ra
 have rs2 := rs.mul rs
 have oa2 := oa.mul oa
 have os2 := os.mul os
 have hbig : Hs _ (big n m x) := ra2.add oa2
 have hlow : Hs _ (low n m x) := rs2.add os2
 have h4 : Hs 1 (4 : Rat) := ⟨by decide, by decide⟩
 have four := h4.mul nm
 exact ⟨nm.fits (by decide), r0.fits (by decide), r1.fits (by decide), o0.fits (by decide), ra.fits (by decide), rs.fits (by decide), oa.fits (by decide), os.fits (by decide), ra2.fits (by decide), rs2.fits (by decide), oa2.fits (by decide), os2.fits (by decide), hbig.fits (by decide), hlow.fits (by decide), four.fits (by decide), (hlow.div hbig).fits (by decide), (four.div hbig).fits (by decide)⟩
end Go.Mono
namespace Go.Proofs.YtdgodcgdlfjpaaaGreatDoor
open Go.RowKit Go.Mono
theorem sizeLight : (Tryz.prog.info? 124).map (·.size) = some 8 := by kernel_rfl
theorem alloc_light (w : World) : (Instr.alloc 124 true (.tuple #[])).run Tryz.prog w = .ok (.pointer (some ⟨w.heap.size, 0, none⟩)) (w.alloc (.cells qq0 124)) := by
 unfold qq0
 go_simp
theorem enters_size : ∀ args w, (callFunc 139 args).run Tryz.prog w = .ok (.enter 139 args) w := Go.Proofs.enters_of Tryz.func139 (by kernel_rfl) rfl
theorem enters_add : ∀ args w, (callFunc 140 args).run Tryz.prog w = .ok (.enter 140 args) w := Go.Proofs.enters_of Tryz.func140 (by kernel_rfl) rfl
theorem enters_sub : ∀ args w, (callFunc 142 args).run Tryz.prog w = .ok (.enter 142 args) w := Go.Proofs.enters_of Tryz.func142 (by kernel_rfl) rfl
structure LV (w : World) (C : Array Value) (r t : Rat) : Prop where
 parts : ∃ a0 a1 a2 a3 b0 b1 b2 b3 : Value, C = #[a0, a1, a2, a3, b0, b1, b2, b3] ∧ QV w (.agg #[a0, a1, a2, a3]) r ∧ QV w (.agg #[b0, b1, b2, b3]) t
theorem LV.ext {w w' : World} {C : Array Value} {r t : Rat} (h : LV w C r t) (hx : Ext w w') : LV w' C r t := by
 obtain ⟨a0, a1, a2, a3, b0, b1, b2, b3, rfl, h1, h2⟩ := h.parts
 exact ⟨⟨_, _, _, _, _, _, _, _, rfl, h1.ext hx, h2.ext hx⟩⟩
theorem LV.size {w : World} {C : Array Value} {r t : Rat} (h : LV w C r t) : C.size = 8 := by
 obtain ⟨a0, a1, a2, a3, b0, b1, b2, b3, rfl, h1, h2⟩ := h.parts
 rfl
theorem LV.ones {w : World} {C : Array Value} {r t : Rat} (h : LV w C r t) : C.all (·.oneCell') = true := by
 obtain ⟨a0, a1, a2, a3, b0, b1, b2, b3, rfl, h1, h2⟩ := h.parts
 obtain ⟨x0, x1, x2, x3⟩ := h1.ones
 obtain ⟨y0, y1, y2, y3⟩ := h2.ones
 simp [*]
theorem creflect_ok (na nb : Int) (a1 : 10000000 ≤ na) (a2 : na ≤ 40000000) (b1 : 10000000 ≤ nb) (b2 : nb ≤ 40000000) (p : Option Addr) (nf c : Nat) (x : Mat) (w : World) (hst : ∀ W, Below w.heap.size w W → Calls Tryz.prog 89 #[.slice p nf c] W fun e w' => ∃ C, e = .returned (.agg C) ∧ MV w' C x ∧ Below W.heap.size W w')
  (hf : RFits (idx na) (idx nb) x) (hbig : (big (idx na) (idx nb) x).num ≠ 0) :
  Calls Tryz.prog 60 #[.int .i64 na, .int .i64 nb, .slice p nf c] w fun e w' => ∃ C, e = .returned (.agg C) ∧ LV w' C (back (idx na) (idx nb) x) (through (idx na) (idx nb) x) ∧ Below w.heap.size w w' := by
 have hmf : ∀ (fn : Fn) (first cap : Array Value) (w : World), (Instr.makeFunc fn first cap).run Tryz.prog w = .ok (.func fn first cap) w := fun _ _ _ _ => rfl
 have eg := enters_size
 have hi1 := fun W => cindex_ok na W
 have hi2 := fun W => cindex_ok nb W
 rw [decide_eq_true ⟨a1, a2⟩] at hi1
 rw [decide_eq_true ⟨b1, b2⟩] at hi2
 have hof1 := fun W => cof_ok na 10000000 (by decide) W (by omega) (by omega) (by decide) (by decide)
 have hof2 := fun W => cof_ok nb 10000000 (by decide) W (by omega) (by omega) (by decide) (by decide)
 have hof4 := fun W => cof_ok 4 1 (by decide) W (by decide) (by decide) (by decide) (by decide)
 rw [show Rat.divInt na 10000000 = idx na from rfl] at hof1
 rw [show Rat.divInt nb 10000000 = idx nb from rfl] at hof2
 rw [show Rat.divInt 4 1 = 4 from by decide +kernel] at hof4
 have eback : back (idx na) (idx nb) x = low (idx na) (idx nb) x / big (idx na) (idx nb) x := rfl
 have ethr : through (idx na) (idx nb) x = 4 * (idx na * idx nb) / big (idx na) (idx nb) x := rfl
 have elow : low (idx na) (idx nb) x = (idx na * x.a - idx nb * x.d) * (idx na * x.a - idx nb * x.d) + (idx na * idx nb * x.b - x.c) * (idx na * idx nb * x.b - x.c) := rfl
 have ebig : big (idx na) (idx nb) x = (idx na * x.a + idx nb * x.d) * (idx na * x.a + idx nb * x.d) + (idx na * idx nb * x.b + x.c) * (idx na * idx nb * x.b + x.c) := rfl
 obtain ⟨fnm, fr0, fr1, fo0, fra, frs, foa, fos, fra2, frs2, foa2, fos2, fbig, flow, ffour, fback, fthr⟩ := hf
 rw [eback] at fback ⊢
 rw [ethr] at fthr ⊢
 clear eback ethr a1 a2 b1 b2
 generalize hlow' : low (idx na) (idx nb) x = lw at *
 generalize hbig' : big (idx na) (idx nb) x = bg at *
 clear hlow' hbig'
 generalize idx na = rn at *
 generalize idx nb = rm at *
 go_enter Tryz.func60, Tryz.ntmps60
 go_wp2_with first | (refine wpList_new rfl 124 rfl _ alloc_light ?_; intro W0 BO hleO hB0 bO) | (go_at_call 71; refine (hi1 _).mono ?_; rintro e w5 ⟨rfl, h5⟩; rw [h5]; clear h5 w5) | (go_at_call 71; refine (hi2 _).mono ?_; rintro e w5 ⟨rfl, h5⟩; rw [h5]; clear h5 w5) | (go_at_call 70; refine (crefuse_no _ _).mono ?_; rintro e w5 ⟨rfl, h5⟩; rw [h5]; clear h5 w5)
 refine (hst W0 hB0).mono ?_
 rintro e W1 ⟨CM, rfl, hM, hb1⟩
 have hMs := hM.size
 have hMi : (Tryz.prog.info? 57).map (·.size) = some CM.size := by rw [hMs]; exact sizeQuad
 have hMo := hM.ones
 replace hB0 := belowCall hB0 hb1
 replace bO := bO.below hb1
 have lO := bO.lt
 clear hb1 hst hi1 hi2
 go_wp2_with first | (refine wpList_new rfl 57 rfl _ alloc_quad ?_; intro W2 BM hleM hb2 bM) | (refine wpList_store_box rfl 57 _ _ rfl BM 0 57 _ CM CM rfl rfl bM hMi (Nat.le_of_eq (by rw [hMs]; rfl)) hMo (whole_new (by rw [hMs]; rfl)) ?_; intro W3 hk3 bM3)
 have hb13 := hk3.below hb2 hleM hb2.size
 replace hB0 := belowCall hB0 hb13
 replace bO := bO.below hb13
 replace hM := hM.ext (.of_below hb13)
 have hMO : BO < BM := by omega
 clear hb13 hb2 bM hk3 hleM lO
 have lO := bO.lt
 refine (hof1 W3).mono ?_
 rintro e W4 ⟨C1, rfl, R1, hb4⟩
 go_wp2_with fail
 refine (hof2 W4).mono ?_
 rintro e W5 ⟨C2, rfl, R2, hb5⟩
 have hb35 := belowCall hb4 hb5
 replace R1 := R1.ext (.of_below hb5)
 replace hM := hM.ext (.of_below hb35)
 replace hB0 := belowCall hB0 hb35
 replace bO := bO.below hb35
 replace bM3 := bM3.below hb35
 obtain ⟨_, e1, z1, o1⟩ := R1.cells
 cases e1
 obtain ⟨_, e2, z2, o2⟩ := R2.cells
 cases e2
 have i1 : (Tryz.prog.info? 37).map (·.size) = some C1.size := by rw [z1]; exact sizeQuot
 have i2 : (Tryz.prog.info? 37).map (·.size) = some C2.size := by rw [z2]; exact sizeQuot
 have lO5 : BO < W5.heap.size := bO.lt
 have lM5 : BM < W5.heap.size := bM3.lt
 clear hb4 hb5 hb35 hof1 hof2 lO
 go_wp2_with first | (refine boxes2l fun W6 hb6 hs6 b1 b2 => ?_; refine wpList_store_box rfl 37 _ _ rfl W5.heap.size 0 37 _ C1 C1 rfl rfl b1 i1 (Nat.le_of_eq (by rw [z1]; rfl)) o1 (whole_new (by rw [z1]; rfl)) ?_; intro W7 hk7 b17; have b27 := hk7.box b2 b2.lt (by omega)) | (refine wpList_store_box rfl 37 _ _ rfl (W5.heap.size + 1) 0 37 _ C2 C2 rfl rfl b27 i2 (Nat.le_of_eq (by rw [z2]; rfl)) o2 (whole_new (by rw [z2]; rfl)) ?_; intro W8 hk8 b28; have b18 := hk8.box b17 b17.lt (by omega)) | (refine wpList_load_box rfl 37 (.tmp 8) rfl W5.heap.size rfl 37 C1 b18 _ Tryz.underlying37 rfl i1 ?_) | (refine wpList_load_box rfl 37 (.tmp 9) rfl (W5.heap.size + 1) rfl 37 C2 b28 _ Tryz.underlying37 rfl i2 ?_)
 have hb57 := hk7.below hb6 (Nat.le_refl _) hb6.size
 have hb58 := hk8.below hb57 (by omega) hb57.size
 replace R1 := R1.ext (.of_below hb58)
 replace R2 := R2.ext (.of_below hb58)
 refine (cmul_ok _ _ _ _ W8 R1 R2 fnm).mono ?_
 rintro e W9 ⟨C3, rfl, R3, hb9⟩
 obtain ⟨_, e3, z3, o3⟩ := R3.cells
 cases e3
 have i3 : (Tryz.prog.info? 37).map (·.size) = some C3.size := by rw [z3]; exact sizeQuot
 go_wp2_with first | (refine wpList_new rfl 37 rfl _ alloc_quot ?_; intro W10 B3 hle3 hb10 b3) | (refine wpList_store_box rfl 37 _ _ rfl B3 0 37 _ C3 C3 rfl rfl b3 i3 (Nat.le_of_eq (by rw [z3]; rfl)) o3 (whole_new (by rw [z3]; rfl)) ?_; intro W hkW b3W)
 have hb9W := hkW.below hb10 hle3 hb10.size
 have hb8W := belowCall hb9 hb9W
 have hb5W := belowCall hb58 hb8W
 have hBW := belowCall hB0 hb5W
 replace hM := hM.ext (.of_below hb5W)
 replace R1 := R1.ext (.of_below hb8W)
 replace R2 := R2.ext (.of_below hb8W)
 replace R3 := R3.ext (.of_below hb9W)
 replace bO := bO.below hb5W
 replace bM3 := bM3.below hb5W
 replace b18 := b18.below hb8W
 replace b28 := b28.below hb8W
 have lO3 : BO < B3 := by have := hb58.size; have := hb9.size; omega
 clear hb57 hb58 hb9 hb10 hb9W hb8W hb5W hB0 hk7 hk8 hkW b1 b2 b17 b27 b3 hb6 hs6
 generalize hB1 : W5.heap.size = B1 at *
 clear hB1
 obtain ⟨a0, a1, a2, a3, b0, b1, b2, b3, c0, c1, c2, c3, d0, d1, d2, d3, rfl, xa, xb, xc, xd⟩ := hM.parts
 clear hMs hMi hMo
 have lO := bO.lt
 have oc := xc.ones

 try simp only [Act.put, List.setIfInBounds_toArray, List.set_cons_zero, List.set_cons_succ]
 generalize ha : Act.mk _ [] = aX
 refine wp_mono (Q := fun e a' V => match e with | .normal => ∃ (v33 v34 v35 v36 v37 v38 v39 v40 v41 v42 v43 v44 v45 v46 v47 v48 v49 v50 v51 v52 : Value) (B11 B12 : Nat) (r0 r1 r2 r3 s0 s1 s2 s3 t0 t1 t2 t3 : Value), a' = ((((((((((((((((((((((aX.put (some 33) v33).put (some 34) v34).put (some 35) v35).put (some 36) v36).put (some 37) v37).put (some 38) v38).put (some 39) v39).put (some 40) v40).put (some 41) v41).put (some 42) v42).put (some 43) v43).put (some 44) v44).put (some 45) v45).put (some 46) v46).put (some 47) v47).put (some 48) v48).put (some 49) v49).put (some 50) v50).put (some 51) v51).put (some 52) v52).put (some 11) (.pointer (some ⟨B11, 0, none⟩))).put (some 12) (.pointer (some ⟨B12, 0, none⟩))) ∧ Below W.heap.size W V ∧ W.heap.size ≤ B11 ∧ Box V B11 55 #[r0, r1, r2, r3, s0, s1, s2, s3] ∧ W.heap.size ≤ B12 ∧ Box V B12 55 #[t0, t1, t2, t3, c0, c1, c2, c3] ∧ QV V (.agg #[r0, r1, r2, r3]) (rn * x.a) ∧ QV V (.agg #[s0, s1, s2, s3]) (rm * x.d) ∧ QV V (.agg #[t0, t1, t2, t3]) (rn * rm * x.b) ∧ B11 ≠ B12 | _ => False) ?_ ?_
 ·subst ha
  refine wp_region_held_drew (S := fun w' => (∀ b o, b < W.heap.size → w'.cell? ⟨b, o, none⟩ = W.cell? ⟨b, o, none⟩) ∧ Below W.heap.size W w') (by as_aux_lemma => kernel_rfl) (belowS (Below.refl _ _).drew) (fun hHeld => ?_)
  have hBel : Below W.heap.size W W.drew := (Below.refl _ _).drew
  refine tl 0 (some 33) rfl (.agg C1) (exec_load 37 _ rfl B1 0 rfl  C1 (fun w h => (b18.below h.2).range) _ Tryz.underlying37 rfl i1) ?_
  refine tk 1 (some 34) ?_
  refine tk 2 (some 35) ?_
  refine tl 3 (some 36) rfl (.agg #[a0, a1, a2, a3]) (exec_load 37 _ rfl BM 0 rfl  #[a0, a1, a2, a3] (fun w h => (bM3.below h.2).part 0 #[a0, a1, a2, a3] rfl) _ Tryz.underlying37 rfl sizeQuot) ?_
  refine tl 5 (some 38) rfl (.agg C2) (exec_load 37 _ rfl (B1 + 1) 0 rfl  C2 (fun w h => (b28.below h.2).range) _ Tryz.underlying37 rfl i2) ?_
  refine tk 6 (some 39) ?_
  refine tk 7 (some 40) ?_
  refine tl 8 (some 41) rfl (.agg #[d0, d1, d2, d3]) (exec_load 37 _ rfl BM 12 rfl  #[d0, d1, d2, d3] (fun w h => (bM3.below h.2).part 12 #[d0, d1, d2, d3] rfl) _ Tryz.underlying37 rfl sizeQuot) ?_
  refine tl 11 (some 44) rfl (.agg C3) (exec_load 37 _ rfl B3 0 rfl  C3 (fun w h => (b3W.below h.2).range) _ Tryz.underlying37 rfl i3) ?_
  refine tk 12 (some 45) ?_
  refine tk 13 (some 46) ?_
  refine tl 14 (some 47) rfl (.agg #[b0, b1, b2, b3]) (exec_load 37 _ rfl BM 4 rfl  #[b0, b1, b2, b3] (fun w h => (bM3.below h.2).part 4 #[b0, b1, b2, b3] rfl) _ Tryz.underlying37 rfl sizeQuot) ?_
  refine tk 16 (some 49) ?_
  refine tk 17 (some 50) ?_
  refine tl 18 (some 51) rfl (.agg #[c0, c1, c2, c3]) (exec_load 37 _ rfl BM 8 rfl  #[c0, c1, c2, c3] (fun w h => (bM3.below h.2).part 8 #[c0, c1, c2, c3] rfl) _ Tryz.underlying37 rfl sizeQuot) ?_
  refine Mono.Fl.open [⟨20, 11, 55, _⟩, ⟨21, 12, 55, _⟩] (.cons (.of alloc_q2) (.cons (.of alloc_q2) .nil)) (fun hfa => ?_)
  refine Mono.Fl.call 4 37 (fun wc hV => have hBel := belowCall hBel hV; (cmul_ok rn x.a _ _ _ (R1.ext (.of_below hBel)) (xa.ext (.of_below hBel)) fr0)) ?_ (hN := hBel.size)
  intro wc hV hHeld e Wn4 hR
  obtain ⟨C4, rfl, R4, hb4⟩ := hR
  obtain ⟨r0, r1, r2, r3, rfl, ro0, ro1, ro2, ro3⟩ := R4.four
  replace hBel := belowCall (belowCall hBel hV) hb4
  refine ⟨hb4, Mono.Fl.pt ?_⟩
  refine Mono.Fl.call 9 42 (fun wc hV => have hBel := belowCall hBel hV; (cmul_ok rm x.d _ _ _ (R2.ext (.of_below hBel)) (xd.ext (.of_below hBel)) fr1)) ?_ (hN := hBel.size)
  intro wc hV hHeld e Wn9 hR
  obtain ⟨C5, rfl, R5, hb5⟩ := hR
  obtain ⟨s0, s1, s2, s3, rfl, so0, so1, so2, so3⟩ := R5.four
  replace hBel := belowCall (belowCall hBel hV) hb5
  replace R4 := R4.ext (.of_below (belowCall hV hb5))
  refine ⟨hb5, Mono.Fl.pt ?_⟩
  refine Mono.Fl.take 10 43 (v := (.agg #[r0, r1, r2, r3, s0, s1, s2, s3])) ?_ (hv := exec_build 55 _ rfl #[r0, r1, r2, r3, s0, s1, s2, s3] (by as_aux_lemma => kernel_rfl))
  refine Mono.Fl.call 15 48 (fun wc hV => have hBel := belowCall hBel hV; (cmul_ok (rn * rm) x.b _ _ _ (R3.ext (.of_below hBel)) (xb.ext (.of_below hBel)) fo0)) ?_ (hN := hBel.size)
  intro wc hV hHeld e Wn15 hR
  obtain ⟨C6, rfl, R6, hb6⟩ := hR
  obtain ⟨t0, t1, t2, t3, rfl, to0, to1, to2, to3⟩ := R6.four
  replace hBel := belowCall (belowCall hBel hV) hb6
  replace R4 := R4.ext (.of_below (belowCall hV hb6))
  replace R5 := R5.ext (.of_below (belowCall hV hb6))
  refine ⟨hb6, Mono.Fl.pt ?_⟩
  refine Mono.Fl.take 19 52 (v := (.agg #[t0, t1, t2, t3, c0, c1, c2, c3])) ?_ (hv := exec_build 55 _ rfl #[t0, t1, t2, t3, c0, c1, c2, c3] (by as_aux_lemma => kernel_rfl))
  refine Mono.Fl.close2 (fun B11 B12 wc hV hHeld hg11 hg12 hne11_12 b11 b12 => ?_) (hN := hBel.size)
  replace hBel := belowCall hBel hV
  replace R4 := R4.ext (.of_below hV)
  replace R5 := R5.ext (.of_below hV)
  replace R6 := R6.ext (.of_below hV)
  replace hg11 : W.heap.size ≤ B11 := hg11
  replace hg12 : W.heap.size ≤ B12 := hg12
  refine Mono.pt ?_
  refine wpAnyH_storeB B11 55 22 rfl rfl rfl rfl 0 #[r0, r1, r2, r3, s0, s1, s2, s3] _ #[r0, r1, r2, r3, s0, s1, s2, s3] (by as_aux_lemma => kernel_rfl) (fun w' i u hS => belowS (hS.2.setCell (p := ⟨B11, i, none⟩) hg11 u)) rfl rfl b11 hHeld sizeQ2 (Nat.le_of_eq rfl) (by simp [*]) (whole_new rfl) (fun Ws0 hk0 bs11 hHeld => ?_)
  replace b12 := hk0.box b12 b12.lt (Ne.symm hne11_12)
  replace R4 := R4.ext (hk0.ext b11 (by decide))
  replace R5 := R5.ext (hk0.ext b11 (by decide))
  replace R6 := R6.ext (hk0.ext b11 (by decide))
  refine wpAnyH_storeB B12 55 23 rfl rfl rfl rfl 0 #[t0, t1, t2, t3, c0, c1, c2, c3] _ #[t0, t1, t2, t3, c0, c1, c2, c3] (by as_aux_lemma => kernel_rfl) (fun w' i u hS => belowS (hS.2.setCell (p := ⟨B12, i, none⟩) hg12 u)) rfl rfl b12 hHeld sizeQ2 (Nat.le_of_eq rfl) (by simp [*]) (whole_new rfl) (fun Ws1 hk1 bs12 hHeld => ?_)
  replace bs11 := hk1.box bs11 bs11.lt hne11_12
  replace R4 := R4.ext (hk1.ext b12 (by decide))
  replace R5 := R5.ext (hk1.ext b12 (by decide))
  replace R6 := R6.ext (hk1.ext b12 (by decide))
  refine wpAnyH_done (by as_aux_lemma => kernel_rfl) ?_ _
  exact ⟨_, _, _, _, _, _, _, _, _, _, _, _, _, _, _, _, _, _, _, _, B11, B12, r0, r1, r2, r3, s0, s1, s2, s3, t0, t1, t2, t3, by (simp only [Act.put, List.setIfInBounds_toArray, List.set_cons_zero, List.set_cons_succ]); try rfl, hHeld.2, hg11, bs11, hg12, bs12, R4, R5, R6, hne11_12⟩
 ·rintro e a' V5 hmid
  cases e with
  | normal => ?_
  | _ => exact hmid.elim
  obtain ⟨v33, v34, v35, v36, v37, v38, v39, v40, v41, v42, v43, v44, v45, v46, v47, v48, v49, v50, v51, v52, B11, B12, r0, r1, r2, r3, s0, s1, s2, s3, t0, t1, t2, t3, rfl, hbV, hg11, b11, hg12, b12, R4, R5, R6, hne11_12⟩ := hmid
  subst ha
  simp only [Act.put, List.setIfInBounds_toArray, List.set_cons_zero, List.set_cons_succ]
  replace hBW := belowCall hBW hbV
  replace xc := xc.ext (.of_below hbV)
  replace R3 := R3.ext (.of_below hbV)
  replace bO := bO.below hbV
  replace b3W := b3W.below hbV
  have lO11 : BO < B11 := by omega
  have lO12 : BO < B12 := by omega
  clear hbV bM3 b18 b28 xa xb xd R1 R2 hM lO
  have lO := bO.lt
  have hja := fun W Ca Cb (h1 : QV W (.agg Ca) (rn * x.a)) (h2 : QV W (.agg Cb) (rm * x.d)) => cadd_ok _ _ Ca Cb W h1 h2 fra
  have hjb := fun W Ca Cb (h1 : QV W (.agg Ca) (rn * rm * x.b)) (h2 : QV W (.agg Cb) x.c) => cadd_ok _ _ Ca Cb W h1 h2 foa
  have hsa := fun W Ca Cb (h1 : QV W (.agg Ca) (rn * x.a)) (h2 : QV W (.agg Cb) (rm * x.d)) => csub_ok _ _ Ca Cb W h1 h2 frs
  have hsb := fun W Ca Cb (h1 : QV W (.agg Ca) (rn * rm * x.b)) (h2 : QV W (.agg Cb) x.c) => csub_ok _ _ Ca Cb W h1 h2 fos
  have hszA := fun W (hW : Below V5.heap.size V5 W) => csize_ok 140 enters_add _ _ _ _ _ _ hja hjb fra2 foa2 (by rw [← ebig]; exact fbig) _ _ _ _ _ _ _ _ _ _ _ _ _ _ _ _ B11 B12 W (b11.below hW) (b12.below hW) (R4.ext (.of_below hW)) (R5.ext (.of_below hW)) (R6.ext (.of_below hW)) (xc.ext (.of_below hW))
  have hszS := fun W (hW : Below V5.heap.size V5 W) => csize_ok 142 enters_sub _ _ _ _ _ _ hsa hsb frs2 fos2 (by rw [← elow]; exact flow) _ _ _ _ _ _ _ _ _ _ _ _ _ _ _ _ B11 B12 W (b11.below hW) (b12.below hW) (R4.ext (.of_below hW)) (R5.ext (.of_below hW)) (R6.ext (.of_below hW)) (xc.ext (.of_below hW))
  rw [← ebig] at hszA
  rw [← elow] at hszS
  clear hja hjb hsa hsb
  go_wp2_with fail
  refine (hszA V5 (Below.refl _ _)).mono ?_
  rintro e V6 ⟨C7, rfl, R7, hb6⟩
  obtain ⟨_, e7, z7, o7⟩ := R7.cells
  cases e7
  have i7 : (Tryz.prog.info? 37).map (·.size) = some C7.size := by rw [z7]; exact sizeQuot
  go_wp2_with first | (refine wpList_new rfl 37 rfl _ alloc_quot ?_; intro V7 B7 hle7 hb7 b7) | (refine wpList_store_box rfl 37 _ _ rfl B7 0 37 _ C7 C7 rfl rfl b7 i7 (Nat.le_of_eq (by rw [z7]; rfl)) o7 (whole_new (by rw [z7]; rfl)) ?_; intro V8 hk8 b78)
  have hb68 := hk8.below hb7 hle7 hb7.size
  have hb58 := belowCall hb6 hb68
  replace hBW := belowCall hBW hb58
  replace R7 := R7.ext (.of_below hb68)
  replace R3 := R3.ext (.of_below hb58)
  replace bO := bO.below hb58
  replace b3W := b3W.below hb58
  have hn7 : B7 ≠ BO := by have := hb6.size; omega
  have hn3 : B3 ≠ BO := by omega
  have hszS' := fun W (hW : Below V8.heap.size V8 W) => hszS W (belowCall hb58 hW)
  clear hszS hszA hb7 b7 hk8 hb6 hb68

  refine wp_region_held_drew (S := fun w' => (∀ b o, b < V8.heap.size → b ≠ BO → w'.cell? ⟨b, o, none⟩ = V8.cell? ⟨b, o, none⟩) ∧ KeepBut BO V8.heap.size V8 w') (by as_aux_lemma => kernel_rfl) (KeepBut.S (KeepBut.refl _ _).drew) (fun hHeld => ?_)
  have hBel : Below V8.heap.size V8 V8.drew := (Below.refl _ _).drew
  refine tk 0 (some 56) ?_
  refine tl 2 (some 58) rfl (.agg C7) (exec_load 37 _ rfl B7 0 rfl  C7 (fun w h => (h.2.box b78 b78.lt hn7).range) _ Tryz.underlying37 rfl i7) ?_
  refine tl 5 (some 61) rfl (.agg C3) (exec_load 37 _ rfl B3 0 rfl  C3 (fun w h => (h.2.box b3W b3W.lt hn3).range) _ Tryz.underlying37 rfl i3) ?_
  refine tl 7 (some 63) rfl (.agg C7) (exec_load 37 _ rfl B7 0 rfl  C7 (fun w h => (h.2.box b78 b78.lt hn7).range) _ Tryz.underlying37 rfl i7) ?_
  refine Mono.stc 1 (some 57) (hszS' _ hBel) (fun e Wn1 hR => ?_)
  obtain ⟨C8, rfl, R8, hb8⟩ := hR
  replace hBel := belowCall hBel hb8
  refine ⟨(KeepBut.S (hHeld.2.call hb8)), fun hHeld => Mono.pt ?_⟩
  refine Mono.stc 3 (some 59) (cdiv_ok _ _ _ _ _ R8 (R7.ext (.of_below hBel)) hbig fback) (fun e Wn3 hR => ?_)
  obtain ⟨C9, rfl, R9, hb9⟩ := hR
  obtain ⟨x0, x1, x2, x3, rfl, xo0, xo1, xo2, xo3⟩ := R9.four
  replace hBel := belowCall hBel hb9
  replace R8 := R8.ext (.of_below hb9)
  refine ⟨(KeepBut.S (hHeld.2.call hb9)), fun hHeld => Mono.pt ?_⟩
  refine Mono.stc 4 (some 60) (hof4 _) (fun e Wn4 hR => ?_)
  obtain ⟨C10, rfl, R10, hb10⟩ := hR
  replace hBel := belowCall hBel hb10
  replace R8 := R8.ext (.of_below hb10)
  replace R9 := R9.ext (.of_below hb10)
  refine ⟨(KeepBut.S (hHeld.2.call hb10)), fun hHeld => Mono.pt ?_⟩
  refine Mono.stc 6 (some 62) (cmul_ok _ _ _ _ _ R10 (R3.ext (.of_below hBel)) ffour) (fun e Wn6 hR => ?_)
  obtain ⟨C11, rfl, R11, hb11⟩ := hR
  replace hBel := belowCall hBel hb11
  replace R8 := R8.ext (.of_below hb11)
  replace R9 := R9.ext (.of_below hb11)
  replace R10 := R10.ext (.of_below hb11)
  refine ⟨(KeepBut.S (hHeld.2.call hb11)), fun hHeld => Mono.pt ?_⟩
  refine Mono.stc 8 (some 64) (cdiv_ok _ _ _ _ _ R11 (R7.ext (.of_below hBel)) hbig fthr) (fun e Wn8 hR => ?_)
  obtain ⟨C12, rfl, R12, hb12⟩ := hR
  obtain ⟨y0, y1, y2, y3, rfl, yo0, yo1, yo2, yo3⟩ := R12.four
  replace hBel := belowCall hBel hb12
  replace R8 := R8.ext (.of_below hb12)
  replace R9 := R9.ext (.of_below hb12)
  replace R10 := R10.ext (.of_below hb12)
  replace R11 := R11.ext (.of_below hb12)
  refine ⟨(KeepBut.S (hHeld.2.call hb12)), fun hHeld => Mono.pt ?_⟩
  refine tl 9 (some 65) rfl (.agg #[x0, x1, x2, x3, y0, y1, y2, y3]) (exec_build 124 _ rfl #[x0, x1, x2, x3, y0, y1, y2, y3] (by as_aux_lemma => kernel_rfl)) ?_
  refine wpAnyH_storeB BO 124 10 rfl rfl rfl rfl 0 #[x0, x1, x2, x3, y0, y1, y2, y3] _ #[x0, x1, x2, x3, y0, y1, y2, y3] (by as_aux_lemma => kernel_rfl) (fun w' i u hS => KeepBut.S (hS.2.set i u)) rfl rfl (bO.below hBel) hHeld sizeLight (Nat.le_of_eq rfl) (by simp [*]) (whole_new rfl) (fun Ws hks bs hHeld => ?_)
  refine wpAnyH_done (by as_aux_lemma => kernel_rfl) ?_ _
  have xS := hks.ext (bO.below hBel) (by decide)
  go_wp2
  refine bodyPost_ret (bs.results rfl _ _ rfl Tryz.underlying124 rfl sizeLight) rfl ?_
  exact ⟨_, rfl, ⟨⟨_, _, _, _, _, _, _, _, rfl, by first | exact R9.ext xS | (rw [← elow, ← ebig]; exact R9.ext xS), by first | exact R12.ext xS | (rw [← ebig]; exact R12.ext xS)⟩⟩, hHeld.2.below hBW hleO hBW.size⟩
end Go.Proofs.YtdgodcgdlfjpaaaGreatDoor
