/- Drafted fractions, and the opening of a law's arguments. Part 4 of 6. No condition beside the row. -/
import Derived.Test.YtcgfdibagldafaaGreatDoorG03
set_option linter.unusedVariables false
set_option linter.unusedSimpArgs false
set_option maxRecDepth 100000
set_option maxHeartbeats 4000000
namespace Go.Proofs.YtcgfdibagldafaaGreatDoor
open Go.RowKit Go.Mono
theorem r3diff_digits (s : Bool) (p q : Option Addr) (n m c1 c2 : Nat) (f g : Nat → Int) (w : World) (h1 : SlF w (.slice p n c1) n f) (h2 : SlF w (.slice q m c2) m g) (d1 : Digs f n) (d2 : Digs g m) (hn0 : 0 < n) (hm0 : 0 < m) (hn6 : n ≤ 100000) (hge : vf g m ≤ vf f n) :
  Calls Tryz.prog 258 #[.agg #[.bool s, .slice p n c1], .agg #[.bool s, .slice q m c2]] w fun e w' => ∃ p k c h, e = .returned (.agg #[.bool (s && decide (0 < vf f n - vf g m)), .slice p k c]) ∧ SlF w' (.slice p k c) k h ∧ Digs h k ∧ vf h k = vf f n - vf g m ∧ k ≤ n ∧ Below w.heap.size w w' := by
 obtain ⟨hc1, hn1, hx1⟩ := h1.opens
 obtain ⟨hc2, hn2, _⟩ := h2.opens
 have hmn : m ≤ n := d2.len_le d1 hge
 have hn0' : ((n : Int) == 0) = false := by simp; omega
 have hm0' : ((m : Int) == 0) = false := by simp; omega
 have hless := fun (W : World) (hW : Below w.heap.size w W) => r3less_ok p q n m c1 c2 f g W (h1.ext (.of_below hW)) (h2.ext (.of_below hW)) d1 d2
 rw [decide_eq_false (by omega)] at hless
 obtain ⟨sg, hsg⟩ : ∃ sg : Bool, (s && decide (0 < vf f n - vf g m)) = sg := ⟨_, rfl⟩
 rw [hsg]
 go_enter Tryz.func258, Tryz.ntmps258
 go_wp2_with fail
 refine boxes3c fun W hB hs b0 b1 b2 => ?_
 refine (hless W hB).mono ?_
 rintro e Wl ⟨rfl, kl, rfl⟩
 have hBl := below_drewN hB kl
 replace b0 : Box (W.drewN kl) w.heap.size 50 #[.bool s, .slice p n c1] := ⟨b0.blk⟩
 replace b1 : Box (W.drewN kl) (w.heap.size + 1) 50 #[.bool s, .slice q m c2] := ⟨b1.blk⟩
 replace b2 : Box (W.drewN kl) (w.heap.size + 1 + 1) 50 #[.bool false, .slice none 0 0] := ⟨b2.blk⟩
 have hsl : w.heap.size + 1 + 1 + 1 ≤ (W.drewN kl).heap.size := hs
 clear hless hB hs
 generalize W.drewN kl = V at *
 go_wp2
 go_loopw [5, 6, 7] (fun v x y wr => ∃ (i : Nat) (c : Int) (h : Nat → Int), i ≤ n ∧ x = .int .i64 c ∧ y = .int .i64 (i : Int) ∧ OwnF wr (w.heap.size + 1 + 1 + 1) v i h ∧ DifI f (xt g m) i h c ∧ Box wr w.heap.size 50 #[.bool s, .slice p n c1] ∧ Box wr (w.heap.size + 1) 50 #[.bool s, .slice q m c2] ∧ Box wr (w.heap.size + 1 + 1) 50 #[.bool false, .slice none 0 0] ∧ Below w.heap.size w wr ∧ w.heap.size + 1 + 1 + 1 ≤ wr.heap.size) (fun _ _ y _ => (n - intOf y).toNat)
 case atStart => exact ⟨0, 0, _, Nat.zero_le _, rfl, rfl, OwnF.nil _ _ _, DifI.start _ _ (fun _ => 0), b0, b1, b2, hBl, hsl⟩
 case round =>
  clear b0 b1 b2 hBl hsl
  obtain ⟨i, c, h, hi, rfl, rfl, ho, hI, b0, b1, b2, hB, hs⟩ := hrel
  obtain ⟨pv, cv, rfl⟩ := ho.shape
  by_cases hlt : i < n
  ·have hlt' : (i : Int) < n := by omega
   obtain ⟨b, off, rfl, hb, hcell⟩ := hx1 hn0
   have hci := hcell i hlt
   have x0 := d1.lo i hlt
   have x1 := d1.hi i hlt
   have y0 := xt_lo d2.lo i
   have y1 := xt_hi d2.hi i
   have hat2 := fun X (hX : Below w.heap.size w X) => r3at_ok q m c2 i g X (h2.ext (.of_below hX))
   have hbel := fun e => hI.below x0 y1 e
   have habo := fun e => hI.above x1 y0 e
   have k0 := hI.c0
   have k1 := hI.c1
   generalize hX : f i = x at *
   generalize hY : xt g m i = y at *
   have cb0 := b0.cell
   have lb0 := b0.lt
   have fb0 := b0.frozen
   have cb1 := b1.cell
   have lb1 := b1.lt
   have fb1 := b1.frozen
   have hck : ∀ w', Below w.heap.size w w' → w'.cell? ⟨b, off + i, none⟩ = some (.int .i64 x) := fun w' hw' => (hw'.cell (p := ⟨b, off + i, none⟩) hb).trans hci
   clear hcell hci hI
   by_cases hneg : x - y - c < 0
   all_goals
    go_wp2
    refine wp_region_held_drew (S := fun w' => (∀ i, w'.cell? ⟨w.heap.size, i, none⟩ = (#[.bool s, .slice (some ⟨b, off, none⟩) n c1] : Array Value)[i]?) ∧ (∀ i, w'.cell? ⟨w.heap.size + 1, i, none⟩ = (#[.bool s, .slice q m c2] : Array Value)[i]?) ∧ w'.cell? ⟨b, off + i, none⟩ = some (.int .i64 x) ∧ Below w.heap.size w w') (by as_aux_lemma => kernel_rfl) ⟨cb0, cb1, hck _ hB.drew, hB.drew⟩ (fun hHeld => ?_)
    have hoX := ho.below (Below.refl wr.heap.size wr).drew
    have bX0 := b0.drew
    have bX1 := b1.drew
    have bX2 := b2.drew
    have hsX : w.heap.size + 1 + 1 + 1 ≤ wr.drew.heap.size := hs
    generalize wr.drew = X0 at *
    refine tk 0 (some 45) ?_
    refine tk 1 (some 46) ?_
    refine tk 2 (some 47) ?_
    refine tk 3 (some 48) ?_
    refine tk 4 (some 49) ?_
    refine tk 5 (some 50) ?_
    refine tk 6 (some 51) ?_
    refine tk 7 (some 52) ?_
    refine tk 10 (some 55) ?_
    refine Mono.stc 8 (some 53) (hat2 X0 hHeld.2.2.2) (fun e X2 hR => ?_)
    obtain ⟨rfl, rfl⟩ := hR
    refine ⟨(hHeld), fun hHeld => Mono.pt ?_⟩
    refine tk 9 (some 54) ?_
    refine tk 11 (some 56) ?_
    refine tk 12 (some 8) ?_
    refine wpAnyH_done (by as_aux_lemma => kernel_rfl) ?_ _
    have hB2 := hHeld.2.2.2
    clear hHeld hat2 cb0 cb1 fb0 fb1 lb0 lb1 b0 b1 b2 ho hck
    rw [wrapId (z := x - y) (by omega) (by omega), wrapId (z := x - y - c) (by omega) (by omega)]
    go_wp2_with (at_builtin; (refine wpList_append_ints _ rfl _ _ 48 rfl Tryz.underlying48 infoInt (w.heap.size + 1 + 1 + 1) (.slice pv i cv) i h rfl ?_ (some ⟨X2.heap.size, 0, none⟩) 1 1 (fun _ => if x - y - c < 0 then x - y - c + 1000000000 else x - y - c) rfl ?_ ?_ ?_ ?_); (exact (hoX.below (belowAlloc (Below.refl _ _) _))); (exact (slF_lit X2 _ _ (by split <;> omega))); omega; (simp; omega); (intro v' w1 ho' hg))
    obtain ⟨p', c', rfl⟩ := ho'.shape
    have hz := ((Below.refl (w.heap.size + 1 + 1 + 1) X2).alloc hsX (.cells _ 3)).grown hg (by simp; omega) (fun k hk => hoX.low k hk)
    replace bX0 := bX0.low hz (by omega)
    replace bX1 := bX1.low hz (by omega)
    replace bX2 := bX2.low hz (by omega)
    have hB3 := hB2.trans (hz.mono (by omega))
    have hs3 := hz.size
    clear hoX hB2 hg hz hB hs
    go_wp2
    go_roundw
    case rel =>
     refine ⟨i + 1, _, _, hlt, rfl, by simp, ho'.congr (f' := fun j => if j = i then (if x - y - c < 0 then x - y - c + 1000000000 else x - y - c) else h j) (fun j hj => ?_), ?_, bX0, bX1, bX2, hB3, by omega⟩
     ·by_cases hji : j = i
      ·subst hji; simp
      ·rw [if_pos (by omega), if_neg hji]
     ·by_cases hq : x - y - c < 0
      ·simp only [if_pos hq]
       first | (exfalso; omega) | exact hbel hq
      ·simp only [if_neg hq]
       first | (exfalso; omega) | exact habo (by omega)
    case measure => simp [intOf]; omega
  ·obtain rfl : i = n := by omega
   have hval := hI.done hmn hge
   have hw1 : ¬ (i : Int) < i := by omega
   have cb0 := b0.cell
   have lb0 := b0.lt
   have fb0 := b0.frozen
   have cb1 := b1.cell
   have lb1 := b1.lt
   have fb1 := b1.frozen
   have hmm := fun W1 hW1 => r3made_ok s pv i cv h W1 ((ho.sl (by omega)).ext hW1) (by omega) hI.lo hI.hi
   rw [hval, hsg] at hmm
   replace hval := Lib.hid hval
   replace hsg := Lib.hid hsg
   clear hI ho hx1
   go_wp2_with fail
   refine (hmm wr (Ext.refl _)).mono ?_
   rintro e W1 ⟨v', rfl, ho2, d3, e3, hb⟩
   replace b2 := b2.below hb
   have hB1 := belowCall hB hb
   obtain ⟨p', c', rfl⟩ := ho2.shape
   have hsl := ho2.sl (by have := trimN_le h i; omega)
   clear hmm ho2 b0 b1 cb0 cb1 fb0 fb1 lb0 lb1 hB
   go_wp2_with first | (refine wpList_store_box rfl 50 _ _ rfl (w.heap.size + 1 + 1) 0 50 _ #[.bool sg, .slice p' (trimN h i) c'] #[.bool sg, .slice p' (trimN h i) c'] rfl rfl b2 sizeLong (Nat.le_of_ble_eq_true rfl) (long_ones _ _ _ _) (whole_new rfl) ?_; intro W2 hk b4)
   have hb2 := hk.below hB1 (by omega) hB1.size
   refine bodyPost_ret (b4.results rfl _ _ rfl Tryz.underlying50 rfl sizeLong) rfl ⟨p', _, c', h, rfl, hsl.ext (hk.ext b2 (by decide)), d3, e3, trimN_le h i, hb2⟩
theorem r3diff_ge {m1 m2 : Nat} {v1 v2 : Value} {z y : Int} (w : World) (h1 : LgV m1 w v1 z) (h2 : LgV m2 w v2 y) (hz : z ≠ 0) (hy : y ≠ 0) (hs : decide (z < 0) = decide (y < 0)) (hge : y.natAbs ≤ z.natAbs) (hm1 : m1 ≤ 100000) :
  Calls Tryz.prog 258 #[v1, v2] w fun e w' => ∃ v, e = .returned v ∧ LgV m1 w' v (z - y) ∧ Below w.heap.size w w' := by
 obtain ⟨p, n, c, f, rfl, s1, d1, e1, l1⟩ := h1
 obtain ⟨q, m, c', g, rfl, s2, d2, e2, l2⟩ := h2
 have hn0 : 0 < n := d1.pos.1 (by omega)
 have hm0 : 0 < m := d2.pos.1 (by omega)
 have hsg : (z < 0 ↔ y < 0) := by simpa using hs
 rw [← hs]
 refine (r3diff_digits _ p q n m c c' f g w s1 s2 d1 d2 hn0 hm0 (by omega) (by omega)).mono ?_
 rintro e w' ⟨p', k, c2, h, rfl, hsl, hd, hv, hk, hb⟩
 rw [e1, e2] at hv ⊢
 have hneg : (decide (z < 0) && decide (0 < (z.natAbs : Int) - y.natAbs)) = decide (z - y < 0) := by
  rw [Bool.eq_iff_iff, Bool.and_eq_true, decide_eq_true_eq, decide_eq_true_eq, decide_eq_true_eq]; omega
 rw [hneg]
 exact ⟨_, rfl, ⟨p', k, c2, h, rfl, hsl, hd, by omega, by omega⟩, hb⟩
theorem r3diff_lt {m1 m2 : Nat} {v1 v2 : Value} {z y : Int} (w : World) (h1 : LgV m1 w v1 z) (h2 : LgV m2 w v2 y) (hz : z ≠ 0) (hy : y ≠ 0) (hs : decide (z < 0) = decide (y < 0)) (hlt : z.natAbs < y.natAbs) (hm2 : m2 ≤ 100000) :
  Calls Tryz.prog 258 #[v1, v2] w fun e w' => ∃ v, e = .returned v ∧ LgV m2 w' v (z - y) ∧ Below w.heap.size w w' := by
 have hd := fun (W : World) (hW : Below w.heap.size w W) => r3diff_ge W (h2.below hW) (h1.below hW) hy hz hs.symm (by omega) hm2
 have hmi := fun (W : World) (v : Value) (h : LgV m2 W v (y - z)) => r3minus_ok W h hm2
 obtain ⟨p, n, c, f, rfl, s1, d1, e1, l1⟩ := h1
 obtain ⟨q, m, c', g, rfl, s2, d2, e2, l2⟩ := h2
 have hn0 : 0 < n := d1.pos.1 (by omega)
 have hm0 : 0 < m := d2.pos.1 (by omega)
 have hn0' : ((n : Int) == 0) = false := by simp; omega
 have hm0' : ((m : Int) == 0) = false := by simp; omega
 have hless := fun (W : World) (hW : Below w.heap.size w W) => r3less_ok p q n m c c' f g W (s1.ext (.of_below hW)) (s2.ext (.of_below hW)) d1 d2
 rw [decide_eq_true (by omega)] at hless
 rw [← hs] at hd ⊢
 clear hs
 generalize decide (z < 0) = s at *
 go_enter Tryz.func258, Tryz.ntmps258
 go_wp2_with fail
 refine boxes3c fun W hB hs b0 b1 b2 => ?_
 refine (hless W hB).mono ?_
 rintro e Wl ⟨rfl, kl, rfl⟩
 have hBl := below_drewN hB kl
 replace b0 : Box (W.drewN kl) w.heap.size 50 #[.bool s, .slice p n c] := ⟨b0.blk⟩
 replace b1 : Box (W.drewN kl) (w.heap.size + 1) 50 #[.bool s, .slice q m c'] := ⟨b1.blk⟩
 replace b2 : Box (W.drewN kl) (w.heap.size + 1 + 1) 50 #[.bool false, .slice none 0 0] := ⟨b2.blk⟩
 have hsl : w.heap.size + 1 + 1 + 1 ≤ (W.drewN kl).heap.size := hs
 clear hless hB hs
 generalize W.drewN kl = V at *
 have cb0 := b0.cell
 have lb0 := b0.lt
 have fb0 := b0.frozen
 have cb1 := b1.cell
 have lb1 := b1.lt
 have fb1 := b1.frozen
 go_wp2_with fail
 refine (hd V hBl).mono ?_
 rintro e W1 ⟨v', rfl, hl1, hb1⟩
 replace b2 := b2.below hb1
 have hB1 := belowCall hBl hb1
 have hs1 := hb1.size
 clear hd cb0 cb1 fb0 fb1 lb0 lb1 b0 b1
 go_wp2_with fail
 refine (hmi W1 v' hl1).mono ?_
 rintro e W2 ⟨v2, rfl, hl2, hb2⟩
 replace b2 := b2.below hb2
 have hB2 := belowCall hB1 hb2
 obtain ⟨C, rfl, hCs, hCo⟩ := hl2.cells
 have hiC : (Tryz.prog.info? 50).map (·.size) = some C.size := by rw [hCs]; exact sizeLong
 clear hmi hl1 hb1 hb2 hB1
 go_wp2_with first | (refine wpList_store_box rfl 50 _ _ rfl (w.heap.size + 1 + 1) 0 50 _ C C rfl rfl b2 hiC (by rw [hCs]; exact Nat.le_of_ble_eq_true rfl) hCo (whole_new (by rw [hCs]; rfl)) ?_; intro W3 hk b4)
 have hb3 := hk.below hB2 (by omega) hB2.size
 refine bodyPost_ret (b4.results rfl _ _ rfl Tryz.underlying50 rfl hiC) rfl ⟨_, rfl, ?_, hb3⟩
 rw [show z - y = -(y - z) by omega]
 exact hl2.ext (hk.ext b2 (by decide))
theorem r3diff_same {m1 m2 : Nat} {v1 v2 : Value} {z y : Int} (w : World) (h1 : LgV m1 w v1 z) (h2 : LgV m2 w v2 y) (hz : z ≠ 0) (hy : y ≠ 0) (hs : decide (z < 0) = decide (y < 0)) (hm1 : m1 ≤ 100000) (hm2 : m2 ≤ 100000) :
  Calls Tryz.prog 258 #[v1, v2] w fun e w' => ∃ v, e = .returned v ∧ LgV (max m1 m2) w' v (z - y) ∧ Below w.heap.size w w' := by
 by_cases h : y.natAbs ≤ z.natAbs
 ·refine (r3diff_ge w h1 h2 hz hy hs h hm1).mono ?_
  rintro e w' ⟨v, rfl, hl, hb⟩
  exact ⟨v, rfl, hl.mono (by omega), hb⟩
 ·refine (r3diff_lt w h1 h2 hz hy hs (by omega) hm2).mono ?_
  rintro e w' ⟨v, rfl, hl, hb⟩
  exact ⟨v, rfl, hl.mono (by omega), hb⟩
theorem r3sum_same {m1 m2 : Nat} {v1 v2 : Value} {z y : Int} (w : World) (h1 : LgV m1 w v1 z) (h2 : LgV m2 w v2 y) (hz : z ≠ 0) (hy : y ≠ 0) (hs : decide (z < 0) = decide (y < 0)) (hm1 : m1 ≤ 100000) (hm2 : m2 ≤ 100000) :
  Calls Tryz.prog 223 #[v1, v2] w fun e w' => ∃ v, e = .returned v ∧ LgV (max m1 m2 + 1) w' v (z + y) ∧ Below w.heap.size w w' := by
 obtain ⟨p, n, c, f, rfl, s1, d1, e1, l1⟩ := h1
 obtain ⟨q, m, c', g, rfl, s2, d2, e2, l2⟩ := h2
 have hn0 : 0 < n := d1.pos.1 (by omega)
 have hm0 : 0 < m := d2.pos.1 (by omega)
 have hsg : (z < 0 ↔ y < 0) := by simpa using hs
 rw [← hs]
 refine (r3sum_digits _ p q n m c c' f g w s1 s2 d1 d2 hn0 hm0 (by omega) (by omega)).mono ?_
 rintro e w' ⟨p', k, c2, h, rfl, hsl, hd, hv, hk, hb⟩
 rw [e1, e2] at hv
 have hneg : decide (z < 0) = decide (z + y < 0) := by rw [decide_eq_decide]; omega
 rw [hneg]
 exact ⟨_, rfl, ⟨p', k, c2, h, rfl, hsl, hd, by omega, by omega⟩, hb⟩
end Go.Proofs.YtcgfdibagldafaaGreatDoor
namespace Go.Mono
open Go.RowKit
theorem LgV.zero {m : Nat} {w : World} {v : Value} (h : LgV m w v 0) : ∃ p c, v = .agg #[.bool false, .slice p 0 c] := by
 obtain ⟨p, n, c, f, rfl, h1, h2, h3, h4⟩ := h
 have : ¬ 0 < n := fun h => by have := h2.pos.2 h; simp at h3; omega
 obtain rfl : n = 0 := by omega
 exact ⟨p, c, rfl⟩
theorem LgV.nz {m : Nat} {w : World} {v : Value} {z : Int} (h : LgV m w v z) (hz : z ≠ 0) : ∃ p n c, v = .agg #[.bool (decide (z < 0)), .slice p n c] ∧ 0 < n := by
 obtain ⟨p, n, c, f, rfl, h1, h2, h3, h4⟩ := h
 exact ⟨p, n, c, rfl, h2.pos.1 (by omega)⟩
theorem LgV.parts {m : Nat} {w : World} {v : Value} {z : Int} (h : LgV m w v z) : ∃ s p n c, v = .agg #[.bool s, .slice p n c] := by
 obtain ⟨p, n, c, f, rfl, h1, h2, h3, h4⟩ := h
 exact ⟨_, p, n, c, rfl⟩
end Go.Mono
namespace Go.Proofs.YtcgfdibagldafaaGreatDoor
open Go.RowKit Go.Mono
theorem box3_new (w : World) (T0 T1 T2 : TypeId) (c0 c1 c2 : Array Value) : Box (((w.alloc (.cells c0 T0)).alloc (.cells c1 T1)).alloc (.cells c2 T2)) (w.heap.size + 1 + 1) T2 c2 := by
 have b := Box.new ((w.alloc (.cells c0 T0)).alloc (.cells c1 T1)) T2 c2
 simp only [World.size_alloc] at b
 exact b
theorem below3_new (w : World) (a b c : Obj) : Below w.heap.size w (((w.alloc a).alloc b).alloc c) := belowAlloc (belowAlloc (belowAlloc (Below.refl _ _) _) _) _
theorem r3sum_zero1 {m1 m2 : Nat} {v1 v2 : Value} {y : Int} (w : World) (h1 : LgV m1 w v1 0) (h2 : LgV m2 w v2 y) :
  Calls Tryz.prog 223 #[v1, v2] w fun e w' => ∃ v, e = .returned v ∧ LgV m2 w' v y ∧ Below w.heap.size w w' := by
 obtain ⟨p, c, rfl⟩ := h1.zero
 obtain ⟨s, q, m, c', rfl⟩ := h2.parts
 go_enter Tryz.func223, Tryz.ntmps223
 go_wp2_with fail
 exact bodyPost_ret ((box3_new w _ _ _ _ _ _).results rfl _ _ rfl Tryz.underlying50 rfl sizeLong) rfl ⟨_, rfl, h2.below (below3_new w _ _ _), below3_new w _ _ _⟩
theorem r3sum_zero2 {m1 m2 : Nat} {v1 v2 : Value} {z : Int} (w : World) (h1 : LgV m1 w v1 z) (h2 : LgV m2 w v2 0) (hz : z ≠ 0) :
  Calls Tryz.prog 223 #[v1, v2] w fun e w' => ∃ v, e = .returned v ∧ LgV m1 w' v z ∧ Below w.heap.size w w' := by
 obtain ⟨p, c, rfl⟩ := h2.zero
 obtain ⟨q, n, c', rfl, hn⟩ := h1.nz hz
 have hn' : ((n : Int) == 0) = false := by simp; omega
 generalize decide (z < 0) = s at *
 go_enter Tryz.func223, Tryz.ntmps223
 go_wp2_with fail
 exact bodyPost_ret ((box3_new w _ _ _ _ _ _).results rfl _ _ rfl Tryz.underlying50 rfl sizeLong) rfl ⟨_, rfl, h1.below (below3_new w _ _ _), below3_new w _ _ _⟩
theorem r3diff_zero2 {m1 m2 : Nat} {v1 v2 : Value} {z : Int} (w : World) (h1 : LgV m1 w v1 z) (h2 : LgV m2 w v2 0) (hz : z ≠ 0) :
  Calls Tryz.prog 258 #[v1, v2] w fun e w' => ∃ v, e = .returned v ∧ LgV m1 w' v z ∧ Below w.heap.size w w' := by
 obtain ⟨p, c, rfl⟩ := h2.zero
 obtain ⟨q, n, c', rfl, hn⟩ := h1.nz hz
 have hn' : ((n : Int) == 0) = false := by simp; omega
 generalize decide (z < 0) = s at *
 go_enter Tryz.func258, Tryz.ntmps258
 go_wp2_with fail
 exact bodyPost_ret ((box3_new w _ _ _ _ _ _).results rfl _ _ rfl Tryz.underlying50 rfl sizeLong) rfl ⟨_, rfl, h1.below (below3_new w _ _ _), below3_new w _ _ _⟩
theorem r3diff_zero1 {m1 m2 : Nat} {v1 v2 : Value} {y : Int} (w : World) (h1 : LgV m1 w v1 0) (h2 : LgV m2 w v2 y) (hm2 : m2 ≤ 100000) :
  Calls Tryz.prog 258 #[v1, v2] w fun e w' => ∃ v, e = .returned v ∧ LgV m2 w' v (-y) ∧ Below w.heap.size w w' := by
 have hmi := fun (W : World) (hW : Below w.heap.size w W) => r3minus_ok W (h2.below hW) hm2
 obtain ⟨p, c, rfl⟩ := h1.zero
 obtain ⟨s, q, m, c', rfl⟩ := h2.parts
 go_enter Tryz.func258, Tryz.ntmps258
 go_wp2_with fail
 refine boxes3c fun W hB hs b0 b1 b2 => ?_
 refine (hmi W hB).mono ?_
 rintro e W2 ⟨v2, rfl, hl2, hb2⟩
 replace b2 := b2.below hb2
 have hB2 := belowCall hB hb2
 obtain ⟨C, rfl, hCs, hCo⟩ := hl2.cells
 have hiC : (Tryz.prog.info? 50).map (·.size) = some C.size := by rw [hCs]; exact sizeLong
 clear hmi hb2 b0 b1
 go_wp2_with first | (refine wpList_store_box rfl 50 _ _ rfl (w.heap.size + 1 + 1) 0 50 _ C C rfl rfl b2 hiC (by rw [hCs]; exact Nat.le_of_ble_eq_true rfl) hCo (whole_new (by rw [hCs]; rfl)) ?_; intro W3 hk b4)
 have hb3 := hk.below hB2 (by omega) hB2.size
 exact bodyPost_ret (b4.results rfl _ _ rfl Tryz.underlying50 rfl hiC) rfl ⟨_, rfl, hl2.ext (hk.ext b2 (by decide)), hb3⟩
theorem r3sum_other {m1 m2 : Nat} {v1 v2 : Value} {z y : Int} (w : World) (h1 : LgV m1 w v1 z) (h2 : LgV m2 w v2 y) (hz : z ≠ 0) (hy : y ≠ 0) (hs : ¬ decide (z < 0) = decide (y < 0)) (hm1 : m1 ≤ 100000) (hm2 : m2 ≤ 100000) :
  Calls Tryz.prog 223 #[v1, v2] w fun e w' => ∃ v, e = .returned v ∧ LgV (max m1 m2) w' v (z + y) ∧ Below w.heap.size w w' := by
 have hmi := fun (W : World) (hW : Below w.heap.size w W) => r3minus_ok W (h2.below hW) hm2
 have hsg : ¬ (z < 0 ↔ y < 0) := by simpa using hs
 have hd := fun (W : World) (v : Value) (hW : Below w.heap.size w W) (h : LgV m2 W v (-y)) => r3diff_same W (h1.below hW) h hz (by omega) (by rw [decide_eq_decide]; omega) hm1 hm2
 obtain ⟨p, n, c, rfl, hn0⟩ := h1.nz hz
 obtain ⟨q, m, c', rfl, hm0⟩ := h2.nz hy
 have hn0' : ((n : Int) == 0) = false := by simp; omega
 have hm0' : ((m : Int) == 0) = false := by simp; omega
 have hst : (decide (z < 0) != decide (y < 0)) = true := by simpa using hs
 clear hs
 generalize decide (z < 0) = s at *
 generalize decide (y < 0) = t at *
 have hst2 : (!s == t) = true := by cases s <;> cases t <;> simp_all
 go_enter Tryz.func223, Tryz.ntmps223
 go_wp2_with fail
 refine boxes3 fun W hB hs b0 b1 b2 => ?_
 refine wp_region_held_drew (S := fun w' => KeepBut (w.heap.size + 1 + 1) W.heap.size W w') (by as_aux_lemma => kernel_rfl) (KeepBut.refl _ _).drew (fun hHeld => ?_)
 generalize hX : W.drew = X0 at *
 have r0 : ∀ X, KeepBut (w.heap.size + 1 + 1) W.heap.size W X → X.rangeAt w.heap.size 0 (#[.bool s, .slice p n c] : Array Value).toList := fun X h => (h.box b0 b0.lt (by omega)).range
 have r1 : ∀ X, KeepBut (w.heap.size + 1 + 1) W.heap.size W X → X.rangeAt (w.heap.size + 1) 0 (#[.bool t, .slice q m c'] : Array Value).toList := fun X h => (h.box b1 b1.lt (by omega)).range
 refine tl 0 (some 24) rfl (.agg #[.bool s, .slice p n c]) (exec_load 50 _ rfl w.heap.size 0 rfl #[.bool s, .slice p n c] r0 _ Tryz.underlying50 rfl sizeLong) ?_
 refine tl 1 (some 25) rfl (.agg #[.bool t, .slice q m c']) (exec_load 50 _ rfl (w.heap.size + 1) 0 rfl #[.bool t, .slice q m c'] r1 _ Tryz.underlying50 rfl sizeLong) ?_
 have hBX : Below w.heap.size w X0 := by rw [← hX]; exact hB.drew
 have b2X : Box X0 (w.heap.size + 1 + 1) 50 #[.bool false, .slice none 0 0] := by rw [← hX]; exact b2.drew
 refine Mono.stc 2 (some 26) (hmi X0 hBX) (fun e X1 hR => ?_)
 obtain ⟨v', rfl, hl1, hb1⟩ := hR
 refine ⟨(hHeld.call hb1), fun hHeld => Mono.pt ?_⟩
 have hBX1 := belowCall hBX hb1
 refine Mono.stc 3 (some 27) (hd X1 v' hBX1 hl1) (fun e X2 hR => ?_)
 obtain ⟨v2, rfl, hl2, hb2⟩ := hR
 refine ⟨(hHeld.call hb2), fun hHeld => Mono.pt ?_⟩
 have hBX2 := belowCall hBX1 hb2
 have b2Y := (b2X.below hb1).below hb2
 obtain ⟨C, rfl, hCs, hCo⟩ := hl2.cells
 have hiC : (Tryz.prog.info? 50).map (·.size) = some C.size := by rw [hCs]; exact sizeLong
 have hn2 : (#[.bool false, .slice none 0 0] : Array Value).size = C.size := by rw [hCs]; rfl
 refine wpAnyH_storeA (w.heap.size + 1 + 1) 50 4 rfl rfl rfl rfl 0 C #[.bool false, .slice none 0 0] C (by as_aux_lemma => kernel_rfl) (fun w i u h => h.set i u) (by as_aux_lemma => kernel_rfl) (by as_aux_lemma => kernel_rfl) b2Y hHeld hiC (by rw [hCs]; exact Nat.le_of_ble_eq_true rfl) hCo (whole_new hn2) (fun Y hk b4 hHeld => ?_)
 refine wpAnyH_done (by as_aux_lemma => kernel_rfl) ?_ _
 have hlg := hl2.ext (hk.ext b2Y (by decide))
 have hb3 := hk.below hBX2 (by omega) hBX2.size
 clear r0 r1 b2X hX hBX hmi hd hl1 hb1 hBX1 hl2 hb2 b2Y hk hHeld b0 b1 b2 hB h1 h2
 go_wp2
 refine bodyPost_ret (b4.results rfl _ _ rfl Tryz.underlying50 rfl hiC) rfl ⟨_, rfl, ?_, hb3⟩
 rw [show z + y = z - -y by omega]
 exact hlg
theorem r3sum_ok {m1 m2 : Nat} {v1 v2 : Value} {z y : Int} (w : World) (h1 : LgV m1 w v1 z) (h2 : LgV m2 w v2 y) (hm1 : m1 ≤ 100000) (hm2 : m2 ≤ 100000) :
  Calls Tryz.prog 223 #[v1, v2] w fun e w' => ∃ v, e = .returned v ∧ LgV (max m1 m2 + 1) w' v (z + y) ∧ Below w.heap.size w w' := by
 by_cases hz : z = 0
 ·subst hz
  refine (r3sum_zero1 w h1 h2).mono ?_
  rintro e w' ⟨v, rfl, hl, hb⟩
  exact ⟨v, rfl, by rw [Int.zero_add]; exact hl.mono (by omega), hb⟩
 ·by_cases hy : y = 0
  ·subst hy
   refine (r3sum_zero2 w h1 h2 hz).mono ?_
   rintro e w' ⟨v, rfl, hl, hb⟩
   exact ⟨v, rfl, by rw [Int.add_zero]; exact hl.mono (by omega), hb⟩
  ·by_cases hs : decide (z < 0) = decide (y < 0)
   ·exact r3sum_same w h1 h2 hz hy hs hm1 hm2
   ·refine (r3sum_other w h1 h2 hz hy hs hm1 hm2).mono ?_
    rintro e w' ⟨v, rfl, hl, hb⟩
    exact ⟨v, rfl, hl.mono (by omega), hb⟩
theorem r3diff_other {m1 m2 : Nat} {v1 v2 : Value} {z y : Int} (w : World) (h1 : LgV m1 w v1 z) (h2 : LgV m2 w v2 y) (hz : z ≠ 0) (hy : y ≠ 0) (hs : ¬ decide (z < 0) = decide (y < 0)) (hm1 : m1 ≤ 100000) (hm2 : m2 ≤ 100000) :
  Calls Tryz.prog 258 #[v1, v2] w fun e w' => ∃ v, e = .returned v ∧ LgV (max m1 m2 + 1) w' v (z - y) ∧ Below w.heap.size w w' := by
 have hmi := fun (W : World) (hW : Below w.heap.size w W) => r3minus_ok W (h2.below hW) hm2
 have hsg : ¬ (z < 0 ↔ y < 0) := by simpa using hs
 have hd := fun (W : World) (v : Value) (hW : Below w.heap.size w W) (h : LgV m2 W v (-y)) => r3sum_same W (h1.below hW) h hz (by omega) (by rw [decide_eq_decide]; omega) hm1 hm2
 obtain ⟨p, n, c, rfl, hn0⟩ := h1.nz hz
 obtain ⟨q, m, c', rfl, hm0⟩ := h2.nz hy
 have hn0' : ((n : Int) == 0) = false := by simp; omega
 have hm0' : ((m : Int) == 0) = false := by simp; omega
 have hst : (decide (z < 0) != decide (y < 0)) = true := by simpa using hs
 clear hs
 generalize decide (z < 0) = s at *
 generalize decide (y < 0) = t at *
 have hst2 : (!s == t) = true := by cases s <;> cases t <;> simp_all
 go_enter Tryz.func258, Tryz.ntmps258
 go_wp2_with fail
 refine boxes3 fun W hB hs b0 b1 b2 => ?_
 refine wp_region_held_drew (S := fun w' => KeepBut (w.heap.size + 1 + 1) W.heap.size W w') (by as_aux_lemma => kernel_rfl) (KeepBut.refl _ _).drew (fun hHeld => ?_)
 generalize hX : W.drew = X0 at *
 have r0 : ∀ X, KeepBut (w.heap.size + 1 + 1) W.heap.size W X → X.rangeAt w.heap.size 0 (#[.bool s, .slice p n c] : Array Value).toList := fun X h => (h.box b0 b0.lt (by omega)).range
 have r1 : ∀ X, KeepBut (w.heap.size + 1 + 1) W.heap.size W X → X.rangeAt (w.heap.size + 1) 0 (#[.bool t, .slice q m c'] : Array Value).toList := fun X h => (h.box b1 b1.lt (by omega)).range
 refine tl 0 (some 25) rfl (.agg #[.bool s, .slice p n c]) (exec_load 50 _ rfl w.heap.size 0 rfl #[.bool s, .slice p n c] r0 _ Tryz.underlying50 rfl sizeLong) ?_
 refine tl 1 (some 26) rfl (.agg #[.bool t, .slice q m c']) (exec_load 50 _ rfl (w.heap.size + 1) 0 rfl #[.bool t, .slice q m c'] r1 _ Tryz.underlying50 rfl sizeLong) ?_
 have hBX : Below w.heap.size w X0 := by rw [← hX]; exact hB.drew
 have b2X : Box X0 (w.heap.size + 1 + 1) 50 #[.bool false, .slice none 0 0] := by rw [← hX]; exact b2.drew
 refine Mono.stc 2 (some 27) (hmi X0 hBX) (fun e X1 hR => ?_)
 obtain ⟨v', rfl, hl1, hb1⟩ := hR
 refine ⟨(hHeld.call hb1), fun hHeld => Mono.pt ?_⟩
 have hBX1 := belowCall hBX hb1
 refine Mono.stc 3 (some 28) (hd X1 v' hBX1 hl1) (fun e X2 hR => ?_)
 obtain ⟨v2, rfl, hl2, hb2⟩ := hR
 refine ⟨(hHeld.call hb2), fun hHeld => Mono.pt ?_⟩
 have hBX2 := belowCall hBX1 hb2
 have b2Y := (b2X.below hb1).below hb2
 obtain ⟨C, rfl, hCs, hCo⟩ := hl2.cells
 have hiC : (Tryz.prog.info? 50).map (·.size) = some C.size := by rw [hCs]; exact sizeLong
 have hn2 : (#[.bool false, .slice none 0 0] : Array Value).size = C.size := by rw [hCs]; rfl
 refine wpAnyH_storeA (w.heap.size + 1 + 1) 50 4 rfl rfl rfl rfl 0 C #[.bool false, .slice none 0 0] C (by as_aux_lemma => kernel_rfl) (fun w i u h => h.set i u) (by as_aux_lemma => kernel_rfl) (by as_aux_lemma => kernel_rfl) b2Y hHeld hiC (by rw [hCs]; exact Nat.le_of_ble_eq_true rfl) hCo (whole_new hn2) (fun Y hk b4 hHeld => ?_)
 refine wpAnyH_done (by as_aux_lemma => kernel_rfl) ?_ _
 have hlg := hl2.ext (hk.ext b2Y (by decide))
 have hb3 := hk.below hBX2 (by omega) hBX2.size
 clear r0 r1 b2X hX hBX hmi hd hl1 hb1 hBX1 hl2 hb2 b2Y hk hHeld b0 b1 b2 hB h1 h2
 go_wp2
 refine bodyPost_ret (b4.results rfl _ _ rfl Tryz.underlying50 rfl hiC) rfl ⟨_, rfl, ?_, hb3⟩
 rw [show z - y = z + -y by omega]
 exact hlg
theorem r3diff_ok {m1 m2 : Nat} {v1 v2 : Value} {z y : Int} (w : World) (h1 : LgV m1 w v1 z) (h2 : LgV m2 w v2 y) (hm1 : m1 ≤ 100000) (hm2 : m2 ≤ 100000) :
  Calls Tryz.prog 258 #[v1, v2] w fun e w' => ∃ v, e = .returned v ∧ LgV (max m1 m2 + 1) w' v (z - y) ∧ Below w.heap.size w w' := by
 by_cases hz : z = 0
 ·subst hz
  refine (r3diff_zero1 w h1 h2 hm2).mono ?_
  rintro e w' ⟨v, rfl, hl, hb⟩
  exact ⟨v, rfl, by rw [Int.zero_sub]; exact hl.mono (by omega), hb⟩
 ·by_cases hy : y = 0
  ·subst hy
   refine (r3diff_zero2 w h1 h2 hz).mono ?_
   rintro e w' ⟨v, rfl, hl, hb⟩
   exact ⟨v, rfl, by rw [Int.sub_zero]; exact hl.mono (by omega), hb⟩
  ·by_cases hs : decide (z < 0) = decide (y < 0)
   ·refine (r3diff_same w h1 h2 hz hy hs hm1 hm2).mono ?_
    rintro e w' ⟨v, rfl, hl, hb⟩
    exact ⟨v, rfl, hl.mono (by omega), hb⟩
   ·exact r3diff_other w h1 h2 hz hy hs hm1 hm2
structure PInv (w wr : World) (R L : Nat) (d : Nat → Int) (A0 A1 : Array Value) : Prop where
 row : RowF wr R L d
 lo : ∀ j, j < L → 0 ≤ d j
 hi : ∀ j, j < L → d j < 1000000000
 b0 : Box wr w.heap.size 50 A0
 b1 : Box wr (w.heap.size + 1) 50 A1
 b2 : Box wr (w.heap.size + 1 + 1) 50 #[.bool false, .slice none 0 0]
 below : Below w.heap.size w wr
 above : w.heap.size + 1 + 1 + 1 ≤ R
theorem PInv.set {w wr : World} {R L : Nat} {d : Nat → Int} {A0 A1 : Array Value} (h : PInv w wr R L d A0 A1) (j : Nat) (x : Int) (x0 : 0 ≤ x) (x1 : x < 1000000000) :
  PInv w (wr.setCell ⟨R, j, none⟩ (.int .i64 x)) R L (fun i => if i = j then x else d i) A0 A1 := by
 have ha := h.above
 refine ⟨h.row.set j x, fun i hi => ?_, fun i hi => ?_, h.b0.other _ _ (by show w.heap.size ≠ R; omega), h.b1.other _ _ (by show w.heap.size + 1 ≠ R; omega), h.b2.other _ _ (by show w.heap.size + 1 + 1 ≠ R; omega), belowSet h.below (by omega) _ _, ha⟩
 ·split
  ·exact x0
  ·exact h.lo i hi
 ·split
  ·exact x1
  ·exact h.hi i hi
theorem PInv.drewN {w wr : World} {R L : Nat} {d : Nat → Int} {A0 A1 : Array Value} (h : PInv w wr R L d A0 A1) (k : Nat) : PInv w (wr.drewN k) R L d A0 A1 :=
 ⟨h.row.drewN k, h.lo, h.hi, ⟨h.b0.blk⟩, ⟨h.b1.blk⟩, ⟨h.b2.blk⟩, below_drewN h.below k, h.above⟩
theorem prod_room {f g : Nat → Int} {n m i k : Nat} (d1 : Digs f n) (d2 : Digs g m) (hi : i < n) (hk : k < m) : vf f i * vf g m + f i * pw i * vf g (k + 1) < pw (n + m) := by
 have f0 := d1.lo i hi
 have p0 := pw_pos i
 have hg : vf g (k + 1) ≤ vf g m := by
  obtain ⟨e, rfl⟩ := Nat.exists_eq_add_of_le (show k + 1 ≤ m by omega)
  rw [vf_split g (k + 1) e]
  have h1 : 0 ≤ vf (fun j => g (k + 1 + j)) e := vf_nonneg fun j hj => d2.lo _ (by omega)
  have := Int.mul_nonneg (Int.le_of_lt (pw_pos (k + 1))) h1
  omega
 have h1 : f i * pw i * vf g (k + 1) ≤ f i * pw i * vf g m := Int.mul_le_mul_of_nonneg_left hg (Int.mul_nonneg f0 (Int.le_of_lt p0))
 have h2 : vf f i * vf g m + f i * pw i * vf g m = vf f (i + 1) * vf g m := by rw [vf_succ, Int.add_mul]
 have h3 : vf f (i + 1) < pw (i + 1) := vf_lt fun j hj => d1.hi j (by omega)
 have h4 : vf g m < pw m := d2.lt
 have h5 : 0 ≤ vf g m := d2.nonneg
 have h6 : 0 ≤ vf f (i + 1) := vf_nonneg fun j hj => d1.lo j (by omega)
 have h7 : vf f (i + 1) * vf g m ≤ pw (i + 1) * vf g m := Int.mul_le_mul_of_nonneg_right (Int.le_of_lt h3) h5
 have h8 : pw (i + 1) * vf g m < pw (i + 1) * pw m := Int.mul_lt_mul_of_pos_left h4 (pw_pos _)
 have h9 := pw_mono (show i + 1 + m ≤ n + m by omega)
 rw [pw_add] at h9
 omega
theorem r3prod_digits (s t : Bool) (p q : Option Addr) (n m c1 c2 : Nat) (f g : Nat → Int) (w : World) (h1 : SlF w (.slice p n c1) n f) (h2 : SlF w (.slice q m c2) m g) (d1 : Digs f n) (d2 : Digs g m) (hn6 : n ≤ 100000) (hm6 : m ≤ 100000) :
  Calls Tryz.prog 224 #[.agg #[.bool s, .slice p n c1], .agg #[.bool t, .slice q m c2]] w fun e w' => ∃ p k c h, e = .returned (.agg #[.bool ((s != t) && decide (0 < vf f n * vf g m)), .slice p k c]) ∧ SlF w' (.slice p k c) k h ∧ Digs h k ∧ vf h k = vf f n * vf g m ∧ k ≤ n + m ∧ Below w.heap.size w w' := by
 obtain ⟨hc1, hn1, hx1⟩ := h1.opens
 obtain ⟨hc2, hn2, hx2⟩ := h2.opens
 obtain ⟨sg, hsg⟩ : ∃ sg : Bool, ((s != t) && decide (0 < vf f n * vf g m)) = sg := ⟨_, rfl⟩
 rw [hsg]
 replace hsg := Lib.hid hsg
 go_enter Tryz.func224, Tryz.ntmps224
 go_wp2_with (first
  | (at_make; refine wpList_make_ints _ rfl _ _ 48 rfl Tryz.underlying48 infoInt _ _ (n + m) rfl rfl (by simp) (by simp) (by omega) ?_; intro W1 r1 hb1))
 have hR : ((((w.alloc (.cells #[.bool s, .slice p n c1] 50)).alloc (.cells #[.bool t, .slice q m c2] 50)).alloc (.cells #[.bool false, .slice none 0 0] 50))).heap.size = w.heap.size + 1 + 1 + 1 := by simp
 rw [hR] at r1
 have hB := belowCall (below3_new w (.cells #[.bool s, .slice p n c1] 50) (.cells #[.bool t, .slice q m c2] 50) (.cells #[.bool false, .slice none 0 0] 50)) hb1
 have hI0 : PInv w W1 (w.heap.size + 1 + 1 + 1) (n + m) (fun _ => 0) #[.bool s, .slice p n c1] #[.bool t, .slice q m c2] := by
  have b1 := Box.new (w.alloc (.cells #[.bool s, .slice p n c1] 50)) 50 #[.bool t, .slice q m c2]
  simp only [World.size_alloc] at b1
  exact ⟨r1, fun _ _ => Int.le_refl _, fun _ _ => by decide, (((Box.new _ _ _).alloc _).alloc _).below hb1, (b1.alloc _).below hb1, (box3_new w _ _ _ _ _ _).below hb1, hB, Nat.le_refl _⟩
 clear hb1 hB hR r1
 go_loopw [6] (fun a wr => ∃ (i : Nat) (d : Nat → Int), i ≤ n ∧ a = .int .i64 (i : Int) ∧ vf d (n + m) = vf f i * vf g m ∧ PInv w wr (w.heap.size + 1 + 1 + 1) (n + m) d #[.bool s, .slice p n c1] #[.bool t, .slice q m c2]) (fun a _ => (n - intOf a).toNat)
 case atStart => exact ⟨0, _, Nat.zero_le _, rfl, by rw [vf_zero (fun i _ => rfl)]; simp [vf], hI0⟩
 case round =>
  clear hI0
  obtain ⟨i, d, hi, rfl, hv, hI⟩ := hrel
  replace hv := Lib.hid hv
  have b0 := hI.b0
  have b1 := hI.b1
  have cb0 := b0.cell
  have lb0 := b0.lt
  have fb0 := b0.frozen
  have cb1 := b1.cell
  have lb1 := b1.lt
  have fb1 := b1.frozen
  by_cases hin : i < n
  ·have hin' : (i : Int) < n := by omega
   go_wp2
   clear cb0 lb0 fb0 cb1 lb1 fb1 b0 b1
   go_loopw [7] (fun a wr => ∃ (k : Nat) (d : Nat → Int), k ≤ m ∧ a = .int .i64 (k : Int) ∧ vf d (n + m) = vf f i * vf g m + f i * pw i * vf g k ∧ PInv w wr (w.heap.size + 1 + 1 + 1) (n + m) d #[.bool s, .slice p n c1] #[.bool t, .slice q m c2]) (fun a _ => (m - intOf a).toNat)
   case atStart => exact ⟨0, d, Nat.zero_le _, rfl, by rw [hv.out]; simp [vf], hI⟩
   case round =>
    clear hI hv d
    obtain ⟨k, d, hk, rfl, hv, hI⟩ := hrel
    replace hv := Lib.hid hv
    have b0 := hI.b0
    have b1 := hI.b1
    have cb0 := b0.cell
    have lb0 := b0.lt
    have fb0 := b0.frozen
    have cb1 := b1.cell
    have lb1 := b1.lt
    have fb1 := b1.frozen
    by_cases hkm : k < m
    ·have hkm' : (k : Int) < m := by omega
     obtain ⟨b, off, rfl, hb, hcell⟩ := hx1 (by omega)
     obtain ⟨b', off', rfl, hb', hcell'⟩ := hx2 (by omega)
     have a1 := (hI.below.cell (p := ⟨b, off + i, none⟩) hb).trans (hcell i hin)
     have a2 := (hI.below.cell (p := ⟨b', off' + k, none⟩) hb').trans (hcell' k hkm)
     obtain ⟨m0, m1⟩ := mul_dig (d1.lo i hin) (d1.hi i hin) (d2.lo k hkm) (d2.hi k hkm)
     clear hcell hcell'
     go_wp2
     go_quiet (fail)
     go_wp2
     have hroom := prod_room d1 d2 hin hkm
     have hv2 : vf d (n + m) + f i * g k * pw (i + k) = vf f i * vf g m + f i * pw i * vf g (k + 1) := by
      rw [hv.out, vf_succ, pw_add]; grind
     have hIq := hI.drewN nq
     obtain ⟨V, hV⟩ : ∃ V, vf f i * vf g m + f i * pw i * vf g (k + 1) = V := ⟨_, rfl⟩
     rw [hV] at hroom hv2
     replace hV := Lib.hid hV
     generalize f i * g k = x0 at *
     clear hv hI cb0 lb0 fb0 cb1 lb1 fb1 b0 b1 a1 a2
     go_loopw [8, 9] (fun u v wr => ∃ (x : Int) (j : Nat) (d : Nat → Int), 0 ≤ x ∧ x ≤ 999999999 * 999999999 ∧ u = .int .i64 x ∧ v = .int .i64 (j : Int) ∧ vf d (n + m) + x * pw j = V ∧ PInv w wr (w.heap.size + 1 + 1 + 1) (n + m) d #[.bool s, .slice (some ⟨b, off, none⟩) n c1] #[.bool t, .slice (some ⟨b', off', none⟩) m c2]) (fun _ v _ => (n + m - intOf v).toNat)
     case atStart => exact ⟨x0, i + k, d, m0, m1, rfl, by simp, hv2, hIq⟩
     case round =>
      clear hIq hv2 d
      obtain ⟨x, j, d, hx0, hx9, rfl, rfl, hv, hI⟩ := hrel
      by_cases hgo : 0 < x
      ·have hj := carry_room hI.lo hv hgo hroom
       have hpc := put_carry d (n + m) j x hj
       have a1 := hI.row.cell j hj
       have a2 := hI.row.frozen j
       have q1 := hI.lo j hj
       have q2 := hI.hi j hj
       have hst := hI.set j ((x + d j) % 1000000000) (by omega) (by omega)
       have hj1 : (j : Int) < (n : Int) + m := by omega
       generalize hdj : d j = y at *
       clear hI
       go_wp2
       go_roundw
       case rel =>
        refine ⟨(x + y) / 1000000000, j + 1, _, by omega, by omega, by first | rfl | simp, by simp, ?_, hst⟩
        rw [← hv]
        exact hpc
       case measure => simp [intOf]; omega
      ·obtain rfl : x = 0 := by omega
       have hv3 : vf d (n + m) = V := by simpa using hv
       go_wp2
       go_roundw
       case rel => exact ⟨k + 1, d, by omega, by simp, by rw [hv3, hV.out], hI⟩
       case measure => simp [intOf]; omega
    ·obtain rfl : k = m := by omega
     have hv3 : vf d (n + k) = vf f (i + 1) * vf g k := by rw [hv.out, vf_succ, Int.add_mul]
     clear hv
     go_wp2
     go_roundw
     case rel => exact ⟨i + 1, d, by omega, by simp, hv3, hI⟩
     case measure => simp [intOf]; omega
  ·obtain rfl : i = n := by omega
   have hmm := fun W1 hW1 => r3made_ok (s != t) (some ⟨w.heap.size + 1 + 1 + 1, 0, none⟩) (i + m) (i + m) d W1 ((hI.row.slice (by omega) (i + m) (Nat.le_refl _) (i + m) (Nat.le_refl _)).ext hW1) (by omega) hI.lo hI.hi
   rw [hv.out, hsg.out] at hmm
   have b2 := hI.b2
   have hB := hI.below
   clear hx1 hx2
   go_wp2_with fail
   refine (hmm wr (Ext.refl _)).mono ?_
   rintro e W2 ⟨v', rfl, ho2, d3, e3, hb⟩
   replace b2 := b2.below hb
   have hB1 := belowCall hB hb
   obtain ⟨p', c', rfl⟩ := ho2.shape
   have hsl := ho2.sl (by have := trimN_le d (i + m); omega)
   clear hmm ho2 b0 b1 cb0 cb1 fb0 fb1 lb0 lb1 hI
   go_wp2_with first | (refine wpList_store_box rfl 50 _ _ rfl (w.heap.size + 1 + 1) 0 50 _ #[.bool sg, .slice p' (trimN d (i + m)) c'] #[.bool sg, .slice p' (trimN d (i + m)) c'] rfl rfl b2 sizeLong (Nat.le_of_ble_eq_true rfl) (long_ones _ _ _ _) (whole_new rfl) ?_; intro W3 hk b4)
   have hb2 := hk.below hB1 (by omega) hB1.size
   refine bodyPost_ret (b4.results rfl _ _ rfl Tryz.underlying50 rfl sizeLong) rfl ⟨p', _, c', d, rfl, hsl.ext (hk.ext b2 (by decide)), d3, e3, trimN_le d (i + m), hb2⟩
theorem r3prod_ok {m1 m2 : Nat} {v1 v2 : Value} {z y : Int} (w : World) (h1 : LgV m1 w v1 z) (h2 : LgV m2 w v2 y) (hm1 : m1 ≤ 100000) (hm2 : m2 ≤ 100000) :
  Calls Tryz.prog 224 #[v1, v2] w fun e w' => ∃ v, e = .returned v ∧ LgV (m1 + m2) w' v (z * y) ∧ Below w.heap.size w w' := by
 obtain ⟨p, n, c, f, rfl, s1, d1, e1, l1⟩ := h1
 obtain ⟨q, m, c', g, rfl, s2, d2, e2, l2⟩ := h2
 refine (r3prod_digits _ _ p q n m c c' f g w s1 s2 d1 d2 (by omega) (by omega)).mono ?_
 rintro e w' ⟨p', k, c2, h, rfl, hsl, hd, hv, hk, hb⟩
 rw [e1, e2] at hv ⊢
 have habs : ((z * y).natAbs : Int) = z.natAbs * y.natAbs := by rw [Int.natAbs_mul]; norm_cast
 have hneg : ((decide (z < 0) != decide (y < 0)) && decide (0 < (z.natAbs : Int) * y.natAbs)) = decide (z * y < 0) := by
  rw [← habs]
  rw [Bool.eq_iff_iff, Bool.and_eq_true, bne_iff_ne, ne_eq, decide_eq_decide, decide_eq_true_eq, decide_eq_true_eq]
  rcases Int.lt_trichotomy z 0 with hz | rfl | hz
  ·rcases Int.lt_trichotomy y 0 with hy | rfl | hy
   ·have := Int.mul_pos_of_neg_of_neg hz hy; omega
   ·simp
   ·have := Int.mul_neg_of_neg_of_pos hz hy; omega
  ·simp
  ·rcases Int.lt_trichotomy y 0 with hy | rfl | hy
   ·have := Int.mul_neg_of_pos_of_neg hz hy; omega
   ·simp
   ·have := Int.mul_pos hz hy; omega
 rw [hneg]
 exact ⟨_, rfl, ⟨p', k, c2, h, rfl, hsl, hd, by rw [hv, habs], by omega⟩, hb⟩
end Go.Proofs.YtcgfdibagldafaaGreatDoor
namespace Go.Mono
open Go.RowKit
theorem floor_parts (x : Int) : (x.tmod 1000000000 < 0 → x.tmod 1000000000 + 1000000000 = x % 1000000000 ∧ x.tdiv 1000000000 - 1 = x / 1000000000) ∧ (¬ x.tmod 1000000000 < 0 → x.tmod 1000000000 = x % 1000000000 ∧ x.tdiv 1000000000 = x / 1000000000) := by
 by_cases h : 0 ≤ x
 ·rw [Int.tmod_eq_emod_of_nonneg h, Int.tdiv_eq_ediv_of_nonneg h]
  omega
 ·obtain ⟨y, rfl⟩ : ∃ y, x = -y := ⟨-x, by omega⟩
  rw [Int.neg_tmod, Int.neg_tdiv, Int.tmod_eq_emod_of_nonneg (by omega), Int.tdiv_eq_ediv_of_nonneg (by omega)]
  omega
structure TInv (w0 wr : World) (base G n : Nat) (f : Nat → Int) : Prop where
 row : RowF wr G n f
 lo : base ≤ G
 low : w0.heap.size ≤ base
 below : Below w0.heap.size w0 wr
 size : base ≤ wr.heap.size
theorem TInv.set {w0 wr : World} {base G n : Nat} {f : Nat → Int} (h : TInv w0 wr base G n f) (j : Nat) (x : Int) : TInv w0 (wr.setCell ⟨G, j, none⟩ (.int .i64 x)) base G n (fun i => if i = j then x else f i) :=
 ⟨h.row.set j x, h.lo, h.low, belowSet h.below (Nat.le_trans h.low h.lo) _ _, by simp only [World.size_setCell]; exact h.size⟩
theorem TInv.drew {w0 wr : World} {base G n : Nat} {f : Nat → Int} (h : TInv w0 wr base G n f) : TInv w0 wr.drew base G n f := ⟨h.row.drewN 1, h.lo, h.low, h.below.drew, h.size⟩
theorem TInv.congr {w0 wr : World} {base G n : Nat} {f f' : Nat → Int} (h : TInv w0 wr base G n f) (he : ∀ i, i < n → f i = f' i) : TInv w0 wr base G n f' := ⟨h.row.congr he, h.lo, h.low, h.below, h.size⟩
end Go.Mono
namespace Go.Proofs.YtcgfdibagldafaaGreatDoor
open Go.RowKit Go.Mono
theorem r3taken_ok (base : Nat) (v : Value) (n : Nat) (f : Nat → Int) (q : Option Addr) (m c2 : Nat) (g : Nat → Int) (w0 w : World) (ho : OwnF w base v n f) (hlow : w0.heap.size ≤ base) (hbase : base ≤ w.heap.size) (hB0 : Below w0.heap.size w0 w) (h2 : SlF w0 (.slice q (m + 1) c2) (m + 1) g) (d1 : Digs f n) (d2 : Digs g (m + 1)) (hm6 : m ≤ 100000) (hlt : vf f n < vf g (m + 1) * 1000000000) :
  Calls Tryz.prog 276 #[v, .slice q (m + 1) c2] w fun e w' => ∃ v' n' f' k, e = .returned (.tuple #[v', .int .i64 k]) ∧ OwnF w' base v' n' f' ∧ Digs f' n' ∧ vf f' n' = vf f n % vf g (m + 1) ∧ k = vf f n / vf g (m + 1) ∧ Below w0.heap.size w0 w' ∧ base ≤ w'.heap.size := by
 obtain ⟨hc2, hn2, hx2⟩ := h2.opens
 have hB1 : 0 < vf g (m + 1) := d2.pos.2 (by omega)
 obtain ⟨BB, hBB⟩ : ∃ BB, vf g (m + 1) = BB := ⟨_, rfl⟩
 obtain ⟨RR, hRR⟩ : ∃ RR, vf f n = RR := ⟨_, rfl⟩
 rw [hBB, hRR]
 rw [hBB, hRR] at hlt
 rw [hBB] at hB1
 replace hBB := Lib.hid hBB
 go_enter Tryz.func276, Tryz.ntmps276
 go_wp2
 go_loopw [0, 6] (fun a b wr => ∃ (n : Nat) (f : Nat → Int) (k : Int), OwnF wr base a n f ∧ b = .int .i64 k ∧ Digs f n ∧ vf f n + k * BB = RR ∧ 0 ≤ k ∧ Below w0.heap.size w0 wr ∧ base ≤ wr.heap.size) (fun _ b _ => (1000000000 - intOf b).toNat)
 case atStart => exact ⟨n, f, 0, ho, rfl, d1, by rw [hRR]; simp, Int.le_refl _, hB0, hbase⟩
 case round =>
  clear ho d1 hRR hB0 hbase f n v
  obtain ⟨n, f, k, ho, rfl, d1, hv, hk0, hB0, hbase⟩ := hrel
  obtain ⟨p, c, rfl⟩ := ho.shape
  have hf0 := d1.nonneg
  have hk1 : k * BB < 1000000000 * BB := by rw [Int.mul_comm 1000000000]; omega
  have hk9 : k < 1000000000 := Int.lt_of_mul_lt_mul_right hk1 (by omega)
  have hnm : n ≤ m + 2 := by
   by_cases hn : n ≤ m + 2
   ·exact hn
   ·have h3 := d1.ge (by omega)
    have h4 := pw_mono (show m + 2 ≤ n - 1 by omega)
    have h5 := d2.lt
    have h6 : pw (m + 2) = pw (m + 1) * 1000000000 := rfl
    have h7 := Int.mul_nonneg hk0 (Int.le_of_lt hB1)
    rw [hBB.out] at h5
    omega
  have hsl := ho.sl (by omega)
  have hless := fun (W : World) (hW : Ext wr W) => r3less_ok p q n (m + 1) c c2 f g W (hsl.ext hW) ((h2.ext (.of_below hB0)).ext hW) d1 d2
  rw [hBB.out] at hless
  by_cases hge : BB ≤ vf f n
  ·rw [decide_eq_false (by omega)] at hless
   have hnm1 : m + 1 ≤ n := d2.len_le d1 (by rw [hBB.out]; exact hge)
   have hmn : m < n := by omega
   have hmul := Int.mul_nonneg hk0 (Int.le_of_lt hB1)
   obtain ⟨tk0, tk1⟩ := tak_some d1.lo d2 (by rw [hBB.out]; exact hge) hnm hmn
   have tk2 := tak_bound d1.lo d2 (by rw [hBB.out]; omega) hnm hmn
   have f0 := d1.lo m hmn
   have f9 := d1.hi m hmn
   have g0 := d2.lo m (by omega)
   have g9 := d2.hi m (by omega)
   have x0 := xt_lo d1.lo (m + 1)
   have x9 := xt_hi d1.hi (m + 1)
   rw [hBB.out] at tk1
   obtain ⟨b', off', rfl, hb', hcell'⟩ := hx2 (by omega)
   have a2 := (hB0.cell (p := ⟨b', off' + m, none⟩) hb').trans (hcell' m (by omega))
   obtain ⟨G, cap, hp1, hGb, hcap, hrow⟩ : ∃ g cap, Value.slice p n c = .slice (some ⟨g, 0, none⟩) n cap ∧ base ≤ g ∧ n ≤ cap ∧ RowF wr g n f := by
    rcases ho.open with ⟨_, h0⟩ | h
    ·omega
    ·exact h
   obtain ⟨rfl, rfl⟩ : p = some ⟨G, 0, none⟩ ∧ c = cap := by simpa using hp1
   have a1 := hrow.cell m hmn
   have hgl := hrow.lt
   have hTI : TInv w0 wr base G n f := ⟨hrow, hGb, hlow, hB0, hbase⟩
   have hat1 := fun (W : World) (hW : Ext wr W) => r3at_ok (some ⟨G, 0, none⟩) n c (m + 1) f W (hsl.ext hW)
   have hm1' : (m : Int) < n := by omega
   have hm2' : (m : Int) < m + 1 := by omega
   clear hcell' hp1 ho hsl
   go_wp2_with fail
   refine (hless wr (Ext.refl _)).mono ?_
   rintro e W1 ⟨rfl, kl, rfl⟩
   replace hTI : TInv w0 (wr.drewN kl) base G n f := ⟨hrow.drewN kl, hGb, hlow, below_drewN hB0 _, hbase⟩
   have hx1 : Ext wr (wr.drewN kl) := .of_below (below_drewN (Below.refl _ _) kl)
   replace a1 : (wr.drewN kl).cell? ⟨G, m, none⟩ = some (.int .i64 (f m)) := a1
   replace a2 : (wr.drewN kl).cell? ⟨b', off' + m, none⟩ = some (.int .i64 (g m)) := a2
   clear hless hrow hB0 hbase hgl
   generalize wr.drewN kl = V at *
   go_wp2
   refine wp_region_held_drew (S := fun w' => w'.cell? ⟨G, m, none⟩ = some (.int .i64 (f m)) ∧ w'.cell? ⟨b', off' + m, none⟩ = some (.int .i64 (g m)) ∧ Ext wr w') (by as_aux_lemma => kernel_rfl) ⟨a1, a2, hx1.drew⟩ (fun hHeld => ?_)
   have hTX := hTI.drew
   generalize V.drew = X0 at *
   refine tk 0 (some 19) ?_
   refine tk 1 (some 20) ?_
   refine tk 2 (some 21) ?_
   refine tk 5 (some 24) ?_
   refine tk 6 (some 25) ?_
   refine tk 7 (some 26) ?_
   refine tk 8 (some 27) ?_
   refine tk 10 (some 29) ?_
   refine tk 11 (some 30) ?_
   refine tk 12 (some 31) ?_
   refine tk 13 (some 32) ?_
   refine tk 14 (some 33) ?_
   rw [show IntKind.i64.wrap ((m : Int) + 1) = ((m + 1 : Nat) : Int) from by rw [wrapId (by omega) (by omega)]; rfl, wrapId (z := g m + 1) (by omega) (by omega)]
   refine Mono.stc 3 (some 22) (hat1 X0 hHeld.2.2) (fun e X1 hR => ?_)
   obtain ⟨rfl, rfl⟩ := hR
   refine ⟨(hHeld), fun hHeld => Mono.pt ?_⟩
   generalize xt f n (m + 1) = x at *
   generalize f m = y at *
   generalize g m = t at *
   refine tk 4 (some 23) ?_
   refine tk 9 (some 28) ?_
   rw [wrapId (z := x * 1000000000) (by omega) (by omega), wrapId (z := x * 1000000000 + y) (by omega) (by omega)]
   have ht0 : (t + 1 == 0) = false := by simp; omega
   have ht1 : t + 1 ≠ 0 := by omega
   refine tk 15 (some 34) ?_
   have hH : 0 ≤ x * 1000000000 + y := by omega
   rw [Int.tdiv_eq_ediv_of_nonneg hH, wrapId (z := (x * 1000000000 + y) / (t + 1)) (by omega) (by omega)]
   generalize (x * 1000000000 + y) / (t + 1) = kk at *
   refine tk 16 (some 8) ?_
   refine wpAnyH_done (by as_aux_lemma => kernel_rfl) ?_ _
   clear hHeld hat1 hTI a1 a2 hx1 ht0 ht1 hH x0 x9 f0 f9 g0 g9
   obtain ⟨K, hK, hK1, hK9, hKB⟩ : ∃ K : Int, (K = if kk = 0 then 1 else kk) ∧ 1 ≤ K ∧ K < 1000000000 ∧ K * BB ≤ vf f n := by
    by_cases h : kk = 0
    ·exact ⟨1, by rw [if_pos h], by omega, by omega, by omega⟩
    ·exact ⟨kk, by rw [if_neg h], by omega, by omega, tk1⟩
   replace hK := Lib.hid hK
   replace hKB := Lib.hid hKB
   have hkK : (k + K) * BB ≤ RR := by
    have := hKB.out
    rw [Int.add_mul]; omega
   have hkK9 : k + K < 1000000000 := Int.lt_of_mul_lt_mul_right (a := BB) (by rw [Int.mul_comm 1000000000]; omega) (by omega)
   by_cases hkz : kk = 0
   ·subst hkz
    have hKv := hK.out
    rw [if_pos rfl] at hKv
    obtain rfl : K = 1 := hKv
    clear hK
    go_wp2
    go_loopw [9, 10] (fun a b wr => ∃ (i : Nat) (c : Int) (h : Nat → Int), i ≤ n ∧ a = .int .i64 c ∧ b = .int .i64 (i : Int) ∧ TakI f (xt g (m + 1)) 1 i h c ∧ TInv w0 wr base G n (fun j => if j < i then h j else f j)) (fun _ b _ => (n - intOf b).toNat)
    case atStart => exact ⟨0, 0, fun _ => 0, Nat.zero_le _, rfl, rfl, TakI.start _ _ _ _, hTX.congr fun j _ => by rw [if_neg (by omega)]⟩
    case round =>
     clear hTX hHeld
     obtain ⟨i, c', h, hi, rfl, rfl, hT, hTI⟩ := hrel
     have hrow := hTI.row
     by_cases hin : i < n
     ·have hin' : (i : Int) < n := by omega
      have x0 := d1.lo i hin
      have x9 := d1.hi i hin
      have y0 := xt_lo d2.lo i
      have y9 := xt_hi d2.hi i
      have hnx := hT.next x0 x9 y0 y9 (by omega) hK9
      obtain ⟨q0, q9⟩ := mul_dig y0 y9 (show 0 ≤ 1 by omega) hK9
      have r0 := hT.c0
      have r9 := hT.c1
      have a1 := hrow.cell i hin
      rw [if_neg (Nat.lt_irrefl i)] at a1
      have hat2 := fun (W : World) (hW : Below w0.heap.size w0 W) => r3at_ok (some ⟨b', off', none⟩) (m + 1) c2 i g W (h2.ext (.of_below hW))
      go_wp2
      refine wp_region_held_drew (S := fun w' => w'.cell? ⟨G, i, none⟩ = some (.int .i64 (f i)) ∧ Below w0.heap.size w0 w') (by as_aux_lemma => kernel_rfl) ⟨a1, hTI.below.drew⟩ (fun hHeld => ?_)
      have hTX := hTI.drew
      generalize wr.drew = X0 at *
      refine tk 0 (some 46) ?_
      refine tk 1 (some 47) ?_
      refine tk 2 (some 48) ?_
      refine tk 3 (some 49) ?_
      refine tk 4 (some 50) ?_
      refine tk 5 (some 51) ?_
      refine tk 7 (some 53) ?_
      refine tk 10 (some 56) ?_
      refine Mono.stc 6 (some 52) (hat2 X0 hHeld.2) (fun e X1 hR => ?_)
      obtain ⟨rfl, rfl⟩ := hR
      refine ⟨(hHeld), fun hHeld => Mono.pt ?_⟩
      generalize xt g (m + 1) i = y at *
      generalize hfi : f i = x at *
      refine tk 8 (some 54) ?_
      refine tk 9 (some 55) ?_
      refine tk 11 (some 57) ?_
      refine tk 12 (some 11) ?_
      rw [wrapId (z := y) (by omega) (by omega), wrapId (z := x - y) (by omega) (by omega), wrapId (z := x - y + c') (by omega) (by omega)]
      rw [Int.mul_one] at hnx
      refine wpAnyH_done (by as_aux_lemma => kernel_rfl) ?_ _
      have hHB := hHeld.2
      have e1 : -2000000000000000000 ≤ x - y + c' := by omega
      have e2 : x - y + c' ≤ 1000000000 := by omega
      clear hHeld hat2 q0 q9 hT hTI a1 hrow
      generalize x - y + c' = e at *
      obtain ⟨p1, p2⟩ := floor_parts e
      have hmm : (e.tmod 1000000000).natAbs < 1000000000 := by rw [Int.natAbs_tmod]; exact Nat.mod_lt _ (by decide)
      have t1 : -1000000000 < e.tmod 1000000000 := by omega
      have t2 : e.tmod 1000000000 < 1000000000 := by omega
      have hw : wrap64 (e.tdiv 1000000000) = e.tdiv 1000000000 := by
       have := Int.natAbs_tdiv e 1000000000
       unfold wrap64; omega
      have a3 := hTX.row.cell i hin
      have a4 := hTX.row.frozen i
      have hst := hTX.set i (e % 1000000000)
      replace p1 := Lib.hid p1
      replace p2 := Lib.hid p2
      by_cases hneg : e.tmod 1000000000 < 0
      ·obtain ⟨z1, z2⟩ := p1.out hneg
       go_wp2
       go_roundw
       case rel =>
        refine ⟨i + 1, e / 1000000000, _, by omega, by first | rfl | rw [z2], by simp, hnx, ?_⟩
        try rw [z1]
        exact hst.congr fun j hj => by
         by_cases hji : j = i
         ·subst hji; simp
         ·simp only [if_neg hji]
          by_cases hlt : j < i
          ·rw [if_pos hlt, if_pos (by omega)]
          ·rw [if_neg hlt, if_neg (by omega)]
       case measure => simp [intOf]; omega
      ·obtain ⟨z1, z2⟩ := p2.out hneg
       go_wp2
       go_roundw
       case rel =>
        refine ⟨i + 1, e / 1000000000, _, by omega, by first | rfl | rw [z2], by simp, hnx, ?_⟩
        try rw [z1]
        exact hst.congr fun j hj => by
         by_cases hji : j = i
         ·subst hji; simp
         ·simp only [if_neg hji]
          by_cases hlt : j < i
          ·rw [if_pos hlt, if_pos (by omega)]
          ·rw [if_neg hlt, if_neg (by omega)]
       case measure => simp [intOf]; omega
     ·obtain rfl : i = n := by omega
      have hval := hT.done (m := m + 1) hnm1 (by rw [hBB.out]; exact hKB.out)
      rw [hBB.out] at hval
      have hsl2 : SlF wr (.slice (some ⟨G, 0, none⟩) i c) i h := SlF.congr (hrow.slice (by omega) i (Nat.le_refl _) c hcap) (fun j hj => if_pos hj)
      have hmm := fun W1 hW1 => r3made_ok false (some ⟨G, 0, none⟩) i c h W1 (hsl2.ext hW1) (by omega) hT.lo hT.hi
      have hBw := hTI.below
      have hsz := hTI.size
      replace hval := Lib.hid hval
      clear hT hrow hsl2 hx2
      go_wp2_with fail
      refine (hmm wr (Ext.refl _)).mono ?_
      rintro e W2 ⟨v', rfl, ho2, d3, e3, hb⟩
      have hBw2 := belowCall hBw hb
      have hsz2 := hb.size
      obtain ⟨p', c'', rfl⟩ := ho2.shape
      have hf0 : ∀ w : World, (Instr.field 50 (.agg #[.bool false, .slice p' (trimN h i) c'']) 1).run Tryz.prog w = .ok (.slice p' (trimN h i) c'') w := fun _ => by kernel_rfl
      clear hmm hTI hBw
      go_wp2
      go_roundw
      case rel =>
       refine ⟨trimN h i, h, k + 1, ho2.lower (by omega), rfl, d3, ?_, by omega, hBw2, by omega⟩
       rw [e3, hval.out, Int.add_mul]; omega
      case measure => simp [intOf]; omega
   ·have hKv := hK.out
    rw [if_neg hkz] at hKv
    obtain rfl : K = kk := hKv
    have hkz' : (K == 0) = false := by simpa using hkz
    clear hK
    go_wp2
    go_loopw [9, 10] (fun a b wr => ∃ (i : Nat) (c : Int) (h : Nat → Int), i ≤ n ∧ a = .int .i64 c ∧ b = .int .i64 (i : Int) ∧ TakI f (xt g (m + 1)) K i h c ∧ TInv w0 wr base G n (fun j => if j < i then h j else f j)) (fun _ b _ => (n - intOf b).toNat)
    case atStart => exact ⟨0, 0, fun _ => 0, Nat.zero_le _, rfl, rfl, TakI.start _ _ _ _, hTX.congr fun j _ => by rw [if_neg (by omega)]⟩
    case round =>
     clear hTX hHeld
     obtain ⟨i, c', h, hi, rfl, rfl, hT, hTI⟩ := hrel
     have hrow := hTI.row
     by_cases hin : i < n
     ·have hin' : (i : Int) < n := by omega
      have x0 := d1.lo i hin
      have x9 := d1.hi i hin
      have y0 := xt_lo d2.lo i
      have y9 := xt_hi d2.hi i
      have hnx := hT.next x0 x9 y0 y9 (by omega) hK9
      obtain ⟨q0, q9⟩ := mul_dig y0 y9 (show 0 ≤ K by omega) hK9
      have r0 := hT.c0
      have r9 := hT.c1
      have a1 := hrow.cell i hin
      rw [if_neg (Nat.lt_irrefl i)] at a1
      have hat2 := fun (W : World) (hW : Below w0.heap.size w0 W) => r3at_ok (some ⟨b', off', none⟩) (m + 1) c2 i g W (h2.ext (.of_below hW))
      go_wp2
      refine wp_region_held_drew (S := fun w' => w'.cell? ⟨G, i, none⟩ = some (.int .i64 (f i)) ∧ Below w0.heap.size w0 w') (by as_aux_lemma => kernel_rfl) ⟨a1, hTI.below.drew⟩ (fun hHeld => ?_)
      have hTX := hTI.drew
      generalize wr.drew = X0 at *
      refine tk 0 (some 46) ?_
      refine tk 1 (some 47) ?_
      refine tk 2 (some 48) ?_
      refine tk 3 (some 49) ?_
      refine tk 4 (some 50) ?_
      refine tk 5 (some 51) ?_
      refine tk 7 (some 53) ?_
      refine tk 10 (some 56) ?_
      refine Mono.stc 6 (some 52) (hat2 X0 hHeld.2) (fun e X1 hR => ?_)
      obtain ⟨rfl, rfl⟩ := hR
      refine ⟨(hHeld), fun hHeld => Mono.pt ?_⟩
      generalize xt g (m + 1) i = y at *
      generalize hfi : f i = x at *
      refine tk 8 (some 54) ?_
      refine tk 9 (some 55) ?_
      refine tk 11 (some 57) ?_
      refine tk 12 (some 11) ?_
      rw [wrapId (z := y * K) (by omega) (by omega), wrapId (z := x - y * K) (by omega) (by omega), wrapId (z := x - y * K + c') (by omega) (by omega)]
      refine wpAnyH_done (by as_aux_lemma => kernel_rfl) ?_ _
      have hHB := hHeld.2
      have e1 : -2000000000000000000 ≤ x - y * K + c' := by omega
      have e2 : x - y * K + c' ≤ 1000000000 := by omega
      clear hHeld hat2 q0 q9 hT hTI a1 hrow
      generalize x - y * K + c' = e at *
      obtain ⟨p1, p2⟩ := floor_parts e
      have hmm : (e.tmod 1000000000).natAbs < 1000000000 := by rw [Int.natAbs_tmod]; exact Nat.mod_lt _ (by decide)
      have t1 : -1000000000 < e.tmod 1000000000 := by omega
      have t2 : e.tmod 1000000000 < 1000000000 := by omega
      have hw : wrap64 (e.tdiv 1000000000) = e.tdiv 1000000000 := by
       have := Int.natAbs_tdiv e 1000000000
       unfold wrap64; omega
      have a3 := hTX.row.cell i hin
      have a4 := hTX.row.frozen i
      have hst := hTX.set i (e % 1000000000)
      replace p1 := Lib.hid p1
      replace p2 := Lib.hid p2
      by_cases hneg : e.tmod 1000000000 < 0
      ·obtain ⟨z1, z2⟩ := p1.out hneg
       go_wp2
       go_roundw
       case rel =>
        refine ⟨i + 1, e / 1000000000, _, by omega, by first | rfl | rw [z2], by simp, hnx, ?_⟩
        try rw [z1]
        exact hst.congr fun j hj => by
         by_cases hji : j = i
         ·subst hji; simp
         ·simp only [if_neg hji]
          by_cases hlt : j < i
          ·rw [if_pos hlt, if_pos (by omega)]
          ·rw [if_neg hlt, if_neg (by omega)]
       case measure => simp [intOf]; omega
      ·obtain ⟨z1, z2⟩ := p2.out hneg
       go_wp2
       go_roundw
       case rel =>
        refine ⟨i + 1, e / 1000000000, _, by omega, by first | rfl | rw [z2], by simp, hnx, ?_⟩
        try rw [z1]
        exact hst.congr fun j hj => by
         by_cases hji : j = i
         ·subst hji; simp
         ·simp only [if_neg hji]
          by_cases hlt : j < i
          ·rw [if_pos hlt, if_pos (by omega)]
          ·rw [if_neg hlt, if_neg (by omega)]
       case measure => simp [intOf]; omega
     ·obtain rfl : i = n := by omega
      have hval := hT.done (m := m + 1) hnm1 (by rw [hBB.out]; exact hKB.out)
      rw [hBB.out] at hval
      have hsl2 : SlF wr (.slice (some ⟨G, 0, none⟩) i c) i h := SlF.congr (hrow.slice (by omega) i (Nat.le_refl _) c hcap) (fun j hj => if_pos hj)
      have hmm := fun W1 hW1 => r3made_ok false (some ⟨G, 0, none⟩) i c h W1 (hsl2.ext hW1) (by omega) hT.lo hT.hi
      have hBw := hTI.below
      have hsz := hTI.size
      replace hval := Lib.hid hval
      clear hT hrow hsl2 hx2
      go_wp2_with fail
      refine (hmm wr (Ext.refl _)).mono ?_
      rintro e W2 ⟨v', rfl, ho2, d3, e3, hb⟩
      have hBw2 := belowCall hBw hb
      have hsz2 := hb.size
      obtain ⟨p', c'', rfl⟩ := ho2.shape
      have hf0 : ∀ w : World, (Instr.field 50 (.agg #[.bool false, .slice p' (trimN h i) c'']) 1).run Tryz.prog w = .ok (.slice p' (trimN h i) c'') w := fun _ => by kernel_rfl
      clear hmm hTI hBw
      go_wp2
      go_roundw
      case rel =>
       refine ⟨trimN h i, h, k + K, ho2.lower (by omega), rfl, d3, ?_, by omega, hBw2, by omega⟩
       rw [e3, hval.out, Int.add_mul]; omega
      case measure => simp [intOf]; omega
  ·rw [decide_eq_true (by omega)] at hless
   have hdiv : vf f n = RR % BB ∧ k = RR / BB := by
    rw [← hv, Int.add_mul_ediv_right _ _ (by omega), Int.ediv_eq_zero_of_lt hf0 (by omega), Int.zero_add, Int.add_mul_emod_self_right, Int.emod_eq_of_lt hf0 (by omega)]
    exact ⟨rfl, rfl⟩
   replace hdiv := Lib.hid hdiv
   go_wp2_with fail
   refine (hless wr (Ext.refl _)).mono ?_
   rintro e W1 ⟨rfl, kl, rfl⟩
   clear hv hx2
   go_wp2
   go_ret2
   refine ⟨_, n, f, k, rfl, ho.below (below_drewN (Below.refl _ _) _), d1, hdiv.out.1, hdiv.out.2, below_drewN hB0 _, hbase⟩
end Go.Proofs.YtcgfdibagldafaaGreatDoor
