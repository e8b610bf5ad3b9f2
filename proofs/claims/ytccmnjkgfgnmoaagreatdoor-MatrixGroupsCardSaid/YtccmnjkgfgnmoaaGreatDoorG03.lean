/- MatrixGroups: products of drafted matrices whose fractions are letters, walked by the evaluator. Part 3 of 6. No condition beside the row. -/
import Derived.Test.YtccmnjkgfgnmoaaGreatDoorG02
set_option linter.unusedVariables false
set_option linter.unusedSimpArgs false
set_option maxRecDepth 100000
set_option maxHeartbeats 4000000
namespace Go.Proofs.YtccmnjkgfgnmoaaGreatDoor
open Go.RowKit Go.Mono
theorem r3sum_digits (s : Bool) (p q : Option Addr) (n m c1 c2 : Nat) (f g : Nat → Int) (w : World) (h1 : SlF w (.slice p n c1) n f) (h2 : SlF w (.slice q m c2) m g) (d1 : Digs f n) (d2 : Digs g m) (hn0 : 0 < n) (hm0 : 0 < m) (hn6 : n ≤ 100000) (hm6 : m ≤ 100000) :
  Calls Tryz.prog 281 #[.agg #[.bool s, .slice p n c1], .agg #[.bool s, .slice q m c2]] w fun e w' => ∃ p k c h, e = .returned (.agg #[.bool s, .slice p k c]) ∧ SlF w' (.slice p k c) k h ∧ Digs h k ∧ vf h k = vf f n + vf g m ∧ k ≤ max n m + 1 ∧ Below w.heap.size w w' := by
 obtain ⟨hc1, hn1, _⟩ := h1.opens
 obtain ⟨hc2, hn2, _⟩ := h2.opens
 have hn0' : ((n : Int) == 0) = false := by simp; omega
 have hm0' : ((m : Int) == 0) = false := by simp; omega
 go_enter Tryz.func281, Tryz.ntmps281
 go_wp2
 refine boxes3 fun W hB hs b0 b1 b2 => ?_
 go_loopw [5, 6, 7] (fun v x y wr => ∃ (i : Nat) (c : Int) (h : Nat → Int), i ≤ max n m + 1 ∧ x = .int .i64 c ∧ y = .int .i64 (i : Int) ∧ OwnF wr (w.heap.size + 1 + 1 + 1) v i h ∧ SumI (xt f n) (xt g m) i h c ∧ Box wr w.heap.size 33 #[.bool s, .slice p n c1] ∧ Box wr (w.heap.size + 1) 33 #[.bool s, .slice q m c2] ∧ Box wr (w.heap.size + 1 + 1) 33 #[.bool false, .slice none 0 0] ∧ Below w.heap.size w wr ∧ w.heap.size + 1 + 1 + 1 ≤ wr.heap.size) (fun _ _ y _ => (max n m + 1 - intOf y).toNat)
 case atStart => exact ⟨0, 0, _, Nat.zero_le _, rfl, rfl, OwnF.nil _ _ _, SumI.start _ _ (fun _ => 0), b0, b1, b2, hB, hs⟩
 case round =>
  clear b0 b1 b2 hB hs
  obtain ⟨i, c, h, hi, rfl, rfl, ho, hI, b0, b1, b2, hB, hs⟩ := hrel
  obtain ⟨pv, cv, rfl⟩ := ho.shape
  by_cases hgo : i < n ∨ i < m ∨ 0 < c
  ·have hlt : i < max n m + 1 := by
    rcases hgo with h | h | h
    ·omega
    ·omega
    ·by_cases hin : i < n
     ·omega
     ·by_cases him : i < m
      ·omega
      ·have := hI.len d1.hi d2.hi (by omega) (by omega) h
       omega
   have x0 := xt_lo d1.lo i
   have x1 := xt_hi d1.hi i
   have y0 := xt_lo d2.lo i
   have y1 := xt_hi d2.hi i
   have hat1 := fun X (hX : Below w.heap.size w X) => r3at_ok p n c1 i f X (h1.ext (.of_below hX))
   have hat2 := fun X (hX : Below w.heap.size w X) => r3at_ok q m c2 i g X (h2.ext (.of_below hX))
   have hnx := hI.next x0 x1 y0 y1
   have k0 := hI.c0
   have k1 := hI.c1
   generalize hX : xt f n = Xf at *
   generalize hY : xt g m = Yf at *
   generalize Xf i = x at *
   generalize Yf i = y at *
   have hways : ((i : Int) < n) ∨ (¬ (i : Int) < n ∧ (i : Int) < m) ∨ (¬ (i : Int) < n ∧ ¬ (i : Int) < m ∧ 0 < c) := by omega
   have cb0 := b0.cell
   have lb0 := b0.lt
   have fb0 := b0.frozen
   have cb1 := b1.cell
   have lb1 := b1.lt
   have fb1 := b1.frozen
   clear hgo
   rcases hways with hw1 | ⟨hw1, hw2⟩ | ⟨hw1, hw2, hw3⟩
   all_goals
    go_wp2
    refine wp_region_held_drew (S := fun w' => (∀ i, w'.cell? ⟨w.heap.size, i, none⟩ = (#[.bool s, .slice p n c1] : Array Value)[i]?) ∧ (∀ i, w'.cell? ⟨w.heap.size + 1, i, none⟩ = (#[.bool s, .slice q m c2] : Array Value)[i]?) ∧ Below w.heap.size w w') (by as_aux_lemma => kernel_rfl) ⟨cb0, cb1, hB.drew⟩ (fun hHeld => ?_)
    have hoX := ho.below (Below.refl wr.heap.size wr).drew
    have bX0 := b0.drew
    have bX1 := b1.drew
    have bX2 := b2.drew
    have hsX : w.heap.size + 1 + 1 + 1 ≤ wr.drew.heap.size := hs
    generalize wr.drew = X0 at *
    refine tk 0 (some 46) ?_
    refine tk 1 (some 47) ?_
    refine tk 2 (some 48) ?_
    refine tk 4 (some 50) ?_
    refine tk 5 (some 51) ?_
    refine tk 6 (some 52) ?_
    refine tk 9 (some 55) ?_
    refine Mono.stc 3 (some 49) (hat1 X0 hHeld.2.2) (fun e X1 hR => ?_)
    obtain ⟨rfl, rfl⟩ := hR
    refine ⟨(hHeld), fun hHeld => Mono.pt ?_⟩
    refine Mono.stc 7 (some 53) (hat2 X1 hHeld.2.2) (fun e X2 hR => ?_)
    obtain ⟨rfl, rfl⟩ := hR
    refine ⟨(hHeld), fun hHeld => Mono.pt ?_⟩
    refine tk 8 (some 54) ?_
    refine tk 10 (some 56) ?_
    refine tk 11 (some 8) ?_
    refine wpAnyH_done (by as_aux_lemma => kernel_rfl) ?_ _
    have hB2 := hHeld.2.2
    clear hHeld hat1 hat2 cb0 cb1 fb0 fb1 lb0 lb1 b0 b1 b2 ho hI
    have e1 : (x + y + c).tmod 1000000000 = (x + y + c) % 1000000000 := Int.tmod_eq_emod_of_nonneg (by omega)
    have e2 : (x + y + c).tdiv 1000000000 = (x + y + c) / 1000000000 := Int.tdiv_eq_ediv_of_nonneg (by omega)
    rw [wrapId (z := x + y) (by omega) (by omega), wrapId (z := x + y + c) (by omega) (by omega)]
    go_wp2_with (at_builtin; (refine wpList_append_ints _ rfl _ _ 26 rfl Tryz.underlying26 infoInt (w.heap.size + 1 + 1 + 1) (.slice pv i cv) i h rfl ?_ (some ⟨X2.heap.size, 0, none⟩) 1 1 (fun _ => (x + y + c) % 1000000000) rfl ?_ ?_ ?_ ?_); (exact (hoX.below (belowAlloc (Below.refl _ _) _))); (exact (slF_lit X2 _ _ rfl)); omega; (simp; omega); (intro v' w1 ho' hg))
    obtain ⟨p', c', rfl⟩ := ho'.shape
    have hz := ((Below.refl (w.heap.size + 1 + 1 + 1) X2).alloc hsX (.cells _ 3)).grown hg (by simp; omega) (fun k hk => hoX.low k hk)
    replace bX0 := bX0.low hz (by omega)
    replace bX1 := bX1.low hz (by omega)
    replace bX2 := bX2.low hz (by omega)
    have hB3 := hB2.trans (hz.mono (by omega))
    have hs3 := hz.size
    clear hoX hB2 hg hz hB hs
    go_wp2
    go_roundw
    case rel =>
     refine ⟨i + 1, _, _, hlt, rfl, by simp, ho'.congr (f' := fun j => if j = i then (x + y + c) % 1000000000 else h j) (fun j hj => ?_), ?_, bX0, bX1, bX2, hB3, by omega⟩
     ·by_cases hji : j = i
      ·subst hji; simp
      ·rw [if_pos (by omega), if_neg hji]
     ·exact hnx
    case measure => simp [intOf]; omega
  ·have hI0 : SumI (xt f n) (xt g m) i h 0 := by
    have h0 := hI.c0
    obtain rfl : c = 0 := by omega
    exact hI
   have hval := hI0.done (by omega) (by omega)
   have hc0 : ¬ (0 < c) := by omega
   have hw1 : ¬ (i : Int) < n := by omega
   have hw2 : ¬ (i : Int) < m := by omega
   have cb0 := b0.cell
   have lb0 := b0.lt
   have fb0 := b0.frozen
   have cb1 := b1.cell
   have lb1 := b1.lt
   have fb1 := b1.frozen
   have hmm := fun W1 hW1 => r3made_ok s pv i cv h W1 ((ho.sl (by omega)).ext hW1) (by omega) hI.lo hI.hi
   have hpos : decide (0 < vf h i) = true := decide_eq_true (by rw [hval]; have := d1.pos.2 hn0; have := d2.nonneg; omega)
   rw [hpos, Bool.and_true] at hmm
   have hli : i ≤ max n m + 1 := hi
   replace hval := Lib.hid hval
   clear hgo hI hI0 ho
   go_wp2_with fail
   refine (hmm wr (Ext.refl _)).mono ?_
   rintro e W1 ⟨v', rfl, ho2, d3, e3, hb⟩
   replace b2 := b2.below hb
   have hB1 := belowCall hB hb
   obtain ⟨p', c', rfl⟩ := ho2.shape
   have hsl := ho2.sl (by have := trimN_le h i; omega)
   clear hmm ho2 b0 b1 cb0 cb1 fb0 fb1 lb0 lb1 hB
   go_wp2_with first | (refine wpList_store_box rfl 33 _ _ rfl (w.heap.size + 1 + 1) 0 33 _ #[.bool s, .slice p' (trimN h i) c'] #[.bool s, .slice p' (trimN h i) c'] rfl rfl b2 sizeLong (Nat.le_of_ble_eq_true rfl) (long_ones _ _ _ _) (whole_new rfl) ?_; intro W2 hk b4)
   have hb2 := hk.below hB1 (by omega) hB1.size
   refine bodyPost_ret (b4.results rfl _ _ rfl Tryz.underlying33 rfl sizeLong) rfl ⟨p', _, c', h, rfl, hsl.ext (hk.ext b2 (by decide)), d3, by rw [e3]; exact hval.out, by have := trimN_le h i; omega, hb2⟩
theorem r3diff_digits (s : Bool) (p q : Option Addr) (n m c1 c2 : Nat) (f g : Nat → Int) (w : World) (h1 : SlF w (.slice p n c1) n f) (h2 : SlF w (.slice q m c2) m g) (d1 : Digs f n) (d2 : Digs g m) (hn0 : 0 < n) (hm0 : 0 < m) (hn6 : n ≤ 100000) (hge : vf g m ≤ vf f n) :
  Calls Tryz.prog 299 #[.agg #[.bool s, .slice p n c1], .agg #[.bool s, .slice q m c2]] w fun e w' => ∃ p k c h, e = .returned (.agg #[.bool (s && decide (0 < vf f n - vf g m)), .slice p k c]) ∧ SlF w' (.slice p k c) k h ∧ Digs h k ∧ vf h k = vf f n - vf g m ∧ k ≤ n ∧ Below w.heap.size w w' := by
 obtain ⟨hc1, hn1, hx1⟩ := h1.opens
 obtain ⟨hc2, hn2, _⟩ := h2.opens
 have hmn : m ≤ n := d2.len_le d1 hge
 have hn0' : ((n : Int) == 0) = false := by simp; omega
 have hm0' : ((m : Int) == 0) = false := by simp; omega
 have hless := fun (W : World) (hW : Below w.heap.size w W) => r3less_ok p q n m c1 c2 f g W (h1.ext (.of_below hW)) (h2.ext (.of_below hW)) d1 d2
 rw [decide_eq_false (by omega)] at hless
 obtain ⟨sg, hsg⟩ : ∃ sg : Bool, (s && decide (0 < vf f n - vf g m)) = sg := ⟨_, rfl⟩
 rw [hsg]
 go_enter Tryz.func299, Tryz.ntmps299
 go_wp2_with fail
 refine boxes3c fun W hB hs b0 b1 b2 => ?_
 refine (hless W hB).mono ?_
 rintro e Wl ⟨rfl, kl, rfl⟩
 have hBl := below_drewN hB kl
 replace b0 : Box (W.drewN kl) w.heap.size 33 #[.bool s, .slice p n c1] := ⟨b0.blk⟩
 replace b1 : Box (W.drewN kl) (w.heap.size + 1) 33 #[.bool s, .slice q m c2] := ⟨b1.blk⟩
 replace b2 : Box (W.drewN kl) (w.heap.size + 1 + 1) 33 #[.bool false, .slice none 0 0] := ⟨b2.blk⟩
 have hsl : w.heap.size + 1 + 1 + 1 ≤ (W.drewN kl).heap.size := hs
 clear hless hB hs
 generalize W.drewN kl = V at *
 go_wp2
 go_loopw [5, 6, 7] (fun v x y wr => ∃ (i : Nat) (c : Int) (h : Nat → Int), i ≤ n ∧ x = .int .i64 c ∧ y = .int .i64 (i : Int) ∧ OwnF wr (w.heap.size + 1 + 1 + 1) v i h ∧ DifI f (xt g m) i h c ∧ Box wr w.heap.size 33 #[.bool s, .slice p n c1] ∧ Box wr (w.heap.size + 1) 33 #[.bool s, .slice q m c2] ∧ Box wr (w.heap.size + 1 + 1) 33 #[.bool false, .slice none 0 0] ∧ Below w.heap.size w wr ∧ w.heap.size + 1 + 1 + 1 ≤ wr.heap.size) (fun _ _ y _ => (n - intOf y).toNat)
 case atStart => exact ⟨0, 0, _, Nat.zero_le _, rfl, rfl, OwnF.nil _ _ _, DifI.start _ _ (fun _ => 0), b0, b1, b2, hBl, hsl⟩
 case round =>
  clear b0 b1 b2 hBl hsl
  obtain ⟨i, c, h, hi, rfl, rfl, ho, hI, b0, b1, b2, hB, hs⟩ := hrel
  obtain ⟨pv, cv, rfl⟩ := ho.shape
  by_cases hlt : i < n
  ·have hlt' : (i : Int) < n := by omega
   obtain ⟨b, off, rfl, hb, hcell⟩ := hx1 hn0
   have hci := hcell i hlt
   have x0 := d1.lo i hlt
   have x1 := d1.hi i hlt
   have y0 := xt_lo d2.lo i
   have y1 := xt_hi d2.hi i
   have hat2 := fun X (hX : Below w.heap.size w X) => r3at_ok q m c2 i g X (h2.ext (.of_below hX))
   have hbel := fun e => hI.below x0 y1 e
   have habo := fun e => hI.above x1 y0 e
   have k0 := hI.c0
   have k1 := hI.c1
   generalize hX : f i = x at *
   generalize hY : xt g m i = y at *
   have cb0 := b0.cell
   have lb0 := b0.lt
   have fb0 := b0.frozen
   have cb1 := b1.cell
   have lb1 := b1.lt
   have fb1 := b1.frozen
   have hck : ∀ w', Below w.heap.size w w' → w'.cell? ⟨b, off + i, none⟩ = some (.int .i64 x) := fun w' hw' => (hw'.cell (p := ⟨b, off + i, none⟩) hb).trans hci
   clear hcell hci hI
   by_cases hneg : x - y - c < 0
   all_goals
    go_wp2
    refine wp_region_held_drew (S := fun w' => (∀ i, w'.cell? ⟨w.heap.size, i, none⟩ = (#[.bool s, .slice (some ⟨b, off, none⟩) n c1] : Array Value)[i]?) ∧ (∀ i, w'.cell? ⟨w.heap.size + 1, i, none⟩ = (#[.bool s, .slice q m c2] : Array Value)[i]?) ∧ w'.cell? ⟨b, off + i, none⟩ = some (.int .i64 x) ∧ Below w.heap.size w w') (by as_aux_lemma => kernel_rfl) ⟨cb0, cb1, hck _ hB.drew, hB.drew⟩ (fun hHeld => ?_)
    have hoX := ho.below (Below.refl wr.heap.size wr).drew
    have bX0 := b0.drew
    have bX1 := b1.drew
    have bX2 := b2.drew
    have hsX : w.heap.size + 1 + 1 + 1 ≤ wr.drew.heap.size := hs
    generalize wr.drew = X0 at *
    refine tk 0 (some 45) ?_
    refine tk 1 (some 46) ?_
    refine tk 2 (some 47) ?_
    refine tk 3 (some 48) ?_
    refine tk 4 (some 49) ?_
    refine tk 5 (some 50) ?_
    refine tk 6 (some 51) ?_
    refine tk 7 (some 52) ?_
    refine tk 10 (some 55) ?_
    refine Mono.stc 8 (some 53) (hat2 X0 hHeld.2.2.2) (fun e X2 hR => ?_)
    obtain ⟨rfl, rfl⟩ := hR
    refine ⟨(hHeld), fun hHeld => Mono.pt ?_⟩
    refine tk 9 (some 54) ?_
    refine tk 11 (some 56) ?_
    refine tk 12 (some 8) ?_
    refine wpAnyH_done (by as_aux_lemma => kernel_rfl) ?_ _
    have hB2 := hHeld.2.2.2
    clear hHeld hat2 cb0 cb1 fb0 fb1 lb0 lb1 b0 b1 b2 ho hck
    rw [wrapId (z := x - y) (by omega) (by omega), wrapId (z := x - y - c) (by omega) (by omega)]
    go_wp2_with (at_builtin; (refine wpList_append_ints _ rfl _ _ 26 rfl Tryz.underlying26 infoInt (w.heap.size + 1 + 1 + 1) (.slice pv i cv) i h rfl ?_ (some ⟨X2.heap.size, 0, none⟩) 1 1 (fun _ => if x - y - c < 0 then x - y - c + 1000000000 else x - y - c) rfl ?_ ?_ ?_ ?_); (exact (hoX.below (belowAlloc (Below.refl _ _) _))); (exact (slF_lit X2 _ _ (by split <;> omega))); omega; (simp; omega); (intro v' w1 ho' hg))
    obtain ⟨p', c', rfl⟩ := ho'.shape
    have hz := ((Below.refl (w.heap.size + 1 + 1 + 1) X2).alloc hsX (.cells _ 3)).grown hg (by simp; omega) (fun k hk => hoX.low k hk)
    replace bX0 := bX0.low hz (by omega)
    replace bX1 := bX1.low hz (by omega)
    replace bX2 := bX2.low hz (by omega)
    have hB3 := hB2.trans (hz.mono (by omega))
    have hs3 := hz.size
    clear hoX hB2 hg hz hB hs
    go_wp2
    go_roundw
    case rel =>
     refine ⟨i + 1, _, _, hlt, rfl, by simp, ho'.congr (f' := fun j => if j = i then (if x - y - c < 0 then x - y - c + 1000000000 else x - y - c) else h j) (fun j hj => ?_), ?_, bX0, bX1, bX2, hB3, by omega⟩
     ·by_cases hji : j = i
      ·subst hji; simp
      ·rw [if_pos (by omega), if_neg hji]
     ·by_cases hq : x - y - c < 0
      ·simp only [if_pos hq]
       first | (exfalso; omega) | exact hbel hq
      ·simp only [if_neg hq]
       first | (exfalso; omega) | exact habo (by omega)
    case measure => simp [intOf]; omega
  ·obtain rfl : i = n := by omega
   have hval := hI.done hmn hge
   have hw1 : ¬ (i : Int) < i := by omega
   have cb0 := b0.cell
   have lb0 := b0.lt
   have fb0 := b0.frozen
   have cb1 := b1.cell
   have lb1 := b1.lt
   have fb1 := b1.frozen
   have hmm := fun W1 hW1 => r3made_ok s pv i cv h W1 ((ho.sl (by omega)).ext hW1) (by omega) hI.lo hI.hi
   rw [hval, hsg] at hmm
   replace hval := Lib.hid hval
   replace hsg := Lib.hid hsg
   clear hI ho hx1
   go_wp2_with fail
   refine (hmm wr (Ext.refl _)).mono ?_
   rintro e W1 ⟨v', rfl, ho2, d3, e3, hb⟩
   replace b2 := b2.below hb
   have hB1 := belowCall hB hb
   obtain ⟨p', c', rfl⟩ := ho2.shape
   have hsl := ho2.sl (by have := trimN_le h i; omega)
   clear hmm ho2 b0 b1 cb0 cb1 fb0 fb1 lb0 lb1 hB
   go_wp2_with first | (refine wpList_store_box rfl 33 _ _ rfl (w.heap.size + 1 + 1) 0 33 _ #[.bool sg, .slice p' (trimN h i) c'] #[.bool sg, .slice p' (trimN h i) c'] rfl rfl b2 sizeLong (Nat.le_of_ble_eq_true rfl) (long_ones _ _ _ _) (whole_new rfl) ?_; intro W2 hk b4)
   have hb2 := hk.below hB1 (by omega) hB1.size
   refine bodyPost_ret (b4.results rfl _ _ rfl Tryz.underlying33 rfl sizeLong) rfl ⟨p', _, c', h, rfl, hsl.ext (hk.ext b2 (by decide)), d3, e3, trimN_le h i, hb2⟩
theorem r3diff_ge {m1 m2 : Nat} {v1 v2 : Value} {z y : Int} (w : World) (h1 : LgV m1 w v1 z) (h2 : LgV m2 w v2 y) (hz : z ≠ 0) (hy : y ≠ 0) (hs : decide (z < 0) = decide (y < 0)) (hge : y.natAbs ≤ z.natAbs) (hm1 : m1 ≤ 100000) :
  Calls Tryz.prog 299 #[v1, v2] w fun e w' => ∃ v, e = .returned v ∧ LgV m1 w' v (z - y) ∧ Below w.heap.size w w' := by
 obtain ⟨p, n, c, f, rfl, s1, d1, e1, l1⟩ := h1
 obtain ⟨q, m, c', g, rfl, s2, d2, e2, l2⟩ := h2
 have hn0 : 0 < n := d1.pos.1 (by omega)
 have hm0 : 0 < m := d2.pos.1 (by omega)
 have hsg : (z < 0 ↔ y < 0) := by simpa using hs
 rw [← hs]
 refine (r3diff_digits _ p q n m c c' f g w s1 s2 d1 d2 hn0 hm0 (by omega) (by omega)).mono ?_
 rintro e w' ⟨p', k, c2, h, rfl, hsl, hd, hv, hk, hb⟩
 rw [e1, e2] at hv ⊢
 have hneg : (decide (z < 0) && decide (0 < (z.natAbs : Int) - y.natAbs)) = decide (z - y < 0) := by
  rw [Bool.eq_iff_iff, Bool.and_eq_true, decide_eq_true_eq, decide_eq_true_eq, decide_eq_true_eq]; omega
 rw [hneg]
 exact ⟨_, rfl, ⟨p', k, c2, h, rfl, hsl, hd, by omega, by omega⟩, hb⟩
theorem r3diff_lt {m1 m2 : Nat} {v1 v2 : Value} {z y : Int} (w : World) (h1 : LgV m1 w v1 z) (h2 : LgV m2 w v2 y) (hz : z ≠ 0) (hy : y ≠ 0) (hs : decide (z < 0) = decide (y < 0)) (hlt : z.natAbs < y.natAbs) (hm2 : m2 ≤ 100000) :
  Calls Tryz.prog 299 #[v1, v2] w fun e w' => ∃ v, e = .returned v ∧ LgV m2 w' v (z - y) ∧ Below w.heap.size w w' := by
 have hd := fun (W : World) (hW : Below w.heap.size w W) => r3diff_ge W (h2.below hW) (h1.below hW) hy hz hs.symm (by omega) hm2
 have hmi := fun (W : World) (v : Value) (h : LgV m2 W v (y - z)) => r3minus_ok W h hm2
 obtain ⟨p, n, c, f, rfl, s1, d1, e1, l1⟩ := h1
 obtain ⟨q, m, c', g, rfl, s2, d2, e2, l2⟩ := h2
 have hn0 : 0 < n := d1.pos.1 (by omega)
 have hm0 : 0 < m := d2.pos.1 (by omega)
 have hn0' : ((n : Int) == 0) = false := by simp; omega
 have hm0' : ((m : Int) == 0) = false := by simp; omega
 have hless := fun (W : World) (hW : Below w.heap.size w W) => r3less_ok p q n m c c' f g W (s1.ext (.of_below hW)) (s2.ext (.of_below hW)) d1 d2
 rw [decide_eq_true (by omega)] at hless
 rw [← hs] at hd ⊢
 clear hs
 generalize decide (z < 0) = s at *
 go_enter Tryz.func299, Tryz.ntmps299
 go_wp2_with fail
 refine boxes3c fun W hB hs b0 b1 b2 => ?_
 refine (hless W hB).mono ?_
 rintro e Wl ⟨rfl, kl, rfl⟩
 have hBl := below_drewN hB kl
 replace b0 : Box (W.drewN kl) w.heap.size 33 #[.bool s, .slice p n c] := ⟨b0.blk⟩
 replace b1 : Box (W.drewN kl) (w.heap.size + 1) 33 #[.bool s, .slice q m c'] := ⟨b1.blk⟩
 replace b2 : Box (W.drewN kl) (w.heap.size + 1 + 1) 33 #[.bool false, .slice none 0 0] := ⟨b2.blk⟩
 have hsl : w.heap.size + 1 + 1 + 1 ≤ (W.drewN kl).heap.size := hs
 clear hless hB hs
 generalize W.drewN kl = V at *
 have cb0 := b0.cell
 have lb0 := b0.lt
 have fb0 := b0.frozen
 have cb1 := b1.cell
 have lb1 := b1.lt
 have fb1 := b1.frozen
 go_wp2_with fail
 refine (hd V hBl).mono ?_
 rintro e W1 ⟨v', rfl, hl1, hb1⟩
 replace b2 := b2.below hb1
 have hB1 := belowCall hBl hb1
 have hs1 := hb1.size
 clear hd cb0 cb1 fb0 fb1 lb0 lb1 b0 b1
 go_wp2_with fail
 refine (hmi W1 v' hl1).mono ?_
 rintro e W2 ⟨v2, rfl, hl2, hb2⟩
 replace b2 := b2.below hb2
 have hB2 := belowCall hB1 hb2
 obtain ⟨C, rfl, hCs, hCo⟩ := hl2.cells
 have hiC : (Tryz.prog.info? 33).map (·.size) = some C.size := by rw [hCs]; exact sizeLong
 clear hmi hl1 hb1 hb2 hB1
 go_wp2_with first | (refine wpList_store_box rfl 33 _ _ rfl (w.heap.size + 1 + 1) 0 33 _ C C rfl rfl b2 hiC (by rw [hCs]; exact Nat.le_of_ble_eq_true rfl) hCo (whole_new (by rw [hCs]; rfl)) ?_; intro W3 hk b4)
 have hb3 := hk.below hB2 (by omega) hB2.size
 refine bodyPost_ret (b4.results rfl _ _ rfl Tryz.underlying33 rfl hiC) rfl ⟨_, rfl, ?_, hb3⟩
 rw [show z - y = -(y - z) by omega]
 exact hl2.ext (hk.ext b2 (by decide))
theorem r3diff_same {m1 m2 : Nat} {v1 v2 : Value} {z y : Int} (w : World) (h1 : LgV m1 w v1 z) (h2 : LgV m2 w v2 y) (hz : z ≠ 0) (hy : y ≠ 0) (hs : decide (z < 0) = decide (y < 0)) (hm1 : m1 ≤ 100000) (hm2 : m2 ≤ 100000) :
  Calls Tryz.prog 299 #[v1, v2] w fun e w' => ∃ v, e = .returned v ∧ LgV (max m1 m2) w' v (z - y) ∧ Below w.heap.size w w' := by
 by_cases h : y.natAbs ≤ z.natAbs
 ·refine (r3diff_ge w h1 h2 hz hy hs h hm1).mono ?_
  rintro e w' ⟨v, rfl, hl, hb⟩
  exact ⟨v, rfl, hl.mono (by omega), hb⟩
 ·refine (r3diff_lt w h1 h2 hz hy hs (by omega) hm2).mono ?_
  rintro e w' ⟨v, rfl, hl, hb⟩
  exact ⟨v, rfl, hl.mono (by omega), hb⟩
theorem r3sum_same {m1 m2 : Nat} {v1 v2 : Value} {z y : Int} (w : World) (h1 : LgV m1 w v1 z) (h2 : LgV m2 w v2 y) (hz : z ≠ 0) (hy : y ≠ 0) (hs : decide (z < 0) = decide (y < 0)) (hm1 : m1 ≤ 100000) (hm2 : m2 ≤ 100000) :
  Calls Tryz.prog 281 #[v1, v2] w fun e w' => ∃ v, e = .returned v ∧ LgV (max m1 m2 + 1) w' v (z + y) ∧ Below w.heap.size w w' := by
 obtain ⟨p, n, c, f, rfl, s1, d1, e1, l1⟩ := h1
 obtain ⟨q, m, c', g, rfl, s2, d2, e2, l2⟩ := h2
 have hn0 : 0 < n := d1.pos.1 (by omega)
 have hm0 : 0 < m := d2.pos.1 (by omega)
 have hsg : (z < 0 ↔ y < 0) := by simpa using hs
 rw [← hs]
 refine (r3sum_digits _ p q n m c c' f g w s1 s2 d1 d2 hn0 hm0 (by omega) (by omega)).mono ?_
 rintro e w' ⟨p', k, c2, h, rfl, hsl, hd, hv, hk, hb⟩
 rw [e1, e2] at hv
 have hneg : decide (z < 0) = decide (z + y < 0) := by rw [decide_eq_decide]; omega
 rw [hneg]
 exact ⟨_, rfl, ⟨p', k, c2, h, rfl, hsl, hd, by omega, by omega⟩, hb⟩
end Go.Proofs.YtccmnjkgfgnmoaaGreatDoor
namespace Go.Mono
open Go.RowKit
theorem LgV.zero {m : Nat} {w : World} {v : Value} (h : LgV m w v 0) : ∃ p c, v = .agg #[.bool false, .slice p 0 c] := by
 obtain ⟨p, n, c, f, rfl, h1, h2, h3, h4⟩ := h
 have : ¬ 0 < n := fun h => by have := h2.pos.2 h; simp at h3; omega
 obtain rfl : n = 0 := by omega
 exact ⟨p, c, rfl⟩
theorem LgV.nz {m : Nat} {w : World} {v : Value} {z : Int} (h : LgV m w v z) (hz : z ≠ 0) : ∃ p n c, v = .agg #[.bool (decide (z < 0)), .slice p n c] ∧ 0 < n := by
 obtain ⟨p, n, c, f, rfl, h1, h2, h3, h4⟩ := h
 exact ⟨p, n, c, rfl, h2.pos.1 (by omega)⟩
theorem LgV.parts {m : Nat} {w : World} {v : Value} {z : Int} (h : LgV m w v z) : ∃ s p n c, v = .agg #[.bool s, .slice p n c] := by
 obtain ⟨p, n, c, f, rfl, h1, h2, h3, h4⟩ := h
 exact ⟨_, p, n, c, rfl⟩
end Go.Mono
namespace Go.Proofs.YtccmnjkgfgnmoaaGreatDoor
open Go.RowKit Go.Mono
theorem box3_new (w : World) (T0 T1 T2 : TypeId) (c0 c1 c2 : Array Value) : Box (((w.alloc (.cells c0 T0)).alloc (.cells c1 T1)).alloc (.cells c2 T2)) (w.heap.size + 1 + 1) T2 c2 := by
 have b := Box.new ((w.alloc (.cells c0 T0)).alloc (.cells c1 T1)) T2 c2
 simp only [World.size_alloc] at b
 exact b
theorem below3_new (w : World) (a b c : Obj) : Below w.heap.size w (((w.alloc a).alloc b).alloc c) := belowAlloc (belowAlloc (belowAlloc (Below.refl _ _) _) _) _
theorem r3sum_zero1 {m1 m2 : Nat} {v1 v2 : Value} {y : Int} (w : World) (h1 : LgV m1 w v1 0) (h2 : LgV m2 w v2 y) :
  Calls Tryz.prog 281 #[v1, v2] w fun e w' => ∃ v, e = .returned v ∧ LgV m2 w' v y ∧ Below w.heap.size w w' := by
 obtain ⟨p, c, rfl⟩ := h1.zero
 obtain ⟨s, q, m, c', rfl⟩ := h2.parts
 go_enter Tryz.func281, Tryz.ntmps281
 go_wp2_with fail
 exact bodyPost_ret ((box3_new w _ _ _ _ _ _).results rfl _ _ rfl Tryz.underlying33 rfl sizeLong) rfl ⟨_, rfl, h2.below (below3_new w _ _ _), below3_new w _ _ _⟩
theorem r3sum_zero2 {m1 m2 : Nat} {v1 v2 : Value} {z : Int} (w : World) (h1 : LgV m1 w v1 z) (h2 : LgV m2 w v2 0) (hz : z ≠ 0) :
  Calls Tryz.prog 281 #[v1, v2] w fun e w' => ∃ v, e = .returned v ∧ LgV m1 w' v z ∧ Below w.heap.size w w' := by
 obtain ⟨p, c, rfl⟩ := h2.zero
 obtain ⟨q, n, c', rfl, hn⟩ := h1.nz hz
 have hn' : ((n : Int) == 0) = false := by simp; omega
 generalize decide (z < 0) = s at *
 go_enter Tryz.func281, Tryz.ntmps281
 go_wp2_with fail
 exact bodyPost_ret ((box3_new w _ _ _ _ _ _).results rfl _ _ rfl Tryz.underlying33 rfl sizeLong) rfl ⟨_, rfl, h1.below (below3_new w _ _ _), below3_new w _ _ _⟩
theorem r3diff_zero2 {m1 m2 : Nat} {v1 v2 : Value} {z : Int} (w : World) (h1 : LgV m1 w v1 z) (h2 : LgV m2 w v2 0) (hz : z ≠ 0) :
  Calls Tryz.prog 299 #[v1, v2] w fun e w' => ∃ v, e = .returned v ∧ LgV m1 w' v z ∧ Below w.heap.size w w' := by
 obtain ⟨p, c, rfl⟩ := h2.zero
 obtain ⟨q, n, c', rfl, hn⟩ := h1.nz hz
 have hn' : ((n : Int) == 0) = false := by simp; omega
 generalize decide (z < 0) = s at *
 go_enter Tryz.func299, Tryz.ntmps299
 go_wp2_with fail
 exact bodyPost_ret ((box3_new w _ _ _ _ _ _).results rfl _ _ rfl Tryz.underlying33 rfl sizeLong) rfl ⟨_, rfl, h1.below (below3_new w _ _ _), below3_new w _ _ _⟩
theorem r3diff_zero1 {m1 m2 : Nat} {v1 v2 : Value} {y : Int} (w : World) (h1 : LgV m1 w v1 0) (h2 : LgV m2 w v2 y) (hm2 : m2 ≤ 100000) :
  Calls Tryz.prog 299 #[v1, v2] w fun e w' => ∃ v, e = .returned v ∧ LgV m2 w' v (-y) ∧ Below w.heap.size w w' := by
 have hmi := fun (W : World) (hW : Below w.heap.size w W) => r3minus_ok W (h2.below hW) hm2
 obtain ⟨p, c, rfl⟩ := h1.zero
 obtain ⟨s, q, m, c', rfl⟩ := h2.parts
 go_enter Tryz.func299, Tryz.ntmps299
 go_wp2_with fail
 refine boxes3c fun W hB hs b0 b1 b2 => ?_
 refine (hmi W hB).mono ?_
 rintro e W2 ⟨v2, rfl, hl2, hb2⟩
 replace b2 := b2.below hb2
 have hB2 := belowCall hB hb2
 obtain ⟨C, rfl, hCs, hCo⟩ := hl2.cells
 have hiC : (Tryz.prog.info? 33).map (·.size) = some C.size := by rw [hCs]; exact sizeLong
 clear hmi hb2 b0 b1
 go_wp2_with first | (refine wpList_store_box rfl 33 _ _ rfl (w.heap.size + 1 + 1) 0 33 _ C C rfl rfl b2 hiC (by rw [hCs]; exact Nat.le_of_ble_eq_true rfl) hCo (whole_new (by rw [hCs]; rfl)) ?_; intro W3 hk b4)
 have hb3 := hk.below hB2 (by omega) hB2.size
 exact bodyPost_ret (b4.results rfl _ _ rfl Tryz.underlying33 rfl hiC) rfl ⟨_, rfl, hl2.ext (hk.ext b2 (by decide)), hb3⟩
theorem r3sum_other {m1 m2 : Nat} {v1 v2 : Value} {z y : Int} (w : World) (h1 : LgV m1 w v1 z) (h2 : LgV m2 w v2 y) (hz : z ≠ 0) (hy : y ≠ 0) (hs : ¬ decide (z < 0) = decide (y < 0)) (hm1 : m1 ≤ 100000) (hm2 : m2 ≤ 100000) :
  Calls Tryz.prog 281 #[v1, v2] w fun e w' => ∃ v, e = .returned v ∧ LgV (max m1 m2) w' v (z + y) ∧ Below w.heap.size w w' := by
 have hmi := fun (W : World) (hW : Below w.heap.size w W) => r3minus_ok W (h2.below hW) hm2
 have hsg : ¬ (z < 0 ↔ y < 0) := by simpa using hs
 have hd := fun (W : World) (v : Value) (hW : Below w.heap.size w W) (h : LgV m2 W v (-y)) => r3diff_same W (h1.below hW) h hz (by omega) (by rw [decide_eq_decide]; omega) hm1 hm2
 obtain ⟨p, n, c, rfl, hn0⟩ := h1.nz hz
 obtain ⟨q, m, c', rfl, hm0⟩ := h2.nz hy
 have hn0' : ((n : Int) == 0) = false := by simp; omega
 have hm0' : ((m : Int) == 0) = false := by simp; omega
 have hst : (decide (z < 0) != decide (y < 0)) = true := by simpa using hs
 clear hs
 generalize decide (z < 0) = s at *
 generalize decide (y < 0) = t at *
 have hst2 : (!s == t) = true := by cases s <;> cases t <;> simp_all
 go_enter Tryz.func281, Tryz.ntmps281
 go_wp2_with fail
 refine boxes3 fun W hB hs b0 b1 b2 => ?_
 refine wp_region_held_drew (S := fun w' => KeepBut (w.heap.size + 1 + 1) W.heap.size W w') (by as_aux_lemma => kernel_rfl) (KeepBut.refl _ _).drew (fun hHeld => ?_)
 generalize hX : W.drew = X0 at *
 have r0 : ∀ X, KeepBut (w.heap.size + 1 + 1) W.heap.size W X → X.rangeAt w.heap.size 0 (#[.bool s, .slice p n c] : Array Value).toList := fun X h => (h.box b0 b0.lt (by omega)).range
 have r1 : ∀ X, KeepBut (w.heap.size + 1 + 1) W.heap.size W X → X.rangeAt (w.heap.size + 1) 0 (#[.bool t, .slice q m c'] : Array Value).toList := fun X h => (h.box b1 b1.lt (by omega)).range
 refine tl 0 (some 24) rfl (.agg #[.bool s, .slice p n c]) (exec_load 33 _ rfl w.heap.size 0 rfl #[.bool s, .slice p n c] r0 _ Tryz.underlying33 rfl sizeLong) ?_
 refine tl 1 (some 25) rfl (.agg #[.bool t, .slice q m c']) (exec_load 33 _ rfl (w.heap.size + 1) 0 rfl #[.bool t, .slice q m c'] r1 _ Tryz.underlying33 rfl sizeLong) ?_
 have hBX : Below w.heap.size w X0 := by rw [← hX]; exact hB.drew
 have b2X : Box X0 (w.heap.size + 1 + 1) 33 #[.bool false, .slice none 0 0] := by rw [← hX]; exact b2.drew
 refine Mono.stc 2 (some 26) (hmi X0 hBX) (fun e X1 hR => ?_)
 obtain ⟨v', rfl, hl1, hb1⟩ := hR
 refine ⟨(hHeld.call hb1), fun hHeld => Mono.pt ?_⟩
 have hBX1 := belowCall hBX hb1
 refine Mono.stc 3 (some 27) (hd X1 v' hBX1 hl1) (fun e X2 hR => ?_)
 obtain ⟨v2, rfl, hl2, hb2⟩ := hR
 refine ⟨(hHeld.call hb2), fun hHeld => Mono.pt ?_⟩
 have hBX2 := belowCall hBX1 hb2
 have b2Y := (b2X.below hb1).below hb2
 obtain ⟨C, rfl, hCs, hCo⟩ := hl2.cells
 have hiC : (Tryz.prog.info? 33).map (·.size) = some C.size := by rw [hCs]; exact sizeLong
 have hn2 : (#[.bool false, .slice none 0 0] : Array Value).size = C.size := by rw [hCs]; rfl
 refine wpAnyH_storeA (w.heap.size + 1 + 1) 33 4 rfl rfl rfl rfl 0 C #[.bool false, .slice none 0 0] C (by as_aux_lemma => kernel_rfl) (fun w i u h => h.set i u) (by as_aux_lemma => kernel_rfl) (by as_aux_lemma => kernel_rfl) b2Y hHeld hiC (by rw [hCs]; exact Nat.le_of_ble_eq_true rfl) hCo (whole_new hn2) (fun Y hk b4 hHeld => ?_)
 refine wpAnyH_done (by as_aux_lemma => kernel_rfl) ?_ _
 have hlg := hl2.ext (hk.ext b2Y (by decide))
 have hb3 := hk.below hBX2 (by omega) hBX2.size
 clear r0 r1 b2X hX hBX hmi hd hl1 hb1 hBX1 hl2 hb2 b2Y hk hHeld b0 b1 b2 hB h1 h2
 go_wp2
 refine bodyPost_ret (b4.results rfl _ _ rfl Tryz.underlying33 rfl hiC) rfl ⟨_, rfl, ?_, hb3⟩
 rw [show z + y = z - -y by omega]
 exact hlg
theorem r3sum_ok {m1 m2 : Nat} {v1 v2 : Value} {z y : Int} (w : World) (h1 : LgV m1 w v1 z) (h2 : LgV m2 w v2 y) (hm1 : m1 ≤ 100000) (hm2 : m2 ≤ 100000) :
  Calls Tryz.prog 281 #[v1, v2] w fun e w' => ∃ v, e = .returned v ∧ LgV (max m1 m2 + 1) w' v (z + y) ∧ Below w.heap.size w w' := by
 by_cases hz : z = 0
 ·subst hz
  refine (r3sum_zero1 w h1 h2).mono ?_
  rintro e w' ⟨v, rfl, hl, hb⟩
  exact ⟨v, rfl, by rw [Int.zero_add]; exact hl.mono (by omega), hb⟩
 ·by_cases hy : y = 0
  ·subst hy
   refine (r3sum_zero2 w h1 h2 hz).mono ?_
   rintro e w' ⟨v, rfl, hl, hb⟩
   exact ⟨v, rfl, by rw [Int.add_zero]; exact hl.mono (by omega), hb⟩
  ·by_cases hs : decide (z < 0) = decide (y < 0)
   ·exact r3sum_same w h1 h2 hz hy hs hm1 hm2
   ·refine (r3sum_other w h1 h2 hz hy hs hm1 hm2).mono ?_
    rintro e w' ⟨v, rfl, hl, hb⟩
    exact ⟨v, rfl, hl.mono (by omega), hb⟩
theorem r3diff_other {m1 m2 : Nat} {v1 v2 : Value} {z y : Int} (w : World) (h1 : LgV m1 w v1 z) (h2 : LgV m2 w v2 y) (hz : z ≠ 0) (hy : y ≠ 0) (hs : ¬ decide (z < 0) = decide (y < 0)) (hm1 : m1 ≤ 100000) (hm2 : m2 ≤ 100000) :
  Calls Tryz.prog 299 #[v1, v2] w fun e w' => ∃ v, e = .returned v ∧ LgV (max m1 m2 + 1) w' v (z - y) ∧ Below w.heap.size w w' := by
 have hmi := fun (W : World) (hW : Below w.heap.size w W) => r3minus_ok W (h2.below hW) hm2
 have hsg : ¬ (z < 0 ↔ y < 0) := by simpa using hs
 have hd := fun (W : World) (v : Value) (hW : Below w.heap.size w W) (h : LgV m2 W v (-y)) => r3sum_same W (h1.below hW) h hz (by omega) (by rw [decide_eq_decide]; omega) hm1 hm2
 obtain ⟨p, n, c, rfl, hn0⟩ := h1.nz hz
 obtain ⟨q, m, c', rfl, hm0⟩ := h2.nz hy
 have hn0' : ((n : Int) == 0) = false := by simp; omega
 have hm0' : ((m : Int) == 0) = false := by simp; omega
 have hst : (decide (z < 0) != decide (y < 0)) = true := by simpa using hs
 clear hs
 generalize decide (z < 0) = s at *
 generalize decide (y < 0) = t at *
 have hst2 : (!s == t) = true := by cases s <;> cases t <;> simp_all
 go_enter Tryz.func299, Tryz.ntmps299
 go_wp2_with fail
 refine boxes3 fun W hB hs b0 b1 b2 => ?_
 refine wp_region_held_drew (S := fun w' => KeepBut (w.heap.size + 1 + 1) W.heap.size W w') (by as_aux_lemma => kernel_rfl) (KeepBut.refl _ _).drew (fun hHeld => ?_)
 generalize hX : W.drew = X0 at *
 have r0 : ∀ X, KeepBut (w.heap.size + 1 + 1) W.heap.size W X → X.rangeAt w.heap.size 0 (#[.bool s, .slice p n c] : Array Value).toList := fun X h => (h.box b0 b0.lt (by omega)).range
 have r1 : ∀ X, KeepBut (w.heap.size + 1 + 1) W.heap.size W X → X.rangeAt (w.heap.size + 1) 0 (#[.bool t, .slice q m c'] : Array Value).toList := fun X h => (h.box b1 b1.lt (by omega)).range
 refine tl 0 (some 25) rfl (.agg #[.bool s, .slice p n c]) (exec_load 33 _ rfl w.heap.size 0 rfl #[.bool s, .slice p n c] r0 _ Tryz.underlying33 rfl sizeLong) ?_
 refine tl 1 (some 26) rfl (.agg #[.bool t, .slice q m c']) (exec_load 33 _ rfl (w.heap.size + 1) 0 rfl #[.bool t, .slice q m c'] r1 _ Tryz.underlying33 rfl sizeLong) ?_
 have hBX : Below w.heap.size w X0 := by rw [← hX]; exact hB.drew
 have b2X : Box X0 (w.heap.size + 1 + 1) 33 #[.bool false, .slice none 0 0] := by rw [← hX]; exact b2.drew
 refine Mono.stc 2 (some 27) (hmi X0 hBX) (fun e X1 hR => ?_)
 obtain ⟨v', rfl, hl1, hb1⟩ := hR
 refine ⟨(hHeld.call hb1), fun hHeld => Mono.pt ?_⟩
 have hBX1 := belowCall hBX hb1
 refine Mono.stc 3 (some 28) (hd X1 v' hBX1 hl1) (fun e X2 hR => ?_)
 obtain ⟨v2, rfl, hl2, hb2⟩ := hR
 refine ⟨(hHeld.call hb2), fun hHeld => Mono.pt ?_⟩
 have hBX2 := belowCall hBX1 hb2
 have b2Y := (b2X.below hb1).below hb2
 obtain ⟨C, rfl, hCs, hCo⟩ := hl2.cells
 have hiC : (Tryz.prog.info? 33).map (·.size) = some C.size := by rw [hCs]; exact sizeLong
 have hn2 : (#[.bool false, .slice none 0 0] : Array Value).size = C.size := by rw [hCs]; rfl
 refine wpAnyH_storeA (w.heap.size + 1 + 1) 33 4 rfl rfl rfl rfl 0 C #[.bool false, .slice none 0 0] C (by as_aux_lemma => kernel_rfl) (fun w i u h => h.set i u) (by as_aux_lemma => kernel_rfl) (by as_aux_lemma => kernel_rfl) b2Y hHeld hiC (by rw [hCs]; exact Nat.le_of_ble_eq_true rfl) hCo (whole_new hn2) (fun Y hk b4 hHeld => ?_)
 refine wpAnyH_done (by as_aux_lemma => kernel_rfl) ?_ _
 have hlg := hl2.ext (hk.ext b2Y (by decide))
 have hb3 := hk.below hBX2 (by omega) hBX2.size
 clear r0 r1 b2X hX hBX hmi hd hl1 hb1 hBX1 hl2 hb2 b2Y hk hHeld b0 b1 b2 hB h1 h2
 go_wp2
 refine bodyPost_ret (b4.results rfl _ _ rfl Tryz.underlying33 rfl hiC) rfl ⟨_, rfl, ?_, hb3⟩
 rw [show z - y = z + -y by omega]
 exact hlg
theorem r3diff_ok {m1 m2 : Nat} {v1 v2 : Value} {z y : Int} (w : World) (h1 : LgV m1 w v1 z) (h2 : LgV m2 w v2 y) (hm1 : m1 ≤ 100000) (hm2 : m2 ≤ 100000) :
  Calls Tryz.prog 299 #[v1, v2] w fun e w' => ∃ v, e = .returned v ∧ LgV (max m1 m2 + 1) w' v (z - y) ∧ Below w.heap.size w w' := by
 by_cases hz : z = 0
 ·subst hz
  refine (r3diff_zero1 w h1 h2 hm2).mono ?_
  rintro e w' ⟨v, rfl, hl, hb⟩
  exact ⟨v, rfl, by rw [Int.zero_sub]; exact hl.mono (by omega), hb⟩
 ·by_cases hy : y = 0
  ·subst hy
   refine (r3diff_zero2 w h1 h2 hz).mono ?_
   rintro e w' ⟨v, rfl, hl, hb⟩
   exact ⟨v, rfl, by rw [Int.sub_zero]; exact hl.mono (by omega), hb⟩
  ·by_cases hs : decide (z < 0) = decide (y < 0)
   ·refine (r3diff_same w h1 h2 hz hy hs hm1 hm2).mono ?_
    rintro e w' ⟨v, rfl, hl, hb⟩
    exact ⟨v, rfl, hl.mono (by omega), hb⟩
   ·exact r3diff_other w h1 h2 hz hy hs hm1 hm2
structure PInv (w wr : World) (R L : Nat) (d : Nat → Int) (A0 A1 : Array Value) : Prop where
 row : RowF wr R L d
 lo : ∀ j, j < L → 0 ≤ d j
 hi : ∀ j, j < L → d j < 1000000000
 b0 : Box wr w.heap.size 33 A0
 b1 : Box wr (w.heap.size + 1) 33 A1
 b2 : Box wr (w.heap.size + 1 + 1) 33 #[.bool false, .slice none 0 0]
 below : Below w.heap.size w wr
 above : w.heap.size + 1 + 1 + 1 ≤ R
theorem PInv.set {w wr : World} {R L : Nat} {d : Nat → Int} {A0 A1 : Array Value} (h : PInv w wr R L d A0 A1) (j : Nat) (x : Int) (x0 : 0 ≤ x) (x1 : x < 1000000000) :
  PInv w (wr.setCell ⟨R, j, none⟩ (.int .i64 x)) R L (fun i => if i = j then x else d i) A0 A1 := by
 have ha := h.above
 refine ⟨h.row.set j x, fun i hi => ?_, fun i hi => ?_, h.b0.other _ _ (by show w.heap.size ≠ R; omega), h.b1.other _ _ (by show w.heap.size + 1 ≠ R; omega), h.b2.other _ _ (by show w.heap.size + 1 + 1 ≠ R; omega), belowSet h.below (by omega) _ _, ha⟩
 ·split
  ·exact x0
  ·exact h.lo i hi
 ·split
  ·exact x1
  ·exact h.hi i hi
theorem PInv.drewN {w wr : World} {R L : Nat} {d : Nat → Int} {A0 A1 : Array Value} (h : PInv w wr R L d A0 A1) (k : Nat) : PInv w (wr.drewN k) R L d A0 A1 :=
 ⟨h.row.drewN k, h.lo, h.hi, ⟨h.b0.blk⟩, ⟨h.b1.blk⟩, ⟨h.b2.blk⟩, below_drewN h.below k, h.above⟩
theorem prod_room {f g : Nat → Int} {n m i k : Nat} (d1 : Digs f n) (d2 : Digs g m) (hi : i < n) (hk : k < m) : vf f i * vf g m + f i * pw i * vf g (k + 1) < pw (n + m) := by
 have f0 := d1.lo i hi
 have p0 := pw_pos i
 have hg : vf g (k + 1) ≤ vf g m := by
  obtain ⟨e, rfl⟩ := Nat.exists_eq_add_of_le (show k + 1 ≤ m by omega)
  rw [vf_split g (k + 1) e]
  have h1 : 0 ≤ vf (fun j => g (k + 1 + j)) e := vf_nonneg fun j hj => d2.lo _ (by omega)
  have := Int.mul_nonneg (Int.le_of_lt (pw_pos (k + 1))) h1
  omega
 have h1 : f i * pw i * vf g (k + 1) ≤ f i * pw i * vf g m := Int.mul_le_mul_of_nonneg_left hg (Int.mul_nonneg f0 (Int.le_of_lt p0))
 have h2 : vf f i * vf g m + f i * pw i * vf g m = vf f (i + 1) * vf g m := by rw [vf_succ, Int.add_mul]
 have h3 : vf f (i + 1) < pw (i + 1) := vf_lt fun j hj => d1.hi j (by omega)
 have h4 : vf g m < pw m := d2.lt
 have h5 : 0 ≤ vf g m := d2.nonneg
 have h6 : 0 ≤ vf f (i + 1) := vf_nonneg fun j hj => d1.lo j (by omega)
 have h7 : vf f (i + 1) * vf g m ≤ pw (i + 1) * vf g m := Int.mul_le_mul_of_nonneg_right (Int.le_of_lt h3) h5
 have h8 : pw (i + 1) * vf g m < pw (i + 1) * pw m := Int.mul_lt_mul_of_pos_left h4 (pw_pos _)
 have h9 := pw_mono (show i + 1 + m ≤ n + m by omega)
 rw [pw_add] at h9
 omega
theorem r3prod_digits (s t : Bool) (p q : Option Addr) (n m c1 c2 : Nat) (f g : Nat → Int) (w : World) (h1 : SlF w (.slice p n c1) n f) (h2 : SlF w (.slice q m c2) m g) (d1 : Digs f n) (d2 : Digs g m) (hn6 : n ≤ 100000) (hm6 : m ≤ 100000) :
  Calls Tryz.prog 282 #[.agg #[.bool s, .slice p n c1], .agg #[.bool t, .slice q m c2]] w fun e w' => ∃ p k c h, e = .returned (.agg #[.bool ((s != t) && decide (0 < vf f n * vf g m)), .slice p k c]) ∧ SlF w' (.slice p k c) k h ∧ Digs h k ∧ vf h k = vf f n * vf g m ∧ k ≤ n + m ∧ Below w.heap.size w w' := by
 obtain ⟨hc1, hn1, hx1⟩ := h1.opens
 obtain ⟨hc2, hn2, hx2⟩ := h2.opens
 obtain ⟨sg, hsg⟩ : ∃ sg : Bool, ((s != t) && decide (0 < vf f n * vf g m)) = sg := ⟨_, rfl⟩
 rw [hsg]
 replace hsg := Lib.hid hsg
 go_enter Tryz.func282, Tryz.ntmps282
 go_wp2_with (first
  | (at_make; refine wpList_make_ints _ rfl _ _ 26 rfl Tryz.underlying26 infoInt _ _ (n + m) rfl rfl (by simp) (by simp) (by omega) ?_; intro W1 r1 hb1))
 have hR : ((((w.alloc (.cells #[.bool s, .slice p n c1] 33)).alloc (.cells #[.bool t, .slice q m c2] 33)).alloc (.cells #[.bool false, .slice none 0 0] 33))).heap.size = w.heap.size + 1 + 1 + 1 := by simp
 rw [hR] at r1
 have hB := belowCall (below3_new w (.cells #[.bool s, .slice p n c1] 33) (.cells #[.bool t, .slice q m c2] 33) (.cells #[.bool false, .slice none 0 0] 33)) hb1
 have hI0 : PInv w W1 (w.heap.size + 1 + 1 + 1) (n + m) (fun _ => 0) #[.bool s, .slice p n c1] #[.bool t, .slice q m c2] := by
  have b1 := Box.new (w.alloc (.cells #[.bool s, .slice p n c1] 33)) 33 #[.bool t, .slice q m c2]
  simp only [World.size_alloc] at b1
  exact ⟨r1, fun _ _ => Int.le_refl _, fun _ _ => by decide, (((Box.new _ _ _).alloc _).alloc _).below hb1, (b1.alloc _).below hb1, (box3_new w _ _ _ _ _ _).below hb1, hB, Nat.le_refl _⟩
 clear hb1 hB hR r1
 go_loopw [6] (fun a wr => ∃ (i : Nat) (d : Nat → Int), i ≤ n ∧ a = .int .i64 (i : Int) ∧ vf d (n + m) = vf f i * vf g m ∧ PInv w wr (w.heap.size + 1 + 1 + 1) (n + m) d #[.bool s, .slice p n c1] #[.bool t, .slice q m c2]) (fun a _ => (n - intOf a).toNat)
 case atStart => exact ⟨0, _, Nat.zero_le _, rfl, by rw [vf_zero (fun i _ => rfl)]; simp [vf], hI0⟩
 case round =>
  clear hI0
  obtain ⟨i, d, hi, rfl, hv, hI⟩ := hrel
  replace hv := Lib.hid hv
  have b0 := hI.b0
  have b1 := hI.b1
  have cb0 := b0.cell
  have lb0 := b0.lt
  have fb0 := b0.frozen
  have cb1 := b1.cell
  have lb1 := b1.lt
  have fb1 := b1.frozen
  by_cases hin : i < n
  ·have hin' : (i : Int) < n := by omega
   go_wp2
   clear cb0 lb0 fb0 cb1 lb1 fb1 b0 b1
   go_loopw [7] (fun a wr => ∃ (k : Nat) (d : Nat → Int), k ≤ m ∧ a = .int .i64 (k : Int) ∧ vf d (n + m) = vf f i * vf g m + f i * pw i * vf g k ∧ PInv w wr (w.heap.size + 1 + 1 + 1) (n + m) d #[.bool s, .slice p n c1] #[.bool t, .slice q m c2]) (fun a _ => (m - intOf a).toNat)
   case atStart => exact ⟨0, d, Nat.zero_le _, rfl, by rw [hv.out]; simp [vf], hI⟩
   case round =>
    clear hI hv d
    obtain ⟨k, d, hk, rfl, hv, hI⟩ := hrel
    replace hv := Lib.hid hv
    have b0 := hI.b0
    have b1 := hI.b1
    have cb0 := b0.cell
    have lb0 := b0.lt
    have fb0 := b0.frozen
    have cb1 := b1.cell
    have lb1 := b1.lt
    have fb1 := b1.frozen
    by_cases hkm : k < m
    ·have hkm' : (k : Int) < m := by omega
     obtain ⟨b, off, rfl, hb, hcell⟩ := hx1 (by omega)
     obtain ⟨b', off', rfl, hb', hcell'⟩ := hx2 (by omega)
     have a1 := (hI.below.cell (p := ⟨b, off + i, none⟩) hb).trans (hcell i hin)
     have a2 := (hI.below.cell (p := ⟨b', off' + k, none⟩) hb').trans (hcell' k hkm)
     obtain ⟨m0, m1⟩ := mul_dig (d1.lo i hin) (d1.hi i hin) (d2.lo k hkm) (d2.hi k hkm)
     clear hcell hcell'
     go_wp2
     go_quiet (fail)
     go_wp2
     have hroom := prod_room d1 d2 hin hkm
     have hv2 : vf d (n + m) + f i * g k * pw (i + k) = vf f i * vf g m + f i * pw i * vf g (k + 1) := by
      rw [hv.out, vf_succ, pw_add]; grind
     have hIq := hI.drewN nq
     obtain ⟨V, hV⟩ : ∃ V, vf f i * vf g m + f i * pw i * vf g (k + 1) = V := ⟨_, rfl⟩
     rw [hV] at hroom hv2
     replace hV := Lib.hid hV
     generalize f i * g k = x0 at *
     clear hv hI cb0 lb0 fb0 cb1 lb1 fb1 b0 b1 a1 a2
     go_loopw [8, 9] (fun u v wr => ∃ (x : Int) (j : Nat) (d : Nat → Int), 0 ≤ x ∧ x ≤ 999999999 * 999999999 ∧ u = .int .i64 x ∧ v = .int .i64 (j : Int) ∧ vf d (n + m) + x * pw j = V ∧ PInv w wr (w.heap.size + 1 + 1 + 1) (n + m) d #[.bool s, .slice (some ⟨b, off, none⟩) n c1] #[.bool t, .slice (some ⟨b', off', none⟩) m c2]) (fun _ v _ => (n + m - intOf v).toNat)
     case atStart => exact ⟨x0, i + k, d, m0, m1, rfl, by simp, hv2, hIq⟩
     case round =>
      clear hIq hv2 d
      obtain ⟨x, j, d, hx0, hx9, rfl, rfl, hv, hI⟩ := hrel
      by_cases hgo : 0 < x
      ·have hj := carry_room hI.lo hv hgo hroom
       have hpc := put_carry d (n + m) j x hj
       have a1 := hI.row.cell j hj
       have a2 := hI.row.frozen j
       have q1 := hI.lo j hj
       have q2 := hI.hi j hj
       have hst := hI.set j ((x + d j) % 1000000000) (by omega) (by omega)
       have hj1 : (j : Int) < (n : Int) + m := by omega
       generalize hdj : d j = y at *
       clear hI
       go_wp2
       go_roundw
       case rel =>
        refine ⟨(x + y) / 1000000000, j + 1, _, by omega, by omega, by first | rfl | simp, by simp, ?_, hst⟩
        rw [← hv]
        exact hpc
       case measure => simp [intOf]; omega
      ·obtain rfl : x = 0 := by omega
       have hv3 : vf d (n + m) = V := by simpa using hv
       go_wp2
       go_roundw
       case rel => exact ⟨k + 1, d, by omega, by simp, by rw [hv3, hV.out], hI⟩
       case measure => simp [intOf]; omega
    ·obtain rfl : k = m := by omega
     have hv3 : vf d (n + k) = vf f (i + 1) * vf g k := by rw [hv.out, vf_succ, Int.add_mul]
     clear hv
     go_wp2
     go_roundw
     case rel => exact ⟨i + 1, d, by omega, by simp, hv3, hI⟩
     case measure => simp [intOf]; omega
  ·obtain rfl : i = n := by omega
   have hmm := fun W1 hW1 => r3made_ok (s != t) (some ⟨w.heap.size + 1 + 1 + 1, 0, none⟩) (i + m) (i + m) d W1 ((hI.row.slice (by omega) (i + m) (Nat.le_refl _) (i + m) (Nat.le_refl _)).ext hW1) (by omega) hI.lo hI.hi
   rw [hv.out, hsg.out] at hmm
   have b2 := hI.b2
   have hB := hI.below
   clear hx1 hx2
   go_wp2_with fail
   refine (hmm wr (Ext.refl _)).mono ?_
   rintro e W2 ⟨v', rfl, ho2, d3, e3, hb⟩
   replace b2 := b2.below hb
   have hB1 := belowCall hB hb
   obtain ⟨p', c', rfl⟩ := ho2.shape
   have hsl := ho2.sl (by have := trimN_le d (i + m); omega)
   clear hmm ho2 b0 b1 cb0 cb1 fb0 fb1 lb0 lb1 hI
   go_wp2_with first | (refine wpList_store_box rfl 33 _ _ rfl (w.heap.size + 1 + 1) 0 33 _ #[.bool sg, .slice p' (trimN d (i + m)) c'] #[.bool sg, .slice p' (trimN d (i + m)) c'] rfl rfl b2 sizeLong (Nat.le_of_ble_eq_true rfl) (long_ones _ _ _ _) (whole_new rfl) ?_; intro W3 hk b4)
   have hb2 := hk.below hB1 (by omega) hB1.size
   refine bodyPost_ret (b4.results rfl _ _ rfl Tryz.underlying33 rfl sizeLong) rfl ⟨p', _, c', d, rfl, hsl.ext (hk.ext b2 (by decide)), d3, e3, trimN_le d (i + m), hb2⟩
theorem r3prod_ok {m1 m2 : Nat} {v1 v2 : Value} {z y : Int} (w : World) (h1 : LgV m1 w v1 z) (h2 : LgV m2 w v2 y) (hm1 : m1 ≤ 100000) (hm2 : m2 ≤ 100000) :
  Calls Tryz.prog 282 #[v1, v2] w fun e w' => ∃ v, e = .returned v ∧ LgV (m1 + m2) w' v (z * y) ∧ Below w.heap.size w w' := by
 obtain ⟨p, n, c, f, rfl, s1, d1, e1, l1⟩ := h1
 obtain ⟨q, m, c', g, rfl, s2, d2, e2, l2⟩ := h2
 refine (r3prod_digits _ _ p q n m c c' f g w s1 s2 d1 d2 (by omega) (by omega)).mono ?_
 rintro e w' ⟨p', k, c2, h, rfl, hsl, hd, hv, hk, hb⟩
 rw [e1, e2] at hv ⊢
 have habs : ((z * y).natAbs : Int) = z.natAbs * y.natAbs := by rw [Int.natAbs_mul]; norm_cast
 have hneg : ((decide (z < 0) != decide (y < 0)) && decide (0 < (z.natAbs : Int) * y.natAbs)) = decide (z * y < 0) := by
  rw [← habs]
  rw [Bool.eq_iff_iff, Bool.and_eq_true, bne_iff_ne, ne_eq, decide_eq_decide, decide_eq_true_eq, decide_eq_true_eq]
  rcases Int.lt_trichotomy z 0 with hz | rfl | hz
  ·rcases Int.lt_trichotomy y 0 with hy | rfl | hy
   ·have := Int.mul_pos_of_neg_of_neg hz hy; omega
   ·simp
   ·have := Int.mul_neg_of_neg_of_pos hz hy; omega
  ·simp
  ·rcases Int.lt_trichotomy y 0 with hy | rfl | hy
   ·have := Int.mul_neg_of_pos_of_neg hz hy; omega
   ·simp
   ·have := Int.mul_pos hz hy; omega
 rw [hneg]
 exact ⟨_, rfl, ⟨p', k, c2, h, rfl, hsl, hd, by rw [hv, habs], by omega⟩, hb⟩
end Go.Proofs.YtccmnjkgfgnmoaaGreatDoor
