/- Drafted fractions, and the opening of a law's arguments. Part 5 of 6. No condition beside the row. -/
import Derived.Test.YtcgfdibagldafaaGreatDoorA13
import Derived.Test.YtcgfdibagldafaaGreatDoorA27
import Derived.Test.YtcgfdibagldafaaGreatDoorG01
import Derived.Test.YtcgfdibagldafaaGreatDoorG02
import Derived.Test.YtcgfdibagldafaaGreatDoorG03
import Derived.Test.YtcgfdibagldafaaGreatDoorG04
set_option linter.unusedVariables false
set_option linter.unusedSimpArgs false
set_option maxRecDepth 100000
set_option maxHeartbeats 4000000
namespace Go.Mono
open Go.RowKit
theorem Box.results2s {P : Program} {w : World} {B B1 : Nat} {T T1 : TypeId} {cs cs1 : Array Value} (b : Box w B T cs) (b1 : Box w B1 T1 cs1) {fn : Func} {p p1 : Tmp} {ty ty1 : TypeId} (h : fn.results = #[.cell p ty, .cell p1 ty1]) (tmps : Array Value) (d d1 : TypeDesc)
  (ht : tmps.getD p undef = .pointer (some ⟨B, 0, none⟩)) (ht1 : tmps.getD p1 undef = .pointer (some ⟨B1, 0, none⟩)) (hu : P.underlying ty = some d) (hd : d.isRow = true) (hi : (P.info? ty).map (·.size) = some cs.size)
  (hu1 : P.underlying ty1 = some d1) (hd1 : d1.isRow = true) (hi1 : (P.info? ty1).map (·.size) = some cs1.size) : (Go.results fn tmps).run P w = .ok (.tuple #[.agg cs, .agg cs1]) w := by
 have hp' : tmps[p]?.getD undef = .pointer (some ⟨B, 0, none⟩) := by simpa using ht
 have hp1 : tmps[p1]?.getD undef = .pointer (some ⟨B1, 0, none⟩) := by simpa using ht1
 have hld := run_loadVar_row (P := P) w B T ty cs (0, 0) d b.blk hu (by cases d <;> simp_all [TypeDesc.isRow]) hi
 have hld1 := run_loadVar_row (P := P) w B1 T1 ty1 cs1 (0, 0) d1 b1.blk hu1 (by cases d1 <;> simp_all [TypeDesc.isRow]) hi1
 simp [Go.results, h, hp', hp1, asAddr, hld, hld1]
theorem OwnF.lit (w : World) (x : Int) : OwnF (w.alloc (.cells #[.int .i64 x] 3)) w.heap.size (.slice (some ⟨w.heap.size, 0, none⟩) 1 1) 1 (fun _ => x) :=
 ⟨by simp, .inr ⟨w.heap.size, 1, #[.int .i64 x], rfl, Nat.le_refl _, (Box.new _ _ _).blk, Nat.le_refl _, by simp [maxLen], rfl, rfl⟩⟩
theorem cells_other {X : World} {B R j : Nat} {u : Value} {A : Array Value} (h : ∀ i, X.cell? ⟨B, i, none⟩ = A[i]?) (hne : B ≠ R) : ∀ i, (X.setCell ⟨R, j, none⟩ u).cell? ⟨B, i, none⟩ = A[i]? := fun i =>
 (World.cell?_of_block (a := ⟨B, i, none⟩) (Below.heap_setCell X ⟨R, j, none⟩ u B hne)).trans (h i)
structure QInv (w wr : World) (T : TypeId) (R n : Nat) (q : Nat → Int) (A0 A1 : Array Value) : Prop where
 row : RowF wr R n q
 b0 : Box wr w.heap.size T A0
 b1 : Box wr (w.heap.size + 1) T A1
 b2 : Box wr (w.heap.size + 1 + 1) T #[.bool false, .slice none 0 0]
 b3 : Box wr (w.heap.size + 1 + 1 + 1) T #[.bool false, .slice none 0 0]
 below : Below w.heap.size w wr
 above : w.heap.size + 1 + 1 + 1 + 1 ≤ R
theorem QInv.of_below {w wr w' : World} {T : TypeId} {R n : Nat} {q : Nat → Int} {A0 A1 : Array Value} (h : QInv w wr T R n q A0 A1) (hb : Below (R + 1) wr w') : QInv w w' T R n q A0 A1 := by
 have ha := h.above
 obtain ⟨cs, h1, h2⟩ := h.row
 exact ⟨⟨cs, (hb.block R (by omega)).trans h1, h2⟩, h.b0.low hb (by omega), h.b1.low hb (by omega), h.b2.low hb (by omega), h.b3.low hb (by omega), h.below.trans (hb.mono (by omega)), ha⟩
theorem QInv.set {w wr : World} {T : TypeId} {R n : Nat} {q : Nat → Int} {A0 A1 : Array Value} (h : QInv w wr T R n q A0 A1) (j : Nat) (x : Int) : QInv w (wr.setCell ⟨R, j, none⟩ (.int .i64 x)) T R n (fun i => if i = j then x else q i) A0 A1 := by
 have ha := h.above
 exact ⟨h.row.set j x, h.b0.other _ _ (by show w.heap.size ≠ R; omega), h.b1.other _ _ (by show w.heap.size + 1 ≠ R; omega), h.b2.other _ _ (by show w.heap.size + 1 + 1 ≠ R; omega), h.b3.other _ _ (by show w.heap.size + 1 + 1 + 1 ≠ R; omega), belowSet h.below (by omega) _ _, ha⟩
end Go.Mono
namespace Go.Proofs.YtcgfdibagldafaaGreatDoor
open Go.RowKit Go.Mono
theorem r3parts_digits (s t : Bool) (p q : Option Addr) (n m c1 c2 : Nat) (f g : Nat → Int) (w : World) (h1 : SlF w (.slice p n c1) n f) (h2 : SlF w (.slice q (m + 1) c2) (m + 1) g) (d1 : Digs f n) (d2 : Digs g (m + 1)) (hn6 : n ≤ 100000) (hm6 : m ≤ 100000) :
  Calls Tryz.prog 250 #[.agg #[.bool s, .slice p n c1], .agg #[.bool t, .slice q (m + 1) c2]] w fun e w' => ∃ p1 k1 c1 h1 p2 k2 c2 h2, e = .returned (.tuple #[.agg #[.bool ((s != t) && decide (0 < vf f n / vf g (m + 1))), .slice p1 k1 c1], .agg #[.bool (s && decide (0 < vf f n % vf g (m + 1))), .slice p2 k2 c2]]) ∧
   SlF w' (.slice p1 k1 c1) k1 h1 ∧ Digs h1 k1 ∧ vf h1 k1 = vf f n / vf g (m + 1) ∧ k1 ≤ n ∧ SlF w' (.slice p2 k2 c2) k2 h2 ∧ Digs h2 k2 ∧ vf h2 k2 = vf f n % vf g (m + 1) ∧ k2 ≤ m + 1 ∧ Below w.heap.size w w' := by
 obtain ⟨hc1, hn1, hx1⟩ := h1.opens
 obtain ⟨hc2, hn2, hx2⟩ := h2.opens
 have hB1 : 0 < vf g (m + 1) := d2.pos.2 (by omega)
 obtain ⟨s1, hs1⟩ : ∃ sg : Bool, ((s != t) && decide (0 < vf f n / vf g (m + 1))) = sg := ⟨_, rfl⟩
 obtain ⟨s2, hs2⟩ : ∃ sg : Bool, (s && decide (0 < vf f n % vf g (m + 1))) = sg := ⟨_, rfl⟩
 rw [hs1, hs2]
 replace hs1 := Lib.hid hs1
 replace hs2 := Lib.hid hs2
 go_enter Tryz.func250, Tryz.ntmps250
 go_wp2_with (first
  | (at_make; refine wpList_make_ints _ rfl _ _ 48 rfl Tryz.underlying48 infoInt _ _ n rfl rfl (by simp) (by simp) (by omega) ?_; intro W1 r1 hb1; have q0 := ((((Box.new w 50 #[.bool s, .slice p n c1]).alloc (.cells #[.bool t, .slice q (m + 1) c2] 50)).alloc (.cells #[.bool false, .slice none 0 0] 50)).alloc (.cells #[.bool false, .slice none 0 0] 50)).below hb1; have cq0 := q0.cell))
 have hR : ((((w.alloc (.cells #[.bool s, .slice p n c1] 50)).alloc (.cells #[.bool t, .slice q (m + 1) c2] 50)).alloc (.cells #[.bool false, .slice none 0 0] 50)).alloc (.cells #[.bool false, .slice none 0 0] 50)).heap.size = w.heap.size + 1 + 1 + 1 + 1 := by simp
 rw [hR] at r1
 have hB := belowCall (belowAlloc (below3_new w (.cells #[.bool s, .slice p n c1] 50) (.cells #[.bool t, .slice q (m + 1) c2] 50) (.cells #[.bool false, .slice none 0 0] 50)) (.cells #[.bool false, .slice none 0 0] 50)) hb1
 have hI0 : QInv w W1 50 (w.heap.size + 1 + 1 + 1 + 1) n (fun _ => 0) #[.bool s, .slice p n c1] #[.bool t, .slice q (m + 1) c2] := by
  have b1 := Box.new (w.alloc (.cells #[.bool s, .slice p n c1] 50)) 50 #[.bool t, .slice q (m + 1) c2]
  have b3 := Box.new (((w.alloc (.cells #[.bool s, .slice p n c1] 50)).alloc (.cells #[.bool t, .slice q (m + 1) c2] 50)).alloc (.cells #[.bool false, .slice none 0 0] 50)) 50 #[.bool false, .slice none 0 0]
  simp only [World.size_alloc] at b1 b3
  exact ⟨r1, q0, ((b1.alloc _).alloc _).below hb1, ((box3_new w _ _ _ _ _ _).alloc _).below hb1, b3.below hb1, hB, Nat.le_refl _⟩
 have hs0 := hI0.row.lt
 clear hb1 hB hR r1 q0 cq0
 go_loopw [7, 8] (fun v x wr => ∃ (i r : Nat) (h qf : Nat → Int) (R : Int), i ≤ n ∧ x = .int .i64 ((i : Int) - 1) ∧ OwnF wr (w.heap.size + 1 + 1 + 1 + 1 + 1) v r h ∧ Digs h r ∧ vf h r = R ∧ ParI f n (vf g (m + 1)) i qf R ∧ QInv w wr 50 (w.heap.size + 1 + 1 + 1 + 1) n qf #[.bool s, .slice p n c1] #[.bool t, .slice q (m + 1) c2] ∧ w.heap.size + 1 + 1 + 1 + 1 + 1 ≤ wr.heap.size) (fun _ x _ => (intOf x + 1).toNat)
 case atStart => exact ⟨n, 0, fun _ => 0, _, 0, Nat.le_refl _, rfl, OwnF.nil _ _ _, ⟨fun i hi => by omega, fun i hi => by omega, fun h => by omega⟩, rfl, ParI.start _ _ _ hB1, hI0, by omega⟩
 case round =>
  clear hI0 hs0
  obtain ⟨i, r, h, qf, R, hi, rfl, ho, d3, hv, hP, hI, hsz⟩ := hrel
  obtain ⟨pr, cr, rfl⟩ := ho.shape
  have b0 := hI.b0
  have cb0 := b0.cell
  have lb0 := b0.lt
  have fb0 := b0.frozen
  by_cases hi0 : 0 < i
  ·obtain ⟨i, rfl⟩ : ∃ j, i = j + 1 := ⟨i - 1, by omega⟩
   rw [show ((i + 1 : Nat) : Int) - 1 = (i : Int) by omega]
   obtain ⟨b, off, rfl, hb, hcell⟩ := hx1 (by omega)
   have ai := (hI.below.cell (p := ⟨b, off + i, none⟩) hb).trans (hcell i (by omega))
   have hin : (i : Int) < n := by omega
   have f0 := d1.lo i (by omega)
   have f9 := d1.hi i (by omega)
   have hr6 : r ≤ m + 1 := d3.len_le d2 (by have := hP.r1; omega)
   generalize hfi : f i = x at *
   clear hcell
   go_wp2_with (at_builtin; (refine wpList_append_ints _ rfl _ _ 48 rfl Tryz.underlying48 infoInt wr.heap.size (.slice (some ⟨wr.heap.size, 0, none⟩) 1 1) 1 (fun _ => x) rfl (OwnF.lit wr x) pr r cr h rfl ?_ ?_ ?_ ?_); (exact (ho.sl (by omega)).ext ((Ext.refl _).alloc _)); omega; (simp); (intro v' w1 ho' hg))
   obtain ⟨p', c', rfl⟩ := ho'.shape
   have hz : Below wr.heap.size wr w1 := ((Below.refl wr.heap.size wr).alloc (Nat.le_refl _) (.cells #[.int .i64 x] 3)).grown hg (by simp) (fun k hk => (OwnF.lit wr x).low k hk)
   have hnext : SlF w1 (.slice p' (r + 1) c') (r + 1) (shl x h) := by
    have e : OwnF w1 wr.heap.size (.slice p' (1 + r) c') (1 + r) (shl x h) := ho'.congr fun j hj => by
     unfold shl
     by_cases h0 : j = 0
     ·rw [if_pos (by omega), if_pos h0]
     ·rw [if_neg (by omega), if_neg h0]
    rw [Nat.add_comm] at e
    exact e.sl (by omega)
   rw [Nat.add_comm 1 r]
   have hmade := fun (X : World) (hX : Ext w1 X) => r3made_ok false p' (r + 1) c' (shl x h) X (hnext.ext hX) (by omega) (fun j hj => by
    unfold shl; split
    ·exact f0
    ·exact d3.lo _ (by omega)) (fun j hj => by
    unfold shl; split
    ·exact f9
    ·exact d3.hi _ (by omega))
   have hIz := hI.of_below (hz.mono (by omega))
   clear cb0 lb0 fb0 b0 ai ho hg ho'
   have b1 := hIz.b1
   have cb1 := b1.cell
   have lb1 := b1.lt
   have fb1 := b1.frozen
   go_wp2
   refine wp_region_held_drew (S := fun w' => (∀ i, w'.cell? ⟨w.heap.size + 1, i, none⟩ = (#[.bool t, .slice q (m + 1) c2] : Array Value)[i]?) ∧ Below w.heap.size w w') (by as_aux_lemma => kernel_rfl) ⟨cb1, hIz.below.drew⟩ (fun hHeld => ?_)
   have hz0 := hz.drew
   have hx0 : Ext w1 w1.drew := (Ext.refl _).drew
   have hsz0 : wr.heap.size ≤ w1.drew.heap.size := hz.size
   generalize w1.drew = X0 at *
   refine tk 0 (some 31) ?_
   refine tk 1 (some 32) ?_
   refine tk 2 (some 33) ?_
   refine tk 5 (some 36) ?_
   refine tk 6 (some 37) ?_
   have hIX := hI.of_below (hz0.mono (by omega))
   refine Mono.stc 3 (some 34) (hmade X0 hx0) (fun e X1 hR => ?_)
   obtain ⟨v2, rfl, ho2, d4, e4, hb4⟩ := hR
   refine ⟨(⟨(hIX.b1.below hb4).cell, belowCall hHeld.2 hb4⟩), fun hHeld => Mono.pt ?_⟩
   obtain ⟨p2, c2', rfl⟩ := ho2.shape
   refine tl 4 (some 35) rfl (.slice p2 (trimN (shl x h) (r + 1)) c2') (fun w _ => by as_aux_lemma => kernel_rfl) ?_
   have hz1 := belowCall hz0 hb4
   have hP0 := hP.r0
   have hP1 := hP.r1
   have hvs : vf (shl x h) (trimN (shl x h) (r + 1)) = x + 1000000000 * R := by rw [e4, vf_shl, hv]
   have htk := r3taken_ok wr.heap.size (.slice p2 (trimN (shl x h) (r + 1)) c2') (trimN (shl x h) (r + 1)) (shl x h) q m c2 g wr X1 (ho2.lower hsz0) (Nat.le_refl _) (Nat.le_trans hsz0 hb4.size) hz1 (h2.ext (.of_below hI.below)) d4 d2 hm6 (by rw [hvs]; omega)
   rw [hvs] at htk
   refine Mono.stc 7 (some 38) (htk) (fun e X2 hR => ?_)
   obtain ⟨v3, n3, f3, k3, rfl, ho3, d5, e5, hk3, hb5, hs5⟩ := hR
   refine ⟨(⟨(hI.of_below (hb5.mono (by omega))).b1.cell, (hI.of_below (hb5.mono (by omega))).below⟩), fun hHeld => Mono.pt ?_⟩
   replace hk3 := Lib.hid hk3
   refine tk 8 (some 30) ?_
   refine tk 9 (some 39) ?_
   refine tk 10 (some 40) ?_
   refine tk 11 (some 7) ?_
   refine tk 12 (some 41) ?_
   have hI3 := hI.of_below (hb5.mono (by omega))
   have hI4 := hI3.set i k3
   have a5 := hI3.row.cell i (by omega)
   have a6 := hI3.row.frozen i
   refine Mono.st 13 ?_
   intro K hK
   go_simp
   refine kp hK (⟨hI4.b1.cell, hI4.below⟩) (fun hHeld => ?_)
   clear hK K
   refine wpAnyH_done (by as_aux_lemma => kernel_rfl) ?_ _
   have hk30 : 0 ≤ k3 := by rw [hk3.out]; exact Int.ediv_nonneg (by omega) (by omega)
   have hk39 : k3 < 1000000000 := by rw [hk3.out]; exact Int.ediv_lt_of_lt_mul hB1 (by rw [Int.mul_comm]; omega)
   have hdiv := Int.emod_add_mul_ediv (x + 1000000000 * R) (vf g (m + 1))
   have hr0 := Int.emod_nonneg (x + 1000000000 * R) (by omega : vf g (m + 1) ≠ 0)
   have hr1 := Int.emod_lt_of_pos (x + 1000000000 * R) hB1
   rw [← hk3.out] at hdiv
   have hPn := hP.next (by omega) hk30 hk39 hr0 hr1 (by rw [hfi, Int.mul_comm k3]; omega)
   have ho5 := ho3.lower hsz
   have hs6 : w.heap.size + 1 + 1 + 1 + 1 + 1 ≤ X2.heap.size := by omega
   have ho6 := ho5.set ⟨w.heap.size + 1 + 1 + 1 + 1, i, none⟩ (.int .i64 k3) (by show w.heap.size + 1 + 1 + 1 + 1 < _; omega)
   clear hHeld htk hmade hnext hIX hIz hI3 ho3 ho2 hb5 hb4 cb1 fb1 lb1 b1 a5 a6 hz hz0 hz1 hx0
   go_wp2
   go_roundw
   case rel =>
    exact ⟨i, n3, f3, _, _, by omega, by simp, ho6, d5, e5, hPn, hI4, by simpa using hs6⟩
   case measure => simp [intOf]
  ·obtain rfl : i = 0 := by omega
   obtain ⟨hq, hR⟩ := hP.done
   have hlo := fun j (hj : j < n) => hP.lo j (Nat.zero_le _) hj
   have hhi := fun j (hj : j < n) => hP.hi j (Nat.zero_le _) hj
   have hr6 : r ≤ m + 1 := d3.len_le d2 (by have := hP.r1; omega)
   have hm1 := fun (X : World) (hX : Ext wr X) => r3made_ok (s != t) (some ⟨w.heap.size + 1 + 1 + 1 + 1, 0, none⟩) n n qf X ((hI.row.slice (by omega) n (Nat.le_refl _) n (Nat.le_refl _)).ext hX) (by omega) hlo hhi
   have hm2 := fun (X : World) (hX : Ext wr X) => r3made_ok s pr r cr h X ((ho.sl (by omega)).ext hX) (by omega) d3.lo d3.hi
   rw [hq, hs1.out] at hm1
   rw [hv, hR, hs2.out] at hm2
   have b1 := hI.b1
   have cb1 := b1.cell
   have lb1 := b1.lt
   have fb1 := b1.frozen
   clear hx1 hx2 hP
   go_wp2_with fail
   refine wp_region_held_drew (S := fun w' => (∀ i, w'.cell? ⟨w.heap.size, i, none⟩ = (#[.bool s, .slice p n c1] : Array Value)[i]?) ∧ (∀ i, w'.cell? ⟨w.heap.size + 1, i, none⟩ = (#[.bool t, .slice q (m + 1) c2] : Array Value)[i]?) ∧ Below w.heap.size w w') (by as_aux_lemma => kernel_rfl) ⟨cb0, cb1, hI.below.drew⟩ (fun hHeld => ?_)
   have hx0 : Ext wr wr.drew := (Ext.refl _).drew
   have hI0 : QInv w wr.drew 50 (w.heap.size + 1 + 1 + 1 + 1) n qf #[.bool s, .slice p n c1] #[.bool t, .slice q (m + 1) c2] := hI.of_below (Below.refl _ _).drew
   have hsz0 : w.heap.size + 1 + 1 + 1 + 1 + 1 ≤ wr.drew.heap.size := hsz
   generalize wr.drew = X0 at *
   refine tk 0 (some 42) ?_
   refine tk 1 (some 43) ?_
   refine tk 2 (some 44) ?_
   refine tk 3 (some 45) ?_
   refine tk 4 (some 46) ?_
   refine tk 5 (some 47) ?_
   refine tk 7 (some 49) ?_
   refine tk 8 (some 50) ?_
   refine tk 9 (some 51) ?_
   refine Mono.stc 6 (some 48) (hm1 X0 hx0) (fun e X1 hR => ?_)
   obtain ⟨v1, rfl, ho1, hd1, g1, hb4⟩ := hR
   refine ⟨(⟨(hI0.b0.below hb4).cell, (hI0.b1.below hb4).cell, belowCall hHeld.2.2 hb4⟩), fun hHeld => Mono.pt ?_⟩
   have hI1 := hI0.of_below (hb4.mono (by omega))
   refine Mono.stc 10 (some 52) (hm2 X1 (hx0.below hb4)) (fun e X2 hR => ?_)
   obtain ⟨v2, rfl, ho2, hd2, g2, hb5⟩ := hR
   refine ⟨(⟨(hI1.b0.below hb5).cell, (hI1.b1.below hb5).cell, belowCall hHeld.2.2 hb5⟩), fun hHeld => Mono.pt ?_⟩
   have hsz1 := hb4.size
   have hI2 := hI1.of_below (hb5.mono (by omega))
   obtain ⟨p1, c1', rfl⟩ := ho1.shape
   obtain ⟨p2, c2', rfl⟩ := ho2.shape
   have l1 := ho1.sl (by have := trimN_le qf n; omega)
   have l2 := ho2.sl (by have := trimN_le h r; omega)
   have l1' := l1.ext (.of_below hb5)
   have b2 := hI2.b2
   have b3 := hI2.b3
   have hBb := hI2.below
   clear hm1 hm2 hx0 hI0 hI1 hI hb4 hb5 ho1 ho2 l1 b0 b1 cb0 cb1 lb0 lb1 fb0 fb1 ho
   refine wpAnyH_storeA (w.heap.size + 1 + 1) 50 11 rfl rfl rfl rfl 0 #[.bool s1, .slice p1 (trimN qf n) c1'] #[.bool false, .slice none 0 0] #[.bool s1, .slice p1 (trimN qf n) c1'] (by as_aux_lemma => kernel_rfl) (fun X i u h => ⟨cells_other h.1 (by omega), cells_other h.2.1 (by omega), belowSet h.2.2 (by omega) _ _⟩) (by as_aux_lemma => kernel_rfl) (by as_aux_lemma => kernel_rfl) b2 hHeld sizeLong (Nat.le_of_ble_eq_true rfl) (long_ones _ _ _ _) (whole_new rfl) (fun Y1 hk1 r2 hHeld => ?_)
   have b3' := hk1.box b3 b3.lt (by omega)
   refine wpAnyH_storeA (w.heap.size + 1 + 1 + 1) 50 12 rfl rfl rfl rfl 0 #[.bool s2, .slice p2 (trimN h r) c2'] #[.bool false, .slice none 0 0] #[.bool s2, .slice p2 (trimN h r) c2'] (by as_aux_lemma => kernel_rfl) (fun X i u h => ⟨cells_other h.1 (by omega), cells_other h.2.1 (by omega), belowSet h.2.2 (by omega) _ _⟩) (by as_aux_lemma => kernel_rfl) (by as_aux_lemma => kernel_rfl) b3' hHeld sizeLong (Nat.le_of_ble_eq_true rfl) (long_ones _ _ _ _) (whole_new rfl) (fun Y2 hk2 r3 hHeld => ?_)
   have r2' := hk2.box r2 r2.lt (by omega)
   have e1 := hk1.ext b2 (by decide)
   have e2 := hk2.ext b3' (by decide)
   have hBe := hHeld.2.2
   refine wpAnyH_done (by as_aux_lemma => kernel_rfl) ?_ _
   clear hHeld hk1 hk2 b2 b3 b3' r2 hI2
   go_wp2
   refine bodyPost_ret (r2'.results2s r3 rfl _ _ _ rfl rfl Tryz.underlying50 rfl sizeLong Tryz.underlying50 rfl sizeLong) rfl ?_
   exact ⟨p1, _, c1', qf, p2, _, c2', rfl, (l1'.ext e1).ext e2, hd1, g1, trimN_le qf n, h, (l2.ext e1).ext e2, hd2, g2, by have := trimN_le h r; omega, hBe⟩
end Go.Proofs.YtcgfdibagldafaaGreatDoor
namespace Go.Mono
open Go.RowKit
theorem LgV.unique {m m' : Nat} {w : World} {v : Value} {z z' : Int} (h : LgV m w v z) (h' : LgV m' w v z') : z = z' := by
 obtain ⟨p, n, c, f, rfl, s1, d1, e1, _⟩ := h
 obtain ⟨p', n', c', f', hv, s2, d2, e2, _⟩ := h'
 simp only [Value.agg.injEq, Array.mk.injEq, List.cons.injEq, Value.bool.injEq, Value.slice.injEq, and_true] at hv
 obtain ⟨hs, rfl, rfl, rfl⟩ := hv
 have hf : ∀ i, i < n → f i = f' i := fun i hi => by
  obtain ⟨_, _, x1⟩ := s1.opens
  obtain ⟨_, _, x2⟩ := s2.opens
  obtain ⟨b, off, hp, _, g1⟩ := x1 (by omega)
  obtain ⟨b', off', hp', _, g2⟩ := x2 (by omega)
  rw [hp] at hp'
  simp only [Option.some.injEq, Addr.mk.injEq] at hp'
  obtain ⟨rfl, rfl, _⟩ := hp'
  have := g1 i hi
  rw [g2 i hi] at this
  simpa using this.symm
 have e := vf_congr hf
 have h3 : (z < 0 ↔ z' < 0) := by simpa using hs
 omega
def IsVal (w : World) (B : Nat) (T : TypeId) (k : Nat) : Prop := ∃ C z m, Box w B T C ∧ LgV m w (.agg C) z ∧ z.natAbs = k
noncomputable def valAt (w : World) (B : Nat) (T : TypeId) : Nat := Classical.epsilon (IsVal w B T)
theorem valAt_eq {w : World} {B : Nat} {T : TypeId} {C : Array Value} {z : Int} {m : Nat} (hb : Box w B T C) (h : LgV m w (.agg C) z) : valAt w B T = z.natAbs := by
 obtain ⟨C', z', m', hb', h', e⟩ := Classical.epsilon_spec (p := IsVal w B T) ⟨z.natAbs, C, z, m, hb, h, rfl⟩
 have hc : C' = C := by
  have := hb.blk.symm.trans hb'.blk
  simp at this
  exact this.symm
 subst hc
 have := h.unique h'
 subst this
 exact e.symm
end Go.Mono
namespace Go.Proofs.YtcgfdibagldafaaGreatDoor
open Go.RowKit Go.Mono
theorem r3parts_ok {m1 m2 : Nat} {v1 v2 : Value} {z y : Int} (w : World) (h1 : LgV m1 w v1 z) (h2 : LgV m2 w v2 y) (hy : y ≠ 0) (hm1 : m1 ≤ 100000) (hm2 : m2 ≤ 100000) :
  Calls Tryz.prog 250 #[v1, v2] w fun e w' => ∃ q r, e = .returned (.tuple #[q, r]) ∧ LgV m1 w' q (z.tdiv y) ∧ LgV m2 w' r (z.tmod y) ∧ Below w.heap.size w w' := by
 obtain ⟨p, n, c, f, rfl, s1, d1, e1, l1⟩ := h1
 obtain ⟨q, m, c', g, rfl, s2, d2, e2, l2⟩ := h2
 have hm0 : 0 < m := d2.pos.1 (by omega)
 obtain ⟨m, rfl⟩ : ∃ k, m = k + 1 := ⟨m - 1, by omega⟩
 obtain ⟨t1, t2, t3, t4⟩ := tdiv_parts z y hy
 refine (r3parts_digits _ _ p q n m c c' f g w s1 s2 d1 d2 (by omega) (by omega)).mono ?_
 rintro e w' ⟨p1, k1, c1, h1, p2, k2, c2, h2, rfl, hs1, hd1, hv1, hk1, hs2, hd2, hv2, hk2, hb⟩
 rw [e1, e2] at hv1 hv2 ⊢
 rw [t1] at hv1 ⊢
 rw [t2] at hv2 ⊢
 rw [t3, t4]
 exact ⟨_, _, rfl, ⟨p1, k1, c1, h1, rfl, hs1, hd1, hv1, by omega⟩, ⟨p2, k2, c2, h2, rfl, hs2, hd2, hv2, by omega⟩, hb⟩
theorem r3common_ok {m : Nat} {v1 v2 : Value} {z y : Int} (w : World) (h1 : LgV m w v1 z) (h2 : LgV m w v2 y) (hm : m ≤ 100000) :
  Calls Tryz.prog 222 #[v1, v2] w fun e w' => ∃ v, e = .returned v ∧ LgV m w' v (Int.gcd z y) ∧ Below w.heap.size w w' := by
 obtain ⟨A0, rfl, hA0, hA0o⟩ := h1.cells
 obtain ⟨A1, rfl, hA1, hA1o⟩ := h2.cells
 obtain ⟨gz, hgz⟩ : ∃ k, Int.gcd z y = k := ⟨_, rfl⟩
 rw [hgz]
 go_enter Tryz.func222, Tryz.ntmps222
 go_wp2_with fail
 refine boxes3 fun W hB hs b0 b1 b2 => ?_
 go_loopw [5, 6] (fun u v wr => ∃ (A B : Array Value) (a b : Int), Box wr w.heap.size 50 A ∧ Box wr (w.heap.size + 1) 50 B ∧ LgV m wr (.agg A) a ∧ LgV m wr (.agg B) b ∧ Int.gcd a b = gz ∧ Box wr (w.heap.size + 1 + 1) 50 #[.bool false, .slice none 0 0] ∧ Below w.heap.size w wr ∧ w.heap.size + 1 + 1 + 1 ≤ wr.heap.size) (fun _ _ wr => valAt wr (w.heap.size + 1) 50)
 case atStart => exact ⟨A0, A1, z, y, b0, b1, h1.below hB, h2.below hB, hgz, b2, hB, hs⟩
 case round =>
  clear b0 b1 b2 hB hs h1 h2 hgz
  obtain ⟨A, B, a, b, b0, b1, ha, hb, hg, b2, hB, hsz⟩ := hrel
  by_cases hb0 : b = 0
  ·subst hb0
   obtain ⟨pz, cz, hBv⟩ := hb.zero
   cases hBv
   have hga : (Int.natAbs a) = gz := by rw [← hg]; simp
   obtain ⟨p, n, c, f, hAv, s1, d1, e1, l1⟩ := ha
   cases hAv
   generalize decide (a < 0) = sa at *
   have hmade := fun (X : World) (hX : Ext wr X) => r3made_ok false p n c f X (s1.ext hX) (by omega) d1.lo d1.hi
   have cb0 := b0.cell
   have lb0 := b0.lt
   have fb0 := b0.frozen
   have cb1 := b1.cell
   have lb1 := b1.lt
   have fb1 := b1.frozen
   go_wp2_with fail
   refine (hmade wr (Ext.refl _)).mono ?_
   rintro e W2 ⟨v', rfl, ho2, d3, e3, hbb⟩
   replace b2 := b2.below hbb
   have hB1 := belowCall hB hbb
   obtain ⟨p', c', rfl⟩ := ho2.shape
   have hlg : LgV m W2 (.agg #[.bool false, .slice p' (trimN f n) c']) (gz : Int) := ⟨p', _, c', f, by rw [decide_eq_false (by omega)], ho2.sl (by have := trimN_le f n; omega), d3, by rw [e3, e1, hga]; rfl, by have := trimN_le f n; omega⟩
   rw [Bool.false_and]
   clear hmade ho2 b0 b1 cb0 cb1 fb0 fb1 lb0 lb1 hB hb
   go_wp2_with first | (refine wpList_store_box rfl 50 _ _ rfl (w.heap.size + 1 + 1) 0 50 _ #[.bool false, .slice p' (trimN f n) c'] #[.bool false, .slice p' (trimN f n) c'] rfl rfl b2 sizeLong (Nat.le_of_ble_eq_true rfl) (long_ones _ _ _ _) (whole_new rfl) ?_; intro W3 hk b4)
   have hb2 := hk.below hB1 (by omega) hB1.size
   exact bodyPost_ret (b4.results rfl _ _ rfl Tryz.underlying50 rfl sizeLong) rfl ⟨_, rfl, hlg.ext (hk.ext b2 (by decide)), hb2⟩
  ·have hval := valAt_eq b1 hb
   have hpt := fun (X : World) (hX : Ext wr X) => r3parts_ok X (ha.ext hX) (hb.ext hX) hb0 hm hm
   have hg2 : Int.gcd b (a.tmod b) = gz := by
    rw [← hg]
    unfold Int.gcd
    rw [Int.natAbs_tmod, Nat.gcd_comm a.natAbs b.natAbs, Nat.gcd_comm b.natAbs (a.natAbs % b.natAbs)]
    exact (Nat.gcd_rec b.natAbs a.natAbs).symm
   have hlt : (a.tmod b).natAbs < b.natAbs := by
    rw [Int.natAbs_tmod]
    exact Nat.mod_lt _ (by omega)
   obtain ⟨q, n, c, hBv, hn0⟩ := hb.nz hb0
   have hn' : (0 : Int) < n := by omega
   cases hBv
   obtain ⟨sa, pa, na, ca, hAv⟩ := ha.parts
   cases hAv
   generalize decide (b < 0) = sb at *
   have cb0 := b0.cell
   have lb0 := b0.lt
   have fb0 := b0.frozen
   have cb1 := b1.cell
   have lb1 := b1.lt
   have fb1 := b1.frozen
   go_wp2_with fail
   refine (hpt wr (Ext.refl _)).mono ?_
   rintro e W2 ⟨vq, vr, rfl, hq, hr, hbb⟩
   obtain ⟨sq, pq, nq, cq, rfl⟩ := hq.parts
   obtain ⟨sr, pr, nr, cr, rfl⟩ := hr.parts
   have hsz2 := hbb.size
   replace b0 := b0.below hbb
   replace b1 := b1.below hbb
   replace b2 := b2.below hbb
   replace hb := hb.below hbb
   have hB2 := belowCall hB hbb
   clear hpt ha hq cb0 lb0 fb0 cb1 lb1 fb1 hB hbb hg
   go_wp2_with fail
   have h2n := (Below.refl W2.heap.size W2).alloc (Nat.le_refl _) (.cells #[.bool sq, .slice pq nq cq] 50)
   have b6 := Box.new (W2.alloc (.cells #[.bool sq, .slice pq nq cq] 50)) 50 #[.bool sr, .slice pr nr cr]
   rw [World.size_alloc] at b6
   have hbn : Below W2.heap.size W2 ((W2.alloc (.cells #[.bool sq, .slice pq nq cq] 50)).alloc (.cells #[.bool sr, .slice pr nr cr] 50)) := belowAlloc (belowAlloc (Below.refl _ _) _) _
   replace b0 := b0.below hbn
   replace b1 := b1.below hbn
   replace b2 := b2.below hbn
   replace hb := hb.below hbn
   replace hr := hr.below hbn
   replace hB2 := belowCall hB2 hbn
   have hs3 := hbn.size
   generalize (W2.alloc (.cells #[.bool sq, .slice pq nq cq] 50)).alloc (.cells #[.bool sr, .slice pr nr cr] 50) = V at *
   refine wp_region_held_drew (S := fun w' => Box w' (W2.heap.size + 1) 50 #[.bool sr, .slice pr nr cr] ∧ Below w.heap.size w w') (by as_aux_lemma => kernel_rfl) ⟨b6.drew, hB2.drew⟩ (fun hHeld => ?_)
   have c0 := b0.drew
   have c1 := b1.drew
   have c2 := b2.drew
   have hbX : LgV m V.drew (.agg #[.bool sb, .slice q n c]) b := hb.ext (Ext.refl _).drew
   have hrX : LgV m V.drew (.agg #[.bool sr, .slice pr nr cr]) (a.tmod b) := hr.ext (Ext.refl _).drew
   have hsX : w.heap.size + 1 + 1 + 1 ≤ V.drew.heap.size := by show _ ≤ V.heap.size; omega
   clear b0 b1 b2 hb hr b6 hbn h2n hB2
   generalize V.drew = X0 at *
   refine tl 1 (some 18) rfl (.agg #[.bool sr, .slice pr nr cr]) (exec_load 50 _ rfl (W2.heap.size + 1) 0 rfl #[.bool sr, .slice pr nr cr] (fun w h => h.1.range) _ Tryz.underlying50 rfl sizeLong) ?_
   refine Mono.sta 0 (some 17) (.agg #[.bool sb, .slice q n c]) X0 hHeld (fun hHeld => Mono.pt ?_) rfl rfl (by as_aux_lemma => kernel_rfl) (by as_aux_lemma => kernel_rfl) (exec_load (S := fun w => w = X0) 50 _ rfl (w.heap.size + 1) 0 (by as_aux_lemma => kernel_rfl) #[.bool sb, .slice q n c] (fun w hS => by subst hS; exact c1.range) _ Tryz.underlying50 rfl sizeLong X0 rfl)
   refine wpAnyH_storeA w.heap.size 50 2 rfl rfl rfl rfl 0 #[.bool sb, .slice q n c] #[.bool sa, .slice pa na ca] #[.bool sb, .slice q n c] (by as_aux_lemma => kernel_rfl) (fun X i u h => ⟨h.1.other _ _ (by show W2.heap.size + 1 ≠ w.heap.size; omega), belowSet h.2 (by omega) _ _⟩) (by as_aux_lemma => kernel_rfl) (by as_aux_lemma => kernel_rfl) c0 hHeld sizeLong (Nat.le_of_ble_eq_true rfl) (long_ones _ _ _ _) (whole_new rfl) (fun Y1 hk1 r0 hHeld => ?_)
   have d1 := hk1.box c1 c1.lt (by omega)
   have d2 := hk1.box c2 c2.lt (by omega)
   have e1 := hk1.ext c0 (by decide)
   refine wpAnyH_storeA (w.heap.size + 1) 50 3 rfl rfl rfl rfl 0 #[.bool sr, .slice pr nr cr] #[.bool sb, .slice q n c] #[.bool sr, .slice pr nr cr] (by as_aux_lemma => kernel_rfl) (fun X i u h => ⟨h.1.other _ _ (by show W2.heap.size + 1 ≠ w.heap.size + 1; omega), belowSet h.2 (by omega) _ _⟩) (by as_aux_lemma => kernel_rfl) (by as_aux_lemma => kernel_rfl) d1 hHeld sizeLong (Nat.le_of_ble_eq_true rfl) (long_ones _ _ _ _) (whole_new rfl) (fun Y2 hk2 r1 hHeld => ?_)
   have r0' := hk2.box r0 r0.lt (by omega)
   have d2' := hk2.box d2 d2.lt (by omega)
   have e2 := hk2.ext d1 (by decide)
   have hbY := (hbX.ext e1).ext e2
   have hrY := (hrX.ext e1).ext e2
   have hBY := hHeld.2
   have hsY : w.heap.size + 1 + 1 + 1 ≤ Y2.heap.size := by have := hk1.size; have := hk2.size; omega
   have hvn := valAt_eq r1 hrY
   replace hval := Lib.hid hval
   refine wpAnyH_done (by as_aux_lemma => kernel_rfl) ?_ _
   clear hHeld hk1 hk2 r0 c0 c1 c2 d1 d2 e1 e2 hbX hrX
   go_wp2
   go_roundw
   case rel => exact ⟨_, _, b, a.tmod b, r0', r1, hbY, hrY, hg2, d2', hBY, hsY⟩
   case measure => rw [hvn, hval.out]; exact hlt
theorem r3right_ok {v : Value} {z : Int} (w : World) (h : LgV 600 w v z) :
  Calls Tryz.prog 207 #[v] w fun e w' => e = .returned (.bool true) ∧ Below w.heap.size w w' := by
 obtain ⟨p, n, c, f, rfl, s1, d1, e1, l1⟩ := h
 obtain ⟨hc1, hn1, hx1⟩ := s1.opens
 by_cases hn : n = 0
 ·subst hn
  have hz : decide (z < 0) = false := decide_eq_false (by simp [vf] at e1; omega)
  rw [hz]
  clear hx1
  go_enter Tryz.func207, Tryz.ntmps207
  go_wp2
  go_ret
  exact ⟨rfl, belowAlloc (Below.refl _ _) _⟩
 ·have hn' : ((n : Int) == 0) = false := by simp; omega
  generalize decide (z < 0) = s at *
  go_enter Tryz.func207, Tryz.ntmps207
  go_wp2
  refine boxes1 fun W hB hs b0 => ?_
  go_loopw [3] (fun a wr => ∃ i : Nat, i ≤ n ∧ a = .int .i64 (i : Int) ∧ wr = W) (fun a _ => (n - intOf a).toNat)
  case atStart => exact ⟨0, Nat.zero_le _, rfl, rfl⟩
  case round =>
   obtain ⟨i, hi, rfl, hWe⟩ := hrel
   obtain rfl : W = wr := hWe.symm
   have cb0 := b0.cell
   have lb0 := b0.lt
   have fb0 := b0.frozen
   by_cases hin : i < n
   ·obtain ⟨b, off, rfl, hb, hcell⟩ := hx1 (by omega)
    have a1 := (hB.cell (p := ⟨b, off + i, none⟩) hb).trans (hcell i hin)
    have hin' : (i : Int) < n := by omega
    have f0 := d1.lo i hin
    have f9 := d1.hi i hin
    generalize f i = x at *
    clear hcell hx1
    go_wp2
    go_roundw
    case rel => exact ⟨i + 1, by omega, by simp, trivial⟩
    case measure => simp [intOf]; omega
   ·obtain rfl : i = n := by omega
    have hip : 0 < i := Nat.pos_of_ne_zero hn
    clear e1
    obtain ⟨b, off, rfl, hb, hcell⟩ := hx1 hip
    have a1 := (hB.cell (p := ⟨b, off + (i - 1), none⟩) hb).trans (hcell (i - 1) (by omega))
    have ht := d1.top (by omega)
    obtain ⟨k, rfl⟩ : ∃ k, i = k + 1 := ⟨i - 1, by omega⟩
    simp only [Nat.add_sub_cancel] at a1 ht
    have ht2 : (f k != 0) = true := by simpa using ht
    generalize f k = x at *
    have hk6 : (k : Int) + 1 ≤ 600 := by omega
    clear hcell hx1
    go_wp2
    go_ret
    exact ⟨rfl, hB⟩
end Go.Proofs.YtcgfdibagldafaaGreatDoor
namespace Go.Mono
open Go.RowKit
def QtV (m : Nat) (w : World) (v : Value) (q : Rat) : Prop := ∃ s p n c s' p' n' c', v = .agg #[.bool s, .slice p n c, .bool s', .slice p' n' c'] ∧ LgV m w (.agg #[.bool s, .slice p n c]) q.num ∧ LgV m w (.agg #[.bool s', .slice p' n' c']) q.den
theorem QtV.ext {m : Nat} {w w' : World} {v : Value} {q : Rat} (h : QtV m w v q) (hx : Ext w w') : QtV m w' v q := by
 obtain ⟨s, p, n, c, s', p', n', c', hv, h1, h2⟩ := h
 exact ⟨s, p, n, c, s', p', n', c', hv, h1.ext hx, h2.ext hx⟩
theorem QtV.below {m : Nat} {w w' : World} {v : Value} {q : Rat} (h : QtV m w v q) (hb : Below w.heap.size w w') : QtV m w' v q := h.ext (.of_below hb)
theorem QtV.mono {m m' : Nat} {w : World} {v : Value} {q : Rat} (h : QtV m w v q) (hm : m ≤ m') : QtV m' w v q := by
 obtain ⟨s, p, n, c, s', p', n', c', hv, h1, h2⟩ := h
 exact ⟨s, p, n, c, s', p', n', c', hv, h1.mono hm, h2.mono hm⟩
theorem LgV.sz {m : Nat} {w : World} {s : Bool} {p : Option Addr} {n c : Nat} {z : Int} (h : LgV m w (.agg #[.bool s, .slice p n c]) z) : s = decide (z < 0) ∧ Sz m w (.slice p n c) z.natAbs := by
 obtain ⟨p', n', c', f, hv, h1, h2, h3, h4⟩ := h
 simp only [Value.agg.injEq, Array.mk.injEq, List.cons.injEq, Value.bool.injEq, Value.slice.injEq, and_true] at hv
 obtain ⟨rfl, rfl, rfl, rfl⟩ := hv
 exact ⟨rfl, n, f, h1, h2, h3, h4⟩
theorem LgV.of_sz {m : Nat} {w : World} {s : Bool} {p : Option Addr} {n c : Nat} {z : Int} (hs : s = decide (z < 0)) (h : Sz m w (.slice p n c) z.natAbs) : LgV m w (.agg #[.bool s, .slice p n c]) z := by
 obtain ⟨n', f, h1, h2, h3, h4, rfl⟩ := h.sl
 exact ⟨p, _, c, f, by rw [hs], h1, h2, h3, h4⟩
theorem QtV.qv {w : World} {v : Value} {q : Rat} (h : QtV 600 w v q) : QV w v q := by
 obtain ⟨s, p, n, c, s', p', n', c', rfl, h1, h2⟩ := h
 obtain ⟨rfl, z1⟩ := h1.sz
 obtain ⟨rfl, z2⟩ := h2.sz
 refine ⟨p, n, c, p', n', c', ?_, z1, by simpa using z2⟩
 rw [decide_eq_false (by omega : ¬ (q.den : Int) < 0)]
theorem QV.qt {w : World} {v : Value} {q : Rat} (h : QV w v q) : QtV 600 w v q := by
 obtain ⟨p, n, c, p', n', c', rfl, z1, z2⟩ := h
 exact ⟨_, p, n, c, _, p', n', c', rfl, LgV.of_sz rfl z1, LgV.of_sz (by rw [decide_eq_false (by omega)]) (by simpa using z2)⟩
end Go.Mono
namespace Go.Proofs.YtcgfdibagldafaaGreatDoor
open Go.RowKit Go.Mono
theorem alloc_long (w : World) : (Instr.alloc 50 true (.tuple #[])).run Tryz.prog w = .ok (.pointer (some ⟨w.heap.size, 0, none⟩)) (w.alloc (.cells #[.bool false, .slice none 0 0] 50)) := by go_simp
theorem quot_ones (a b : Bool) (p q : Option Addr) (n m c d : Nat) : (#[.bool a, .slice p n c, .bool b, .slice q m d] : Array Value).all (·.oneCell') = true := by simp [Value.oneCell']
theorem r4lowest_pos {m : Nat} {v1 v2 : Value} {n d : Int} (w : World) (h1 : LgV m w v1 n) (h2 : LgV m w v2 d) (hd : 0 < d) (hm : m ≤ 100000) :
  Calls Tryz.prog 208 #[v1, v2] w fun e w' => ∃ v, e = .returned v ∧ QtV m w' v (Rat.divInt n d) ∧ Below w.heap.size w w' := by
 have hg0 : 0 < Int.gcd n d := Int.gcd_pos_of_ne_zero_right n (by omega)
 have hnum : (Rat.divInt n d).num = n.tdiv (Int.gcd n d) := by
  rw [Rat.num_divInt, Int.sign_eq_one_of_pos hd, Int.one_mul, Int.gcd_comm d n]
  exact (Int.tdiv_eq_ediv_of_dvd (Int.gcd_dvd_left ..)).symm
 have hden : ((Rat.divInt n d).den : Int) = d.tdiv (Int.gcd n d) := by
  rw [Rat.den_divInt, if_neg (by omega), Int.gcd_comm d n, Int.tdiv_eq_ediv_of_dvd (Int.gcd_dvd_right ..)]
  have : (d.natAbs : Int) = d := by omega
  rw [Int.natCast_ediv, this]
 have hcm := fun (X : World) (hX : Ext w X) => r3common_ok X (h1.ext hX) (h2.ext hX) hm
 have hp1 := fun (X : World) (g : Value) (hX : Ext w X) (h : LgV m X g (Int.gcd n d)) => r3parts_ok X (h1.ext hX) h (by omega) hm hm
 have hp2 := fun (X : World) (g : Value) (hX : Ext w X) (h : LgV m X g (Int.gcd n d)) => r3parts_ok X (h2.ext hX) h (by omega) hm hm
 obtain ⟨s1, p1, n1, c1, rfl⟩ := h1.parts
 have hs2 : ∃ p2 n2 c2, v2 = .agg #[.bool false, .slice p2 n2 c2] := by
  obtain ⟨p, k, c, f, rfl, _⟩ := h2
  exact ⟨p, k, c, by rw [decide_eq_false (by omega)]⟩
 obtain ⟨p2, n2, c2, rfl⟩ := hs2
 go_enter Tryz.func208, Tryz.ntmps208
 go_wp2_with fail
 refine boxes3c fun W hB hs b0 b1 b2 => ?_
 refine (hcm W (.of_below hB)).mono ?_
 rintro e W2 ⟨vg, rfl, hg, hbb⟩
 obtain ⟨sg, pg, ng, cg, rfl⟩ := hg.parts
 replace b0 := b0.below hbb
 replace b1 := b1.below hbb
 replace b2 := b2.below hbb
 have hB2 := belowCall hB hbb
 clear hcm hbb hB
 go_wp2_with first | (refine wpList_put1 50 5 _ #[.bool sg, .slice pg ng cg] _ rfl rfl rfl rfl rfl rfl alloc_long (by as_aux_lemma => (intro _; kernel_rfl)) (by as_aux_lemma => (intro _; kernel_rfl)) sizeLong rfl (long_ones _ _ _ _) ?_; intro W3 B5 _ hB3 b5; replace b0 := b0.below hB3; replace b1 := b1.below hB3; replace b2 := b2.below hB3) | (refine wpList_load_box rfl 50 (.tmp 2) rfl w.heap.size (by as_aux_lemma => kernel_rfl) 50 #[.bool s1, .slice p1 n1 c1] b0 _ Tryz.underlying50 rfl sizeLong ?_) | (refine wpList_load_box rfl 50 (.tmp 5) rfl B5 (by as_aux_lemma => kernel_rfl) 50 #[.bool sg, .slice pg ng cg] b5 _ Tryz.underlying50 rfl sizeLong ?_)
 refine (hp1 W3 _ (.of_below (belowCall hB2 hB3)) (hg.below hB3)).mono ?_
 rintro e W4 ⟨vx, vr, rfl, hx, hr, hb4⟩
 obtain ⟨sx, px, nx, cx, rfl⟩ := hx.parts
 obtain ⟨sr, pr, nr, cr, rfl⟩ := hr.parts
 replace b1 := b1.below hb4
 replace b2 := b2.below hb4
 replace b5 := b5.below hb4
 have hB4 := belowCall (belowCall hB2 hB3) hb4
 have hg4 := (hg.below hB3).below hb4
 clear hp1 hg hb4 hB3 b0 hB2
 go_wp2_with first | (refine wpList_put2 50 6 7 _ _ #[.bool sx, .slice px nx cx] #[.bool sr, .slice pr nr cr] _ rfl rfl rfl rfl rfl rfl rfl rfl rfl rfl rfl rfl alloc_long (by as_aux_lemma => (intro _ _; kernel_rfl)) (by as_aux_lemma => (intro _ _; kernel_rfl)) (by as_aux_lemma => (intro _ _; kernel_rfl)) (by as_aux_lemma => (intro _ _; kernel_rfl)) sizeLong rfl rfl (long_ones _ _ _ _) (long_ones _ _ _ _) ?_; intro W5 B6 B7 _ _ _ hB5 b6 b7; replace b1 := b1.below hB5; replace b2 := b2.below hB5; replace b5 := b5.below hB5) | (refine wpList_load_box rfl 50 (.tmp 3) rfl (w.heap.size + 1) (by as_aux_lemma => kernel_rfl) 50 #[.bool false, .slice p2 n2 c2] b1 _ Tryz.underlying50 rfl sizeLong ?_) | (refine wpList_load_box rfl 50 (.tmp 5) rfl B5 (by as_aux_lemma => kernel_rfl) 50 #[.bool sg, .slice pg ng cg] b5 _ Tryz.underlying50 rfl sizeLong ?_)
 refine (hp2 W5 _ (.of_below (belowCall hB4 hB5)) (hg4.below hB5)).mono ?_
 rintro e W6 ⟨vy, vr2, rfl, hy, hr2, hb6⟩
 obtain ⟨sy, py, ny, cy, rfl⟩ := hy.parts
 obtain ⟨sr2, pr2, nr2, cr2, rfl⟩ := hr2.parts
 replace b2 := b2.below hb6
 replace b6 := b6.below hb6
 have hB6 := belowCall (belowCall hB4 hB5) hb6
 have hx6 := (hx.below hB5).below hb6
 clear hp2 hg4 hb6 hB5 hB4 b1 b5 b7 hx hr hr2
 rw [← hnum] at hx6
 rw [← hden] at hy
 clear hnum hden h1 h2 hg0
 go_wp2_with first | (refine wpList_load_box rfl 50 (.tmp 6) rfl B6 (by as_aux_lemma => kernel_rfl) 50 #[.bool sx, .slice px nx cx] b6 _ Tryz.underlying50 rfl sizeLong ?_) | (refine wpList_load_box rfl 50 (.tmp 8) rfl B8 (by as_aux_lemma => kernel_rfl) 50 #[.bool sy, .slice py ny cy] b8 _ Tryz.underlying50 rfl sizeLong ?_) | (refine wpList_build2 rfl 52 _ rfl #[.bool sx, .slice px nx cx, .bool sy, .slice py ny cy] (by as_aux_lemma => kernel_rfl) ?_) | (refine wpList_store_box rfl 52 (.tmp 4) _ rfl (w.heap.size + 1 + 1) 0 52 _ #[.bool sx, .slice px nx cx, .bool sy, .slice py ny cy] #[.bool sx, .slice px nx cx, .bool sy, .slice py ny cy] rfl rfl b2 sizeQuot (Nat.le_of_ble_eq_true rfl) (quot_ones _ _ _ _ _ _ _ _) (whole_new rfl) ?_; intro W8 hk b4) | (refine wpList_put2 50 8 9 _ _ #[.bool sy, .slice py ny cy] #[.bool sr2, .slice pr2 nr2 cr2] _ rfl rfl rfl rfl rfl rfl rfl rfl rfl rfl rfl rfl alloc_long (by as_aux_lemma => (intro _ _; kernel_rfl)) (by as_aux_lemma => (intro _ _; kernel_rfl)) (by as_aux_lemma => (intro _ _; kernel_rfl)) (by as_aux_lemma => (intro _ _; kernel_rfl)) sizeLong rfl rfl (long_ones _ _ _ _) (long_ones _ _ _ _) ?_; intro W7 B8 B9 _ _ _ hB7 b8 b9; replace b2 := b2.below hB7; replace b6 := b6.below hB7)
 have hB8 := belowCall hB6 hB7
 have hb8 := hk.below hB8 (by omega) hB8.size
 have he := hk.ext b2 (by decide)
 refine bodyPost_ret (b4.results rfl _ _ rfl Tryz.underlying52 rfl sizeQuot) rfl ⟨_, rfl, ⟨_, _, _, _, _, _, _, _, rfl, (hx6.below hB7).ext he, (hy.below hB7).ext he⟩, hb8⟩
end Go.Proofs.YtcgfdibagldafaaGreatDoor
namespace Go.Mono
open Go.RowKit
theorem QtV.cells {m : Nat} {w : World} {v : Value} {q : Rat} (h : QtV m w v q) : ∃ C : Array Value, v = .agg C ∧ C.size = 4 ∧ C.all (·.oneCell') = true := by
 obtain ⟨s, p, n, c, s', p', n', c', rfl, _, _⟩ := h
 exact ⟨_, rfl, rfl, by simp [Value.oneCell']⟩
theorem QtV.tight {m k : Nat} {w : World} {v : Value} {q : Rat} (h : QtV m w v q) (h1 : (q.num.natAbs : Int) < pw k) (h2 : (q.den : Int) < pw k) : QtV k w v q := by
 obtain ⟨s, p, n, c, s', p', n', c', rfl, x, y⟩ := h
 exact ⟨s, p, n, c, s', p', n', c', rfl, x.tight h1, y.tight (by simpa using h2)⟩
theorem rat_prod_divInt (a b : Rat) : Rat.divInt (a.num * b.num) ((a.den : Int) * b.den) = a * b := by
 rw [← Rat.divInt_mul_divInt, Rat.num_divInt_den, Rat.num_divInt_den]
theorem rat_sum_divInt (a b : Rat) : Rat.divInt (a.num * b.den + b.num * a.den) ((a.den : Int) * b.den) = a + b := by
 have h := Rat.divInt_add_divInt a.num b.num (d₁ := a.den) (d₂ := b.den) (by have := a.den_pos; omega) (by have := b.den_pos; omega)
 rw [← h, Rat.num_divInt_den, Rat.num_divInt_den]
end Go.Mono
namespace Go.Proofs.YtcgfdibagldafaaGreatDoor
open Go.RowKit Go.Mono

theorem r4prod_ok {m : Nat} {v1 v2 : Value} {a b : Rat} (w : World) (h1 : QtV m w v1 a) (h2 : QtV m w v2 b) (hm : m ≤ 50000) :
  Calls Tryz.prog 177 #[v1, v2] w fun e w' => ∃ v, e = .returned v ∧ QtV (m + m) w' v (a * b) ∧ Below w.heap.size w w' := by
 have hab := rat_prod_divInt a b
 have hden : (0 : Int) < (a.den : Int) * b.den := Int.mul_pos (by have := a.den_pos; omega) (by have := b.den_pos; omega)
 obtain ⟨s1, p1, n1, c1, t1, q1, m1, d1, rfl, x1, x2⟩ := h1
 obtain ⟨s2, p2, n2, c2, t2, q2, m2, d2, rfl, y1, y2⟩ := h2
 go_enter Tryz.func177, Tryz.ntmps177
 go_wp2_with fail
 refine boxes3 fun W hB hs b0 b1 bO => ?_
 replace x1 := x1.below hB
 replace x2 := x2.below hB
 replace y1 := y1.below hB
 replace y2 := y2.below hB
 refine wp_region_held_drew (S := fun w' => (∀ b o, b < W.heap.size → b ≠ (w.heap.size + 1 + 1) → w'.cell? ⟨b, o, none⟩ = W.cell? ⟨b, o, none⟩) ∧ KeepBut (w.heap.size + 1 + 1) W.heap.size W w') (by as_aux_lemma => kernel_rfl) (KeepBut.S (KeepBut.refl _ _).drew) (fun hHeld => ?_)
 have hBel : Below W.heap.size W W.drew := (Below.refl _ _).drew
 refine tk 0 (some 5) ?_
 refine tl 1 (some 6) rfl (.agg #[.bool s1, .slice p1 n1 c1]) (exec_load 50 _ rfl w.heap.size 0 rfl  #[.bool s1, .slice p1 n1 c1] (fun w h => (h.2.box b0 b0.lt (by omega)).part 0 #[.bool s1, .slice p1 n1 c1] rfl) _ Tryz.underlying50 rfl sizeLong) ?_
 refine tk 2 (some 7) ?_
 refine tl 3 (some 8) rfl (.agg #[.bool s2, .slice p2 n2 c2]) (exec_load 50 _ rfl (w.heap.size + 1) 0 rfl  #[.bool s2, .slice p2 n2 c2] (fun w h => (h.2.box b1 b1.lt (by omega)).part 0 #[.bool s2, .slice p2 n2 c2] rfl) _ Tryz.underlying50 rfl sizeLong) ?_
 refine tk 5 (some 10) ?_
 refine tl 6 (some 11) rfl (.agg #[.bool t1, .slice q1 m1 d1]) (exec_load 50 _ rfl w.heap.size 2 rfl  #[.bool t1, .slice q1 m1 d1] (fun w h => (h.2.box b0 b0.lt (by omega)).part 2 #[.bool t1, .slice q1 m1 d1] rfl) _ Tryz.underlying50 rfl sizeLong) ?_
 refine tk 7 (some 12) ?_
 refine tl 8 (some 13) rfl (.agg #[.bool t2, .slice q2 m2 d2]) (exec_load 50 _ rfl (w.heap.size + 1) 2 rfl  #[.bool t2, .slice q2 m2 d2] (fun w h => (h.2.box b1 b1.lt (by omega)).part 2 #[.bool t2, .slice q2 m2 d2] rfl) _ Tryz.underlying50 rfl sizeLong) ?_
 refine Mono.stc 4 (some 9) (r3prod_ok _ (x1.ext (.of_below hBel)) (y1.ext (.of_below hBel)) (by omega) (by omega)) (fun e Wn4 hR => ?_)
 obtain ⟨V4, rfl, R4, hb4⟩ := hR
 replace hBel := belowCall hBel hb4
 refine ⟨(KeepBut.S (hHeld.2.call hb4)), fun hHeld => Mono.pt ?_⟩
 refine Mono.stc 9 (some 14) (r3prod_ok _ (x2.ext (.of_below hBel)) (y2.ext (.of_below hBel)) (by omega) (by omega)) (fun e Wn9 hR => ?_)
 obtain ⟨V9, rfl, R9, hb9⟩ := hR
 replace hBel := belowCall hBel hb9
 replace R4 := R4.ext (.of_below hb9)
 refine ⟨(KeepBut.S (hHeld.2.call hb9)), fun hHeld => Mono.pt ?_⟩
 refine Mono.stc 10 (some 15) (r4lowest_pos _ R4 R9 hden (by omega)) (fun e Wn10 hR => ?_)
 obtain ⟨V10, rfl, R10, hb10⟩ := hR
 replace hBel := belowCall hBel hb10
 replace R4 := R4.ext (.of_below hb10)
 replace R9 := R9.ext (.of_below hb10)
 refine ⟨(KeepBut.S (hHeld.2.call hb10)), fun hHeld => Mono.pt ?_⟩
 rw [hab] at R10
 obtain ⟨C, rfl, zC, oC⟩ := R10.cells
 refine wpAnyH_storeB (w.heap.size + 1 + 1) 52 11 rfl rfl rfl rfl 0 C _ C (by as_aux_lemma => kernel_rfl) (fun w' i u hS => KeepBut.S (hS.2.set i u)) rfl rfl (bO.below hBel) hHeld (by rw [zC]; exact sizeQuot) (Nat.le_of_eq (by rw [zC]; rfl)) oC (whole_new (by rw [zC]; rfl)) (fun Ws hks bs hHeld => ?_)
 refine wpAnyH_done (by as_aux_lemma => kernel_rfl) ?_ _
 have xS := hks.ext (bO.below hBel) (by decide)
 go_wp2
 refine bodyPost_ret (bs.results rfl _ _ rfl Tryz.underlying52 rfl (by rw [zC]; exact sizeQuot)) rfl ?_
 exact ⟨_, rfl, R10.ext xS, hHeld.2.below hB (by omega) hB.size⟩
theorem r4sum_ok {m : Nat} {v1 v2 : Value} {a b : Rat} (w : World) (h1 : QtV m w v1 a) (h2 : QtV m w v2 b) (hm : m ≤ 40000) :
  Calls Tryz.prog 176 #[v1, v2] w fun e w' => ∃ v, e = .returned v ∧ QtV (m + m + 1) w' v (a + b) ∧ Below w.heap.size w w' := by
 have hab := rat_sum_divInt a b
 have hden : (0 : Int) < (a.den : Int) * b.den := Int.mul_pos (by have := a.den_pos; omega) (by have := b.den_pos; omega)
 obtain ⟨s1, p1, n1, c1, t1, q1, m1, d1, rfl, x1, x2⟩ := h1
 obtain ⟨s2, p2, n2, c2, t2, q2, m2, d2, rfl, y1, y2⟩ := h2
 go_enter Tryz.func176, Tryz.ntmps176
 go_wp2_with fail
 refine boxes3 fun W hB hs b0 b1 bO => ?_
 replace x1 := x1.below hB
 replace x2 := x2.below hB
 replace y1 := y1.below hB
 replace y2 := y2.below hB
 refine wp_region_held_drew (S := fun w' => (∀ b o, b < W.heap.size → b ≠ (w.heap.size + 1 + 1) → w'.cell? ⟨b, o, none⟩ = W.cell? ⟨b, o, none⟩) ∧ KeepBut (w.heap.size + 1 + 1) W.heap.size W w') (by as_aux_lemma => kernel_rfl) (KeepBut.S (KeepBut.refl _ _).drew) (fun hHeld => ?_)
 have hBel : Below W.heap.size W W.drew := (Below.refl _ _).drew
 refine tk 0 (some 5) ?_
 refine tl 1 (some 6) rfl (.agg #[.bool s1, .slice p1 n1 c1]) (exec_load 50 _ rfl w.heap.size 0 rfl  #[.bool s1, .slice p1 n1 c1] (fun w h => (h.2.box b0 b0.lt (by omega)).part 0 #[.bool s1, .slice p1 n1 c1] rfl) _ Tryz.underlying50 rfl sizeLong) ?_
 refine tk 2 (some 7) ?_
 refine tl 3 (some 8) rfl (.agg #[.bool t2, .slice q2 m2 d2]) (exec_load 50 _ rfl (w.heap.size + 1) 2 rfl  #[.bool t2, .slice q2 m2 d2] (fun w h => (h.2.box b1 b1.lt (by omega)).part 2 #[.bool t2, .slice q2 m2 d2] rfl) _ Tryz.underlying50 rfl sizeLong) ?_
 refine tk 5 (some 10) ?_
 refine tl 6 (some 11) rfl (.agg #[.bool s2, .slice p2 n2 c2]) (exec_load 50 _ rfl (w.heap.size + 1) 0 rfl  #[.bool s2, .slice p2 n2 c2] (fun w h => (h.2.box b1 b1.lt (by omega)).part 0 #[.bool s2, .slice p2 n2 c2] rfl) _ Tryz.underlying50 rfl sizeLong) ?_
 refine tk 7 (some 12) ?_
 refine tl 8 (some 13) rfl (.agg #[.bool t1, .slice q1 m1 d1]) (exec_load 50 _ rfl w.heap.size 2 rfl  #[.bool t1, .slice q1 m1 d1] (fun w h => (h.2.box b0 b0.lt (by omega)).part 2 #[.bool t1, .slice q1 m1 d1] rfl) _ Tryz.underlying50 rfl sizeLong) ?_
 refine tk 11 (some 16) ?_
 refine tl 12 (some 17) rfl (.agg #[.bool t1, .slice q1 m1 d1]) (exec_load 50 _ rfl w.heap.size 2 rfl  #[.bool t1, .slice q1 m1 d1] (fun w h => (h.2.box b0 b0.lt (by omega)).part 2 #[.bool t1, .slice q1 m1 d1] rfl) _ Tryz.underlying50 rfl sizeLong) ?_
 refine tk 13 (some 18) ?_
 refine tl 14 (some 19) rfl (.agg #[.bool t2, .slice q2 m2 d2]) (exec_load 50 _ rfl (w.heap.size + 1) 2 rfl  #[.bool t2, .slice q2 m2 d2] (fun w h => (h.2.box b1 b1.lt (by omega)).part 2 #[.bool t2, .slice q2 m2 d2] rfl) _ Tryz.underlying50 rfl sizeLong) ?_
 refine Mono.stc 4 (some 9) (r3prod_ok _ (x1.ext (.of_below hBel)) (y2.ext (.of_below hBel)) (by omega) (by omega)) (fun e Wn4 hR => ?_)
 obtain ⟨V4, rfl, R4, hb4⟩ := hR
 replace hBel := belowCall hBel hb4
 refine ⟨(KeepBut.S (hHeld.2.call hb4)), fun hHeld => Mono.pt ?_⟩
 refine Mono.stc 9 (some 14) (r3prod_ok _ (y1.ext (.of_below hBel)) (x2.ext (.of_below hBel)) (by omega) (by omega)) (fun e Wn9 hR => ?_)
 obtain ⟨V9, rfl, R9, hb9⟩ := hR
 replace hBel := belowCall hBel hb9
 replace R4 := R4.ext (.of_below hb9)
 refine ⟨(KeepBut.S (hHeld.2.call hb9)), fun hHeld => Mono.pt ?_⟩
 refine Mono.stc 10 (some 15) (r3sum_ok _ R4 R9 (by omega) (by omega)) (fun e Wn10 hR => ?_)
 obtain ⟨V10, rfl, R10, hb10⟩ := hR
 replace hBel := belowCall hBel hb10
 replace R4 := R4.ext (.of_below hb10)
 replace R9 := R9.ext (.of_below hb10)
 refine ⟨(KeepBut.S (hHeld.2.call hb10)), fun hHeld => Mono.pt ?_⟩
 refine Mono.stc 15 (some 20) (r3prod_ok _ (x2.ext (.of_below hBel)) (y2.ext (.of_below hBel)) (by omega) (by omega)) (fun e Wn15 hR => ?_)
 obtain ⟨V15, rfl, R15, hb15⟩ := hR
 replace hBel := belowCall hBel hb15
 replace R4 := R4.ext (.of_below hb15)
 replace R9 := R9.ext (.of_below hb15)
 replace R10 := R10.ext (.of_below hb15)
 refine ⟨(KeepBut.S (hHeld.2.call hb15)), fun hHeld => Mono.pt ?_⟩
 refine Mono.stc 16 (some 21) (r4lowest_pos (m := m + m + 1) _ (R10.mono (by omega)) (R15.mono (by omega)) hden (by omega)) (fun e Wn16 hR => ?_)
 obtain ⟨V16, rfl, R16, hb16⟩ := hR
 replace hBel := belowCall hBel hb16
 replace R4 := R4.ext (.of_below hb16)
 replace R9 := R9.ext (.of_below hb16)
 replace R10 := R10.ext (.of_below hb16)
 replace R15 := R15.ext (.of_below hb16)
 refine ⟨(KeepBut.S (hHeld.2.call hb16)), fun hHeld => Mono.pt ?_⟩
 rw [hab] at R16
 obtain ⟨C, rfl, zC, oC⟩ := R16.cells
 refine wpAnyH_storeB (w.heap.size + 1 + 1) 52 17 rfl rfl rfl rfl 0 C _ C (by as_aux_lemma => kernel_rfl) (fun w' i u hS => KeepBut.S (hS.2.set i u)) rfl rfl (bO.below hBel) hHeld (by rw [zC]; exact sizeQuot) (Nat.le_of_eq (by rw [zC]; rfl)) oC (whole_new (by rw [zC]; rfl)) (fun Ws hks bs hHeld => ?_)
 refine wpAnyH_done (by as_aux_lemma => kernel_rfl) ?_ _
 have xS := hks.ext (bO.below hBel) (by decide)
 go_wp2
 refine bodyPost_ret (bs.results rfl _ _ rfl Tryz.underlying52 rfl (by rw [zC]; exact sizeQuot)) rfl ?_
 exact ⟨_, rfl, R16.ext xS, hHeld.2.below hB (by omega) hB.size⟩
end Go.Proofs.YtcgfdibagldafaaGreatDoor
namespace Go.Mono
open Go.RowKit
theorem LgV.len {m : Nat} {w : World} {s : Bool} {p : Option Addr} {n c : Nat} {z : Int} (h : LgV m w (.agg #[.bool s, .slice p n c]) z) : n ≤ m ∧ s = decide (z < 0) ∧ (0 < z.natAbs ↔ 0 < n) := by
 obtain ⟨p', n', c', f, hv, h1, h2, h3, h4⟩ := h
 simp only [Value.agg.injEq, Array.mk.injEq, List.cons.injEq, Value.bool.injEq, Value.slice.injEq, and_true] at hv
 obtain ⟨rfl, rfl, rfl, rfl⟩ := hv
 refine ⟨h4, rfl, ?_⟩
 have := h2.pos
 rw [h3] at this
 omega
end Go.Mono
namespace Go.Proofs.YtcgfdibagldafaaGreatDoor
open Go.RowKit Go.Mono
theorem r4told_ok {v1 : Value} {a : Rat} (w : World) (h1 : QtV 600 w v1 a) :
  Calls Tryz.prog 175 #[v1] w fun e w' => e = .returned (.tuple #[v1, .int .i64 0]) ∧ Below w.heap.size w w' := by
 obtain ⟨s1, p1, n1, c1, t1, q1, m1, d1, rfl, x1, x2⟩ := h1
 have l1 := x1.len.1
 have l2 := x2.len.1
 have l1' : ¬ ((600 : Int) < n1) := by omega
 have l2' : ¬ ((600 : Int) < m1) := by omega
 clear x1 x2
 go_enter Tryz.func175, Tryz.ntmps175
 go_wp2
 have b := Box.new (w.alloc (.cells #[.bool s1, .slice p1 n1 c1, .bool t1, .slice q1 m1 d1] 52)) 52 #[.bool s1, .slice p1 n1 c1, .bool t1, .slice q1 m1 d1]
 simp only [World.size_alloc] at b
 exact bodyPost_ret (b.resultsT rfl _ _ rfl Tryz.underlying52 rfl sizeQuot) rfl ⟨rfl, belowAlloc (belowAlloc (Below.refl _ _) _) _⟩
theorem r4same_ok {m1 m2 : Nat} {v1 v2 : Value} {a b : Rat} (w : World) (h1 : QtV m1 w v1 a) (h2 : QtV m2 w v2 b) :
  Calls Tryz.prog 131 #[v1, v2] w fun e w' => e = .returned (.bool (decide (a = b))) ∧ Below w.heap.size w w' := by
 obtain ⟨s1, p1, n1, c1, t1, q1, m1, d1, rfl, x1, x2⟩ := h1
 obtain ⟨s2, p2, n2, c2, t2, q2, m2, d2, rfl, y1, y2⟩ := h2
 have hab : decide (a = b) = (decide (a.num = b.num) && decide ((a.den : Int) = b.den)) := by
  rw [Bool.eq_iff_iff]
  simp only [decide_eq_true_eq, Bool.and_eq_true]
  exact ⟨fun h => by subst h; exact ⟨rfl, rfl⟩, fun h => Rat.ext h.1 (by omega)⟩
 rw [hab]
 clear hab
 have hs1 := fun (X : World) (hX : Ext w X) => r3same_ok X (x1.ext hX) (y1.ext hX)
 have hs2 := fun (X : World) (hX : Ext w X) => r3same_ok X (x2.ext hX) (y2.ext hX)
 generalize decide (a.num = b.num) = e1 at *
 generalize decide ((a.den : Int) = b.den) = e2 at *
 clear x1 x2 y1 y2
 go_enter Tryz.func131, Tryz.ntmps131
 go_wp2_with fail
 refine boxes2c fun W hB hs b0 b1 => ?_
 refine (hs1 W (.of_below hB)).mono ?_
 rintro e W2 ⟨rfl, hb⟩
 replace b0 := b0.below hb
 replace b1 := b1.below hb
 replace hB := belowCall hB hb
 have cb0 := b0.cell
 have lb0 := b0.lt
 have fb0 := b0.frozen
 have cb1 := b1.cell
 have lb1 := b1.lt
 have fb1 := b1.frozen
 clear hs1 hb hs
 cases e1
 ·go_wp2
  go_ret
  exact ⟨rfl, hB⟩
 ·go_wp2_with (go_at_call 178; refine (hs2 W2 (.of_below hB)).mono ?_; rintro e W3 ⟨rfl, hb3⟩)
  go_ret
  exact ⟨by simp, belowCall hB hb3⟩
theorem r4right_ok {v1 : Value} {a : Rat} (w : World) (h1 : QtV 600 w v1 a) :
  Calls Tryz.prog 174 #[v1] w fun e w' => e = .returned (.bool true) ∧ Below w.heap.size w w' := by
 obtain ⟨s1, p1, n1, c1, t1, q1, m1, d1, rfl, x1, x2⟩ := h1
 have hg : (Int.gcd a.num a.den : Int) = 1 := by
  have := a.reduced
  have h : Int.gcd a.num a.den = 1 := by simpa [Int.gcd, Nat.Coprime] using this
  rw [h]; rfl
 have ht : t1 = false := by
  rw [x2.len.2.1]
  exact decide_eq_false (by omega)
 subst ht
 have hn := x2.len.2.2.1 (by have := a.den_pos; omega)
 have hn' : (0 : Int) < m1 := by omega
 have hr1 := fun (X : World) (hX : Ext w X) => r3right_ok X (x1.ext hX)
 have hr2 := fun (X : World) (hX : Ext w X) => r3right_ok X (x2.ext hX)
 have hc := fun (X : World) (hX : Ext w X) => r3common_ok X (x1.ext hX) (x2.ext hX) (by decide)
 rw [hg] at hc
 clear x1 x2 hg
 go_enter Tryz.func174, Tryz.ntmps174
 go_wp2_with fail
 refine boxes1c fun W hB hs b0 => ?_
 refine (hr1 W (.of_below hB)).mono ?_
 rintro e W2 ⟨rfl, hb⟩
 replace b0 := b0.below hb
 replace hB := belowCall hB hb
 have cb0 := b0.cell
 have lb0 := b0.lt
 have fb0 := b0.frozen
 clear hb
 go_wp2_with (go_at_call 207; refine (hr2 W2 (.of_below hB)).mono ?_; rintro e W3 ⟨rfl, hb3⟩; replace b0 := b0.below hb3; replace hB := belowCall hB hb3; clear cb0 lb0 fb0 hb3; have cb0 := b0.cell; have lb0 := b0.lt; have fb0 := b0.frozen)
 go_wp2_with (go_at_call 222; refine (hc W3 (.of_below hB)).mono ?_; rintro e W4 ⟨v, rfl, hv, hb4⟩; replace hB := belowCall hB hb4)
 go_wp2_with (go_at_call 159; refine (r3of_ok 1 W4 (by decide) (by decide)).mono ?_; rintro e W5 ⟨u, rfl, hu, hb5⟩; replace hB := belowCall hB hb5)
 go_wp2_with (go_at_call 178; refine (r3same_ok W5 (hv.below hb5) hu).mono ?_; rintro e W6 ⟨rfl, hb6⟩; replace hB := belowCall hB hb6)
 go_wp2
 go_ret
 exact ⟨by simp, hB⟩
section
open Go.Ex
theorem r3rightBad_ok (s : Bool) (p : Option Addr) (n c : Nat) (f : Nat → Int) (w wf : World) (hx : Ext wf w) (h1 : SlF wf (.slice p n c) n f) (h4 : n ≤ 600) (hbad : ¬ LongOk s n f) :
  Calls Tryz.prog 207 #[.agg #[.bool s, .slice p n c]] w fun e w' => e = .returned (.bool false) ∧ Below w.heap.size w w' := by
 replace h1 := h1.ext hx
 clear hx
 obtain ⟨hc1, hn1, hx1⟩ := h1.opens
 clear h1
 by_cases hn : n = 0
 ·subst hn
  have hsf : s = true := by
   cases s
   ·exact absurd ⟨⟨fun i hi => by omega, fun i hi => by omega, fun h => by omega⟩, fun h => by cases h⟩ hbad
   ·rfl
  subst hsf
  clear hx1
  go_enter Tryz.func207, Tryz.ntmps207
  go_wp2
  go_ret
  exact ⟨rfl, belowAlloc (Below.refl _ _) _⟩
 ·have hn' : ((n : Int) == 0) = false := by simp; omega
  obtain ⟨b, off, rfl, hb, hcell⟩ := hx1 (by omega)
  clear hx1
  by_cases hall : ∀ i, i < n → 0 ≤ f i ∧ f i < 1000000000
  ·obtain ⟨k, rfl⟩ : ∃ k, n = k + 1 := ⟨n - 1, by omega⟩
   have ht : f k = 0 := by
    by_cases ht : f k = 0
    ·exact ht
    ·exact absurd ⟨⟨fun i hi => (hall i hi).1, fun i hi => (hall i hi).2, fun _ => by simpa using ht⟩, fun _ => by omega⟩ hbad
   clear hbad
   have hk6 : (k : Int) + 1 ≤ 600 := by omega
   go_enter Tryz.func207, Tryz.ntmps207
   go_wp2
   refine boxes1 fun W hB hs b0 => ?_
   go_loopw [3] (fun a wr => ∃ i : Nat, i ≤ k + 1 ∧ a = .int .i64 (i : Int) ∧ wr = W) (fun a _ => (k + 1 - RowKit.intOf a).toNat)
   case atStart => exact ⟨0, Nat.zero_le _, rfl, rfl⟩
   case round =>
    obtain ⟨i, hi, rfl, hWe⟩ := hrel
    obtain rfl : W = wr := hWe.symm
    have cb0 := b0.cell
    have lb0 := b0.lt
    have fb0 := b0.frozen
    by_cases hin : i < k + 1
    ·have a1 := (hB.cell (p := ⟨b, off + i, none⟩) hb).trans (hcell i hin)
     have hin' : (i : Int) < k + 1 := by omega
     have f0 := (hall i hin).1
     have f9 := (hall i hin).2
     clear ht hall
     generalize f i = x at *
     clear hcell
     go_wp2
     go_roundw
     case rel => refine ⟨i + 1, by omega, ?_⟩; simp
     case measure => simp [RowKit.intOf]; omega
    ·obtain rfl : i = k + 1 := by omega
     have a1 := (hB.cell (p := ⟨b, off + k, none⟩) hb).trans (hcell k (by omega))
     rw [ht] at a1
     clear hcell hall ht
     go_wp2
     go_ret
     exact ⟨rfl, hB⟩
  ·obtain ⟨j, hj, hlo, hjb⟩ := bad_digit f n hall
   clear hall hbad
   go_enter Tryz.func207, Tryz.ntmps207
   go_wp2
   refine boxes1 fun W hB hs b0 => ?_
   go_loopw [3] (fun a wr => ∃ i : Nat, i ≤ j ∧ a = .int .i64 (i : Int) ∧ wr = W) (fun a _ => (n - RowKit.intOf a).toNat)
   case atStart => exact ⟨0, Nat.zero_le _, rfl, rfl⟩
   case round =>
    obtain ⟨i, hi, rfl, hWe⟩ := hrel
    obtain rfl : W = wr := hWe.symm
    have cb0 := b0.cell
    have lb0 := b0.lt
    have fb0 := b0.frozen
    have hin' : (i : Int) < n := by omega
    have a1 := (hB.cell (p := ⟨b, off + i, none⟩) hb).trans (hcell i (by omega))
    by_cases hin : i < j
    ·have f0 := (hlo i hin).1
     have f9 := (hlo i hin).2
     clear hlo hjb
     generalize f i = x at *
     clear hcell
     go_wp2
     go_roundw
     case rel => refine ⟨i + 1, by omega, ?_⟩; simp
     case measure => simp [RowKit.intOf]; omega
    ·obtain rfl : i = j := by omega
     clear hlo hcell
     generalize f i = x at *
     by_cases a4 : x < 0
     ·clear hjb
      go_wp2
      go_ret
      exact ⟨rfl, hB⟩
     ·have a5 : 1000000000 ≤ x := by omega
      clear hjb
      go_wp2
      go_ret
      exact ⟨rfl, hB⟩
def lval (s : Bool) (n : Nat) (f : Nat → Int) : Int := bif s then -(vf f n) else vf f n
theorem LongOk.nonneg {s : Bool} {n : Nat} {f : Nat → Int} (h : LongOk s n f) : 0 ≤ vf f n ∧ (s = true → 0 < vf f n) := by
 by_cases hn : n = 0
 ·subst hn
  exact ⟨by simp [vf], fun hs => by have := h.2 hs; omega⟩
 ·have := h.1.ge (by omega)
  have := pw_pos (n - 1)
  exact ⟨by omega, fun _ => by omega⟩
theorem LongOk.lg {s : Bool} {n c : Nat} {f : Nat → Int} {p : Option Addr} {w : World} (h : LongOk s n f) (h1 : SlF w (.slice p n c) n f) (h4 : n ≤ 600) : LgV 600 w (.agg #[.bool s, .slice p n c]) (lval s n f) := by
 obtain ⟨h0, hs⟩ := h.nonneg
 have e : decide (lval s n f < 0) = s := by
  cases s with
  | true => exact decide_eq_true (by have := hs rfl; show -(vf f n) < 0; omega)
  | false => exact decide_eq_false (by show ¬ vf f n < 0; omega)
 refine ⟨p, n, c, f, by rw [e], h1, h.1, ?_, h4⟩
 cases s with
 | true =>
   show vf f n = ((-(vf f n)).natAbs : Int)
   rw [Int.natAbs_neg]
   exact (Int.natAbs_of_nonneg h0).symm
 | false => exact (Int.natAbs_of_nonneg h0).symm
theorem lval_gcd {s : Bool} {n m : Nat} {f g : Nat → Int} (h1 : LongOk s n f) (h2 : LongOk false m g) (hG : gcdZ (vf f n) (vf g m) ≠ 1) : ¬ ((Int.gcd (lval s n f) (lval false m g) : Int) = 1) := by
 intro h
 apply hG
 obtain ⟨a0, _⟩ := h1.nonneg
 obtain ⟨b0, _⟩ := h2.nonneg
 rw [← h]
 unfold gcdZ Int.gcd lval
 have e2 : (vf g m).natAbs = (vf g m).toNat := by omega
 cases s with
 | true => simp only [cond_true, cond_false, Int.natAbs_neg]; rw [e2, show (vf f n).natAbs = (vf f n).toNat by omega]
 | false => simp only [cond_false]; rw [e2, show (vf f n).natAbs = (vf f n).toNat by omega]
theorem rbad1 (s t : Bool) (p q : Option Addr) (n m c e : Nat) (f g : Nat → Int) (w : World) (h1 : SlF w (.slice p n c) n f) (h2 : SlF w (.slice q m e) m g) (hn : n ≤ 600) (hm : m ≤ 600) (hN : ¬ LongOk s n f) :
  Calls Tryz.prog 174 #[.agg #[.bool s, .slice p n c, .bool t, .slice q m e]] w fun e' w' => e' = .returned (.bool false) ∧ Below w.heap.size w w' := by
 have hr1 := fun (X : World) (hX : Ext w X) => r3rightBad_ok s p n c f X w hX h1 hn hN
 clear h1 h2 hn hm
 go_enter Tryz.func174, Tryz.ntmps174
 go_wp2_with fail
 refine boxes1c fun W hB hs b0 => ?_
 refine (hr1 W (.of_below hB)).mono ?_
 rintro e W2 ⟨rfl, hb⟩
 replace b0 := b0.below hb
 replace hB := belowCall hB hb
 have cb0 := b0.cell
 have lb0 := b0.lt
 have fb0 := b0.frozen
 clear hb
 go_wp2
 go_ret
 exact ⟨rfl, hB⟩
theorem rbad2 (s t : Bool) (p q : Option Addr) (n m c e : Nat) (f g : Nat → Int) (w : World) (h1 : SlF w (.slice p n c) n f) (h2 : SlF w (.slice q m e) m g) (hn : n ≤ 600) (hm : m ≤ 600) (hN : LongOk s n f) (hD : ¬ LongOk t m g) :
  Calls Tryz.prog 174 #[.agg #[.bool s, .slice p n c, .bool t, .slice q m e]] w fun e' w' => e' = .returned (.bool false) ∧ Below w.heap.size w w' := by
 have hr1 := fun (X : World) (hX : Ext w X) => r3right_ok X ((hN.lg h1 hn).ext hX)
 have hr2 := fun (X : World) (hX : Ext w X) => r3rightBad_ok t q m e g X w hX h2 hm hD
 clear h1 h2 hn hm
 go_enter Tryz.func174, Tryz.ntmps174
 go_wp2_with fail
 refine boxes1c fun W hB hs b0 => ?_
 refine (hr1 W (.of_below hB)).mono ?_
 rintro e W2 ⟨rfl, hb⟩
 replace b0 := b0.below hb
 replace hB := belowCall hB hb
 have cb0 := b0.cell
 have lb0 := b0.lt
 have fb0 := b0.frozen
 clear hb
 go_wp2_with (go_at_call 207; refine (hr2 W2 (.of_below hB)).mono ?_; rintro e W3 ⟨rfl, hb3⟩; replace b0 := b0.below hb3; replace hB := belowCall hB hb3; clear cb0 lb0 fb0 hb3; have cb0 := b0.cell; have lb0 := b0.lt; have fb0 := b0.frozen)
 go_wp2
 go_ret
 exact ⟨rfl, hB⟩
theorem rbad3 (s : Bool) (p q : Option Addr) (n m c e : Nat) (f g : Nat → Int) (w : World) (h1 : SlF w (.slice p n c) n f) (h2 : SlF w (.slice q m e) m g) (hn : n ≤ 600) (hm : m ≤ 600) (hN : LongOk s n f) (hD : LongOk true m g) :
  Calls Tryz.prog 174 #[.agg #[.bool s, .slice p n c, .bool true, .slice q m e]] w fun e' w' => e' = .returned (.bool false) ∧ Below w.heap.size w w' := by
 have hr1 := fun (X : World) (hX : Ext w X) => r3right_ok X ((hN.lg h1 hn).ext hX)
 have hr2 := fun (X : World) (hX : Ext w X) => r3right_ok X ((hD.lg h2 hm).ext hX)
 clear h1 h2 hn hm
 go_enter Tryz.func174, Tryz.ntmps174
 go_wp2_with fail
 refine boxes1c fun W hB hs b0 => ?_
 refine (hr1 W (.of_below hB)).mono ?_
 rintro e W2 ⟨rfl, hb⟩
 replace b0 := b0.below hb
 replace hB := belowCall hB hb
 have cb0 := b0.cell
 have lb0 := b0.lt
 have fb0 := b0.frozen
 clear hb
 go_wp2_with (go_at_call 207; refine (hr2 W2 (.of_below hB)).mono ?_; rintro e W3 ⟨rfl, hb3⟩; replace b0 := b0.below hb3; replace hB := belowCall hB hb3; clear cb0 lb0 fb0 hb3; have cb0 := b0.cell; have lb0 := b0.lt; have fb0 := b0.frozen)
 go_wp2
 go_ret
 exact ⟨rfl, hB⟩
theorem rbad4 (s : Bool) (p q : Option Addr) (n c e : Nat) (f g : Nat → Int) (w : World) (h1 : SlF w (.slice p n c) n f) (h2 : SlF w (.slice q 0 e) 0 g) (hn : n ≤ 600) (hm : 0 ≤ 600) (hN : LongOk s n f) (hD : LongOk false 0 g) :
  Calls Tryz.prog 174 #[.agg #[.bool s, .slice p n c, .bool false, .slice q 0 e]] w fun e' w' => e' = .returned (.bool false) ∧ Below w.heap.size w w' := by
 have hr1 := fun (X : World) (hX : Ext w X) => r3right_ok X ((hN.lg h1 hn).ext hX)
 have hr2 := fun (X : World) (hX : Ext w X) => r3right_ok X ((hD.lg h2 hm).ext hX)
 clear h1 h2 hn hm
 go_enter Tryz.func174, Tryz.ntmps174
 go_wp2_with fail
 refine boxes1c fun W hB hs b0 => ?_
 refine (hr1 W (.of_below hB)).mono ?_
 rintro e W2 ⟨rfl, hb⟩
 replace b0 := b0.below hb
 replace hB := belowCall hB hb
 have cb0 := b0.cell
 have lb0 := b0.lt
 have fb0 := b0.frozen
 clear hb
 go_wp2_with (go_at_call 207; refine (hr2 W2 (.of_below hB)).mono ?_; rintro e W3 ⟨rfl, hb3⟩; replace b0 := b0.below hb3; replace hB := belowCall hB hb3; clear cb0 lb0 fb0 hb3; have cb0 := b0.cell; have lb0 := b0.lt; have fb0 := b0.frozen)
 go_wp2
 go_ret
 exact ⟨rfl, hB⟩
theorem rbad5 (s : Bool) (p q : Option Addr) (n m c e : Nat) (f g : Nat → Int) (w : World) (h1 : SlF w (.slice p n c) n f) (h2 : SlF w (.slice q m e) m g) (hn : n ≤ 600) (hm : m ≤ 600) (hN : LongOk s n f) (hD : LongOk false m g) (h0 : 0 < m) (hG : gcdZ (vf f n) (vf g m) ≠ 1) :
  Calls Tryz.prog 174 #[.agg #[.bool s, .slice p n c, .bool false, .slice q m e]] w fun e' w' => e' = .returned (.bool false) ∧ Below w.heap.size w w' := by
 have hr1 := fun (X : World) (hX : Ext w X) => r3right_ok X ((hN.lg h1 hn).ext hX)
 have hr2 := fun (X : World) (hX : Ext w X) => r3right_ok X ((hD.lg h2 hm).ext hX)
 have hc := fun (X : World) (hX : Ext w X) => r3common_ok X ((hN.lg h1 hn).ext hX) ((hD.lg h2 hm).ext hX) (by decide)
 have hG' := lval_gcd hN hD hG
 have hn' : (0 : Int) < m := by omega
 clear h1 h2 hn hm
 go_enter Tryz.func174, Tryz.ntmps174
 go_wp2_with fail
 refine boxes1c fun W hB hs b0 => ?_
 refine (hr1 W (.of_below hB)).mono ?_
 rintro e W2 ⟨rfl, hb⟩
 replace b0 := b0.below hb
 replace hB := belowCall hB hb
 have cb0 := b0.cell
 have lb0 := b0.lt
 have fb0 := b0.frozen
 clear hb
 go_wp2_with (go_at_call 207; refine (hr2 W2 (.of_below hB)).mono ?_; rintro e W3 ⟨rfl, hb3⟩; replace b0 := b0.below hb3; replace hB := belowCall hB hb3; clear cb0 lb0 fb0 hb3; have cb0 := b0.cell; have lb0 := b0.lt; have fb0 := b0.frozen)
 go_wp2_with (go_at_call 222; refine (hc W3 (.of_below hB)).mono ?_; rintro e W4 ⟨v, rfl, hv, hb4⟩; replace hB := belowCall hB hb4)
 go_wp2_with (go_at_call 159; refine (r3of_ok 1 W4 (by decide) (by decide)).mono ?_; rintro e W5 ⟨u, rfl, hu, hb5⟩; replace hB := belowCall hB hb5)
 go_wp2_with (go_at_call 178; refine (r3same_ok W5 (hv.below hb5) hu).mono ?_; rintro e W6 ⟨rfl, hb6⟩; replace hB := belowCall hB hb6)
 go_wp2
 go_ret
 exact ⟨by simp, hB⟩
theorem r4rightBad_ok (cs : List Value) (w : World) (h : BadQ w cs) : Calls Tryz.prog 174 #[.agg cs.toArray] w fun e' w' => e' = .returned (.bool false) ∧ Below w.heap.size w w' := by
 obtain ⟨s, t, p, q, n, m, c, e, f, g, rfl, h1, h2, hn, hm, hbad⟩ := h
 by_cases hN : LongOk s n f
 ·by_cases hD : LongOk t m g
  ·cases t with
   | true => exact rbad3 s p q n m c e f g w h1 h2 hn hm hN hD
   | false =>
     by_cases h0 : 0 < m
     ·exact rbad5 s p q n m c e f g w h1 h2 hn hm hN hD h0 fun hG => hbad ⟨hN, hD, rfl, h0, hG⟩
     ·obtain rfl : m = 0 := by omega
      exact rbad4 s p q n c e f g w h1 h2 hn (by omega) hN hD
  ·exact rbad2 s t p q n m c e f g w h1 h2 hn hm hN hD
 ·exact rbad1 s t p q n m c e f g w h1 h2 hn hm hN
end
end Go.Proofs.YtcgfdibagldafaaGreatDoor
