/- The law MatrixKnown: the examples of the ray transfer matrices, afocal lenses, mirrors and the order of errors; its walk by a verified evaluator of the model, and its card. Part 5 of 36. No condition beside the row. -/
import Derived.Deep.Upon
import Derived.Laws.AppendOwn
import Derived.OrdersIn
import Derived.RecoverIn
import Derived.RangeFuncLeaves
import Derived.RangeFuncBound
import Derived.RangeFuncCalls
import Derived.RangeFuncNested
import Derived.Test.YtdgodcgdlfjpaaaGreatDoorM04
set_option linter.unusedVariables false
set_option linter.unusedSimpArgs false
set_option maxRecDepth 100000
set_option maxHeartbeats 4000000
namespace Go.Proofs.YtdgodcgdlfjpaaaGreatDoor
open Go.RowKit Go.Mono
theorem below_call {w w1 w2 : World} (h : Below w.heap.size w w1) (k : Below w1.heap.size w1 w2) : Below w.heap.size w w2 := h.trans (k.mono h.size)
theorem by_ex (p : Option Addr) (n c1 : Nat) (f : Nat → Int) (d : Int) (w w0 : World) (h1 : SlF w0 (.slice p n c1) n f) (hx : Below w0.heap.size w0 w)
  (d1 : Digs f n) (hn : n ≤ 1000000) (d0 : 0 ≤ d) (d1' : d < 1000000000) :
  Calls Tryz.prog 255 #[.slice p n c1, .int .i64 d] w fun e w' => ∃ r h, e = .returned (.slice (some ⟨r, 0, none⟩) (n + 1) (n + 1)) ∧ w.heap.size ≤ r ∧ Below w.heap.size w w' ∧
   RowF w' r (n + 1) h ∧ (∀ j, j < n + 1 → 0 ≤ h j) ∧ (∀ j, j < n + 1 → h j < 1000000000) ∧ vf h (n + 1) = vf f n * d := by
 refine (by_any p n c1 f d w (h1.ext (.of_below hx)) d1.lo d1.hi hn d0 d1').mono ?_
 rintro e w' ⟨rfl, hb, h, hr, h0, h1, hv⟩
 exact ⟨_, h, rfl, Nat.le_refl _, hb, hr, h0, h1, hv⟩
theorem over_many (p q : Option Addr) (n m c1 c2 : Nat) (f g : Nat → Int) (w : World) (h1 : SlF w (.slice p n c1) n f) (h2 : SlF w (.slice q (m + 2) c2) (m + 2) g) (d1 : Digs f n) (d2 : Digs g (m + 2))
  (hn : n ≤ 1000000) (hle : vf g (m + 2) ≤ vf f n) :
  Calls Tryz.prog 226 #[.slice p n c1, .slice q (m + 2) c2] w fun e w' => ∃ p1 k1 c1 p2 k2 c2, e = .returned (.tuple #[.slice p1 k1 c1, .slice p2 k2 c2]) ∧ Sz n w' (.slice p1 k1 c1) (vf f n / vf g (m + 2)) ∧ Sz (m + 2) w' (.slice p2 k2 c2) (vf f n % vf g (m + 2)) ∧ Below w.heap.size w w' := by
 have hc := cmp_sz n (m + 2) w w (Ext.refl _) p q n (m + 2) c1 c2 _ _ ⟨n, f, h1, d1, rfl, Nat.le_refl _⟩ ⟨m + 2, g, h2, d2, rfl, Nat.le_refl _⟩
 have hmn := d2.len_le d1 hle
 obtain ⟨_, _, hx2⟩ := h2.opens
 obtain ⟨b, off, rfl, hb2, hcell⟩ := hx2 (by omega)
 have a1 := hcell (m + 1) (by omega)
 have t0 := d2.lo (m + 1) (by omega)
 have t1 := d2.hi (m + 1) (by omega)
 have t2 := d2.top (by omega)
 rw [show m + 2 - 1 = m + 1 by omega] at t2
 have t3 : 0 < g (m + 1) := by omega
 have t4 : ¬ g (m + 1) + 1 = 0 := by omega
 obtain ⟨F0, F1, F2⟩ := factor_bd t3 t1
 clear hcell hx2 t2
 go_enter Tryz.func226, Tryz.ntmps226
 go_wp2_with (go_at_call 158; refine hc.mono ?_; rintro e w' ⟨c, ⟨rfl, k, rfl⟩, hc1, hc2⟩; have hc0 : ¬ c < 0 := fun h => by have := hc1.1 h; omega)
 clear hc t0 t1 t3 t4 a1
 have x0 : Below w.heap.size w (w.drewN k) := below_drewN (Below.refl _ _) k
 generalize w.drewN k = W at x0 ⊢
 replace x0 := x0.drew
 generalize hF : 1000000000 / (g (m + 1) + 1) = F at F0 F1 F2 ⊢
 clear hF
 have i1 : (0 : Int) ≤ (m : Int) + 2 := by omega
 have i2 : (m : Int) + 2 ≤ ((m + 2 + 1 : Nat) : Int) := by omega
 have i3 : ((m : Int) + 2).toNat = m + 2 := by omega
 have i4 : (m : Int) + 2 ≤ (m : Int) + 2 + 1 := by omega
 go_region_held3 (fun w' => Below w.heap.size w w') (first | assumption | exact x0 | exact below_call ‹Below w.heap.size w _› ‹_›) (first
  | (go_at_call 255; (with_reducible refine (by_ex p n c1 f F _ w h1 ‹_› d1 hn (by omega) F1).mono ?_); rintro e w1 ⟨r, hu, rfl, hr1, hb1, hru, u0, u1, uv⟩)
  | (go_at_call 255; (with_reducible refine (by_ex _ (m + 2) c2 g F _ w h2 ‹_› d2 (by omega) (by omega) F1).mono ?_); rintro e w2 ⟨s, hv, rfl, hs1, hb2, hrv, v0, v1, vv⟩))
 obtain ⟨Q, rfl⟩ : ∃ Q, n = Q + (m + 1) := ⟨n - (m + 1), by omega⟩
 have hQ0 : 0 < Q := by omega
 have hst := start_lt rfl d1 d2 F0
 obtain ⟨V1, V2⟩ := v_top (m := m) (v := hv) (G := vf g (m + 2) * F) v0 v1 vv (by
  have a2 := d2.ge (by omega)
  rw [show m + 2 - 1 = m + 1 by omega] at a2
  have := mle (show 1 ≤ F from F0) d2.nonneg
  have : F * vf g (m + 2) = vf g (m + 2) * F := Int.mul_comm _ _
  omega) (factor_lt (m := m + 1) d2.hi F0 F2)
 have hsr : r < w1.heap.size := hru.lt
 have hwr : w.heap.size ≤ r := Nat.le_trans x0.size hr1
 have hss : s < w2.heap.size := hrv.lt
 have ru2 := hru.below hb2
 have hB2 : Below w.heap.size w w2 := by assumption
 clear hle d1 d2 h1 h2 F2 hb1 hb2 i1 i2 i3 i4 x0 vv hru
 go_wp2_with (at_make; refine wpList_make_ints _ rfl _ _ 147 rfl Tryz.underlying147 infoInt _ _ Q rfl rfl (by omega) (by omega) (by omega) ?_; intro w3 r3 b3; have s3 := b3.size; have L3 := r3.lt)
 have ru3 := ru2.below b3
 have rv3 := hrv.below b3
 have hts : w.heap.size ≤ w2.heap.size := hB2.size
 have hB3 := below_call hB2 b3
 generalize w2.heap.size = t at r3 hss hts L3 hB2 ⊢
 have hrs : r < s := by omega
 clear b3 s3 ru2 hrv
 have HO := OverInv.start (m := m) (Q := Q) (R := Q + (m + 1) + 1) (A := vf f (Q + (m + 1)) * F) (g := hv) (M := vf g (m + 2) * F) (by omega) u0 u1 uv hst V1
 clear u0 u1 uv hst
 have hVp := vf_lt (f := hv) (k := m + 2) fun i hi => v1 i (by omega)
 go_loopw [12] (fun a wr => ∃ i : Nat, i ≤ Q ∧ a = .int .i64 ((i : Int) - 1) ∧ Below w.heap.size w wr ∧ ∃ h q, RowF wr r (Q + (m + 1) + 1) h ∧ RowF wr s (m + 2 + 1) hv ∧ RowF wr t Q q ∧ OverInv m Q (Q + (m + 1) + 1) (vf f (Q + (m + 1)) * F) hv i h q) (fun a _ => (intOf a + 1).toNat)
 case atStart => exact ⟨Q, Nat.le_refl _, rfl, hB3, hu, _, ru3, rv3, r3, HO⟩
 case round =>
  clear ru3 rv3 r3 HO
  obtain ⟨i, hi, rfl, hB, h, q, ru, rv, rq, HO⟩ := hrel
  by_cases hlt : 0 < i
  ·obtain ⟨j, rfl⟩ : ∃ j, i = j + 1 := ⟨i - 1, by omega⟩
   rw [show ((j + 1 : Nat) : Int) - 1 = (j : Int) by omega]
   have a1 := ru.cell (j + (m + 2)) (by omega)
   have a2 := ru.cell (j + (m + 1)) (by omega)
   have a3 := ru.cell (j + m) (by omega)
   have a4 := rv.cell (m + 1) (by omega)
   have a5 := rv.cell m (by omega)
   have E := Est.mk' (m := m) (g := hv) (u := win h j) (fun i hi => v0 i (by omega)) (fun i hi => v1 i (by omega)) (fun i hi => HO.lo _ (by omega)) (fun i hi => HO.hi _ (by omega)) V2 (HO.U_lt (by omega))
   have e1 := E.u10
   have e2 := E.u11
   have e3 := E.u20
   have e4 := E.u2_le
   have e5 := E.v10
   have e6 := E.v11
   have e7 := E.u00
   have e8 := E.u01
   have e9 := E.v20
   have e10 := E.v21
   simp only [win] at e1 e2 e3 e4 e7 e8
   have n1 : ((j : Int) + ((m : Int) + 2)).toNat = j + (m + 2) := by omega
   have n2 : ((j : Int) + ((m : Int) + 2) - 1).toNat = j + (m + 1) := by omega
   have n3 : ((m : Int) + 2 - 1).toNat = m + 1 := by omega
   have n4 : ((m : Int) + 2 - 2).toNat = m := by omega
   have n5 : ((j : Int) + ((m : Int) + 2) - 2).toNat = j + m := by omega
   have l1 : (j : Int) + ((m : Int) + 2) < ((Q + (m + 1) + 1 : Nat) : Int) := by omega
   have l2 : (j : Int) + ((m : Int) + 2) - 1 < ((Q + (m + 1) + 1 : Nat) : Int) := by omega
   have l3 : (j : Int) + ((m : Int) + 2) - 2 < ((Q + (m + 1) + 1 : Nat) : Int) := by omega
   have l4 : (0 : Int) ≤ (j : Int) + ((m : Int) + 2) - 1 := by omega
   have l5 : (0 : Int) ≤ (j : Int) + ((m : Int) + 2) - 2 := by omega
   clear hc0 hc1 hc2 F0 F1 hQ0 hr1 hs1 hsr hB2 hB3
   go_wp2
   go_step3
   go_wp2
   go_quiet (fail)
   go_wp2
   go_quiet (fail)
   go_wp2
   go_step3
   have hI := E.init
   have hr1 : (h (j + (m + 2)) * 1000000000 + h (j + (m + 1))) % hv (m + 1) < 1000000000 := by have := Int.emod_lt_of_pos (h (j + (m + 2)) * 1000000000 + h (j + (m + 1))) e5; omega
   go_wp2_with fail
   go_loopw [14, 15] (fun a b W => ∃ d rest, a = .int .i64 d ∧ b = .int .i64 rest ∧ EstInv (vf hv (m + 2)) (vf (win h j) (m + 3)) (hv (m + 1)) (h (j + (m + 2)) * 1000000000 + h (j + (m + 1))) d rest ∧ rest < 1000000000 ∧ ∃ k, W = wr.drewN k) (fun a _ _ => (intOf a).toNat)
   case atStart => exact ⟨_, _, rfl, rfl, hI, hr1, by first | exact ⟨_, rfl⟩ | exact ⟨_, World.drewN_drewN _ _ _⟩⟩
   case round =>
    clear hI hr1
    obtain ⟨d, rest, rfl, rfl, hI, hrest, k', rfl⟩ := hrel
    have d0 := hI.d0
    have d1 := hI.d1
    have r0 := hI.r0
    have p1 : 0 ≤ d * hv m := Int.mul_nonneg d0 e9
    have p2 : d * hv m ≤ 1999999998000000001 := by have := mle (show d ≤ 1999999999 by omega) e9; omega
    by_cases hge : 1000000000 ≤ d
    ·have HS := E.step hI (.inl hge)
     by_cases hb : 1000000000 ≤ rest + hv (m + 1)
     ·obtain ⟨hD1, hD2⟩ := E.brk HS hb
      have hDlt := E.done HS hD1 hD2
      have hD := HS
      clear HS hD2
      go_wp2_with fail
      go_quiet (fail)
      have hDbig := hD.big
      have hD0 := hD.d0
      have l6 : j + (m + 2) + 1 - j = m + 2 + 1 := by omega
      have l7 : (0 : Int) ≤ (j : Int) + ((m : Int) + 2) + 1 := by omega
      have l8 : ((j : Int) + ((m : Int) + 2) + 1).toNat = j + (m + 2) + 1 := by omega
      have l9 : (j : Int) + ((m : Int) + 2) + 1 ≤ ((Q + (m + 1) + 1 : Nat) : Int) := by omega
      have l10 : (j : Int) ≤ (j : Int) + ((m : Int) + 2) + 1 := by omega
      have cq := rq.cell j (by omega)
      have cf := rq.frozen j
      have HOlo := HO.lo
      have HOhi := HO.hi
      have VW0 : 0 < vf hv (m + 2) := E.V_pos
      replace hDbig := Lib.hid hDbig
      replace hDlt := Lib.hid hDlt
      clear hD hI
      go_wp2_with (go_at_call 256; refine (less_any r j (m + 2) (Q + (m + 1) + 1) _ s _ h hv (d - 1) _ (ru.drewN _) ((rv.drewN _).le (m + 2) (by omega)) (by omega) (by omega) (by omega) HOlo HOhi (fun i hi => v0 i (by omega)) (fun i hi => v1 i (by omega)) hD0 hD1).mono ?_; intro e w' hpost; obtain ⟨bb, h', rfl, ru1, lo1, hi1, ho1, hw1, hO1⟩ := hpost; have rq1 := hO1.row (rq.drewN _) (by omega); have rv1 := hO1.row (rv.drewN _) (by omega); have cq1 := rq1.cell j (by omega); have cf1 := rq1.frozen j; replace hw1 := Lib.hid hw1; replace ho1 := Lib.hid ho1; cases bb)
      ·rw [Exit.noGoto_normal]
       go_wp2
       go_roundw
       case rel =>
        have W0 := vf_nonneg (f := win h' j) (k := m + 2 + 1) fun i hi => lo1 _ (by omega)
        have W1 := vf_lt (f := win h' j) (k := m + 2 + 1) fun i hi => hi1 _ (by omega)
        have hw := hw1.out
        simp only [Bool.false_eq_true, if_false, Int.zero_mul, Int.add_zero] at hw
        obtain ⟨P0, P1, P2⟩ := place_done (n := m + 2) (U := vf (win h j) (m + 3)) (d := d - 1) (W := vf (win h' j) (m + 3)) (o := 0) (t := 0) VW0 (Int.le_of_lt hVp) hDbig.out hDlt.out (.inl rfl) (by rw [Int.zero_mul, Int.add_zero, ← hw]; exact W0) (by rw [Int.zero_mul, Int.add_zero, ← hw]; exact W1) (fun _ => hw) (fun h => by omega) W0 W1
        rw [Int.sub_zero] at P2
        obtain ⟨S0, S1, S2⟩ := HO.step (by omega) (by omega) (Int.le_of_lt hVp) lo1 hi1 ho1.out rfl P0 P1 P2
        exact ⟨j, by omega, rfl, (hO1.below (below_drewN hB _) hwr).setCell (p := ⟨t, j, none⟩) (by omega) _, h', _, ru1.other _ _ (by show r ≠ t; omega), rv1.other _ _ (by show s ≠ t; omega), rq1.set j _, S2⟩
       case measure => simp [intOf]
      ·go_wp2_with (go_at_call 257; refine (more_any r j (m + 2) (Q + (m + 1) + 1) _ s _ h' hv _ ru1 (rv1.le (m + 2) (by omega)) (by omega) (by omega) (by omega) lo1 hi1 (fun i hi => v0 i (by omega)) (fun i hi => v1 i (by omega))).mono ?_; rintro e w2 ⟨o, h2, rfl, ru2, lo2, hi2, ho2, hw2, hO2⟩; have rq2 := hO2.row rq1 (by omega); have rv2 := hO2.row rv1 (by omega); have cq2 := rq2.cell j (by omega); have cf2 := rq2.frozen j; replace hw2 := Lib.hid hw2; replace ho2 := Lib.hid ho2)
       rw [Exit.noGoto_normal]
       go_wp2
       go_roundw
       case rel =>
        have U0 := vf_nonneg (f := win h' j) (k := m + 2 + 1) fun i hi => lo1 _ (by omega)
        have U1 := vf_lt (f := win h' j) (k := m + 2 + 1) fun i hi => hi1 _ (by omega)
        have W0 := vf_nonneg (f := win h2 j) (k := m + 2 + 1) fun i hi => lo2 _ (by omega)
        have W1 := vf_lt (f := win h2 j) (k := m + 2 + 1) fun i hi => hi2 _ (by omega)
        have hw := hw1.out
        simp only [if_true] at hw
        have hx := hw2.out
        rw [hw] at hx
        obtain ⟨P0, P1, P2⟩ := place_done (n := m + 2) (U := vf (win h j) (m + 3)) (d := d - 1) (W := vf (win h2 j) (m + 3)) (o := o) (t := 1) VW0 (Int.le_of_lt hVp) hDbig.out hDlt.out (.inr rfl) (by rw [← hw]; exact U0) (by rw [← hw]; exact U1) (fun h => by omega) (fun _ => by rw [Int.one_mul] at hx; exact hx) W0 W1
        obtain ⟨S0, S1, S2⟩ := HO.step (by omega) (by omega) (Int.le_of_lt hVp) lo2 hi2 (fun k hk => (ho2.out k hk).trans (ho1.out k hk)) rfl P0 P1 P2
        exact ⟨j, by omega, rfl, (hO2.below (hO1.below (below_drewN hB _) hwr) hwr).setCell (p := ⟨t, j, none⟩) (by omega) _, h2, _, ru2.other _ _ (by show r ≠ t; omega), rv2.other _ _ (by show s ≠ t; omega), rq2.set j _, S2⟩
       case measure => simp [intOf]
     ·go_wp2_with fail
      go_quiet (fail)
      go_wp2_with fail
      go_roundw
      case rel => exact ⟨_, _, rfl, rfl, HS, by omega, _, by first | rfl | rw [World.drewN_drewN]⟩
      case measure => have := HS.d0; simp [intOf]; omega
    ·have hg : d < 1000000000 := by omega
     have hgb : decide ((1000000000 : Int) ≤ d) = false := by simp; omega
     by_cases hgt : rest * 1000000000 + h (j + m) < d * hv m
     ·have HS := E.step hI (.inr hgt)
      by_cases hb : 1000000000 ≤ rest + hv (m + 1)
      ·obtain ⟨hD1, hD2⟩ := E.brk HS hb
       have hDlt := E.done HS hD1 hD2
       have hD := HS
       clear HS hD2
       go_wp2_with fail
       go_quiet (fail)
       have hDbig := hD.big
       have hD0 := hD.d0
       have l6 : j + (m + 2) + 1 - j = m + 2 + 1 := by omega
       have l7 : (0 : Int) ≤ (j : Int) + ((m : Int) + 2) + 1 := by omega
       have l8 : ((j : Int) + ((m : Int) + 2) + 1).toNat = j + (m + 2) + 1 := by omega
       have l9 : (j : Int) + ((m : Int) + 2) + 1 ≤ ((Q + (m + 1) + 1 : Nat) : Int) := by omega
       have l10 : (j : Int) ≤ (j : Int) + ((m : Int) + 2) + 1 := by omega
       have cq := rq.cell j (by omega)
       have cf := rq.frozen j
       have HOlo := HO.lo
       have HOhi := HO.hi
       have VW0 : 0 < vf hv (m + 2) := E.V_pos
       replace hDbig := Lib.hid hDbig
       replace hDlt := Lib.hid hDlt
       clear hD hI
       go_wp2_with (go_at_call 256; refine (less_any r j (m + 2) (Q + (m + 1) + 1) _ s _ h hv (d - 1) _ (ru.drewN _) ((rv.drewN _).le (m + 2) (by omega)) (by omega) (by omega) (by omega) HOlo HOhi (fun i hi => v0 i (by omega)) (fun i hi => v1 i (by omega)) hD0 hD1).mono ?_; intro e w' hpost; obtain ⟨bb, h', rfl, ru1, lo1, hi1, ho1, hw1, hO1⟩ := hpost; have rq1 := hO1.row (rq.drewN _) (by omega); have rv1 := hO1.row (rv.drewN _) (by omega); have cq1 := rq1.cell j (by omega); have cf1 := rq1.frozen j; replace hw1 := Lib.hid hw1; replace ho1 := Lib.hid ho1; cases bb)
       ·rw [Exit.noGoto_normal]
        go_wp2
        go_roundw
        case rel =>
         have W0 := vf_nonneg (f := win h' j) (k := m + 2 + 1) fun i hi => lo1 _ (by omega)
         have W1 := vf_lt (f := win h' j) (k := m + 2 + 1) fun i hi => hi1 _ (by omega)
         have hw := hw1.out
         simp only [Bool.false_eq_true, if_false, Int.zero_mul, Int.add_zero] at hw
         obtain ⟨P0, P1, P2⟩ := place_done (n := m + 2) (U := vf (win h j) (m + 3)) (d := d - 1) (W := vf (win h' j) (m + 3)) (o := 0) (t := 0) VW0 (Int.le_of_lt hVp) hDbig.out hDlt.out (.inl rfl) (by rw [Int.zero_mul, Int.add_zero, ← hw]; exact W0) (by rw [Int.zero_mul, Int.add_zero, ← hw]; exact W1) (fun _ => hw) (fun h => by omega) W0 W1
         rw [Int.sub_zero] at P2
         obtain ⟨S0, S1, S2⟩ := HO.step (by omega) (by omega) (Int.le_of_lt hVp) lo1 hi1 ho1.out rfl P0 P1 P2
         exact ⟨j, by omega, rfl, (hO1.below (below_drewN hB _) hwr).setCell (p := ⟨t, j, none⟩) (by omega) _, h', _, ru1.other _ _ (by show r ≠ t; omega), rv1.other _ _ (by show s ≠ t; omega), rq1.set j _, S2⟩
        case measure => simp [intOf]
       ·go_wp2_with (go_at_call 257; refine (more_any r j (m + 2) (Q + (m + 1) + 1) _ s _ h' hv _ ru1 (rv1.le (m + 2) (by omega)) (by omega) (by omega) (by omega) lo1 hi1 (fun i hi => v0 i (by omega)) (fun i hi => v1 i (by omega))).mono ?_; rintro e w2 ⟨o, h2, rfl, ru2, lo2, hi2, ho2, hw2, hO2⟩; have rq2 := hO2.row rq1 (by omega); have rv2 := hO2.row rv1 (by omega); have cq2 := rq2.cell j (by omega); have cf2 := rq2.frozen j; replace hw2 := Lib.hid hw2; replace ho2 := Lib.hid ho2)
        rw [Exit.noGoto_normal]
        go_wp2
        go_roundw
        case rel =>
         have U0 := vf_nonneg (f := win h' j) (k := m + 2 + 1) fun i hi => lo1 _ (by omega)
         have U1 := vf_lt (f := win h' j) (k := m + 2 + 1) fun i hi => hi1 _ (by omega)
         have W0 := vf_nonneg (f := win h2 j) (k := m + 2 + 1) fun i hi => lo2 _ (by omega)
         have W1 := vf_lt (f := win h2 j) (k := m + 2 + 1) fun i hi => hi2 _ (by omega)
         have hw := hw1.out
         simp only [if_true] at hw
         have hx := hw2.out
         rw [hw] at hx
         obtain ⟨P0, P1, P2⟩ := place_done (n := m + 2) (U := vf (win h j) (m + 3)) (d := d - 1) (W := vf (win h2 j) (m + 3)) (o := o) (t := 1) VW0 (Int.le_of_lt hVp) hDbig.out hDlt.out (.inr rfl) (by rw [← hw]; exact U0) (by rw [← hw]; exact U1) (fun h => by omega) (fun _ => by rw [Int.one_mul] at hx; exact hx) W0 W1
         obtain ⟨S0, S1, S2⟩ := HO.step (by omega) (by omega) (Int.le_of_lt hVp) lo2 hi2 (fun k hk => (ho2.out k hk).trans (ho1.out k hk)) rfl P0 P1 P2
         exact ⟨j, by omega, rfl, (hO2.below (hO1.below (below_drewN hB _) hwr) hwr).setCell (p := ⟨t, j, none⟩) (by omega) _, h2, _, ru2.other _ _ (by show r ≠ t; omega), rv2.other _ _ (by show s ≠ t; omega), rq2.set j _, S2⟩
        case measure => simp [intOf]
      ·go_wp2_with fail
       go_quiet (fail)
       go_wp2_with fail
       go_roundw
       case rel => exact ⟨_, _, rfl, rfl, HS, by omega, _, by first | rfl | rw [World.drewN_drewN]⟩
       case measure => have := HS.d0; simp [intOf]; omega
     ·have hD := hI
      have hD1 := hg
      have hDlt := E.done hI hg (by show d * hv m ≤ rest * 1000000000 + h (j + m); omega)
      have hgc : decide (rest * 1000000000 + h (j + m) < d * hv m) = false := by simp; omega
      go_wp2_with fail
      go_quiet (fail)
      have hDbig := hD.big
      have hD0 := hD.d0
      have l6 : j + (m + 2) + 1 - j = m + 2 + 1 := by omega
      have l7 : (0 : Int) ≤ (j : Int) + ((m : Int) + 2) + 1 := by omega
      have l8 : ((j : Int) + ((m : Int) + 2) + 1).toNat = j + (m + 2) + 1 := by omega
      have l9 : (j : Int) + ((m : Int) + 2) + 1 ≤ ((Q + (m + 1) + 1 : Nat) : Int) := by omega
      have l10 : (j : Int) ≤ (j : Int) + ((m : Int) + 2) + 1 := by omega
      have cq := rq.cell j (by omega)
      have cf := rq.frozen j
      have HOlo := HO.lo
      have HOhi := HO.hi
      have VW0 : 0 < vf hv (m + 2) := E.V_pos
      replace hDbig := Lib.hid hDbig
      replace hDlt := Lib.hid hDlt
      clear hD hI
      go_wp2_with (go_at_call 256; refine (less_any r j (m + 2) (Q + (m + 1) + 1) _ s _ h hv (d) _ (ru.drewN _) ((rv.drewN _).le (m + 2) (by omega)) (by omega) (by omega) (by omega) HOlo HOhi (fun i hi => v0 i (by omega)) (fun i hi => v1 i (by omega)) hD0 hD1).mono ?_; intro e w' hpost; obtain ⟨bb, h', rfl, ru1, lo1, hi1, ho1, hw1, hO1⟩ := hpost; have rq1 := hO1.row (rq.drewN _) (by omega); have rv1 := hO1.row (rv.drewN _) (by omega); have cq1 := rq1.cell j (by omega); have cf1 := rq1.frozen j; replace hw1 := Lib.hid hw1; replace ho1 := Lib.hid ho1; cases bb)
      ·rw [Exit.noGoto_normal]
       go_wp2
       go_roundw
       case rel =>
        have W0 := vf_nonneg (f := win h' j) (k := m + 2 + 1) fun i hi => lo1 _ (by omega)
        have W1 := vf_lt (f := win h' j) (k := m + 2 + 1) fun i hi => hi1 _ (by omega)
        have hw := hw1.out
        simp only [Bool.false_eq_true, if_false, Int.zero_mul, Int.add_zero] at hw
        obtain ⟨P0, P1, P2⟩ := place_done (n := m + 2) (U := vf (win h j) (m + 3)) (d := d) (W := vf (win h' j) (m + 3)) (o := 0) (t := 0) VW0 (Int.le_of_lt hVp) hDbig.out hDlt.out (.inl rfl) (by rw [Int.zero_mul, Int.add_zero, ← hw]; exact W0) (by rw [Int.zero_mul, Int.add_zero, ← hw]; exact W1) (fun _ => hw) (fun h => by omega) W0 W1
        rw [Int.sub_zero] at P2
        obtain ⟨S0, S1, S2⟩ := HO.step (by omega) (by omega) (Int.le_of_lt hVp) lo1 hi1 ho1.out rfl P0 P1 P2
        exact ⟨j, by omega, rfl, (hO1.below (below_drewN hB _) hwr).setCell (p := ⟨t, j, none⟩) (by omega) _, h', _, ru1.other _ _ (by show r ≠ t; omega), rv1.other _ _ (by show s ≠ t; omega), rq1.set j _, S2⟩
       case measure => simp [intOf]
      ·go_wp2_with (go_at_call 257; refine (more_any r j (m + 2) (Q + (m + 1) + 1) _ s _ h' hv _ ru1 (rv1.le (m + 2) (by omega)) (by omega) (by omega) (by omega) lo1 hi1 (fun i hi => v0 i (by omega)) (fun i hi => v1 i (by omega))).mono ?_; rintro e w2 ⟨o, h2, rfl, ru2, lo2, hi2, ho2, hw2, hO2⟩; have rq2 := hO2.row rq1 (by omega); have rv2 := hO2.row rv1 (by omega); have cq2 := rq2.cell j (by omega); have cf2 := rq2.frozen j; replace hw2 := Lib.hid hw2; replace ho2 := Lib.hid ho2)
       rw [Exit.noGoto_normal]
       go_wp2
       go_roundw
       case rel =>
        have U0 := vf_nonneg (f := win h' j) (k := m + 2 + 1) fun i hi => lo1 _ (by omega)
        have U1 := vf_lt (f := win h' j) (k := m + 2 + 1) fun i hi => hi1 _ (by omega)
        have W0 := vf_nonneg (f := win h2 j) (k := m + 2 + 1) fun i hi => lo2 _ (by omega)
        have W1 := vf_lt (f := win h2 j) (k := m + 2 + 1) fun i hi => hi2 _ (by omega)
        have hw := hw1.out
        simp only [if_true] at hw
        have hx := hw2.out
        rw [hw] at hx
        obtain ⟨P0, P1, P2⟩ := place_done (n := m + 2) (U := vf (win h j) (m + 3)) (d := d) (W := vf (win h2 j) (m + 3)) (o := o) (t := 1) VW0 (Int.le_of_lt hVp) hDbig.out hDlt.out (.inr rfl) (by rw [← hw]; exact U0) (by rw [← hw]; exact U1) (fun h => by omega) (fun _ => by rw [Int.one_mul] at hx; exact hx) W0 W1
        obtain ⟨S0, S1, S2⟩ := HO.step (by omega) (by omega) (Int.le_of_lt hVp) lo2 hi2 (fun k hk => (ho2.out k hk).trans (ho1.out k hk)) rfl P0 P1 P2
        exact ⟨j, by omega, rfl, (hO2.below (hO1.below (below_drewN hB _) hwr) hwr).setCell (p := ⟨t, j, none⟩) (by omega) _, h2, _, ru2.other _ _ (by show r ≠ t; omega), rv2.other _ _ (by show s ≠ t; omega), rq2.set j _, S2⟩
       case measure => simp [intOf]
  ·obtain rfl : i = 0 := by omega
   obtain ⟨A1, A2, A3⟩ := HO.done (by omega)
   rw [V1] at A1 A3
   obtain ⟨G1, G2⟩ := over_final F0 A1 A2 A3
   have s1 := ru.slice (by omega) (m + 2) (by omega) (Q + (m + 1) + 1) (by omega)
   obtain ⟨k1, k2⟩ := trimN_can (f := h) (k := m + 2) (fun i hi => HO.lo i (by omega)) (fun i hi => HO.hi i (by omega))
   have k3 := trimN_le h (m + 2)
   obtain ⟨k4, k5⟩ := trimN_can (f := q) (k := Q) (fun i hi => HO.q0 i (by omega)) (fun i hi => HO.q1 i (by omega))
   have k6 := trimN_le q Q
   have i1 : (0 : Int) ≤ (m : Int) + 2 := by omega
   have i2 : (m : Int) + 2 ≤ ((Q + (m + 1) + 1 : Nat) : Int) := by omega
   have i3 : ((m : Int) + 2).toNat = m + 2 := by omega
   have Z : Sz (m + 2) wr (.slice (some ⟨r, 0, none⟩) (trimN h (m + 2)) (Q + (m + 1) + 1)) (vf h (m + 2)) := ⟨_, h, s1.take _ k3, k1, k2, k3⟩
   have HP := part_sz (m + 2) wr wr (Ext.refl _) _ _ _ _ F Z (by omega) F0 F1
   replace G1 := Lib.hid G1
   replace G2 := Lib.hid G2
   replace k5 := Lib.hid k5
   clear hc1 hc2 A1 A2 A3 k2 V1 HO V2
   go_wp2_with (first
    | (go_at_call 223; (with_reducible refine (trim_any (some ⟨r, 0, none⟩) (m + 2) _ h _ s1).mono ?_); rintro e w4 ⟨rfl, rfl⟩)
    | (go_at_call 254; refine HP.mono ?_; rintro e w5 ⟨p1, k7, c3, rfl, hz, hb5⟩; have rq5 := rq.below hb5; have s5 := rq5.slice (by omega) Q (Nat.le_refl _) Q (Nat.le_refl _); have hB5 := below_call hB hb5)
    | (go_at_call 223; (with_reducible refine (trim_any (some ⟨t, 0, none⟩) Q _ q _ s5).mono ?_); rintro e w4 ⟨rfl, rfl⟩))
   go_ret2
   exact ⟨_, _, _, _, _, _, rfl, ⟨_, q, s5.take _ k6, k4, k5.out.trans G1.out, by omega⟩, (by rw [← G2.out]; exact hz), hB5⟩
end Go.Proofs.YtdgodcgdlfjpaaaGreatDoor
namespace Go.Ex
open Go.RowKit Go.Mono
section
structure Frm (w0 : World) (X : Nat → Prop) (w : World) : Prop where
 os : w.os = w0.os
 tape : w.tape = w0.tape
 output : w.output = w0.output
 size : w0.heap.size ≤ w.heap.size
 block : ∀ i, i < w0.heap.size → ¬ X i → w.heap[i]? = w0.heap[i]?
theorem Frm.refl (w : World) (X : Nat → Prop) : Frm w X w := ⟨rfl, rfl, rfl, Nat.le_refl _, fun _ _ _ => rfl⟩
theorem Frm.below {w0 w : World} (h : Frm w0 (fun _ => False) w) : Below w0.heap.size w0 w := ⟨h.os, h.tape, h.output, h.size, fun k hk => h.block k hk id⟩
theorem Frm.of_below {w0 w : World} (h : Below w0.heap.size w0 w) (X : Nat → Prop) : Frm w0 X w := ⟨h.os, h.tape, h.output, h.size, fun k hk _ => h.block k hk⟩
abbrev Liv (bk : List (Nat × Blk)) (k : Nat) (b : Blk) : Prop := bk.look k = some b ∧ b.dead = false
structure Sat (D : Den) (w0 : World) (X : Nat → Prop) (th : Nat) (ρ : Nm) (wc w : World) (bk : List (Nat × Blk)) : Prop where
 fr : Frm w0 X w
 ext : Ext wc w
 inj : ∀ k k' b b' B B', Liv bk k b → Liv bk k' b' → ρ k = some B → ρ k' = some B' → B.blk = B'.blk → k = k' ∨ (B.ro = true ∧ B'.ro = true)
 lt : ∀ k B, ρ k = some B → B.blk < w.heap.size
 box : ∀ k b, Liv bk k b → ∃ B cs, ρ k = some B ∧ Holds w B b.T b.sp cs ∧ denL D ρ wc b.cells cs ∧ (b.ro = false → w0.heap.size ≤ B.blk ∨ X B.blk) ∧ (b.T = 3 → th ≤ k → wc.heap.size ≤ B.blk) ∧ B.ro = b.ro
structure Evo (ρ : Nm) (wc w : World) (bk : List (Nat × Blk)) (c c' : Nat) (ρ' : Nm) (wc' w' : World) (bk' : List (Nat × Blk)) : Prop where
 rho : ρ.le ρ'
 ext : Ext wc wc'
 size : w.heap.size ≤ w'.heap.size
 os : w'.os = w.os
 tape : w'.tape = w.tape
 output : w'.output = w.output
 loc : ∀ i, i < w.heap.size → (∀ k b B, Liv bk k b → ρ k = some B → B.ro = false → B.blk ≠ i) → w'.heap[i]? = w.heap[i]?
 ids : ∀ k b, Liv bk' k b → (∃ b0, Liv bk k b0) ∨ (c ≤ k ∧ k < c' ∧ ∃ B, ρ' k = some B ∧ (w.heap.size ≤ B.blk ∨ ∃ k0 b0 B0, Liv bk k0 b0 ∧ ρ k0 = some B0 ∧ B0.ro = false ∧ B0.blk = B.blk))
 cc : c ≤ c'
 dom : ∀ k, (k < c ∨ c' ≤ k) → ρ' k = ρ k
theorem Evo.refl (ρ : Nm) (wc w : World) (bk : List (Nat × Blk)) (c : Nat) : Evo ρ wc w bk c c ρ wc w bk :=
 ⟨Nm.le.refl _, Ext.refl _, Nat.le_refl _, rfl, rfl, rfl, fun _ _ _ => rfl, fun k b h => .inl ⟨b, h⟩, Nat.le_refl _, fun _ _ => rfl⟩
theorem Evo.trans {ρ ρ1 ρ2 : Nm} {wc w wc1 w1 wc2 w2 : World} {bk bk1 bk2 : List (Nat × Blk)} {c c1 c2 : Nat}
  (h : Evo ρ wc w bk c c1 ρ1 wc1 w1 bk1) (g : Evo ρ1 wc1 w1 bk1 c1 c2 ρ2 wc2 w2 bk2) (hlt : ∀ k b, Liv bk k b → ∃ B, ρ k = some B) : Evo ρ wc w bk c c2 ρ2 wc2 w2 bk2 where
 rho := h.rho.trans g.rho
 ext := h.ext.trans g.ext
 size := Nat.le_trans h.size g.size
 os := g.os.trans h.os
 tape := g.tape.trans h.tape
 output := g.output.trans h.output
 loc := fun i hi hn => by
  rw [g.loc i (Nat.lt_of_lt_of_le hi h.size) ?_, h.loc i hi hn]
  intro k b C hk he hro
  rcases h.ids k b hk with ⟨b', hb'⟩ | ⟨_, _, B, hB, hle⟩
  ·obtain ⟨B, hB⟩ := hlt k b' hb'
   have := h.rho k B hB
   rw [he] at this
   cases this
   exact hn k b' C hb' hB hro
  ·rw [he] at hB
   cases hB
   rcases hle with hle | ⟨k0, b0, B0, h1, h2, h3, h4⟩
   ·omega
   ·rw [← h4]; exact hn k0 b0 B0 h1 h2 h3
 ids := fun k b hk => by
  have hc1 := h.cc
  have hc2 := g.cc
  rcases g.ids k b hk with ⟨b', hb'⟩ | ⟨k1, k2, B, hB, hle⟩
  ·rcases h.ids k b' hb' with h2 | ⟨k1, k2, B, hB, hle⟩
   ·exact .inl h2
   ·exact .inr ⟨k1, by omega, B, g.rho k B hB, hle⟩
  ·refine .inr ⟨by omega, k2, B, hB, ?_⟩
   rcases hle with hle | ⟨k0, b0, B0, h1, h2, h3, h4⟩
   ·exact .inl (Nat.le_trans h.size hle)
   ·rcases h.ids k0 b0 h1 with ⟨b', hb'⟩ | ⟨_, _, B1, hB1, hle⟩
    ·obtain ⟨B1, hB1⟩ := hlt k0 b' hb'
     have := h.rho k0 B1 hB1
     rw [h2] at this
     cases this
     exact .inr ⟨k0, b', B0, hb', hB1, h3, h4⟩
    ·rw [h2] at hB1
     cases hB1
     rw [← h4]
     exact hle
 cc := Nat.le_trans h.cc g.cc
 dom := fun k hk => by
  have h1 := h.cc
  have h2 := g.cc
  rw [g.dom k (by omega), h.dom k (by omega)]
section
variable {D : Den} {w0 : World} {X : Nat → Prop} {th : Nat} {ρ : Nm} {wc w : World} {bk : List (Nat × Blk)}
theorem Sat.named (h : Sat D w0 X th ρ wc w bk) : ∀ k b, Liv bk k b → ∃ B, ρ k = some B := fun k b hk => let ⟨B, _, hB, _⟩ := h.box k b hk; ⟨B, hB⟩
theorem Sat.bkOk (h : Sat D w0 X th ρ wc w bk) : BkOk D ρ wc w bk := fun k b hk hd => let ⟨B, cs, h1, h2, h3, _, _, h6⟩ := h.box k b ⟨hk, hd⟩; ⟨B, cs, h1, h2, h3, h6⟩
theorem Sat.mono (h : Sat D w0 X th ρ wc w bk) {th' : Nat} (hle : th ≤ th') : Sat D w0 X th' ρ wc w bk :=
 ⟨h.fr, h.ext, h.inj, h.lt, fun k b hk => let ⟨B, cs, h1, h2, h3, h4, h5, h6⟩ := h.box k b hk; ⟨B, cs, h1, h2, h3, h4, fun ht hh => h5 ht (Nat.le_trans hle hh), h6⟩⟩
def addNm (ρ : Nm) (k : Nat) (B : Pl) : Nm := fun j => if j = k then some B else ρ j
theorem addNm_new (ρ : Nm) (k : Nat) (B : Pl) : addNm ρ k B k = some B := by simp [addNm]
theorem addNm_old (ρ : Nm) {k j : Nat} (B : Pl) (h : j ≠ k) : addNm ρ k B j = ρ j := by simp [addNm, h]
theorem addNm_le {ρ : Nm} {k : Nat} {B : Pl} (h : ρ k = none) : ρ.le (addNm ρ k B) := fun j C hj => by
 by_cases e : j = k
 ·subst e; rw [h] at hj; cases hj
 ·rw [addNm_old _ _ e]; exact hj
theorem liv_cons {k j : Nat} {b x : Blk} {l : List (Nat × Blk)} (h : Liv ((k, x) :: l) j b) : (j = k ∧ b = x ∧ x.dead = false) ∨ (j ≠ k ∧ Liv l j b) := by
 obtain ⟨h, hd⟩ := h
 rw [look_cons] at h
 by_cases e : j = k
 ·rw [if_pos e] at h; cases h; exact .inl ⟨e, rfl, hd⟩
 ·rw [if_neg e] at h; exact .inr ⟨e, h, hd⟩
theorem Sat.alloc (h : Sat D w0 X th ρ wc w bk) {k : Nat} (hk : ρ k = none) (T : TypeId) (sp : Bool) (cap tot : Nat) {l : List U} {cs rest : List Value} (hl : denL D ρ wc l cs) (hsp : sp = false → rest = []) (htot : sp = true → (cs ++ rest).length = tot) :
  Sat D w0 X th (addNm ρ k ⟨w.heap.size, 0, false, cap, tot⟩) wc (w.alloc (.cells (cs ++ rest).toArray T)) ((k, ⟨T, l, false, sp, false⟩) :: bk) ∧
  Evo ρ wc w bk k (k + 1) (addNm ρ k ⟨w.heap.size, 0, false, cap, tot⟩) wc (w.alloc (.cells (cs ++ rest).toArray T)) ((k, ⟨T, l, false, sp, false⟩) :: bk) := by
 have hle := addNm_le (B := ⟨w.heap.size, 0, false, cap, tot⟩) hk
 have hb : Below w.heap.size w (w.alloc (.cells (cs ++ rest).toArray T)) := belowAlloc (Below.refl _ _) _
 have hnew := addNm_new ρ k ⟨w.heap.size, 0, false, cap, tot⟩
 refine ⟨⟨⟨h.fr.os, h.fr.tape, h.fr.output, Nat.le_trans h.fr.size hb.size, fun i hi hx => (hb.block i (Nat.lt_of_lt_of_le hi h.fr.size)).trans (h.fr.block i hi hx)⟩,
  h.ext.alloc _, ?_, ?_, ?_⟩, ⟨hle, Ext.refl _, hb.size, rfl, rfl, rfl, fun i hi _ => hb.block i hi, ?_, by omega, ?_⟩⟩
 ·intro j j' b b' B B' hj hj' h1 h2 he
  rcases liv_cons hj with ⟨e1, _, _⟩ | ⟨e1, hj⟩ <;> rcases liv_cons hj' with ⟨e2, _, _⟩ | ⟨e2, hj'⟩
  ·exact .inl (by rw [e1, e2])
  ·subst e1
   rw [hnew] at h1; rw [addNm_old _ _ e2] at h2; cases h1
   have := h.lt j' _ h2; dsimp only at he; omega
  ·subst e2
   rw [addNm_old _ _ e1] at h1; rw [hnew] at h2; cases h2
   have := h.lt j _ h1; dsimp only at he; omega
  ·rw [addNm_old _ _ e1] at h1; rw [addNm_old _ _ e2] at h2
   exact h.inj j j' b b' B B' hj hj' h1 h2 he
 ·intro j B h1
  by_cases e1 : j = k
  ·subst e1; rw [hnew] at h1; cases h1; simp
  ·rw [addNm_old _ _ e1] at h1
   exact Nat.lt_of_lt_of_le (h.lt j B h1) hb.size
 ·intro j b hj
  rcases liv_cons hj with ⟨rfl, rfl, _⟩ | ⟨e1, hj⟩
  ·exact ⟨_, cs, hnew, .inr ⟨rfl, rfl, rest, hsp, htot, Box.new _ _ _⟩, hl.mono hle (Ext.refl _), fun _ => .inl h.fr.size, fun _ _ => h.ext.size, rfl⟩
  ·obtain ⟨B, cs', h1, h2, h3, h4, h5, h6⟩ := h.box j b hj
   exact ⟨B, cs', hle j B h1, h2.of_block (hb.block _ (h.lt j B h1)), h3.mono hle (Ext.refl _), h4, h5, h6⟩
 ·intro j b hj
  rcases liv_cons hj with ⟨rfl, rfl, _⟩ | ⟨e1, hj⟩
  ·exact .inr ⟨Nat.le_refl _, by omega, _, hnew, .inl (Nat.le_refl _)⟩
  ·exact .inl ⟨b, hj⟩
 ·intro j hj
  exact addNm_old _ _ (by omega)
theorem set_ext (h : Sat D w0 X th ρ wc w bk) {k : Nat} {b : Blk} (hk : Liv bk k b) {B : Pl} (hB : ρ k = some B) (hro : b.ro = false) (hT : b.T ≠ 3 ∨ th ≤ k) (off : Nat) (ps : List Value) : Ext wc (w.setCells B.blk off ps) := by
 obtain ⟨B', cs, h1, h2, h3, h4, h5, h6⟩ := h.box k b hk
 cases hB.symm.trans h1
 have hks : KeepBut B.blk w.heap.size w (w.setCells B.blk off ps) := (KeepBut.refl _ _).setCells _ _ _
 rcases h2 with ⟨g, _⟩ | ⟨_, hbase, rest, _, _, h2⟩
 ·rw [h6, hro] at g; cases g
 ·by_cases hT3 : b.T = 3
  ·have h6 := h5 hT3 (hT.resolve_left fun hh => hh hT3)
   refine ⟨Nat.le_trans h.ext.size hks.size, fun j ds fr hj => ?_⟩
   have h7 := h.ext.kept j ds fr hj
   have h8 := lt_of_some hj
   rw [hks.block j (lt_of_some h7) (by omega)]
   exact h7
  ·exact h.ext.trans (hks.ext h2 hT3)
theorem Sat.store (h : Sat D w0 X th ρ wc w bk) {k : Nat} {b : Blk} (hk : Liv bk k b) (hro : b.ro = false) {off : Nat} {us l : List U} {ps : List Value} (hput : putX b.cells off us = some l) (hp : denL D ρ wc us ps)
  (hT : b.T ≠ 3 ∨ th ≤ k) {B : Pl} (hB : ρ k = some B) (c : Nat) :
  Sat D w0 X th ρ wc (w.setCells B.blk off ps) ((k, ⟨b.T, l, false, b.sp, false⟩) :: bk) ∧ Evo ρ wc w bk c c ρ wc (w.setCells B.blk off ps) ((k, ⟨b.T, l, false, b.sp, false⟩) :: bk) ∧ w.there B.blk off ps.length ∧ B.base = 0 := by
 have hext := set_ext h hk hB hro hT off ps
 obtain ⟨B', cs, h1, h2, h3, h4, h5, h6⟩ := h.box k b hk
 cases hB.symm.trans h1
 have hBro : B.ro = false := h6.trans hro
 obtain ⟨hbase, rest, hr1, hr2, h2'⟩ : B.base = 0 ∧ ∃ rest, (b.sp = false → rest = []) ∧ (b.sp = true → (cs ++ rest).length = B.tot) ∧ Box w B.blk b.T (cs ++ rest).toArray := by
  rcases h2 with ⟨g, _⟩ | ⟨_, g⟩
  ·rw [hBro] at g; cases g
  ·exact g
 obtain ⟨q1, q2⟩ := putX_den hput h3 hp
 have hks : KeepBut B.blk w.heap.size w (w.setCells B.blk off ps) := (KeepBut.refl _ _).setCells _ _ _
 have hbx0 := Box.setCells ps off w _ h2' (by simp; omega)
 have hcut : ((cs ++ rest).toArray.toList.take off ++ ps ++ (cs ++ rest).toArray.toList.drop (off + ps.length)) = (cs.take off ++ ps ++ cs.drop (off + ps.length)) ++ rest := by
  simp only [List.toList_toArray]
  rw [List.take_append_of_le_length (by omega), List.drop_append_of_le_length (by omega)]
  simp
 have hbx : Box (w.setCells B.blk off ps) B.blk b.T ((cs.take off ++ ps ++ cs.drop (off + ps.length)) ++ rest).toArray := by
  rw [← hcut]; exact hbx0
 have hlen : (cs.take off ++ ps ++ cs.drop (off + ps.length)).length = cs.length := by
  simp only [List.length_append, List.length_take, List.length_drop]; omega
 refine ⟨⟨⟨?_, ?_, ?_, ?_, ?_⟩, hext, ?_, fun j C hj => Nat.lt_of_lt_of_le (h.lt j C hj) hks.size, ?_⟩, ⟨Nm.le.refl _, Ext.refl _, hks.size, hks.os, hks.tape, hks.output, ?_, ?_, Nat.le_refl _, fun _ _ => rfl⟩, ?_, hbase⟩
 ·exact hks.os.trans h.fr.os
 ·exact hks.tape.trans h.fr.tape
 ·exact hks.output.trans h.fr.output
 ·exact Nat.le_trans h.fr.size hks.size
 ·intro i hi hx
  rw [hks.block i (Nat.lt_of_lt_of_le hi h.fr.size) (by
   intro e
   subst e
   rcases h4 hro with h4 | h4
   ·omega
   ·exact hx h4)]
  exact h.fr.block i hi hx
 ·intro j j' x x' C C' hj hj' e1 e2 he
  have f : ∀ {j x}, Liv ((k, ⟨b.T, l, false, b.sp, false⟩) :: bk) j x → ∃ x, Liv bk j x := fun hj => by
   rcases liv_cons hj with ⟨rfl, _, _⟩ | ⟨_, hj⟩
   ·exact ⟨b, hk⟩
   ·exact ⟨_, hj⟩
  obtain ⟨y, hy⟩ := f hj
  obtain ⟨y', hy'⟩ := f hj'
  exact h.inj j j' y y' C C' hy hy' e1 e2 he
 ·intro j b' hj
  rcases liv_cons hj with ⟨rfl, rfl, _⟩ | ⟨e1, hj⟩
  ·exact ⟨B, _, h1, .inr ⟨hBro, hbase, rest, hr1, fun hs => by rw [List.length_append, hlen, ← List.length_append]; exact hr2 hs, hbx⟩, q1, fun _ => h4 hro, h5, hBro⟩
  ·obtain ⟨C, ds, g1, g2, g3, g4, g5, g6⟩ := h.box j b' hj
   refine ⟨C, ds, g1, g2.of_block (hks.block _ (h.lt j C g1) fun e => ?_), g3, g4, g5, g6⟩
   rcases h.inj j k b' b C B hj hk g1 h1 e with h7 | h7
   ·exact e1 h7
   ·rw [hBro] at h7; cases h7.2
 ·intro i hi hn
  exact hks.block i hi (fun e => hn k b B hk h1 hBro e.symm)
 ·intro j b' hj
  rcases liv_cons hj with ⟨rfl, _, _⟩ | ⟨_, hj⟩
  ·exact .inl ⟨b, hk⟩
  ·exact .inl ⟨b', hj⟩
 ·exact h2'.there off ps.length (by simp; omega)
theorem Sat.push (h : Sat D w0 X th ρ wc w bk) {k : Nat} {b : Blk} (hk : Liv bk k b) (hro : b.ro = false) (hsp : b.sp = true) {us : List U} {ps : List Value} (hp : denL D ρ wc us ps)
  (hT : b.T ≠ 3 ∨ th ≤ k) {B : Pl} (hB : ρ k = some B) {c : Nat} (hc : ρ c = none) (hroom : widths b.cells + ps.length ≤ B.tot) (hck : c ≠ k) :
  Sat D w0 X th (addNm ρ c B) wc (w.setCells B.blk (widths b.cells) ps) ((k, ⟨b.T, [], false, true, true⟩) :: (c, ⟨b.T, b.cells ++ us, false, true, false⟩) :: bk) ∧
  Evo ρ wc w bk c (c + 1) (addNm ρ c B) wc (w.setCells B.blk (widths b.cells) ps) ((k, ⟨b.T, [], false, true, true⟩) :: (c, ⟨b.T, b.cells ++ us, false, true, false⟩) :: bk) ∧ w.there B.blk (widths b.cells) ps.length ∧ B.base = 0 := by
 have hext := set_ext h hk hB hro hT (widths b.cells) ps
 obtain ⟨B', cs, h1, h2, h3, h4, h5, h6⟩ := h.box k b hk
 cases hB.symm.trans h1
 have hBro : B.ro = false := h6.trans hro
 have hle := addNm_le (B := B) hc
 have hnew := addNm_new ρ c B
 obtain ⟨hbase, rest, hr1, hr2, h2'⟩ : B.base = 0 ∧ ∃ rest, (b.sp = false → rest = []) ∧ (b.sp = true → (cs ++ rest).length = B.tot) ∧ Box w B.blk b.T (cs ++ rest).toArray := by
  rcases h2 with ⟨g, _⟩ | ⟨_, g⟩
  ·rw [hBro] at g; cases g
  ·exact g
 have hw := h3.len
 have hlen0 := hr2 hsp
 rw [List.length_append] at hlen0
 have hks : KeepBut B.blk w.heap.size w (w.setCells B.blk (widths b.cells) ps) := (KeepBut.refl _ _).setCells _ _ _
 have hbx0 := Box.setCells ps (widths b.cells) w _ h2' (by simp; omega)
 have hcut : ((cs ++ rest).toArray.toList.take (widths b.cells) ++ ps ++ (cs ++ rest).toArray.toList.drop (widths b.cells + ps.length)) = (cs ++ ps) ++ rest.drop ps.length := by
  simp only [List.toList_toArray]
  rw [List.take_append_of_le_length (by omega), List.take_of_length_le (by omega), List.drop_append, List.drop_of_length_le (by omega), List.nil_append]
  congr 2
  omega
 have hbx : Box (w.setCells B.blk (widths b.cells) ps) B.blk b.T ((cs ++ ps) ++ rest.drop ps.length).toArray := by
  rw [← hcut]; exact hbx0
 have livs : ∀ {j x}, Liv ((k, ⟨b.T, [], false, true, true⟩) :: (c, ⟨b.T, b.cells ++ us, false, true, false⟩) :: bk) j x → j ≠ k ∧ ((j = c ∧ x = ⟨b.T, b.cells ++ us, false, true, false⟩) ∨ (j ≠ c ∧ Liv bk j x)) := fun hj => by
  rcases liv_cons hj with ⟨_, _, hd⟩ | ⟨e1, hj⟩
  ·cases hd
  ·rcases liv_cons hj with ⟨e2, e3, _⟩ | ⟨e2, hj⟩
   ·exact ⟨e1, .inl ⟨e2, e3⟩⟩
   ·exact ⟨e1, .inr ⟨e2, hj⟩⟩
 refine ⟨⟨⟨?_, ?_, ?_, ?_, ?_⟩, hext, ?_, ?_, ?_⟩, ⟨hle, Ext.refl _, hks.size, hks.os, hks.tape, hks.output, ?_, ?_, by omega, ?_⟩, ?_, hbase⟩
 ·exact hks.os.trans h.fr.os
 ·exact hks.tape.trans h.fr.tape
 ·exact hks.output.trans h.fr.output
 ·exact Nat.le_trans h.fr.size hks.size
 ·intro i hi hx
  rw [hks.block i (Nat.lt_of_lt_of_le hi h.fr.size) (by
   intro e
   subst e
   rcases h4 hro with h4 | h4
   ·omega
   ·exact hx h4)]
  exact h.fr.block i hi hx
 ·intro j j' x x' C C' gj gj' e1 e2 he
  obtain ⟨nk, hj⟩ := livs gj
  obtain ⟨nk', hj'⟩ := livs gj'
  clear gj gj'
  rcases hj with ⟨a1, _⟩ | ⟨a1, hj⟩ <;> rcases hj' with ⟨a2, _⟩ | ⟨a2, hj'⟩
  ·exact .inl (a1.trans a2.symm)
  ·subst a1
   rw [hnew] at e1; rw [addNm_old _ _ a2] at e2; cases e1
   rcases h.inj k j' b x' B C' hk hj' h1 e2 he with h7 | h7
   ·exact absurd h7.symm nk'
   ·rw [hBro] at h7; cases h7.1
  ·subst a2
   rw [addNm_old _ _ a1] at e1; rw [hnew] at e2; cases e2
   rcases h.inj j k x b C B hj hk e1 h1 he with h7 | h7
   ·exact absurd h7 nk
   ·rw [hBro] at h7; cases h7.2
  ·rw [addNm_old _ _ a1] at e1; rw [addNm_old _ _ a2] at e2
   exact h.inj j j' x x' C C' hj hj' e1 e2 he
 ·intro j C hj
  by_cases e : j = c
  ·subst e; rw [hnew] at hj; cases hj; exact Nat.lt_of_lt_of_le (h.lt k _ h1) hks.size
  ·rw [addNm_old _ _ e] at hj; exact Nat.lt_of_lt_of_le (h.lt j C hj) hks.size
 ·intro j b' hj
  obtain ⟨nk, hj⟩ := livs hj
  rcases hj with ⟨rfl, rfl⟩ | ⟨e2, hj⟩
  ·refine ⟨B, cs ++ ps, hnew, .inr ⟨hBro, hbase, rest.drop ps.length, (fun hh => by cases hh), fun _ => ?_, hbx⟩, (h3.append hp).mono hle (Ext.refl _), fun _ => h4 hro, fun ht hh => ?_, hBro⟩
   ·simp only [List.length_append, List.length_drop]; omega
   ·exact h5 ht (hT.resolve_left fun hh => hh ht)
  ·obtain ⟨C, ds, g1, g2, g3, g4, g5, g6⟩ := h.box j b' hj
   refine ⟨C, ds, hle j C g1, g2.of_block (hks.block _ (h.lt j C g1) fun e => ?_), g3.mono hle (Ext.refl _), g4, g5, g6⟩
   rcases h.inj j k b' b C B hj hk g1 h1 e with h7 | h7
   ·exact nk h7
   ·rw [hBro] at h7; cases h7.2
 ·intro i hi hn
  exact hks.block i hi (fun e => hn k b B hk h1 hBro e.symm)
 ·intro j b' hj
  obtain ⟨nk, hj⟩ := livs hj
  rcases hj with ⟨rfl, _⟩ | ⟨e2, hj⟩
  ·exact .inr ⟨Nat.le_refl _, by omega, B, hnew, .inr ⟨k, b, B, hk, h1, hBro, rfl⟩⟩
  ·exact .inl ⟨b', hj⟩
 ·intro j hj
  exact addNm_old _ _ (by omega)
 ·exact h2'.there (widths b.cells) ps.length (by simp; omega)
theorem Sat.call (h : Sat D w0 X th ρ wc w bk) {w' : World} (hb : Below w.heap.size w w') (c t : Nat) (hf : ∀ k b, bk.look k = some b → ¬ t ≤ k) :
  Sat D w0 X t ρ w' w' bk ∧ Evo ρ wc w bk c c ρ w' w' bk := by
 have hx : Ext wc w' := h.ext.trans (.of_below hb)
 refine ⟨⟨⟨hb.os.trans h.fr.os, hb.tape.trans h.fr.tape, hb.output.trans h.fr.output, Nat.le_trans h.fr.size hb.size, fun i hi hX => (hb.block i (Nat.lt_of_lt_of_le hi h.fr.size)).trans (h.fr.block i hi hX)⟩,
  Ext.refl _, h.inj, fun j C hj => Nat.lt_of_lt_of_le (h.lt j C hj) hb.size, ?_⟩, ⟨Nm.le.refl _, hx, hb.size, hb.os, hb.tape, hb.output, fun i hi _ => hb.block i hi, fun k b hk => .inl ⟨b, hk⟩, Nat.le_refl _, fun _ _ => rfl⟩⟩
 intro j b hj
 obtain ⟨B, cs, h1, h2, h3, h4, h5, h6⟩ := h.box j b hj
 exact ⟨B, cs, h1, h2.of_block (hb.block _ (h.lt j B h1)), h3.mono (Nm.le.refl _) hx, h4, fun _ hh => absurd hh (hf j b hj.1), h6⟩
theorem Sat.drew (h : Sat D w0 X th ρ wc w bk) : Sat D w0 X th ρ wc w.drew bk :=
 ⟨⟨h.fr.os, h.fr.tape, h.fr.output, h.fr.size, h.fr.block⟩, h.ext.drew, h.inj, h.lt, fun k b hk => let ⟨B, cs, h1, h2, h3⟩ := h.box k b hk; ⟨B, cs, h1, h2.of_block rfl, h3⟩⟩
theorem Evo.drew (ρ : Nm) (wc w : World) (bk : List (Nat × Blk)) (c : Nat) : Evo ρ wc w bk c c ρ wc w.drew bk :=
 ⟨Nm.le.refl _, Ext.refl _, Nat.le_refl _, rfl, rfl, rfl, fun _ _ _ => rfl, fun k b h => .inl ⟨b, h⟩, Nat.le_refl _, fun _ _ => rfl⟩
end
end
section
theorem look_append {α : Type} (l m : List (Nat × α)) (k : Nat) : (l ++ m).look k = (l.look k).or (m.look k) := by
 induction l with
 | nil => simp
 | cons p r ih =>
   obtain ⟨k', x⟩ := p
   rw [List.cons_append, look_cons, look_cons, ih]
   split <;> rfl
def Sub {α : Type} (l m : List (Nat × α)) : Prop := ∀ k x, l.look k = some x → m.look k = some x
theorem Sub.liv {l m : List (Nat × Blk)} (h : Sub l m) {k : Nat} {b : Blk} (hk : Liv l k b) : Liv m k b := ⟨h k b hk.1, hk.2⟩
section
variable {D : Den} {w0 : World} {X : Nat → Prop} {th t' : Nat} {ρ ρ' : Nm} {wc w wc' w' : World} {bk bkR wr F G : List (Nat × Blk)} {c c' : Nat}
theorem Sat.sub (h : Sat D w0 X th ρ wc w bk) (hs : Sub bkR bk) : Sat D w0 X th ρ wc w bkR :=
 ⟨h.fr, h.ext, fun k k' b b' B B' h1 h2 => h.inj k k' b b' B B' (hs.liv h1) (hs.liv h2), h.lt, fun k b hk => h.box k b (hs.liv hk)⟩
theorem Evo.sub (h : Evo ρ wc w bk c c' ρ' wc' w' F) (hs : Sub G F) : Evo ρ wc w bk c c' ρ' wc' w' G :=
 ⟨h.rho, h.ext, h.size, h.os, h.tape, h.output, h.loc, fun k b hk => h.ids k b (hs.liv hk), h.cc, h.dom⟩
abbrev Sub' (l m : List (Nat × Blk)) : Prop := ∀ k b, Liv l k b → Liv m k b
theorem Sat.sub' (h : Sat D w0 X th ρ wc w bk) (hs : Sub' bkR bk) : Sat D w0 X th ρ wc w bkR :=
 ⟨h.fr, h.ext, fun k k' b b' B B' h1 h2 => h.inj k k' b b' B B' (hs _ _ h1) (hs _ _ h2), h.lt, fun k b hk => h.box k b (hs _ _ hk)⟩
theorem Evo.sub' (h : Evo ρ wc w bk c c' ρ' wc' w' F) (hs : Sub' G F) : Evo ρ wc w bk c c' ρ' wc' w' G :=
 ⟨h.rho, h.ext, h.size, h.os, h.tape, h.output, h.loc, fun k b hk => h.ids k b (hs _ _ hk), h.cc, h.dom⟩
theorem Sat.frame (h : Sat D w0 X th ρ wc w bk) (hs : Sub bkR bk) (hf : ∀ k b, bk.look k = some b → k < th) (g : Sat D w0 X t' ρ' wc' w' F) (e : Evo ρ wc w bkR c c' ρ' wc' w' F) (hc : c' ≤ th)
  (hG : ∀ k b, Liv G k b → Liv F k b ∨ (Liv bk k b ∧ bkR.look k = none)) :
  Sat D w0 X th ρ' wc' w' G ∧ Evo ρ wc w bk c c' ρ' wc' w' G := by
 have mix : ∀ k k' b b' B B', Liv F k b → Liv bk k' b' → bkR.look k' = none → ρ' k = some B → ρ' k' = some B' → B.blk = B'.blk → B.ro = true ∧ B'.ro = true := by
  intro k k' b b' B B' hk hk' hn h1 h2 he
  obtain ⟨C', hC'⟩ := h.named k' b' hk'
  have e2 := e.rho k' C' hC'
  rw [h2] at e2
  cases e2
  rcases e.ids k b hk with ⟨b0, hb0⟩ | ⟨_, _, C, hC, hle⟩
  ·obtain ⟨C, hC⟩ := h.named k b0 (hs.liv hb0)
   have e1 := e.rho k C hC
   rw [h1] at e1
   cases e1
   rcases h.inj k k' b0 b' B B' (hs.liv hb0) hk' hC hC' he with h7 | h7
   ·subst h7
    rw [hb0.1] at hn
    cases hn
   ·exact h7
  ·rw [h1] at hC
   cases hC
   rcases hle with hle | ⟨k0, b0, B0, g1, g2, g3, g4⟩
   ·have := h.lt k' B' hC'
    omega
   ·rcases h.inj k0 k' b0 b' B0 B' (hs.liv g1) hk' g2 hC' (g4.trans he) with h7 | h7
    ·subst h7
     rw [g1.1] at hn
     cases hn
    ·rw [g3] at h7; cases h7.1
 refine ⟨⟨g.fr, g.ext, ?_, g.lt, ?_⟩, ⟨e.rho, e.ext, e.size, e.os, e.tape, e.output, ?_, ?_, e.cc, e.dom⟩⟩
 ·intro k k' b b' B B' hk hk' h1 h2 he
  rcases hG k b hk with hk | ⟨hk, hn⟩ <;> rcases hG k' b' hk' with hk' | ⟨hk', hn'⟩
  ·exact g.inj k k' b b' B B' hk hk' h1 h2 he
  ·exact .inr (mix k k' b b' B B' hk hk' hn' h1 h2 he)
  ·exact .inr (mix k' k b' b B' B hk' hk hn h2 h1 he.symm).symm
  ·obtain ⟨C, hC⟩ := h.named k b hk
   obtain ⟨C', hC'⟩ := h.named k' b' hk'
   have e1 := e.rho k C hC
   have e2 := e.rho k' C' hC'
   rw [h1] at e1
   rw [h2] at e2
   cases e1
   cases e2
   exact h.inj k k' b b' B B' hk hk' hC hC' he
 ·intro k b hk
  rcases hG k b hk with hk | ⟨hk, hn⟩
  ·have hkt : k < th := by
    rcases e.ids k b hk with ⟨b0, hb0⟩ | ⟨_, h2, _⟩
    ·exact hf k b0 (hs k b0 hb0.1)
    ·omega
   obtain ⟨B, cs, h1, h2, h3, h4, h5, h6⟩ := g.box k b hk
   exact ⟨B, cs, h1, h2, h3, h4, fun _ hx => absurd hx (by omega), h6⟩
  ·obtain ⟨B, cs, h1, h2, h3, h4, h5, h6⟩ := h.box k b hk
   have hkt := hf k b hk.1
   refine ⟨B, cs, e.rho k B h1, h2.of_block (e.loc B.blk (h.lt k B h1) fun k2 b2 B2 hk2 hB hro he => ?_), h3.mono e.rho e.ext, h4, fun _ hx => absurd hx (by omega), h6⟩
   rcases h.inj k2 k b2 b B2 B (hs.liv hk2) hk hB h1 he with h7 | h7
   ·subst h7
    rw [hk2.1] at hn
    cases hn
   ·rw [hro] at h7; cases h7.1
 ·intro i hi hn
  exact e.loc i hi fun k b B hk => hn k b B (hs.liv hk)
 ·intro k b hk
  rcases hG k b hk with hk | ⟨hk, hn⟩
  ·rcases e.ids k b hk with ⟨b0, hb0⟩ | ⟨h1, h2, B, hB, hle⟩
   ·exact .inl ⟨b0, hs.liv hb0⟩
   ·refine .inr ⟨h1, h2, B, hB, hle.imp id fun ⟨k0, b0, B0, g1, g2⟩ => ⟨k0, b0, B0, hs.liv g1, g2⟩⟩
  ·exact .inl ⟨b, hk⟩
end
structure OpR where
 v : SV
 wr : List (Nat × Blk)
 obl : List Prop
 orc : List (Option Bool)
 c : Nat
 th : Nat
 pan : Option Value := none
def OpR.fin (r : OpR) (bk : List (Nat × Blk)) : List (Nat × Blk) :=
 match r.pan with
 | none => r.wr ++ bk
 | some _ => r.wr
def OpR.ends (r : OpR) (e : Ending) (v : Value) : Prop :=
 match r.pan with
 | none => e = .returned v
 | some p => e = .panicked [{ v := p, recovered := false }]
abbrev YS := List SA → List (Nat × Blk) → Nat → Nat → List (Option Bool) → Option OpR
abbrev YEnv := List (Nat × YS)
abbrev CallF := YEnv → FuncId → List SA → List (Nat × Blk) → Nat → Nat → List (Option Bool) → Option OpR
structure CallS where
 call : CallF
 op : Oper → (Operand → Option SV) → Option SV
def WF (ro : Option Nat) : Fence := { fn := fun _ => True, depth := none, alive := false, round := ro }
theorem callsIn_WF {ro : Option Nat} {n : Nat} {P : Program} {f : FuncId} {args : Array Value} {w : World} {R : Ending → World → Prop} : CallsIn (WF ro) n P f args w R ↔ Calls P f args w R :=
 callsIn_wide (n := n)
def Post (D : Den) (w0 : World) (X : Nat → Prop) (ρ : Nm) (wc w : World) (bk : List (Nat × Blk)) (c : Nat) (r : OpR) (e : Ending) (w' : World) : Prop :=
 ∃ v ρ' wc', r.ends e v ∧ denV D ρ' wc' r.v v ∧ Sat D w0 X r.th ρ' wc' w' (r.fin bk) ∧ Evo ρ wc w bk c r.c ρ' wc' w' (r.fin bk)
def YOk (D : Den) (P : Program) (w0 : World) (X : Nat → Prop) : Nat → YEnv → Nm → World → World → Prop
 | _, [], _, _, _ => True
 | bd, (k, h) :: ys, ρ, wc, w => ∃ B lp, ρ k = some B ∧ w.heap[B.blk]? = some (.loop lp) ∧ w0.heap.size ≤ B.blk ∧ B.blk < bd ∧ YOk D P w0 X B.blk ys ρ wc w ∧
   ∀ args bk c th orc r, h args bk c th orc = some r → (∀ p ∈ r.obl, p) → ∀ ρ' wc' w' vals, ρ.le ρ' → Ext wc wc' → Sat D w0 X th ρ' wc' w' bk → YOk D P w0 X B.blk ys ρ' wc' w' → (∀ j x, bk.look j = some x → j < c) → th ≤ c →
     (∀ j, c ≤ j → j < r.c → ρ' j = none) → denAs D ρ' wc' args vals → w'.heap[B.blk]? = some (.loop lp) →
     ∃ fn tmps assign body, (Instr.yield B.blk vals.toArray).run P w' = .ok (.round B.blk fn tmps assign body) w' ∧
       RoundIn (WF none) 0 P B.blk fn tmps assign body w' fun e w'' => Post D w0 X ρ' wc' w' bk c r e w'' ∧ w''.heap[B.blk]? = some (.loop lp)
def CallFOk (D : Den) (P : Program) (w0 : World) (X : Nat → Prop) (cs : CallF) : Prop :=
 ∀ ys f args bk c th orc r, cs ys f args bk c th orc = some r → (∀ p ∈ r.obl, p) → ∀ bd ρ wc w vals, Sat D w0 X th ρ wc w bk → YOk D P w0 X bd ys ρ wc w → (∀ k b, bk.look k = some b → k < c) → th ≤ c → (∀ k, c ≤ k → k < r.c → ρ k = none) → denAs D ρ wc args vals →
   Calls P f vals.toArray w (Post D w0 X ρ wc w bk c r)
structure CallOk (D : Den) (P : Program) (w0 : World) (X : Nat → Prop) (cs : CallS) : Prop where
 call : CallFOk D P w0 X cs.call
 op : ∀ o get x, cs.op o get = some x → ∀ ρ wc w ev, Frm w0 X w → (∀ y z, get y = some z → denV D ρ wc z (ev y)) → ∃ v, (execOp ev o).run P w = .ok (.value v) w ∧ denV D ρ wc x v
section
variable {D : Den} {P : Program} {w0 : World} {X : Nat → Prop} {th : Nat} {ρ ρ' : Nm} {wc w wc' w' : World} {bk bk' : List (Nat × Blk)} {c c' : Nat}
theorem Sat.cells (h : Sat D w0 X th ρ wc w bk) {k : Nat} {b : Blk} {B : Pl} (hk : Liv bk k b) (hB : ρ k = some B) (hro : B.ro = false) : ∃ cs T f, w.heap[B.blk]? = some (.cells cs T f) := by
 obtain ⟨B', cs, h1, h2, h3, h4, h5, h6⟩ := h.box k b hk
 cases hB.symm.trans h1
 rcases h2 with ⟨g, _⟩ | ⟨_, _, rest, _, _, hb⟩
 ·rw [hro] at g; cases g
 ·exact ⟨_, _, _, hb.blk⟩
theorem Sat.stays (h : Sat D w0 X th ρ wc w bk) (e : Evo ρ wc w bk c c' ρ' wc' w' bk') {l : Nat} {o : Obj} (hl : w.heap[l]? = some o) (ho : o.isCells = false) : w'.heap[l]? = some o := by
 rw [e.loc l (lt_of_some hl) ?_]
 ·exact hl
 ·intro k b B hk hB hro he
  obtain ⟨cs, T, f, hc⟩ := h.cells hk hB hro
  rw [he, hl] at hc
  cases hc
  cases ho
theorem YOk.step : ∀ {bd : Nat} {ys : YEnv} {ρ ρ' : Nm} {wc w wc' w' : World}, YOk D P w0 X bd ys ρ wc w → ρ.le ρ' → Ext wc wc' → (∀ (l : Nat) (lp : Loop), l < bd → w.heap[l]? = some (Obj.loop lp) → w'.heap[l]? = some (Obj.loop lp)) → YOk D P w0 X bd ys ρ' wc' w'
 | _, [], ρ, ρ', wc, w, wc', w', _, _, _, _ => trivial
 | bd, (k, h) :: ys, ρ, ρ', wc, w, wc', w', ⟨B, lp, h2, h3, hsz, hbd, h1, h4⟩, hr, hx, hl =>
   ⟨B, lp, hr k B h2, hl _ _ hbd h3, hsz, hbd, h1.step hr hx (fun l lp hlt => hl l lp (Nat.lt_trans hlt hbd)), fun args bk c th orc r hh ho ρ2 wc2 w2 vals g1 g2 => h4 args bk c th orc r hh ho ρ2 wc2 w2 vals (hr.trans g1) (hx.trans g2)⟩
theorem YOk.bound : ∀ {bd b : Nat} {ys : YEnv} {ρ : Nm} {wc w : World}, YOk D P w0 X bd ys ρ wc w → (∀ k B, ρ k = some B → B.blk < b) → YOk D P w0 X b ys ρ wc w
 | _, _, [], _, _, _, _, _ => trivial
 | _, _, (k, h) :: ys, ρ, wc, w, ⟨B, lp, h2, h3, hsz, hbd, h1, h4⟩, hb => ⟨B, lp, h2, h3, hsz, hb k B h2, h1, h4⟩
theorem YOk.evo {bd : Nat} {ys : YEnv} (h : YOk D P w0 X bd ys ρ wc w) (hS : Sat D w0 X th ρ wc w bk) (e : Evo ρ wc w bk c c' ρ' wc' w' bk') : YOk D P w0 X bd ys ρ' wc' w' :=
 h.step e.rho e.ext fun l lp _ hl => hS.stays e hl rfl
end
end
section
def newsS (bk : List (Nat × Blk)) (size : Nat) (x : Option SV) : Option (Nat × List U) :=
 match x with
 | some (.a (.one (.slc k off n _))) => match bk.look k with
   | some b => if b.dead then none else (subU b.cells off (n * size)).map (n, ·)
   | none => none
 | some (.a (.one (.sli k off n))) => match bk.look k with
   | some b => if b.dead then none else (subU b.cells off (n * size)).map (n, ·)
   | none => none
 | some (.a (.one (.own k n _))) => match bk.look k with
   | some b => if b.dead then none else (subU b.cells 0 (n * size)).map (n, ·)
   | none => none
 | some (.a (.one .emp)) => some (0, [])
 | some (.a (.one (.val (.slice none 0 _)))) => some (0, [])
 | _ => none
section
variable {D : Den} {P : Program} {w0 : World} {X : Nat → Prop} {th : Nat} {ρ : Nm} {wc w : World} {bk : List (Nat × Blk)} {c : Nat} {get : Operand → Option SV} {ev : Operand → Value}
theorem Src.of_sub {B : Pl} {T : TypeId} {sp : Bool} {cs : List Value} (hh : Holds w B T sp cs) {l us : List U} (hl : denL D ρ wc l cs) {off n size : Nat} (hs : subU l off (n * size) = some us) {tx e' : TypeId} (hk : P.underlying tx = some (.slice e')) (cap : Nat) :
  ∃ news, Src P size tx (.slice (some ⟨B.blk, B.base + off, none⟩) n cap) n news w ∧ denL D ρ wc us news ∧ news.length = n * size ∧ (∀ m, m ≤ n → (Builtin.firstCells size m (.slice (some ⟨B.blk, B.base + off, none⟩) n cap)).run P w = .ok (news.take (m * size)).toArray w) ∧
    ∀ j u, news[j]? = some u → w.cell? ((⟨B.blk, B.base + off, none⟩ : Addr).add j) = some u := by
 obtain ⟨h1, h2⟩ := subU_den hs hl
 have key : ∀ j u, ((cs.drop off).take (n * size))[j]? = some u → w.cell? ((⟨B.blk, B.base + off, none⟩ : Addr).add j) = some u := ?_
 ·refine ⟨_, Src.ofSlice w hk ⟨B.blk, B.base + off, none⟩ n cap _ h2 key h1.ones, h1, h2, fun m hm => ?_, key⟩
  have hle := Nat.mul_le_mul_right size hm
  refine run_firstCells_some w size m _ n cap _ (by rw [List.length_take, h2]; omega) fun j u hj => key j u ?_
  rw [List.getElem?_take] at hj
  split at hj
  ·exact hj
  ·cases hj
 intro j u hj
 rw [Addr.add_mid, Nat.add_assoc]
 refine hh.cell ?_
 have hjl : j < n * size := by
  have := (List.getElem?_eq_some_iff.1 hj).1
  omega
 rw [List.getElem?_take, if_pos hjl, List.getElem?_drop] at hj
 simpa using hj
theorem newsS_ok (hB : BkOk D ρ wc w bk) {x : SV} {v : Value} (hv : denV D ρ wc x v) {size n : Nat} {us : List U} (h : newsS bk size (some x) = some (n, us)) {tx e' : TypeId} (hk : P.underlying tx = some (.slice e')) :
  ∃ news, Src P size tx v n news w ∧ denL D ρ wc us news ∧ news.length = n * size ∧ ∀ m, m ≤ n → (Builtin.firstCells size m v).run P w = .ok (news.take (m * size)).toArray w := by
 unfold newsS at h
 split at h
 ·rename_i k off n' cap e
  cases e
  split at h
  ·rename_i b hb
   split at h
   ·cases h
   ·rename_i hd
    obtain ⟨m, hm, e2⟩ := Option.map_eq_some_iff.1 h
    cases e2
    obtain ⟨B, cs, h1, h2, h3, h4⟩ := hB k b hb (by simpa using hd)
    obtain ⟨B', hB', e1⟩ := hv
    cases h1.symm.trans hB'
    rw [show v = _ from by simpa using e1]
    obtain ⟨news, q1, q2, q3, q4, _⟩ := Src.of_sub (P := P) h2 h3 hm hk cap
    exact ⟨news, q1, q2, q3, q4⟩
  ·cases h
 ·rename_i k off n' e
  cases e
  split at h
  ·rename_i b hb
   split at h
   ·cases h
   ·rename_i hd
    obtain ⟨m, hm, e2⟩ := Option.map_eq_some_iff.1 h
    cases e2
    obtain ⟨B, cs, h1, h2, h3, h4⟩ := hB k b hb (by simpa using hd)
    obtain ⟨B', cap, hB', hc, e1⟩ := hv
    cases h1.symm.trans hB'
    rw [show v = _ from by simpa using e1]
    obtain ⟨news, q1, q2, q3, q4, _⟩ := Src.of_sub (P := P) h2 h3 hm hk cap
    exact ⟨news, q1, q2, q3, q4⟩
  ·cases h
 ·rename_i k n' s e
  cases e
  split at h
  ·rename_i b hb
   split at h
   ·cases h
   ·rename_i hd
    obtain ⟨m, hm, e2⟩ := Option.map_eq_some_iff.1 h
    cases e2
    obtain ⟨B, cs, h1, h2, h3, h4⟩ := hB k b hb (by simpa using hd)
    obtain ⟨B', hB', _, _, hb0, e1⟩ := hv
    cases h1.symm.trans hB'
    rw [show v = _ from by simpa using e1]
    obtain ⟨news, q1, q2, q3, q4, _⟩ := Src.of_sub (P := P) h2 h3 hm hk B.cap
    rw [hb0] at q1 q4
    exact ⟨news, q1, q2, q3, q4⟩
  ·cases h
 ·rename_i e
  cases e
  cases h
  obtain ⟨p, cp, hp, e1⟩ := hv
  rw [show v = _ from by simpa using e1]
  refine ⟨[], ?_, rfl, by simp, fun m hm => ?_⟩
  ·cases p with
   | none => rw [hp rfl]; exact Src.ofNil w hk 0
   | some a => exact Src.ofSlice w hk a 0 cp [] (by simp) (fun j u hj => by simp at hj) (by simp)
  ·obtain rfl : m = 0 := by omega
   cases p with
   | none => simpa using run_firstCells_none w size 0 0 cp
   | some a => simpa using run_firstCells_some w size 0 a 0 cp [] (by simp) (fun j u hj => by simp at hj)
 ·rename_i cp e
  cases e
  cases h
  rw [show v = _ from by simpa using hv.1]
  exact ⟨[], Src.ofNil w hk _, rfl, by simp, fun m hm => by simpa using run_firstCells_none w size m 0 _⟩
 ·cases h
def EffOk (D : Den) (P : Program) (w0 : World) (X : Nat → Prop) (th : Nat) (ρ : Nm) (wc w : World) (bk : List (Nat × Blk)) (c : Nat) (s : Sem Next) (x : SV) (wr : List (Nat × Blk)) (c' : Nat) : Prop :=
 ∃ nx v w' ρ', s.run P w = .ok nx w' ∧ (nx = .value v ∨ (nx = .skip ∧ v = undef)) ∧ denV D ρ' wc x v ∧ Sat D w0 X th ρ' wc w' (wr ++ bk) ∧ Evo ρ wc w bk c c' ρ' wc w' (wr ++ bk)
theorem grow_ok (h : Sat D w0 X th ρ wc w bk) (hc : ρ c = none) {t tx ty e : TypeId} {i : TypeInfo} {z : Value} (ht : P.underlying t = some (.slice e)) (hi : P.info? e = some i) (hz : i.zero = some z) (hzs : z.cells.size = i.size)
  {base : Option Addr} {sLen sCap : Nat} {olds news : List Value} {lo ln : List U} (hlo : denL D ρ wc lo olds) (hln : denL D ρ wc ln news) (hol : olds.length = sLen * i.size)
  (hold : ∀ w' : World, w'.heap = w.heap → (Builtin.firstCells i.size sLen (.slice base sLen sCap)).run P w' = .ok olds.toArray w') {x : Value} {n : Nat} (hs : Src P i.size tx x n news w) (hnl : news.length = n * i.size)
  (hg : sCap < sLen + n) (h40 : sLen + n ≤ 2 ^ 40) (hby : (sLen + n) * i.bytes ≤ 140737488355328) :
  ∃ v w' ρ', (Builtin.append_ #[t, tx] ty #[.slice base sLen sCap, x]).run P w = .ok v w' ∧ denV D ρ' wc (.a (.one (.own c (sLen + n) i.size))) v ∧
    Sat D w0 X th ρ' wc w' ((c, ⟨e, lo ++ ln, false, true, false⟩) :: bk) ∧ Evo ρ wc w bk c (c + 1) ρ' wc w' ((c, ⟨e, lo ++ ln, false, true, false⟩) :: bk) := by
 have hrun := run_append_grow_src (P := P) w t tx ty e i z ht hi hz base sLen sCap olds (hold _ rfl) x n news hs hg (by omega) (growslice_fits hg hby)
 have hge := grownCap_ge w (sLen + n) sCap e
 generalize grownCap w (sLen + n) sCap e = cap at hrun hge
 have hsz : (Builtin.zeroCells z.cells (cap - (sLen + n))).size = (cap - (sLen + n)) * i.size := by rw [size_zeroCells, hzs]
 obtain ⟨k1, k2⟩ := (h.drew).alloc hc e true cap (cap * i.size) (l := lo ++ ln) (cs := olds ++ news) (rest := (Builtin.zeroCells z.cells (cap - (sLen + n))).toList) (hlo.append hln) (fun hh => by cases hh) (fun _ => by
  simp only [List.length_append, Array.length_toList, hsz, hol, hnl]
  rw [← Nat.add_mul, ← Nat.add_mul]
  congr 1
  omega)
 have earr : (((olds ++ news) ++ (Builtin.zeroCells z.cells (cap - (sLen + n))).toList).toArray : Array Value) = (olds ++ news).toArray ++ Builtin.zeroCells z.cells (cap - (sLen + n)) := by
  apply Array.toList_inj.1; simp
 rw [earr] at k1 k2
 exact ⟨_, _, _, hrun, ⟨_, addNm_new _ _ _, hge, rfl, rfl, rfl⟩, k1, (Evo.drew ρ wc w bk c).trans k2 h.named⟩
def infoZ (P : Program) (e : TypeId) : Option (Nat × Nat) :=
 match P.info? e with
 | some i => match i.zero with
   | some z => if Nat.beq z.cells.size i.size then some (i.size, i.bytes) else none
   | none => none
 | none => none
theorem infoZ_ok {e : TypeId} {s b : Nat} (h : infoZ P e = some (s, b)) : ∃ i z, P.info? e = some i ∧ i.zero = some z ∧ z.cells.size = i.size ∧ i.size = s ∧ i.bytes = b := by
 unfold infoZ at h
 split at h
 ·rename_i i hi
  split at h
  ·rename_i z hz
   split at h
   ·rename_i hs
    cases h
    exact ⟨i, z, hi, hz, Nat.eq_of_beq_eq_true hs, rfl, rfl⟩
   ·cases h
  ·cases h
 ·cases h
def small (n bytes : Nat) : Bool := Nat.ble n (2 ^ 40) && Nat.ble (n * bytes) 140737488355328
end
def keepS (s : Option SV) : Option SV :=
 match s with
 | some (.a (.one (.slc k off len cap))) => if Nat.ble len cap then some (.a (.one (.slc k off len cap))) else none
 | some (.a (.one (.sli k off len))) => some (.a (.one (.sli k off len)))
 | some (.a (.one (.own k len sz))) => some (.a (.one (.own k len sz)))
 | some (.a (.one .emp)) => some (.a (.one .emp))
 | some (.a (.one (.val (.slice none 0 0)))) => some (.a (.one (.val (.slice none 0 0))))
 | _ => none
def appendS (P : Program) (t tx : TypeId) (s x : Option SV) (bk : List (Nat × Blk)) (th c : Nat) : Option (SV × List (Nat × Blk) × Nat) :=
 match P.underlying t, P.underlying tx with
 | some (.slice e), some (.slice _) => match infoZ P e with
   | some (size, bytes) => match newsS bk size x with
     | some (n, us) => if Nat.beq n 0 then (keepS s).map fun r => (r, [], c) else match s with
       | some (.a (.one (.slc k off len cap))) => match bk.look k with
         | some b => if b.dead then none else
           if Nat.ble (len + n) cap then (if b.ro || !(b.T != 3 || Nat.ble th k) then none else
            (putX b.cells (off + len * size) us).map fun l => (.a (.one (.slc k off (len + n) cap)), [(k, ⟨b.T, l, false, b.sp, false⟩)], c))
           else if small (len + n) bytes then (subU b.cells off (len * size)).map fun lo => (.a (.one (.own c (len + n) size)), [(c, ⟨e, lo ++ us, false, true, false⟩)], c + 1) else none
         | none => none
       | some (.a (.one (.val (.slice none 0 0)))) => if small n bytes then some (.a (.one (.own c n size)), [(c, ⟨e, us, false, true, false⟩)], c + 1) else none
       | some (.a (.one (.own k len sz))) => match bk.look k with
         | some b => if b.dead || b.ro || !b.sp || !(b.T != 3 || Nat.ble th k) || !Nat.beq b.T e || !Nat.beq sz size || !Nat.beq (widths b.cells) (len * size) || !bk.all (fun p => Nat.blt p.1 c) || !small (len + n) bytes then none else
           some (.a (.one (.own c (len + n) size)), [(k, ⟨b.T, [], false, true, true⟩), (c, ⟨e, b.cells ++ us, false, true, false⟩)], c + 1)
         | none => none
       | _ => none
     | none => none
   | none => none
 | _, _ => none
section
variable {D : Den} {P : Program} {w0 : World} {X : Nat → Prop} {th : Nat} {ρ : Nm} {wc w : World} {bk : List (Nat × Blk)} {c : Nat}
theorem small_ok {n b : Nat} (h : small n b = true) : n ≤ 2 ^ 40 ∧ n * b ≤ 140737488355328 := by
 unfold small at h
 rw [Bool.and_eq_true] at h
 exact ⟨Nat.le_of_ble_eq_true h.1, Nat.le_of_ble_eq_true h.2⟩
theorem keepS_ok {s : SV} {r : SV} {v : Value} (h : keepS (some s) = some r) (hv : denV D ρ wc s v) : r = s ∧ ∃ p n cap, v = .slice p n cap ∧ n ≤ cap := by
 unfold keepS at h
 split at h
 ·rename_i e
  cases e
  split at h
  ·rename_i hb
   cases h
   obtain ⟨B, hB, e1⟩ := hv
   exact ⟨rfl, _, _, _, by simpa using e1, Nat.le_of_ble_eq_true hb⟩
  ·cases h
 ·rename_i e
  cases e
  cases h
  obtain ⟨B, cp, hB, hc, e1⟩ := hv
  exact ⟨rfl, _, _, _, by simpa using e1, hc⟩
 ·rename_i e
  cases e
  cases h
  obtain ⟨B, hB, hc, _, _, e1⟩ := hv
  exact ⟨rfl, _, _, _, by simpa using e1, hc⟩
 ·rename_i e
  cases e
  cases h
  obtain ⟨p, cp, hp, e1⟩ := hv
  exact ⟨rfl, _, _, _, by simpa using e1, Nat.zero_le _⟩
 ·rename_i e
  cases e
  cases h
  exact ⟨rfl, _, _, _, by simpa using hv.1, Nat.le_refl _⟩
 ·cases h
theorem sub_dead {k : Nat} {x : Blk} {l : List (Nat × Blk)} (hd : x.dead = true) : Sub' ((k, x) :: l) l := fun j y hj => by
 rcases liv_cons hj with ⟨_, e, hd'⟩ | ⟨_, hj⟩
 ·rw [hd] at hd'; cases hd'
 ·exact hj
theorem appendS_ok (h : Sat D w0 X th ρ wc w bk) {bkR : List (Nat × Blk)} (hs : Sub bkR bk) {s x : SV} {vs vx : Value} (hvs : denV D ρ wc s vs) (hvx : denV D ρ wc x vx) {t tx ty : TypeId} {r : SV} {wr : List (Nat × Blk)} {c' : Nat}
  (ha : appendS P t tx (some s) (some x) bkR th c = some (r, wr, c')) (hn : ∀ k, c ≤ k → k < c' → ρ k = none) :
  ∃ v w' ρ', (Builtin.append_ #[t, tx] ty #[vs, vx]).run P w = .ok v w' ∧ denV D ρ' wc r v ∧ Sat D w0 X th ρ' wc w' (wr ++ bk) ∧ Evo ρ wc w bk c c' ρ' wc w' (wr ++ bk) := by
 have hBk : BkOk D ρ wc w bkR := fun k b hk => h.bkOk k b (hs k b hk)
 unfold appendS at ha
 split at ha
 ·rename_i e e' ht htx
  split at ha
  ·rename_i size bytes hinf
   obtain ⟨i, z, hi, hz, hzs, rfl, rfl⟩ := infoZ_ok hinf
   split at ha
   ·rename_i n us hnews
    obtain ⟨news, hsrc, hln, hnl, _⟩ := newsS_ok (P := P) hBk hvx hnews htx
    split at ha
    ·rename_i hn0
     have hn0 := Nat.eq_of_beq_eq_true hn0
     subst hn0
     obtain ⟨r', hr, e1⟩ := Option.map_eq_some_iff.1 ha
     cases e1
     obtain ⟨rfl, p, m, cap, rfl, hle⟩ := keepS_ok hr hvs
     obtain rfl : news = [] := List.eq_nil_of_length_eq_zero (by simpa using hnl)
     exact ⟨_, _, ρ, run_append_nothing w t tx ty e i ht hi p m cap hle vx hsrc, hvs, h, Evo.refl _ _ _ _ _⟩
    ·rename_i hn0
     have hnp : 0 < n := by
      rcases Nat.eq_zero_or_pos n with h0 | h0
      ·subst h0; simp at hn0
      ·exact h0
     split at ha
     ·rename_i k off len cap e1
      cases e1
      obtain ⟨B, hB, e2⟩ := hvs
      obtain rfl : vs = .slice (some ⟨B.blk, B.base + off, none⟩) len cap := by simpa using e2
      split at ha
      ·rename_i b hb
       split at ha
       ·cases ha
       ·rename_i hd
        have hliv : Liv bk k b := ⟨hs k b hb, by simpa using hd⟩
        obtain ⟨B', cs, h1, h2, h3, h4, h5, h6⟩ := h.box k b hliv
        cases hB.symm.trans h1
        split at ha
        ·rename_i hroom
         have hroom := Nat.le_of_ble_eq_true hroom
         split at ha
         ·cases ha
         ·rename_i hT
          simp only [Bool.or_eq_true, Bool.not_eq_true', not_or, Bool.not_eq_true, Bool.or_eq_false_iff, bne_eq_false_iff_eq, Nat.ble_eq, not_and] at hT
          obtain ⟨hro, hT⟩ := hT
          have hro : b.ro = false := by simpa using hro
          have hT : b.T ≠ 3 ∨ th ≤ k := by
           by_cases h3 : b.T = 3
           ·right
            have := hT
            simp [h3] at this
            exact this
           ·exact .inl h3
          obtain ⟨l, hl, e3⟩ := Option.map_eq_some_iff.1 ha
          cases e3
          obtain ⟨k1, k2, k3, k4⟩ := h.store hliv hro hl hln hT hB c
          refine ⟨.slice (some ⟨B.blk, B.base + off, none⟩) (len + n) cap, _, ρ, ?_, ⟨B, hB, rfl⟩, k1, k2⟩
          rw [k4, Nat.zero_add]
          refine run_append_room_src w t tx ty e i ht hi B.blk off len cap vx n news hsrc hroom (fun j hj => ?_) (fun j hj => ?_)
          ·exact (k3 j hj).1
          ·exact (k3 j hj).2
        ·rename_i hroom
         have hroom : cap < len + n := by
          rcases Nat.lt_or_ge cap (len + n) with h | h
          ·exact h
          ·rw [Nat.ble_eq_true_of_le h] at hroom; simp at hroom
         split at ha
         ·rename_i hsm
          obtain ⟨g1, g2⟩ := small_ok hsm
          obtain ⟨lo, hl, e3⟩ := Option.map_eq_some_iff.1 ha
          cases e3
          obtain ⟨olds, q1, q2, q3, _, q4⟩ := Src.of_sub (P := P) h2 h3 hl htx cap
          refine grow_ok h (hn c (Nat.le_refl _) (Nat.lt_succ_self _)) ht hi hz hzs q2 hln q3 (fun w' hw' => ?_) hsrc hnl hroom g1 g2
          refine run_firstCells_some w' _ _ _ _ _ _ q3 fun j u hj => ?_
          rw [← q4 j u hj]
          simp only [World.cell?, hw']
         ·cases ha
      ·cases ha
     ·rename_i e1
      cases e1
      obtain rfl : vs = .slice none 0 0 := by simpa using hvs.1
      split at ha
      ·rename_i hsm
       obtain ⟨g1, g2⟩ := small_ok hsm
       cases ha
       have := grow_ok (sLen := 0) (sCap := 0) (base := none) (olds := []) (lo := []) (ty := ty) h (hn c (Nat.le_refl _) (Nat.lt_succ_self _)) ht hi hz hzs rfl hln (by simp) (fun w' _ => run_firstCells_none w' _ _ _ _) hsrc hnl (by omega) (by omega) (by rw [Nat.zero_add]; exact g2)
       simpa using this
      ·cases ha
     ·rename_i k len sz e1
      cases e1
      obtain ⟨B, hB, hlc, htot, hb0, e2⟩ := hvs
      obtain rfl : vs = .slice (some ⟨B.blk, 0, none⟩) len B.cap := by simpa using e2
      split at ha
      ·rename_i b hb
       split at ha
       ·cases ha
       ·rename_i hc
        simp only [Bool.or_eq_true, Bool.not_eq_true', not_or, Bool.not_eq_true, Bool.not_eq_false] at hc
        obtain ⟨⟨⟨⟨⟨⟨⟨⟨c1, c2⟩, c3⟩, c4⟩, c5⟩, c6⟩, c7⟩, c8⟩, c9⟩ := hc
        cases ha
        have c5 := Nat.eq_of_beq_eq_true c5
        have c6 := Nat.eq_of_beq_eq_true c6
        have c7 := Nat.eq_of_beq_eq_true c7
        obtain ⟨g1, g2⟩ := small_ok c9
        have hT : b.T ≠ 3 ∨ th ≤ k := by
         rcases c4 with h | h
         ·exact .inl (by simpa using h)
         ·exact .inr (Nat.le_of_ble_eq_true h)
        have hliv : Liv bk k b := ⟨hs k b hb, c1⟩
        have hkc : c ≠ k := fun e => by
         have := hn c (Nat.le_refl _) (Nat.lt_succ_self _)
         rw [e, hB] at this
         cases this
        obtain ⟨B', cs, h1, h2, h3, h4, h5, h6⟩ := h.box k b hliv
        cases hB.symm.trans h1
        have hcn := hn c (Nat.le_refl _) (Nat.lt_succ_self _)
        subst c5
        subst c6
        by_cases hroom : len + n ≤ B.cap
        ·have hrm : widths b.cells + news.length ≤ B.tot := by
          rw [c7, hnl, htot, ← Nat.add_mul]
          exact Nat.mul_le_mul_right _ hroom
         obtain ⟨k1, k2, k3, k4⟩ := h.push hliv c2 c3 hln hT hB hcn hrm hkc
         refine ⟨.slice (some ⟨B.blk, 0, none⟩) (len + n) B.cap, _, _, ?_, ⟨B, addNm_new _ _ _, hroom, htot, hb0, rfl⟩, k1, k2⟩
         rw [c7] at k3 ⊢
         have := run_append_room_src w t tx ty b.T i ht hi B.blk 0 len B.cap vx n news hsrc hroom (fun j hj => by rw [Nat.zero_add]; exact (k3 j hj).1) (fun j hj => by rw [Nat.zero_add]; exact (k3 j hj).2)
         rw [Nat.zero_add] at this
         exact this
        ·have hcs := h3.len
         obtain ⟨v, w', ρ', q1, q2, q3, q4⟩ := grow_ok (ty := ty) (olds := cs) (base := some ⟨B.blk, 0, none⟩) (sLen := len) (sCap := B.cap) h hcn ht hi hz hzs h3 hln (by rw [hcs, c7]) (fun w' hw' => run_firstCells_some w' _ _ _ _ _ _ (by rw [hcs, c7]) fun j u hj => by
          have := h2.cell hj
          rw [hb0, Nat.zero_add] at this
          rw [Addr.add_mid, Nat.zero_add, ← this]
          simp only [World.cell?, hw']) hsrc hnl (by omega) g1 g2
         exact ⟨v, w', ρ', q1, q2, q3.sub' (sub_dead rfl), q4.sub' (sub_dead rfl)⟩
      ·cases ha
     ·cases ha
   ·cases ha
  ·cases ha
 ·cases ha
end
end
section
def zerosU (P : Program) (e : TypeId) (n : Nat) : Option (List U) :=
 match (P.info? e).bind (·.zero) with
 | some z => (fun l : List Value => if l.all (·.oneCell') then some (l.map .val) else none) ((Array.range n).map (z.cells[· % z.cells.size]!)).toList
 | none => none
theorem denA_cell1 {D : Den} {ρ : Nm} {w : World} {x : SA} {v : Value} (h : denA D ρ w x v) : (∃ cs : Array Value, v = .agg cs) ∨ v.oneCell' = true := by
 cases x with
 | one u => exact .inr (denU.ones h v (by simp))
 | agg l => obtain ⟨cs, e, _⟩ := h; exact .inl ⟨_, e⟩
theorem run_storeAt_any {P : Program} (w : World) (b o : Nat) (ty : TypeId) (v : Value) (hv : (∃ cs : Array Value, v = .agg cs) ∨ v.oneCell' = true) (ht : w.there b o v.cells.size) (hi : (P.info? ty).map (·.size) = some v.cells.size)
  (h1 : ∀ u ∈ v.cells.toList, u.oneCell' = true) : (Instr.storeAt ty (.pointer (some ⟨b, o, none⟩)) v).run P w = .ok () (w.setCells b o v.cells.toList) := by
 rcases hv with ⟨cs, rfl⟩ | hv
 ·exact run_storeAt_mid w b o ty cs ht hi (by rw [Array.all_eq_true_iff_forall_mem]; intro u hu; exact h1 u (by simpa [Value.cells] using hu))
 ·rw [oneCell_cells hv] at ht hi ⊢
  have := run_storeAt_mid (P := P) w b o ty #[v] ht hi (by simpa using hv)
  rw [← this]
  unfold Instr.storeAt storeVar
  rw [oneCell_cells hv]
  rfl
def makeS (P : Program) (t : TypeId) (l x : Option SV) (c : Nat) : Option (SV × List (Nat × Blk) × Nat) :=
 match l, x with
 | some (.a (.one (.val (.int _ (.ofNat n))))), some (.a (.one (.val (.int _ (.ofNat m))))) => match P.underlying t with
   | some (.slice e) => match infoZ P e with
     | some (size, bytes) => if Nat.ble n m && small m bytes then match (P.info? e).bind (·.zero) with
       | some z => if z.cells.toList.all (·.oneCell') then some (.a (.one (.slc c 0 n m)), [(c, ⟨e, (madeCells z.cells (m * size)).toList.map .val, false, false, false⟩)], c + 1) else none
       | none => none
       else none
     | none => none
   | _ => none
 | _, _ => none
def copyS (P : Program) (t : TypeId) (d x : Option SV) (bk : List (Nat × Blk)) (th c : Nat) : Option (SV × List (Nat × Blk) × Nat) :=
 match P.underlying t with
 | some (.slice e) => match szOf P e with
   | some size => match d, newsS bk size x with
     | some (.a (.one (.slc k off len cap))), some (n, us) => match bk.look k, takeU us (Nat.min n len * size) with
       | some b, some vs => if b.dead || b.ro || !(b.T != 3 || Nat.ble th k) then none else
         (putX b.cells (off + 0) vs).map fun l => (.a (.one (.val (goInt (Nat.min n len)))), [(k, ⟨b.T, l, false, b.sp, false⟩)], c)
       | _, _ => none
     | _, _ => none
   | none => none
 | _ => none
def effS (P : Program) (o : Oper) (get : Operand → Option SV) (bk : List (Nat × Blk)) (th c : Nat) : Option (SV × List (Nat × Blk) × Nat) :=
 match o.op with
 | .alloc T => (zeroU P T).map fun l => (.a (.one (.ptr c 0)), [(c, ⟨T, l, false, false, false⟩)], c + 1)
 | .box T x => match get x with
   | some (.a s) => some (.a (.one (.ptr c 0)), [(c, ⟨T, unitsA s, false, false, false⟩)], c + 1)
   | _ => none
 | .buildSlice t len parts => match P.underlying t with
   | some (.slice e) => match szOf P e, partsS get parts.toList with
     | some s, some ps => if len * s ≤ 2 ^ 24 && len * s != 0 then
       match zerosU P e (len * s) with
       | some z => (fillS (fun i => some (i * s, s)) z ps).map fun m => (.a (.one (.slc c 0 len len)), [(c, ⟨e, m, false, false, false⟩)], c + 1)
       | none => none
       else none
     | _, _ => none
   | _ => none
 | .store t x y => match get x, get y with
   | some (.a (.one (.ptr k off))), some (.a s) => match bk.look k with
     | some b => if (szOf P t).any (· == widths (unitsA s)) && (b.T != 3 || Nat.ble th k) && !b.ro && !b.dead then (putX b.cells off (unitsA s)).map fun l => (.tup [], [(k, ⟨b.T, l, false, b.sp, false⟩)], c) else none
     | none => none
   | _, _ => none
 | .makeSlice t l x => makeS P t (get l) (get x) c
 | .call ⟨.builtin .append, ⟨[s, x]⟩, ⟨[t, tx]⟩⟩ => appendS P t tx (get s) (get x) bk th c
 | .call ⟨.builtin .copy, ⟨[d, x]⟩, ⟨[t, tx]⟩⟩ => match P.underlying tx with
   | some (.slice _) => copyS P t (get d) (get x) bk th c
   | _ => none
 | _ => (evPure P o get bk).map fun x => (x, [], c)
section
variable {D : Den} {P : Program} {w0 : World} {X : Nat → Prop} {th : Nat} {ρ : Nm} {wc w : World} {bk bkR : List (Nat × Blk)} {c : Nat} {get : Operand → Option SV} {ev : Operand → Value}
theorem fresh_ok (h : Sat D w0 X th ρ wc w bk) (hk : ρ c = none) {T : TypeId} {l : List U} {cells : Array Value} {s : Sem Value} (mk : Addr → Value) (x : SV) (hx : ∀ B, denV D (addNm ρ c ⟨B, 0, false, 0, 0⟩) wc x (mk ⟨B, 0, none⟩))
  (hrun : s.run P w = .ok (mk ⟨w.heap.size, 0, none⟩) (w.alloc (.cells cells T))) (hl : denL D ρ wc l cells.toList) {S : Sem Next} (hex : S = do pure (Next.value (← s))) :
  EffOk D P w0 X th ρ wc w bk c S x [(c, ⟨T, l, false, false, false⟩)] (c + 1) := by
 obtain ⟨k1, k2⟩ := h.alloc hk T false 0 0 (rest := []) hl (fun _ => rfl) (fun hh => by cases hh)
 rw [List.append_nil, Array.toArray_toList] at k1 k2
 refine ⟨_, _, _, _, ?_, .inl rfl, hx _, k1, k2⟩
 rw [hex]
 simp only [Sem.run_bind, hrun, Result.andThen_ok, Sem.run_pure]
theorem denL_made {z : Value} (hz : z.cells.toList.all (·.oneCell') = true) (n : Nat) (hn : z.cells.size = 0 → n = 0) : denL D ρ wc ((madeCells z.cells n).toList.map .val) (madeCells z.cells n).toList := by
 refine denL_vals _ fun v hv => ?_
 unfold madeCells at hv
 simp only [Array.toList_map, List.mem_map] at hv
 obtain ⟨i, hi, rfl⟩ := hv
 have hi : i < n := by simpa using hi
 have h0 : 0 < z.cells.size := by
  rcases Nat.eq_zero_or_pos z.cells.size with h | h
  ·have := hn h; omega
  ·exact h
 have hm := Nat.mod_lt i h0
 rw [getElem!_pos z.cells (i % z.cells.size) hm]
 exact List.all_eq_true.1 hz _ (by simp)
theorem makeS_ok (h : Sat D w0 X th ρ wc w bk) (hn : ∀ k, c ≤ k → k < c + 1 → ρ k = none) {t : TypeId} {sl sx x : SV} {vl vx : Value} (hl : denV D ρ wc sl vl) (hx : denV D ρ wc sx vx) {wr : List (Nat × Blk)} {c' : Nat}
  (he : makeS P t (some sl) (some sx) c = some (x, wr, c')) {S : Sem Next} (hex : S = do pure (Next.value (← Instr.makeSlice t vl vx))) : EffOk D P w0 X th ρ wc w bk c S x wr c' := by
 unfold makeS at he
 split at he
 ·rename_i kl n km m e1 e2
  cases e1
  cases e2
  obtain rfl : vl = _ := by simpa using hl.1
  obtain rfl : vx = _ := by simpa using hx.1
  split at he
  ·rename_i e hu
   split at he
   ·rename_i size bytes hinf
    obtain ⟨i, z, hi, hz, hzs, rfl, rfl⟩ := infoZ_ok hinf
    split at he
    ·rename_i hc
     rw [Bool.and_eq_true] at hc
     obtain ⟨g1, g2⟩ := small_ok hc.2
     have g0 := Nat.le_of_ble_eq_true hc.1
     split at he
     ·rename_i z' hz'
      rw [hi] at hz'
      have hz2 : z' = z := by
       have : i.zero = some z' := hz'
       rw [hz] at this
       cases this
       rfl
      subst hz2
      split at he
      ·rename_i hall
       cases he
       have g3 : (i.bytes : Int) * (m : Int) ≤ 281474976710656 := by
        have g4 : i.bytes * m ≤ 140737488355328 := by rw [Nat.mul_comm]; exact g2
        have : ((i.bytes * m : Nat) : Int) ≤ 140737488355328 := by omega
        rw [Int.natCast_mul] at this
        omega
       have hrun := run_make (P := P) w t e i z' hu hi hz kl km (n : Int) (m : Int) (Int.natCast_nonneg _) (by omega) g3 (by omega)
       rw [Int.toNat_natCast, Int.toNat_natCast] at hrun
       exact fresh_ok h (hn c (Nat.le_refl _) (Nat.lt_succ_self _)) (fun p => .slice (some p) n m) (.a (.one (.slc c 0 n m))) (fun B => ⟨_, addNm_new _ _ _, rfl⟩) hrun (denL_made hall _ (fun h0 => by rw [← hzs, h0]; simp)) hex
      ·cases he
     ·cases he
    ·cases he
   ·cases he
  ·cases he
 ·cases he
theorem copyS_ok (h : Sat D w0 X th ρ wc w bk) (hs : Sub bkR bk) {t tx ty e' : TypeId} (htx : P.underlying tx = some (.slice e')) {sd sx x : SV} {vd vx : Value} (hd : denV D ρ wc sd vd) (hx : denV D ρ wc sx vx) {wr : List (Nat × Blk)} {c' : Nat}
  (he : copyS P t (some sd) (some sx) bkR th c = some (x, wr, c')) {S : Sem Next} (hex : S = do pure (Next.value (← Builtin.copy_ #[t, tx] ty #[vd, vx]))) : EffOk D P w0 X th ρ wc w bk c S x wr c' := by
 have hBk : BkOk D ρ wc w bkR := fun k b hk => h.bkOk k b (hs k b hk)
 unfold copyS at he
 split at he
 ·rename_i e hu
  split at he
  ·rename_i size hz
   split at he
   ·rename_i k off len cap n us e1 hnews
    cases e1
    obtain ⟨news, hsrc, hln, hnl, hfc⟩ := newsS_ok (P := P) hBk hx hnews htx
    split at he
    ·rename_i b vs hb htk
     split at he
     ·cases he
     ·rename_i hc
      simp only [Bool.or_eq_true, Bool.not_eq_true', not_or, Bool.not_eq_true, Bool.not_eq_false] at hc
      obtain ⟨⟨c1, c2⟩, c3⟩ := hc
      obtain ⟨l, hl, e3⟩ := Option.map_eq_some_iff.1 he
      cases e3
      obtain ⟨B, hB, e2⟩ := hd
      obtain rfl : vd = .slice (some ⟨B.blk, B.base + off, none⟩) len cap := by simpa using e2
      have hT : b.T ≠ 3 ∨ th ≤ k := by
       rcases c3 with h | h
       ·exact .inl (by simpa using h)
       ·exact .inr (Nat.le_of_ble_eq_true h)
      obtain ⟨q1, q2⟩ := takeU_den htk hln
      obtain ⟨k1, k2, k3, k4⟩ := h.store ⟨hs k b hb, c1⟩ c2 hl q1 hT hB c
      obtain ⟨i, hi, rfl⟩ := Option.map_eq_some_iff.1 hz
      have hcp := hfc (Nat.min n len) (Nat.min_le_left _ _)
      have hst := run_storeCells_cells (P := P) B.blk off (news.take (Nat.min n len * i.size)) 0 w (by simpa using fun j hj => (k3 j (by simpa using hj)).1) (by simpa using fun j hj => (k3 j (by simpa using hj)).2) q1.ones
      rw [Nat.add_zero] at k1 k2 hst
      refine ⟨_, goInt (Nat.min n len), _, ρ, ?_, .inl rfl, ⟨rfl, rfl⟩, k1, k2⟩
      rw [hex]
      have hrun : (Builtin.copy_ #[t, tx] ty #[.slice (some ⟨B.blk, B.base + off, none⟩) len cap, vx]).run P w = .ok (goInt (Nat.min n len)) (w.setCells B.blk off (news.take (Nat.min n len * i.size))) := by
       rw [k4, Nat.zero_add]
       simp [Builtin.copy_, run_underlying hu, sizeOf, typeInfo, hi, hsrc.len, hcp, hst]
      simp only [Sem.run_bind, hrun, Result.andThen_ok, Sem.run_pure]
    ·cases he
   ·cases he
  ·cases he
 ·cases he
theorem effS_ok (h : Sat D w0 X th ρ wc w bk) (hs : Sub bkR bk) (hg : ∀ x z, get x = some z → denV D ρ wc z (ev x)) {o : Oper} {x : SV} {wr : List (Nat × Blk)} {c' : Nat}
  (he : effS P o get bkR th c = some (x, wr, c')) (hn : ∀ k, c ≤ k → k < c' → ρ k = none) : EffOk D P w0 X th ρ wc w bk c (execOp ev o) x wr c' := by
 unfold effS at he
 split at he
 ·rename_i T ho
  obtain ⟨l, hl, e⟩ := Option.map_eq_some_iff.1 he
  cases e
  obtain ⟨i, z, h1, h2, h3⟩ := zeroU_ok hl D ρ wc
  exact fresh_ok h (hn c (Nat.le_refl _) (Nat.lt_succ_self _)) (fun p => .pointer (some p)) (.a (.one (.ptr c 0))) (fun B => ⟨_, addNm_new _ _ _, rfl⟩) (s := Instr.alloc T true (.tuple #[])) (by simp [Instr.alloc, zeroValue, typeInfo, h1, h2, newVar, newRow]) h3 (by unfold execOp; rw [ho])
 ·rename_i T y ho
  split at he
  ·rename_i s hy
   cases he
   have hd := hg _ _ hy
   exact fresh_ok h (hn c (Nat.le_refl _) (Nat.lt_succ_self _)) (fun p => .pointer (some p)) (.a (.one (.ptr c 0))) (fun B => ⟨_, addNm_new _ _ _, rfl⟩) (s := Instr.box T (ev y)) (by simp [Instr.box, newVar, newRow]) (denA_cells hd) (by unfold execOp; rw [ho])
  ·cases he
 ·rename_i t len parts ho
  split at he
  ·rename_i e hu
   split at he
   ·rename_i s ps hz hp
    split at he
    ·rename_i hlen
     rw [Bool.and_eq_true] at hlen
     split at he
     ·rename_i z hzs
      obtain ⟨m, hm, e1⟩ := Option.map_eq_some_iff.1 he
      cases e1
      unfold zerosU at hzs
      split at hzs
      ·rename_i zv hzv
       obtain ⟨ie, hie, hze⟩ := Option.bind_eq_some_iff.1 hzv
       dsimp only at hzs
       split at hzs
       ·rename_i hall
        cases hzs
        have hps := partsS_ok (D := D) (ρ := ρ) (w := wc) hg hp
        obtain ⟨cells, hf1, hf2⟩ := fillS_ok _ hm (denL_vals _ fun v hv => List.all_eq_true.1 hall v hv) hps
        obtain ⟨ie', hie', rfl⟩ := Option.map_eq_some_iff.1 hz
        cases hie.symm.trans hie'
        refine fresh_ok h (hn c (Nat.le_refl _) (Nat.lt_succ_self _)) (fun p => .slice (some p) len len) (.a (.one (.slc c 0 len len))) (fun B => ⟨_, addNm_new _ _ _, rfl⟩) (s := Instr.buildSlice t len (parts.map fun (i, x) => (i, ev x))) ?_ hf2 (by unfold execOp; rw [ho])
        refine run_buildSlice w t e len _ cells ie zv hu hie hze (by have := hlen.1; simp only [decide_eq_true_eq] at this; omega) (by simpa using hlen.2) ?_
        rw [← hf1]
        congr 1
        simp
       ·cases hzs
      ·cases hzs
     ·cases he
    ·cases he
   ·cases he
  ·cases he
 ·rename_i t y z ho
  split at he
  ·rename_i k off s hy hz
   split at he
   ·rename_i b hb
    split at he
    ·rename_i hc
     rw [Bool.and_eq_true, Bool.and_eq_true, Bool.and_eq_true] at hc
     obtain ⟨⟨⟨hc1, hc2⟩, hro⟩, hdd⟩ := hc
     obtain ⟨l, hl, e⟩ := Option.map_eq_some_iff.1 he
     cases e
     obtain ⟨B, hB, e1⟩ := hg _ _ hy
     have e2 : ev y = .pointer (some ⟨B.blk, B.base + off, none⟩) := by simpa using e1
     have hd := hg _ _ hz
     have hcs := denA_cells hd
     obtain ⟨sz, hsz, hw⟩ := Option.any_eq_true_iff_get .. |>.1 hc1 |> fun ⟨h1, h2⟩ => (⟨_, Option.some_get h1 |>.symm, by simpa using h2⟩ : ∃ sz, szOf P t = some sz ∧ sz = widths (unitsA s))
     obtain ⟨k1, k2, k3, hbase⟩ := h.store ⟨hs k b hb, by simpa using hdd⟩ (by simpa using hro) hl hcs (by
      rw [Bool.or_eq_true] at hc2
      rcases hc2 with h | h
      ·exact .inl (by simpa using h)
      ·exact .inr (Nat.le_of_ble_eq_true h)) hB c
     rw [hbase, Nat.zero_add] at e2
     have hrun := run_storeAt_any (P := P) w B.blk off t (ev z) (denA_cell1 hd) (by rw [← Array.length_toList]; exact k3) (by rw [← Array.length_toList, hcs.len, ← hw]; exact hsz) hcs.ones
     refine ⟨.skip, undef, _, ρ, ?_, .inr ⟨rfl, rfl⟩, ⟨[], rfl, rfl⟩, k1, k2⟩
     unfold execOp
     rw [ho]
     simp only [e2, Sem.run_bind, hrun, Result.andThen_ok, Sem.run_pure]
    ·cases he
   ·cases he
  ·cases he
 ·rename_i t l y ho
  cases hl : get l with
  | none => rw [hl] at he; simp [makeS] at he
  | some sl =>
    cases hy : get y with
    | none => rw [hl, hy] at he; unfold makeS at he; split at he <;> first | cases he | (rename_i e; cases e)
    | some sy =>
      rw [hl, hy] at he
      have hc' : c' = c + 1 := by
       unfold makeS at he
       repeat' (split at he <;> try cases he)
       rfl
      subst hc'
      exact makeS_ok h hn (hg _ _ hl) (hg _ _ hy) he (by unfold execOp; rw [ho])
 ·rename_i s y t tx ho
  cases hl : get s with
  | none =>
    rw [hl] at he
    unfold appendS at he
    repeat' (split at he)
    all_goals first | contradiction | (simp [keepS] at he; done)
  | some sl =>
    cases hy : get y with
    | none =>
      rw [hl, hy] at he
      unfold appendS at he
      have : ∀ n us size, newsS bkR size none ≠ some (n, us) := fun n us size hh => by simp [newsS] at hh
      repeat' (split at he)
      all_goals first | contradiction | (exfalso; apply this; assumption)
    | some sy =>
      rw [hl, hy] at he
      obtain ⟨v, w', ρ', q1, q2, q3, q4⟩ := appendS_ok (ty := o.type) h hs (hg _ _ hl) (hg _ _ hy) he hn
      refine ⟨_, v, w', ρ', ?_, .inl rfl, q2, q3, q4⟩
      unfold execOp
      simp only [ho, resolve, Sem.run_bind, Sem.run_pure, Result.andThen_ok, invoke, builtin]
      simp only [List.map_toArray, List.map_cons, List.map_nil, Sem.run_bind, q1, Result.andThen_ok, Sem.run_pure]
 ·rename_i s y t tx ho
  split at he
  ·rename_i e' htx
   cases hl : get s with
   | none =>
     rw [hl] at he
     unfold copyS at he
     repeat' (split at he)
     all_goals contradiction
   | some sl =>
     cases hy : get y with
     | none =>
       rw [hl, hy] at he
       unfold copyS at he
       have : ∀ n us size, newsS bkR size none ≠ some (n, us) := fun n us size hh => by simp [newsS] at hh
       repeat' (split at he)
       all_goals first | contradiction | (exfalso; apply this; assumption)
     | some sy =>
       rw [hl, hy] at he
       have hc' : c' = c := by
        unfold copyS at he
        split at he
        ·split at he
         ·split at he
          ·split at he
           ·split at he
            ·cases he
            ·obtain ⟨l, hl, e⟩ := Option.map_eq_some_iff.1 he
             cases e
             rfl
           ·cases he
          ·cases he
         ·cases he
        ·cases he
       refine copyS_ok (ty := o.type) h hs htx (hg _ _ hl) (hg _ _ hy) he ?_
       unfold execOp
       simp only [ho, resolve, invoke, builtin, List.map_toArray, List.map_cons, List.map_nil]
       rfl
  ·cases he
 ·obtain ⟨y, hy, e⟩ := Option.map_eq_some_iff.1 he
  cases e
  obtain ⟨v, h1, h2⟩ := evPure_ok (P := P) hg (fun k b hk => h.bkOk k b (hs k b hk)) hy
  exact ⟨_, v, w, ρ, h1, .inl rfl, h2, h, Evo.refl _ _ _ _ _⟩
end
end
end Go.Ex
namespace Go.Mono
open Go.RowKit
theorem SlF.unique {w : World} {v : Value} {n m : Nat} {f g : Nat → Int} (h : SlF w v n f) (k : SlF w v m g) : n = m ∧ ∀ i, i < n → f i = g i := by
 rcases h with ⟨rfl, rfl⟩ | ⟨b, off, cap, cs, fr, rfl, _, _, hh, hi⟩
 ·rcases k with ⟨_, rfl⟩ | ⟨b, off, cap, cs, fr, hv, _⟩
  ·exact ⟨rfl, fun i hi => by omega⟩
  ·simp at hv
 ·rcases k with ⟨hv, _⟩ | ⟨b', off', cap', cs', fr', hv, _, _, hh', hi'⟩
  ·simp at hv
  ·simp only [Value.slice.injEq, Option.some.injEq, Addr.mk.injEq] at hv
   obtain ⟨⟨rfl, rfl, _⟩, rfl, _⟩ := hv
   rw [hh] at hh'
   simp at hh'
   obtain ⟨rfl, _⟩ := hh'
   refine ⟨rfl, fun i h => ?_⟩
   have := (hi i h).symm.trans (hi' i h)
   simpa using this
theorem Sz.unique {m m' : Nat} {w : World} {v : Value} {N M : Int} (h : Sz m w v N) (k : Sz m' w v M) : N = M := by
 obtain ⟨n, f, s1, _, rfl, _⟩ := h
 obtain ⟨n', g, s2, _, rfl, _⟩ := k
 obtain ⟨rfl, e⟩ := s1.unique s2
 exact vf_congr e
noncomputable def szVal (w : World) (v : Value) : Int := Classical.epsilon fun N => ∃ m, Sz m w v N
theorem Sz.szVal {m : Nat} {w : World} {v : Value} {N : Int} (h : Sz m w v N) : Mono.szVal w v = N := by
 obtain ⟨m', h'⟩ := Classical.epsilon_spec (p := fun N => ∃ m, Sz m w v N) ⟨N, m, h⟩
 exact h'.unique h
theorem Sz.zero (m : Nat) (w : World) : Sz m w (.slice none 0 0) 0 := ⟨0, fun _ => 0, .inl ⟨rfl, rfl⟩, ⟨fun i hi => by omega, fun i hi => by omega, fun h => by omega⟩, rfl, Nat.zero_le _⟩
theorem Sz.len_pos {m : Nat} {w : World} {p : Option Addr} {n c : Nat} {N : Int} (h : Sz m w (.slice p n c) N) : 0 < N ↔ 0 < n := by
 obtain ⟨n, f, s1, d, rfl, l, rfl⟩ := h.sl
 exact d.pos
def gcdZ (N M : Int) : Int := (Nat.gcd N.toNat M.toNat : Nat)
theorem gcdZ_zero {N : Int} (h : 0 ≤ N) : gcdZ N 0 = N := by simp [gcdZ]; omega
theorem gcdZ_step {N M : Int} (h : 0 ≤ N) (hM : 0 < M) : gcdZ M (N % M) = gcdZ N M := by
 obtain ⟨n, rfl⟩ := Int.eq_ofNat_of_zero_le h
 obtain ⟨m, rfl⟩ := Int.eq_ofNat_of_zero_le (Int.le_of_lt hM)
 unfold gcdZ
 have e : ((n : Int) % (m : Int)).toNat = n % m := by rw [← Int.natCast_emod, Int.toNat_natCast]
 rw [e, Int.toNat_natCast, Int.toNat_natCast, Nat.gcd_comm n m, Nat.gcd_rec m n, Nat.gcd_comm]
end Go.Mono
namespace Go.Proofs.YtdgodcgdlfjpaaaGreatDoor
open Go.RowKit Go.Mono
theorem over_sz (m0 : Nat) (w wf : World) (hx : Ext wf w) (p q : Option Addr) (n m c1 c2 : Nat) (N M : Int) (h1 : Sz m0 wf (.slice p n c1) N) (h2 : Sz m0 wf (.slice q m c2) M) (hM : 0 < M) (hm0 : m0 ≤ 1000000) :
  Calls Tryz.prog 226 #[.slice p n c1, .slice q m c2] w fun e w' => ∃ p1 k1 c1 p2 k2 c2, e = .returned (.tuple #[.slice p1 k1 c1, .slice p2 k2 c2]) ∧ Sz m0 w' (.slice p1 k1 c1) (N / M) ∧ Sz m0 w' (.slice p2 k2 c2) (N % M) ∧ Below w.heap.size w w' := by
 have hN := h1.nonneg
 rcases Int.lt_or_le N M with hlt | hle
 ·refine (over_less m0 m0 w wf hx p q n m c1 c2 N M h1 h2 hlt).mono ?_
  rintro e w' ⟨rfl, k, rfl⟩
  refine ⟨_, _, _, _, _, _, rfl, ?_, ?_, below_drewN (Below.refl _ _) k⟩
  ·rw [Int.ediv_eq_zero_of_lt hN hlt]; exact Sz.zero _ _
  ·rw [Int.emod_eq_of_lt hN hlt]; exact h1.ext (hx.below (below_drewN (Below.refl _ _) k))
 ·obtain ⟨n', f, s1, d1, rfl, l1, rfl⟩ := (h1.ext hx).sl
  obtain ⟨m', g, s2, d2, rfl, l2, rfl⟩ := (h2.ext hx).sl
  have hml := d2.len_le d1 hle
  have hm0' := d2.pos.1 hM
  by_cases hm1 : m' = 1
  ·subst hm1
   refine (over_one m0 w w (Ext.refl _) p q n' c1 c2 _ _ ⟨n', f, s1, d1, rfl, l1⟩ ⟨1, g, s2, d2, rfl, Nat.le_refl _⟩ hM hle hm0).mono ?_
   rintro e w' ⟨p1, k1, c3, p2, k2, c4, rfl, z1, z2, hb⟩
   exact ⟨_, _, _, _, _, _, rfl, z1, z2.mono (by omega), hb⟩
  ·obtain ⟨m, rfl⟩ : ∃ m, m' = m + 2 := ⟨m' - 2, by omega⟩
   refine (over_many p q n' m c1 c2 f g w s1 s2 d1 d2 (by omega) hle).mono ?_
   rintro e w' ⟨p1, k1, c3, p2, k2, c4, rfl, z1, z2, hb⟩
   exact ⟨_, _, _, _, _, _, rfl, z1.mono l1, z2.mono l2, hb⟩
theorem common_sz (m0 : Nat) (w wf : World) (hx : Ext wf w) (p q : Option Addr) (n m c1 c2 : Nat) (N M : Int) (h1 : Sz m0 wf (.slice p n c1) N) (h2 : Sz m0 wf (.slice q m c2) M) (hm0 : m0 ≤ 1000000) :
  Calls Tryz.prog 165 #[.slice p n c1, .slice q m c2] w fun e w' => ∃ p k c, e = .returned (.slice p k c) ∧ Sz m0 w' (.slice p k c) (gcdZ N M) ∧ Below w.heap.size w w' := by
 replace h1 := h1.ext hx
 replace h2 := h2.ext hx
 go_enter Tryz.func165, Tryz.ntmps165
 go_wp2_with fail
 go_loopw [0, 1] (fun a b wr => ∃ p n c q m d A B, a = .slice p n c ∧ b = .slice q m d ∧ Sz m0 wr (.slice p n c) A ∧ Sz m0 wr (.slice q m d) B ∧ gcdZ A B = gcdZ N M ∧ Below w.heap.size w wr) (fun _ b wr => (szVal wr b).toNat)
 case atStart => exact ⟨_, _, _, _, _, _, _, _, rfl, rfl, h1, h2, rfl, Below.refl _ _⟩
 case round =>
  clear h1 h2 hx
  obtain ⟨p, n, c, q, m, d, A, B, rfl, rfl, h1, h2, hg, hb⟩ := hrel
  have hA := h1.nonneg
  have hv := h2.szVal
  have hl := h2.len_pos
  replace hg := Lib.hid hg
  replace hv := Lib.hid hv
  by_cases h0 : 0 < m
  ·have hB := hl.2 h0
   clear hl
   have ho := over_sz m0 wr wr (Ext.refl _) p q n m c d A B h1 h2 hB hm0
   go_wp2_with (go_at_call 226; refine ho.mono ?_; rintro e w' ⟨p1, k1, c3, p2, k2, c4, rfl, z1, z2, hb2⟩)
   go_roundw
   case rel => exact ⟨_, _, _, _, _, _, _, _, rfl, rfl, h2.ext (.of_below hb2), z2, (gcdZ_step hA hB).trans hg.out, below_call hb hb2⟩
   case measure =>
    rw [z2.szVal, hv.out]
    have := Int.emod_lt_of_pos A hB
    have := Int.emod_nonneg A (show B ≠ 0 by omega)
    omega
  ·have hB : B = 0 := by have := h2.nonneg; omega
   obtain rfl : m = 0 := by omega
   replace hB := Lib.hid hB
   clear hl
   go_wp2
   go_ret
   refine ⟨_, _, _, rfl, ?_, hb⟩
   rw [← hg.out, hB.out, gcdZ_zero hA]
   exact h1
theorem without_sz (m0 : Nat) (w wf : World) (hx : Ext wf w) (p q : Option Addr) (n m c1 c2 : Nat) (N M : Int) (h1 : Sz m0 wf (.slice p n c1) N) (h2 : Sz m0 wf (.slice q m c2) M) (hM : 0 < M) (hm0 : m0 ≤ 1000000) :
  Calls Tryz.prog 166 #[.slice p n c1, .slice q m c2] w fun e w' => ∃ p1 k1 c1, e = .returned (.slice p1 k1 c1) ∧ Sz m0 w' (.slice p1 k1 c1) (N / M) ∧ Below w.heap.size w w' := by
 have ho := over_sz m0 w wf hx p q n m c1 c2 N M h1 h2 hM hm0
 go_enter Tryz.func166, Tryz.ntmps166
 go_wp2_with (go_at_call 226; refine ho.mono ?_; rintro e w' ⟨p1, k1, c3, p2, k2, c4, rfl, z1, z2, hb2⟩)
 go_ret
 exact ⟨_, _, _, rfl, z1, hb2⟩
end Go.Proofs.YtdgodcgdlfjpaaaGreatDoor
