/- Contracts of package coat and of the examples of its law, for the laws of layer 40. Part 38 of 39. No condition beside the row. -/
import Derived.Test.YtdgodcgdlfjpaaaGreatDoorA23
import Derived.Test.YtdgodcgdlfjpaaaGreatDoorA26
import Derived.Test.YtdgodcgdlfjpaaaGreatDoorA35
import Derived.Test.YtdgodcgdlfjpaaaGreatDoorA37
set_option linter.unusedVariables false
set_option linter.unusedSimpArgs false
namespace Go.Proofs.YtdgodcgdlfjpaaaGreatDoor
open Go.RowKit Go.Mono
attribute [local go_sem] Oper.semAt_some
theorem cmusti_ok (z : Int) (w : World) : Calls Tryz.prog 74 #[.int .i64 z, .int .i64 0] w fun e w' => e = .returned (.int .i64 z) ∧ w' = w := by
  go_enter Tryz.func74, Tryz.ntmps74
  go_wp2
  go_ret
  exact ⟨rfl, rfl⟩
/-- the deferred blocks of the loops that are over -/
def DInv (Ds : List Nat) (N : Nat) (V : World) : Prop := ∀ D ∈ Ds, D < N ∧ V.heap[D]? = some (.deferred (some []))
/-- what stands between two rounds -/
def BInv (wB : World) (B7 N : Nat) (ra rb : Rat) (F : Nat → Flm) (m long : Nat) (b0 : Bst) (Bl Bc : Nat) (pc : Option Addr) (cc : Nat) (i : Nat) (V : World) : Prop :=
  Below wB.heap.size wB V ∧ (∃ C, Box V B7 135 C ∧ BV N V C (bestIn ra rb F m long i b0)) ∧ Box V Bl 3 #[.int .i64 (long : Int)] ∧ Box V Bc 27 #[.slice pc m cc] ∧ FilmsAt V pc m cc F ∧ N ≤ V.heap.size
theorem crefuse_nob (b : Bool) (hb : b = false) (z : Int) (w : World) : Calls Tryz.prog 70 #[.bool b, .int .i64 z] w fun e w' => e = .returned (.tuple #[]) ∧ w' = w := by
  subst hb
  exact crefuse_no z w
set_option maxRecDepth 100000 in
set_option maxHeartbeats 1000000 in
/-- the computation of Best -/
theorem best1_ok (na nb : Int) (a1 : 10000000 ≤ na) (a2 : na ≤ 40000000) (b1 : 10000000 ≤ nb) (b2 : nb ≤ 40000000) (F : Nat → Flm) (m : Nat) (hm : m ≤ 6) (hF : ∀ i, i < m → (F i).ok) (most : Nat) (hmost : most ≤ 3) (pc : Option Addr) (cc : Nat) (w : World) (h : FilmsAt w pc m cc F)
    (P0 P1 P2 P3 : Nat) (p0 : Box w P0 3 #[.int .i64 na]) (p1 : Box w P1 3 #[.int .i64 nb]) (p2 : Box w P2 3 #[.int .i64 (most : Int)]) (p3 : Box w P3 27 #[.slice pc m cc]) :
    Calls Tryz.prog 69 #[.pointer (some ⟨P0, 0, none⟩), .pointer (some ⟨P1, 0, none⟩), .pointer (some ⟨P2, 0, none⟩), .pointer (some ⟨P3, 0, none⟩)] w fun e w' => ∃ C, e = .returned (.agg C) ∧ BV w.heap.size w' C (bestTo (idx na) (idx nb) F m most) ∧ Below w.heap.size w w' := by
  refine (callsIn_wide (n := 6)).1 ?_
  have hro : Fence.wide.round = none := rfl
  have hszF : (Tryz.prog.info? 24).map (·.size) = some 3 := by kernel_rfl
  have hi1 := fun W => cindex_ok na W
  have hi2 := fun W => cindex_ok nb W
  rw [decide_eq_true ⟨a1, a2⟩] at hi1
  rw [decide_eq_true ⟨b1, b2⟩] at hi2
  have hm6 : ¬ ((m : Int) > 6) := by omega
  have hmo1 : ¬ ((most : Int) < 0) := by omega
  have hmo2 : ¬ ((most : Int) > 3) := by omega
  refine callsIn_of_wp_marks Tryz.func69 rfl trivial ?_ hro
  simp only [Tryz.ntmps69, List.size_toArray, List.length_cons, List.length_nil, Nat.reduceAdd, Nat.reduceSub, Array.replicate_succ, Array.replicate_zero, List.push_toArray, List.append_toArray, List.nil_append, List.cons_append]
  refine wpIn_wide.2 ?_
  go_wp2_with (refine wpList_new rfl 135 rfl _ alloc_best ?_; intro W0 BO hleO hB0 bO; have q0 := p0.below hB0; have q1 := p1.below hB0; have q2 := p2.below hB0; have q3 := p3.below hB0; have c0 := q0.cell; have l0 := q0.lt; have c1 := q1.cell; have l1 := q1.lt; have c2 := q2.cell; have l2 := q2.lt; have c3 := q3.cell; have l3 := q3.lt)
  refine (hi1 W0).mono ?_
  rintro e w5 ⟨rfl, h5⟩
  rw [h5]
  clear h5 w5
  go_wp2_with fail
  refine (hi2 W0).mono ?_
  rintro e w5 ⟨rfl, h5⟩
  rw [h5]
  clear h5 w5
  go_wp2_with fail
  refine (crefuse_nob _ (by simp; try omega) _ W0).mono ?_
  rintro e w5 ⟨rfl, h5⟩
  rw [h5]
  clear h5 w5
  go_wp2_with fail
  refine (crefuse_nob _ (by simp; try omega) _ W0).mono ?_
  rintro e w5 ⟨rfl, h5⟩
  rw [h5]
  clear h5 w5
  go_wp2_with fail
  have lO := bO.lt
  clear hi1 hi2 hm6 hmo1 hmo2 q0 q1 q2 q3
  go_loopw [34] (fun x wr => ∃ k : Nat, k ≤ m ∧ x = .int .i64 (k : Int) ∧ Below W0.heap.size W0 wr) (fun x _ => (m - intOf x).toNat)
  case atStart => exact ⟨0, Nat.zero_le _, rfl, Below.refl _ _⟩
  case round =>
    obtain ⟨k, hk, rfl, hBr⟩ := hrel
    have hBw := belowCall hB0 hBr
    by_cases hkm : k < m
    · obtain ⟨b, off, rfl, hbl, hrg0⟩ := h.range (by omega)
      have hrg := hrg0 k hkm wr hBw
      have hso := fun W => sound_ok (F k) W
      rw [decide_eq_true (hF k hkm)] at hso
      have hsz : (Tryz.prog.info? 24).map (·.size) = some (F k).vals.size := hszF
      have hsl : (Tryz.prog.info? 24).map (·.size) = some (F k).vals.toList.length := hszF
      have h1c := film_ones (F k)
      have hcs : (F k).vals.size = 3 := rfl
      have hkm' : (k : Int) < m := by omega
      have lbw := Nat.lt_of_lt_of_le hbl hBw.size
      clear hrg0
      generalize (F k).vals = A3 at *
      go_wp2_with first | (refine wpList_load_mid rfl 24 _ rfl b (off + k * 3) rfl A3.toList _ hrg Tryz.underlying24 rfl hsl ?_) | (refine wpList_new rfl 24 rfl _ alloc_film ?_; intro V1 B1 hle1 hb1 bf) | (refine wpList_store_box rfl 24 _ _ rfl B1 0 24 _ A3 A3 rfl rfl bf hsz (Nat.le_of_eq (by rw [hcs]; rfl)) h1c (whole_new (by rw [hcs]; rfl)) ?_; intro V2 hk2 bf2) | (refine wpList_load_box rfl 24 (.tmp 6) rfl B1 rfl 24 A3 bf2 _ Tryz.underlying24 rfl hsz ?_)
      refine (hso V2).mono ?_
      rintro e V3 ⟨rfl, hb3⟩
      have hb13 := belowCall (hk2.below hb1 hle1 hb1.size) hb3
      go_wp2_with fail
      refine (crefuse_no _ V3).mono ?_
      rintro e w5 ⟨rfl, h5⟩
      rw [h5]
      clear h5 w5
      go_wp2
      go_roundw
      case rel => exact ⟨k + 1, by omega, by simp, belowCall hBr hb13⟩
      case measure => simp [intOf]; omega
    · obtain rfl : m = k := by omega
      obtain ⟨w9, hw9⟩ : ∃ w9, w9 = wr := ⟨wr, rfl⟩
      rw [← hw9] at hBr hBw ⊢
      clear hw9 hkm hk c0 l0 c1 l1 c2 l2 c3 l3
      have q0 := p0.below hBw
      have q1 := p1.below hBw
      have q2 := p2.below hBw
      have q3 := p3.below hBw
      have c0 := q0.cell
      have l0 := q0.lt
      have c1 := q1.cell
      have l1 := q1.lt
      replace bO := bO.below hBr
      go_wp2_with fail
      refine (creflect_films na nb a1 a2 b1 b2 F 0 (by omega) (fun i hi => by omega) none 0 w9 ⟨Nat.le_refl _, by omega, fun h => by omega⟩).mono ?_
      rintro e W2 ⟨CL, rfl, hL, hb2⟩
      obtain ⟨x0, x1, x2, x3, y0, y1, y2, y3, rfl, Rx, Ry⟩ := hL.parts
      have hB2 := belowCall hBw hb2
      have bO2 := bO.below hb2
      have lO2 := bO2.lt
      have hbv : BV w.heap.size W2 #[x0, x1, x2, x3, y0, y1, y2, y3, .slice none 0 0] (bestTo (idx na) (idx nb) F m 0) := ⟨⟨_, _, _, _, _, _, _, _, none, 0, rfl, Rx, Ry, (show FilmsAt W2 none 0 0 F from ⟨Nat.le_refl _, by omega, fun h => by omega⟩), fun a e => by cases e⟩⟩
      have hone := hbv.ones
      clear c0 l0 c1 l1 q0 q1 q2 q3
      go_wp2_with first | (refine wpList_build2 rfl 135 _ rfl #[x0, x1, x2, x3, y0, y1, y2, y3, .slice none 0 0] (by as_aux_lemma => kernel_rfl) ?_) | (refine wpList_new rfl 135 rfl _ alloc_best ?_; intro W3 B7 hle7 hb3 b7) | (refine wpList_store_box rfl 135 _ _ rfl B7 0 135 _ #[x0, x1, x2, x3, y0, y1, y2, y3, .slice none 0 0] #[x0, x1, x2, x3, y0, y1, y2, y3, .slice none 0 0] rfl rfl b7 sizeBest (Nat.le_of_eq rfl) hone (whole_new rfl) ?_; intro V hk4 b74)
      have hU : Below W2.heap.size W2 V := hk4.below hb3 hle7 hb3.size
      have hbv4 : BV (B7 + 1) V #[x0, x1, x2, x3, y0, y1, y2, y3, .slice none 0 0] (bestTo (idx na) (idx nb) F m 0) := ⟨⟨_, _, _, _, _, _, _, _, none, 0, rfl, Rx.ext (.of_below hU), Ry.ext (.of_below hU), (show FilmsAt V none 0 0 F from ⟨Nat.le_refl _, by omega, fun h => by omega⟩), fun a e => by cases e⟩⟩
      have hO7 : BO < B7 := by omega
      have hW27 : W2.heap.size ≤ B7 := hle7
      clear hbv hone hk4 b7 hb3 hle7 Rx Ry hb2 hL lO hBr hB0 bO
      generalize (#[x0, x1, x2, x3, y0, y1, y2, y3, .slice none 0 0] : Array Value) = CB at *
      have b7 := b74
      have hbv := hbv4
      clear b74 hbv4
      have hdd : ∀ D ∈ ([] : List Nat), V.heap[D]? = some (.deferred (some [])) := fun D hD => by cases hD
      refine wp_loop_rounds 4 ?_
      rw [rounds_succ]
      have hwV := belowCall hB2 hU
      have c2 := (p2.below hwV).cell
      have l2 := (p2.below hwV).lt
      have c3 := (p3.below hwV).cell
      have l3 := (p3.below hwV).lt
      by_cases hk1 : 1 ≤ most
      · have hk' : (1 : Int) ≤ (most : Int) := by omega
        go_wp2_with fail
        refine (clists_ok pc m cc 1 V).mono ?_
        rintro e Va ⟨Bl, Bc, rfl, bl, bc, hba⟩
        have hUa := belowCall hU hba
        have b7a := b7.below hba
        have hbva := hbv.below hba
        have hFa := h.below (belowCall hB2 hUa)
        have hNa : B7 + 1 ≤ Va.heap.size := b7a.lt
        have hW2a := hUa.size
        have hdda : DInv [] Va.heap.size Va := fun D hD => ⟨Nat.lt_of_lt_of_le (lt_of_some (hdd D hD)) hba.size, (hba.block D (lt_of_some (hdd D hD))).trans (hdd D hD)⟩
        clear c2 l2 c3 l3 hk' hwV hba b7 hbv hU hdd
        go_wp2_with fail
        refine (wpIn_wide (n := 6)).1 ?_
        refine wpIn_range_allQ hro (by omega) (gf := 151) (fi := #[]) (lb := #[.pointer (some ⟨Bl, 0, none⟩), .pointer (some ⟨Bc, 0, none⟩)]) rfl trivial enters_lists1 (lists1_all F m 1 hm (by omega) pc cc Bl Bc (B7 + 1) 5 (by omega)) (fun i args V h => by obtain ⟨p, c, rfl, _⟩ := h; rfl)
          (fun i V => BInv W2 B7 (B7 + 1) (idx na) (idx nb) F m 1 (bestTo (idx na) (idx nb) F m 0) Bl Bc pc cc i V ∧ DInv [] Va.heap.size V) ?hI ?hK ?hIB ?h0 ?hround ?hdone
        case hI =>
          rintro i V V' row ⟨⟨hU, ⟨C, b7, hbv⟩, bl, bc, hFc, hNs⟩, hdd⟩ hg hr
          have hg2 := fun r e => (hr r e).2
          exact ⟨⟨hU.grown hg hU.size (fun k e => by have := (hr k e).1; omega), ⟨C, b7.grown hg hg2, hbv.grown hg hg2⟩, bl.grown hg hg2, bc.grown hg hg2, hFc.grown hg hg2, Nat.le_trans hNs hg.size⟩, fun D hD => ⟨(hdd D hD).1, (hg.block D (lt_of_some (hdd D hD).2) (fun e => by have := (hr D e.symm).1; have := (hdd D hD).1; omega)).trans (hdd D hD).2⟩⟩
        case hK =>
          rintro i V ⟨⟨hU, ⟨C, b7, hbv⟩, bl, bc, hFc, hNs⟩, hdd⟩
          exact ⟨bl, bc, hFc, hNs⟩
        case hIB =>
          rintro i V V' ⟨⟨hU, ⟨C, b7, hbv⟩, bl, bc, hFc, hNs⟩, hdd⟩ hb
          exact ⟨⟨belowCall hU hb, ⟨C, b7.below hb, hbv.below hb⟩, bl.below hb, bc.below hb, hFc.below hb, Nat.le_trans hNs hb.size⟩, fun D hD => ⟨(hdd D hD).1, (hb.block D (lt_of_some (hdd D hD).2)).trans (hdd D hD).2⟩⟩
        case h0 => exact ⟨⟨hUa, ⟨_, b7a, hbva⟩, bl, bc, hFa, hNa⟩, hdda⟩
        case hround =>
          rintro l i args V ⟨⟨hU, ⟨C, b7, hbv⟩, bl, bc, hFc, hNs⟩, hdd⟩ hi hl hVs ⟨p, c, rfl, hFl, hpN⟩
          gi_wp2
          refine ⟨KeepsOthers.refl V, KeepNew.refl _ V, fun V2 hg ho' => ?_⟩
          obtain ⟨o, ho, hoc⟩ := ho'
          have gr : ∀ r, some l = some r → ∃ o : Obj, V.heap[r]? = some o ∧ o.isCells = false := fun r e => by cases e; exact ⟨o, ho, hoc⟩
          replace hU : Below W2.heap.size W2 V2 := hU.grown hg hU.size (fun k e => by cases e; omega)
          replace b7 := b7.grown hg gr
          replace hbv := hbv.grown hg gr
          replace bl := bl.grown hg gr
          replace bc := bc.grown hg gr
          replace hFc := hFc.grown hg gr
          replace hFl := hFl.grown hg gr
          replace hNs := Nat.le_trans hNs hg.size
          replace hdd : DInv [] Va.heap.size V2 := fun D hD => ⟨(hdd D hD).1, (hg.block D (lt_of_some (hdd D hD).2) (fun e => by have e' := Option.some.inj e; have := (hdd D hD).1; omega)).trans (hdd D hD).2⟩
          clear hg ho hoc gr hVs
          have hwV := belowCall hB2 hU
          have hm0 : 0 < m := Nat.pos_of_ne_zero (by rintro rfl; simp at hi)
          have hrf := creflect_films na nb a1 a2 b1 b2 (pick F m 1 i) 1 (by omega) (fun j _ => pick_ok hF hm0 j) p c V2 hFl
          have c0 := (p0.below hwV).cell
          have l0 := (p0.below hwV).lt
          have c1 := (p1.below hwV).cell
          have l1 := (p1.below hwV).lt
          gi_wp2_with fail
          refine ⟨trivial, ?_⟩
          gi_at_call 60
          refine (CallsIn.inRound l (callsIn_wide.2 hrf)).mono ?_
          rintro e X1 ⟨CL, rfl, hL, hb1⟩
          clear hrf c0 l0 c1 l1 hwV
          obtain ⟨x0, x1, x2, x3, y0, y1, y2, y3, rfl, Rx, Ry⟩ := hL.parts
          have hone := hL.ones
          have hKO := keepsOthers_of_below hb1
          have hKN := KeepNew.of_below (base := Va.heap.size) hb1
          replace b7 := b7.below hb1
          replace hbv := hbv.below hb1
          replace bl := bl.below hb1
          replace bc := bc.below hb1
          replace hFc := hFc.below hb1
          replace hFl := hFl.below hb1
          replace hU := belowCall hU hb1
          replace hNs := Nat.le_trans hNs hb1.size
          clear hL hb1
          obtain ⟨z0, z1, z2, z3, z4, z5, z6, z7, pz, cz, hCe, Rz, Rt, hFz, hNz⟩ := hbv.parts
          have b7l := b7
          rw [hCe] at b7l
          gi_wp2_with first | (refine wpListIn_new rfl 124 rfl _ alloc_light ?_; intro X2 BX hleX hb2 bX) | (refine wpListIn_store_box rfl 124 _ _ rfl BX 0 124 _ #[x0, x1, x2, x3, y0, y1, y2, y3] #[x0, x1, x2, x3, y0, y1, y2, y3] rfl rfl bX sizeLight (Nat.le_of_eq rfl) hone (whole_new rfl) ?_; intro X3 hk3 ho3 bX3; have hb13 := hk3.below hb2 hleX hb2.size; have b73 := b7l.below hb13) | (refine wpListIn_load_mid rfl 37 _ rfl BX 0 rfl [x0, x1, x2, x3] _ (bX3.part 0 #[x0, x1, x2, x3] rfl) Tryz.underlying37 rfl sizeQuot ?_) | (refine wpListIn_load_mid rfl 37 _ rfl B7 0 rfl [z0, z1, z2, z3] _ (b73.part 0 #[z0, z1, z2, z3] rfl) Tryz.underlying37 rfl sizeQuot ?_)
          refine ⟨trivial, ?_⟩
          gi_at_call 22
          refine (CallsIn.inRound l (callsIn_wide.2 (qcmp_ok _ _ _ _ X3 (Rx.ext (.of_below hb13)) (Rz.ext (.of_below hb13))))).mono ?_
          rintro e X4 ⟨rfl, hb4⟩
          have hb14 := belowCall hb13 hb4
          have bX4 := bX3.below hb4
          have b74 := b73.below hb4
          have b7C := b7.below hb14
          replace Rx := Rx.ext (.of_below hb14)
          replace Ry := Ry.ext (.of_below hb14)
          replace hbv := hbv.below hb14
          replace bl := bl.below hb14
          replace bc := bc.below hb14
          replace hFl := hFl.below hb14
          replace hU := belowCall hU hb14
          replace hNs := Nat.le_trans hNs hb14.size
          replace hKO := hKO.trans (keepsOthers_of_below hb14)
          replace hKN := hKN.trans (KeepNew.of_below hb14)
          have hcn := cmpQ_neg (a := back (idx na) (idx nb) (stackN (pick F m 1 i) 1)) (b := (bestIn (idx na) (idx nb) F m 1 i (bestTo (idx na) (idx nb) F m 0)).r)
          have hdn : DInv [] Va.heap.size X4 := fun D hD => ⟨(hdd D hD).1, hKO.same D _ (hdd D hD).2 rfl⟩
          clear hdd hb14 hb4 b73 bX3 hb13 ho3 hk3 bX hb2 hleX b7 b7l hCe hFc Rz Rt hFz hNz
          gi_wp2_with fail
          refine ⟨trivial, ?_⟩
          gi_at_call 74
          refine (CallsIn.inRound l (callsIn_wide.2 (cmusti_ok _ X4))).mono ?_
          rintro e X5 ⟨rfl, h5⟩
          rw [h5]
          clear h5 X5
          by_cases hlt : back (idx na) (idx nb) (stackN (pick F m 1 i) 1) < (bestIn (idx na) (idx nb) F m 1 i (bestTo (idx na) (idx nb) F m 0)).r
          · have hz := hcn.2 hlt
            have hst : bestIn (idx na) (idx nb) F m 1 (i + 1) (bestTo (idx na) (idx nb) F m 0) = ⟨back (idx na) (idx nb) (stackN (pick F m 1 i) 1), through (idx na) (idx nb) (stackN (pick F m 1 i) 1), 1, pick F m 1 i⟩ := by
              show bstep _ _ _ _ _ = _
              unfold bstep
              exact if_pos hlt
            have hbn : BV (B7 + 1) X4 #[x0, x1, x2, x3, y0, y1, y2, y3, .slice p 1 c] (bestIn (idx na) (idx nb) F m 1 (i + 1) (bestTo (idx na) (idx nb) F m 0)) := by
              rw [hst]
              exact ⟨⟨_, _, _, _, _, _, _, _, p, c, rfl, Rx, Ry, hFl, hpN⟩⟩
            have hon := hbn.ones
            clear hcn hst hlt hbv
            generalize cmpQ _ _ = zc at *
            gi_wp2_with first | (refine wpListIn_load_box rfl 124 _ rfl BX rfl 124 #[x0, x1, x2, x3, y0, y1, y2, y3] bX4 _ Tryz.underlying124 rfl sizeLight ?_) | (refine wpListIn_build2 rfl 135 _ rfl #[x0, x1, x2, x3, y0, y1, y2, y3, .slice p 1 c] (by as_aux_lemma => kernel_rfl) ?_) | (refine wpListIn_store_box rfl 135 _ _ rfl B7 0 135 _ #[x0, x1, x2, x3, y0, y1, y2, y3, .slice p 1 c] #[x0, x1, x2, x3, y0, y1, y2, y3, .slice p 1 c] rfl rfl b74 sizeBest (Nat.le_of_eq rfl) hon (whole_new rfl) ?_; intro X6 hk6 ho6 b76)
            have hU6 := hk6.below hU (by omega) hU.size
            exact ⟨hKO.trans ho6, hKN.trans (KeepNew.of_keepBut hk6 (by omega)), ⟨hU6, ⟨_, b76, hbn.keep hk6 (by omega) (hk6.ext b74 (by decide))⟩, hk6.box bl bl.lt (Box.ne bl b74 (by decide)), hk6.box bc bc.lt (Box.ne bc b74 (by decide)), h.below (belowCall hB2 hU6), Nat.le_trans hNs hk6.size⟩, fun D hD => ⟨(hdn D hD).1, ho6.same D _ (hdn D hD).2 rfl⟩⟩
          · have hz : ¬ cmpQ (back (idx na) (idx nb) (stackN (pick F m 1 i) 1)) (bestIn (idx na) (idx nb) F m 1 i (bestTo (idx na) (idx nb) F m 0)).r < 0 := fun e => hlt (hcn.1 e)
            have hst : bestIn (idx na) (idx nb) F m 1 (i + 1) (bestTo (idx na) (idx nb) F m 0) = bestIn (idx na) (idx nb) F m 1 i (bestTo (idx na) (idx nb) F m 0) := by
              show bstep _ _ _ _ _ = _
              unfold bstep
              exact if_neg hlt
            rw [← hst] at hbv
            clear hcn hst hlt
            generalize cmpQ _ _ = zc at *
            gi_wp2
            first
              | exact ⟨hU, ⟨_, b7C, hbv⟩, bl, bc, h.below (belowCall hB2 hU), hNs⟩
              | exact ⟨⟨hU, ⟨_, b7C, hbv⟩, bl, bc, h.below (belowCall hB2 hU), hNs⟩, hdn⟩
              | exact ⟨hKO, hKN, ⟨hU, ⟨_, b7C, hbv⟩, bl, bc, h.below (belowCall hB2 hU), hNs⟩, hdn⟩
        case hdone =>
          rintro D1 V hDs ⟨⟨hU, ⟨CB, b7, hbv⟩, bl, bc, hFc, hNs⟩, hdd0⟩ hDk
          have hdd : ∀ D ∈ ([D1] : List Nat), V.heap[D]? = some (.deferred (some [])) := by
            intro D hD
            rcases List.mem_cons.1 hD with rfl | hD
            · exact hDk
            · exact (hdd0 D hD).2
          have hge1 : w.heap.size ≤ D1 := by have := hB2.size; have := hUa.size; omega
          have hlt1 : ∀ D ∈ ([] : List Nat), D < D1 := fun D hD => by have := (hdd0 D hD).1; omega
          have hbv' : BV (B7 + 1) V CB (bestTo (idx na) (idx nb) F m 1) := hbv
          clear hbv hdd0 hDk hDs bl bc hFc hNs hbva b7a hUa hFa hNa hW2a hdda
          have hbv := hbv'
          clear hbv'
          go_wp2
          rw [rounds_succ]
          have hwV := belowCall hB2 hU
          have c2 := (p2.below hwV).cell
          have l2 := (p2.below hwV).lt
          have c3 := (p3.below hwV).cell
          have l3 := (p3.below hwV).lt
          by_cases hk2 : 2 ≤ most
          · have hk' : (2 : Int) ≤ (most : Int) := by omega
            go_wp2_with fail
            refine (clists_ok pc m cc 2 V).mono ?_
            rintro e Va ⟨Bl, Bc, rfl, bl, bc, hba⟩
            have hUa := belowCall hU hba
            have b7a := b7.below hba
            have hbva := hbv.below hba
            have hFa := h.below (belowCall hB2 hUa)
            have hNa : B7 + 1 ≤ Va.heap.size := b7a.lt
            have hW2a := hUa.size
            have hdda : DInv [D1] Va.heap.size Va := fun D hD => ⟨Nat.lt_of_lt_of_le (lt_of_some (hdd D hD)) hba.size, (hba.block D (lt_of_some (hdd D hD))).trans (hdd D hD)⟩
            clear c2 l2 c3 l3 hk' hwV hba b7 hbv hU hdd
            go_wp2_with fail
            refine (wpIn_wide (n := 6)).1 ?_
            refine wpIn_range_allQ hro (by omega) (gf := 151) (fi := #[]) (lb := #[.pointer (some ⟨Bl, 0, none⟩), .pointer (some ⟨Bc, 0, none⟩)]) rfl trivial enters_lists1 (lists1_all F m 2 hm (by omega) pc cc Bl Bc (B7 + 1) 5 (by omega)) (fun i args V h => by obtain ⟨p, c, rfl, _⟩ := h; rfl)
              (fun i V => BInv W2 B7 (B7 + 1) (idx na) (idx nb) F m 2 (bestTo (idx na) (idx nb) F m 1) Bl Bc pc cc i V ∧ DInv [D1] Va.heap.size V) ?hI ?hK ?hIB ?h0 ?hround ?hdone
            case hI =>
              rintro i V V' row ⟨⟨hU, ⟨C, b7, hbv⟩, bl, bc, hFc, hNs⟩, hdd⟩ hg hr
              have hg2 := fun r e => (hr r e).2
              exact ⟨⟨hU.grown hg hU.size (fun k e => by have := (hr k e).1; omega), ⟨C, b7.grown hg hg2, hbv.grown hg hg2⟩, bl.grown hg hg2, bc.grown hg hg2, hFc.grown hg hg2, Nat.le_trans hNs hg.size⟩, fun D hD => ⟨(hdd D hD).1, (hg.block D (lt_of_some (hdd D hD).2) (fun e => by have := (hr D e.symm).1; have := (hdd D hD).1; omega)).trans (hdd D hD).2⟩⟩
            case hK =>
              rintro i V ⟨⟨hU, ⟨C, b7, hbv⟩, bl, bc, hFc, hNs⟩, hdd⟩
              exact ⟨bl, bc, hFc, hNs⟩
            case hIB =>
              rintro i V V' ⟨⟨hU, ⟨C, b7, hbv⟩, bl, bc, hFc, hNs⟩, hdd⟩ hb
              exact ⟨⟨belowCall hU hb, ⟨C, b7.below hb, hbv.below hb⟩, bl.below hb, bc.below hb, hFc.below hb, Nat.le_trans hNs hb.size⟩, fun D hD => ⟨(hdd D hD).1, (hb.block D (lt_of_some (hdd D hD).2)).trans (hdd D hD).2⟩⟩
            case h0 => exact ⟨⟨hUa, ⟨_, b7a, hbva⟩, bl, bc, hFa, hNa⟩, hdda⟩
            case hround =>
              rintro l i args V ⟨⟨hU, ⟨C, b7, hbv⟩, bl, bc, hFc, hNs⟩, hdd⟩ hi hl hVs ⟨p, c, rfl, hFl, hpN⟩
              gi_wp2
              refine ⟨KeepsOthers.refl V, KeepNew.refl _ V, fun V2 hg ho' => ?_⟩
              obtain ⟨o, ho, hoc⟩ := ho'
              have gr : ∀ r, some l = some r → ∃ o : Obj, V.heap[r]? = some o ∧ o.isCells = false := fun r e => by cases e; exact ⟨o, ho, hoc⟩
              replace hU : Below W2.heap.size W2 V2 := hU.grown hg hU.size (fun k e => by cases e; omega)
              replace b7 := b7.grown hg gr
              replace hbv := hbv.grown hg gr
              replace bl := bl.grown hg gr
              replace bc := bc.grown hg gr
              replace hFc := hFc.grown hg gr
              replace hFl := hFl.grown hg gr
              replace hNs := Nat.le_trans hNs hg.size
              replace hdd : DInv [D1] Va.heap.size V2 := fun D hD => ⟨(hdd D hD).1, (hg.block D (lt_of_some (hdd D hD).2) (fun e => by have e' := Option.some.inj e; have := (hdd D hD).1; omega)).trans (hdd D hD).2⟩
              clear hg ho hoc gr hVs
              have hwV := belowCall hB2 hU
              have hm0 : 0 < m := Nat.pos_of_ne_zero (by rintro rfl; simp at hi)
              have hrf := creflect_films na nb a1 a2 b1 b2 (pick F m 2 i) 2 (by omega) (fun j _ => pick_ok hF hm0 j) p c V2 hFl
              have c0 := (p0.below hwV).cell
              have l0 := (p0.below hwV).lt
              have c1 := (p1.below hwV).cell
              have l1 := (p1.below hwV).lt
              gi_wp2_with fail
              refine ⟨trivial, ?_⟩
              gi_at_call 60
              refine (CallsIn.inRound l (callsIn_wide.2 hrf)).mono ?_
              rintro e X1 ⟨CL, rfl, hL, hb1⟩
              clear hrf c0 l0 c1 l1 hwV
              obtain ⟨x0, x1, x2, x3, y0, y1, y2, y3, rfl, Rx, Ry⟩ := hL.parts
              have hone := hL.ones
              have hKO := keepsOthers_of_below hb1
              have hKN := KeepNew.of_below (base := Va.heap.size) hb1
              replace b7 := b7.below hb1
              replace hbv := hbv.below hb1
              replace bl := bl.below hb1
              replace bc := bc.below hb1
              replace hFc := hFc.below hb1
              replace hFl := hFl.below hb1
              replace hU := belowCall hU hb1
              replace hNs := Nat.le_trans hNs hb1.size
              clear hL hb1
              obtain ⟨z0, z1, z2, z3, z4, z5, z6, z7, pz, cz, hCe, Rz, Rt, hFz, hNz⟩ := hbv.parts
              have b7l := b7
              rw [hCe] at b7l
              gi_wp2_with first | (refine wpListIn_new rfl 124 rfl _ alloc_light ?_; intro X2 BX hleX hb2 bX) | (refine wpListIn_store_box rfl 124 _ _ rfl BX 0 124 _ #[x0, x1, x2, x3, y0, y1, y2, y3] #[x0, x1, x2, x3, y0, y1, y2, y3] rfl rfl bX sizeLight (Nat.le_of_eq rfl) hone (whole_new rfl) ?_; intro X3 hk3 ho3 bX3; have hb13 := hk3.below hb2 hleX hb2.size; have b73 := b7l.below hb13) | (refine wpListIn_load_mid rfl 37 _ rfl BX 0 rfl [x0, x1, x2, x3] _ (bX3.part 0 #[x0, x1, x2, x3] rfl) Tryz.underlying37 rfl sizeQuot ?_) | (refine wpListIn_load_mid rfl 37 _ rfl B7 0 rfl [z0, z1, z2, z3] _ (b73.part 0 #[z0, z1, z2, z3] rfl) Tryz.underlying37 rfl sizeQuot ?_)
              refine ⟨trivial, ?_⟩
              gi_at_call 22
              refine (CallsIn.inRound l (callsIn_wide.2 (qcmp_ok _ _ _ _ X3 (Rx.ext (.of_below hb13)) (Rz.ext (.of_below hb13))))).mono ?_
              rintro e X4 ⟨rfl, hb4⟩
              have hb14 := belowCall hb13 hb4
              have bX4 := bX3.below hb4
              have b74 := b73.below hb4
              have b7C := b7.below hb14
              replace Rx := Rx.ext (.of_below hb14)
              replace Ry := Ry.ext (.of_below hb14)
              replace hbv := hbv.below hb14
              replace bl := bl.below hb14
              replace bc := bc.below hb14
              replace hFl := hFl.below hb14
              replace hU := belowCall hU hb14
              replace hNs := Nat.le_trans hNs hb14.size
              replace hKO := hKO.trans (keepsOthers_of_below hb14)
              replace hKN := hKN.trans (KeepNew.of_below hb14)
              have hcn := cmpQ_neg (a := back (idx na) (idx nb) (stackN (pick F m 2 i) 2)) (b := (bestIn (idx na) (idx nb) F m 2 i (bestTo (idx na) (idx nb) F m 1)).r)
              have hdn : DInv [D1] Va.heap.size X4 := fun D hD => ⟨(hdd D hD).1, hKO.same D _ (hdd D hD).2 rfl⟩
              clear hdd hb14 hb4 b73 bX3 hb13 ho3 hk3 bX hb2 hleX b7 b7l hCe hFc Rz Rt hFz hNz
              gi_wp2_with fail
              refine ⟨trivial, ?_⟩
              gi_at_call 74
              refine (CallsIn.inRound l (callsIn_wide.2 (cmusti_ok _ X4))).mono ?_
              rintro e X5 ⟨rfl, h5⟩
              rw [h5]
              clear h5 X5
              by_cases hlt : back (idx na) (idx nb) (stackN (pick F m 2 i) 2) < (bestIn (idx na) (idx nb) F m 2 i (bestTo (idx na) (idx nb) F m 1)).r
              · have hz := hcn.2 hlt
                have hst : bestIn (idx na) (idx nb) F m 2 (i + 1) (bestTo (idx na) (idx nb) F m 1) = ⟨back (idx na) (idx nb) (stackN (pick F m 2 i) 2), through (idx na) (idx nb) (stackN (pick F m 2 i) 2), 2, pick F m 2 i⟩ := by
                  show bstep _ _ _ _ _ = _
                  unfold bstep
                  exact if_pos hlt
                have hbn : BV (B7 + 1) X4 #[x0, x1, x2, x3, y0, y1, y2, y3, .slice p 2 c] (bestIn (idx na) (idx nb) F m 2 (i + 1) (bestTo (idx na) (idx nb) F m 1)) := by
                  rw [hst]
                  exact ⟨⟨_, _, _, _, _, _, _, _, p, c, rfl, Rx, Ry, hFl, hpN⟩⟩
                have hon := hbn.ones
                clear hcn hst hlt hbv
                generalize cmpQ _ _ = zc at *
                gi_wp2_with first | (refine wpListIn_load_box rfl 124 _ rfl BX rfl 124 #[x0, x1, x2, x3, y0, y1, y2, y3] bX4 _ Tryz.underlying124 rfl sizeLight ?_) | (refine wpListIn_build2 rfl 135 _ rfl #[x0, x1, x2, x3, y0, y1, y2, y3, .slice p 2 c] (by as_aux_lemma => kernel_rfl) ?_) | (refine wpListIn_store_box rfl 135 _ _ rfl B7 0 135 _ #[x0, x1, x2, x3, y0, y1, y2, y3, .slice p 2 c] #[x0, x1, x2, x3, y0, y1, y2, y3, .slice p 2 c] rfl rfl b74 sizeBest (Nat.le_of_eq rfl) hon (whole_new rfl) ?_; intro X6 hk6 ho6 b76)
                have hU6 := hk6.below hU (by omega) hU.size
                exact ⟨hKO.trans ho6, hKN.trans (KeepNew.of_keepBut hk6 (by omega)), ⟨hU6, ⟨_, b76, hbn.keep hk6 (by omega) (hk6.ext b74 (by decide))⟩, hk6.box bl bl.lt (Box.ne bl b74 (by decide)), hk6.box bc bc.lt (Box.ne bc b74 (by decide)), h.below (belowCall hB2 hU6), Nat.le_trans hNs hk6.size⟩, fun D hD => ⟨(hdn D hD).1, ho6.same D _ (hdn D hD).2 rfl⟩⟩
              · have hz : ¬ cmpQ (back (idx na) (idx nb) (stackN (pick F m 2 i) 2)) (bestIn (idx na) (idx nb) F m 2 i (bestTo (idx na) (idx nb) F m 1)).r < 0 := fun e => hlt (hcn.1 e)
                have hst : bestIn (idx na) (idx nb) F m 2 (i + 1) (bestTo (idx na) (idx nb) F m 1) = bestIn (idx na) (idx nb) F m 2 i (bestTo (idx na) (idx nb) F m 1) := by
                  show bstep _ _ _ _ _ = _
                  unfold bstep
                  exact if_neg hlt
                rw [← hst] at hbv
                clear hcn hst hlt
                generalize cmpQ _ _ = zc at *
                gi_wp2
                first
                  | exact ⟨hU, ⟨_, b7C, hbv⟩, bl, bc, h.below (belowCall hB2 hU), hNs⟩
                  | exact ⟨⟨hU, ⟨_, b7C, hbv⟩, bl, bc, h.below (belowCall hB2 hU), hNs⟩, hdn⟩
                  | exact ⟨hKO, hKN, ⟨hU, ⟨_, b7C, hbv⟩, bl, bc, h.below (belowCall hB2 hU), hNs⟩, hdn⟩
            case hdone =>
              rintro D2 V hDs ⟨⟨hU, ⟨CB, b7, hbv⟩, bl, bc, hFc, hNs⟩, hdd0⟩ hDk
              have hdd : ∀ D ∈ ([D2, D1] : List Nat), V.heap[D]? = some (.deferred (some [])) := by
                intro D hD
                rcases List.mem_cons.1 hD with rfl | hD
                · exact hDk
                · exact (hdd0 D hD).2
              have hge2 : w.heap.size ≤ D2 := by have := hB2.size; have := hUa.size; omega
              have hlt2 : ∀ D ∈ ([D1] : List Nat), D < D2 := fun D hD => by have := (hdd0 D hD).1; omega
              have hbv' : BV (B7 + 1) V CB (bestTo (idx na) (idx nb) F m 2) := hbv
              clear hbv hdd0 hDk hDs bl bc hFc hNs hbva b7a hUa hFa hNa hW2a hdda
              have hbv := hbv'
              clear hbv'
              go_wp2
              rw [rounds_succ]
              have hwV := belowCall hB2 hU
              have c2 := (p2.below hwV).cell
              have l2 := (p2.below hwV).lt
              have c3 := (p3.below hwV).cell
              have l3 := (p3.below hwV).lt
              by_cases hk3 : 3 ≤ most
              · have hk' : (3 : Int) ≤ (most : Int) := by omega
                go_wp2_with fail
                refine (clists_ok pc m cc 3 V).mono ?_
                rintro e Va ⟨Bl, Bc, rfl, bl, bc, hba⟩
                have hUa := belowCall hU hba
                have b7a := b7.below hba
                have hbva := hbv.below hba
                have hFa := h.below (belowCall hB2 hUa)
                have hNa : B7 + 1 ≤ Va.heap.size := b7a.lt
                have hW2a := hUa.size
                have hdda : DInv [D2, D1] Va.heap.size Va := fun D hD => ⟨Nat.lt_of_lt_of_le (lt_of_some (hdd D hD)) hba.size, (hba.block D (lt_of_some (hdd D hD))).trans (hdd D hD)⟩
                clear c2 l2 c3 l3 hk' hwV hba b7 hbv hU hdd
                go_wp2_with fail
                refine (wpIn_wide (n := 6)).1 ?_
                refine wpIn_range_allQ hro (by omega) (gf := 151) (fi := #[]) (lb := #[.pointer (some ⟨Bl, 0, none⟩), .pointer (some ⟨Bc, 0, none⟩)]) rfl trivial enters_lists1 (lists1_all F m 3 hm (by omega) pc cc Bl Bc (B7 + 1) 5 (by omega)) (fun i args V h => by obtain ⟨p, c, rfl, _⟩ := h; rfl)
                  (fun i V => BInv W2 B7 (B7 + 1) (idx na) (idx nb) F m 3 (bestTo (idx na) (idx nb) F m 2) Bl Bc pc cc i V ∧ DInv [D2, D1] Va.heap.size V) ?hI ?hK ?hIB ?h0 ?hround ?hdone
                case hI =>
                  rintro i V V' row ⟨⟨hU, ⟨C, b7, hbv⟩, bl, bc, hFc, hNs⟩, hdd⟩ hg hr
                  have hg2 := fun r e => (hr r e).2
                  exact ⟨⟨hU.grown hg hU.size (fun k e => by have := (hr k e).1; omega), ⟨C, b7.grown hg hg2, hbv.grown hg hg2⟩, bl.grown hg hg2, bc.grown hg hg2, hFc.grown hg hg2, Nat.le_trans hNs hg.size⟩, fun D hD => ⟨(hdd D hD).1, (hg.block D (lt_of_some (hdd D hD).2) (fun e => by have := (hr D e.symm).1; have := (hdd D hD).1; omega)).trans (hdd D hD).2⟩⟩
                case hK =>
                  rintro i V ⟨⟨hU, ⟨C, b7, hbv⟩, bl, bc, hFc, hNs⟩, hdd⟩
                  exact ⟨bl, bc, hFc, hNs⟩
                case hIB =>
                  rintro i V V' ⟨⟨hU, ⟨C, b7, hbv⟩, bl, bc, hFc, hNs⟩, hdd⟩ hb
                  exact ⟨⟨belowCall hU hb, ⟨C, b7.below hb, hbv.below hb⟩, bl.below hb, bc.below hb, hFc.below hb, Nat.le_trans hNs hb.size⟩, fun D hD => ⟨(hdd D hD).1, (hb.block D (lt_of_some (hdd D hD).2)).trans (hdd D hD).2⟩⟩
                case h0 => exact ⟨⟨hUa, ⟨_, b7a, hbva⟩, bl, bc, hFa, hNa⟩, hdda⟩
                case hround =>
                  rintro l i args V ⟨⟨hU, ⟨C, b7, hbv⟩, bl, bc, hFc, hNs⟩, hdd⟩ hi hl hVs ⟨p, c, rfl, hFl, hpN⟩
                  gi_wp2
                  refine ⟨KeepsOthers.refl V, KeepNew.refl _ V, fun V2 hg ho' => ?_⟩
                  obtain ⟨o, ho, hoc⟩ := ho'
                  have gr : ∀ r, some l = some r → ∃ o : Obj, V.heap[r]? = some o ∧ o.isCells = false := fun r e => by cases e; exact ⟨o, ho, hoc⟩
                  replace hU : Below W2.heap.size W2 V2 := hU.grown hg hU.size (fun k e => by cases e; omega)
                  replace b7 := b7.grown hg gr
                  replace hbv := hbv.grown hg gr
                  replace bl := bl.grown hg gr
                  replace bc := bc.grown hg gr
                  replace hFc := hFc.grown hg gr
                  replace hFl := hFl.grown hg gr
                  replace hNs := Nat.le_trans hNs hg.size
                  replace hdd : DInv [D2, D1] Va.heap.size V2 := fun D hD => ⟨(hdd D hD).1, (hg.block D (lt_of_some (hdd D hD).2) (fun e => by have e' := Option.some.inj e; have := (hdd D hD).1; omega)).trans (hdd D hD).2⟩
                  clear hg ho hoc gr hVs
                  have hwV := belowCall hB2 hU
                  have hm0 : 0 < m := Nat.pos_of_ne_zero (by rintro rfl; simp at hi)
                  have hrf := creflect_films na nb a1 a2 b1 b2 (pick F m 3 i) 3 (by omega) (fun j _ => pick_ok hF hm0 j) p c V2 hFl
                  have c0 := (p0.below hwV).cell
                  have l0 := (p0.below hwV).lt
                  have c1 := (p1.below hwV).cell
                  have l1 := (p1.below hwV).lt
                  gi_wp2_with fail
                  refine ⟨trivial, ?_⟩
                  gi_at_call 60
                  refine (CallsIn.inRound l (callsIn_wide.2 hrf)).mono ?_
                  rintro e X1 ⟨CL, rfl, hL, hb1⟩
                  clear hrf c0 l0 c1 l1 hwV
                  obtain ⟨x0, x1, x2, x3, y0, y1, y2, y3, rfl, Rx, Ry⟩ := hL.parts
                  have hone := hL.ones
                  have hKO := keepsOthers_of_below hb1
                  have hKN := KeepNew.of_below (base := Va.heap.size) hb1
                  replace b7 := b7.below hb1
                  replace hbv := hbv.below hb1
                  replace bl := bl.below hb1
                  replace bc := bc.below hb1
                  replace hFc := hFc.below hb1
                  replace hFl := hFl.below hb1
                  replace hU := belowCall hU hb1
                  replace hNs := Nat.le_trans hNs hb1.size
                  clear hL hb1
                  obtain ⟨z0, z1, z2, z3, z4, z5, z6, z7, pz, cz, hCe, Rz, Rt, hFz, hNz⟩ := hbv.parts
                  have b7l := b7
                  rw [hCe] at b7l
                  gi_wp2_with first | (refine wpListIn_new rfl 124 rfl _ alloc_light ?_; intro X2 BX hleX hb2 bX) | (refine wpListIn_store_box rfl 124 _ _ rfl BX 0 124 _ #[x0, x1, x2, x3, y0, y1, y2, y3] #[x0, x1, x2, x3, y0, y1, y2, y3] rfl rfl bX sizeLight (Nat.le_of_eq rfl) hone (whole_new rfl) ?_; intro X3 hk3 ho3 bX3; have hb13 := hk3.below hb2 hleX hb2.size; have b73 := b7l.below hb13) | (refine wpListIn_load_mid rfl 37 _ rfl BX 0 rfl [x0, x1, x2, x3] _ (bX3.part 0 #[x0, x1, x2, x3] rfl) Tryz.underlying37 rfl sizeQuot ?_) | (refine wpListIn_load_mid rfl 37 _ rfl B7 0 rfl [z0, z1, z2, z3] _ (b73.part 0 #[z0, z1, z2, z3] rfl) Tryz.underlying37 rfl sizeQuot ?_)
                  refine ⟨trivial, ?_⟩
                  gi_at_call 22
                  refine (CallsIn.inRound l (callsIn_wide.2 (qcmp_ok _ _ _ _ X3 (Rx.ext (.of_below hb13)) (Rz.ext (.of_below hb13))))).mono ?_
                  rintro e X4 ⟨rfl, hb4⟩
                  have hb14 := belowCall hb13 hb4
                  have bX4 := bX3.below hb4
                  have b74 := b73.below hb4
                  have b7C := b7.below hb14
                  replace Rx := Rx.ext (.of_below hb14)
                  replace Ry := Ry.ext (.of_below hb14)
                  replace hbv := hbv.below hb14
                  replace bl := bl.below hb14
                  replace bc := bc.below hb14
                  replace hFl := hFl.below hb14
                  replace hU := belowCall hU hb14
                  replace hNs := Nat.le_trans hNs hb14.size
                  replace hKO := hKO.trans (keepsOthers_of_below hb14)
                  replace hKN := hKN.trans (KeepNew.of_below hb14)
                  have hcn := cmpQ_neg (a := back (idx na) (idx nb) (stackN (pick F m 3 i) 3)) (b := (bestIn (idx na) (idx nb) F m 3 i (bestTo (idx na) (idx nb) F m 2)).r)
                  have hdn : DInv [D2, D1] Va.heap.size X4 := fun D hD => ⟨(hdd D hD).1, hKO.same D _ (hdd D hD).2 rfl⟩
                  clear hdd hb14 hb4 b73 bX3 hb13 ho3 hk3 bX hb2 hleX b7 b7l hCe hFc Rz Rt hFz hNz
                  gi_wp2_with fail
                  refine ⟨trivial, ?_⟩
                  gi_at_call 74
                  refine (CallsIn.inRound l (callsIn_wide.2 (cmusti_ok _ X4))).mono ?_
                  rintro e X5 ⟨rfl, h5⟩
                  rw [h5]
                  clear h5 X5
                  by_cases hlt : back (idx na) (idx nb) (stackN (pick F m 3 i) 3) < (bestIn (idx na) (idx nb) F m 3 i (bestTo (idx na) (idx nb) F m 2)).r
                  · have hz := hcn.2 hlt
                    have hst : bestIn (idx na) (idx nb) F m 3 (i + 1) (bestTo (idx na) (idx nb) F m 2) = ⟨back (idx na) (idx nb) (stackN (pick F m 3 i) 3), through (idx na) (idx nb) (stackN (pick F m 3 i) 3), 3, pick F m 3 i⟩ := by
                      show bstep _ _ _ _ _ = _
                      unfold bstep
                      exact if_pos hlt
                    have hbn : BV (B7 + 1) X4 #[x0, x1, x2, x3, y0, y1, y2, y3, .slice p 3 c] (bestIn (idx na) (idx nb) F m 3 (i + 1) (bestTo (idx na) (idx nb) F m 2)) := by
                      rw [hst]
                      exact ⟨⟨_, _, _, _, _, _, _, _, p, c, rfl, Rx, Ry, hFl, hpN⟩⟩
                    have hon := hbn.ones
                    clear hcn hst hlt hbv
                    generalize cmpQ _ _ = zc at *
                    gi_wp2_with first | (refine wpListIn_load_box rfl 124 _ rfl BX rfl 124 #[x0, x1, x2, x3, y0, y1, y2, y3] bX4 _ Tryz.underlying124 rfl sizeLight ?_) | (refine wpListIn_build2 rfl 135 _ rfl #[x0, x1, x2, x3, y0, y1, y2, y3, .slice p 3 c] (by as_aux_lemma => kernel_rfl) ?_) | (refine wpListIn_store_box rfl 135 _ _ rfl B7 0 135 _ #[x0, x1, x2, x3, y0, y1, y2, y3, .slice p 3 c] #[x0, x1, x2, x3, y0, y1, y2, y3, .slice p 3 c] rfl rfl b74 sizeBest (Nat.le_of_eq rfl) hon (whole_new rfl) ?_; intro X6 hk6 ho6 b76)
                    have hU6 := hk6.below hU (by omega) hU.size
                    exact ⟨hKO.trans ho6, hKN.trans (KeepNew.of_keepBut hk6 (by omega)), ⟨hU6, ⟨_, b76, hbn.keep hk6 (by omega) (hk6.ext b74 (by decide))⟩, hk6.box bl bl.lt (Box.ne bl b74 (by decide)), hk6.box bc bc.lt (Box.ne bc b74 (by decide)), h.below (belowCall hB2 hU6), Nat.le_trans hNs hk6.size⟩, fun D hD => ⟨(hdn D hD).1, ho6.same D _ (hdn D hD).2 rfl⟩⟩
                  · have hz : ¬ cmpQ (back (idx na) (idx nb) (stackN (pick F m 3 i) 3)) (bestIn (idx na) (idx nb) F m 3 i (bestTo (idx na) (idx nb) F m 2)).r < 0 := fun e => hlt (hcn.1 e)
                    have hst : bestIn (idx na) (idx nb) F m 3 (i + 1) (bestTo (idx na) (idx nb) F m 2) = bestIn (idx na) (idx nb) F m 3 i (bestTo (idx na) (idx nb) F m 2) := by
                      show bstep _ _ _ _ _ = _
                      unfold bstep
                      exact if_neg hlt
                    rw [← hst] at hbv
                    clear hcn hst hlt
                    generalize cmpQ _ _ = zc at *
                    gi_wp2
                    first
                      | exact ⟨hU, ⟨_, b7C, hbv⟩, bl, bc, h.below (belowCall hB2 hU), hNs⟩
                      | exact ⟨⟨hU, ⟨_, b7C, hbv⟩, bl, bc, h.below (belowCall hB2 hU), hNs⟩, hdn⟩
                      | exact ⟨hKO, hKN, ⟨hU, ⟨_, b7C, hbv⟩, bl, bc, h.below (belowCall hB2 hU), hNs⟩, hdn⟩
                case hdone =>
                  rintro D3 V hDs ⟨⟨hU, ⟨CB, b7, hbv⟩, bl, bc, hFc, hNs⟩, hdd0⟩ hDk
                  have hdd : ∀ D ∈ ([D3, D2, D1] : List Nat), V.heap[D]? = some (.deferred (some [])) := by
                    intro D hD
                    rcases List.mem_cons.1 hD with rfl | hD
                    · exact hDk
                    · exact (hdd0 D hD).2
                  have hge3 : w.heap.size ≤ D3 := by have := hB2.size; have := hUa.size; omega
                  have hlt3 : ∀ D ∈ ([D2, D1] : List Nat), D < D3 := fun D hD => by have := (hdd0 D hD).1; omega
                  have hbv' : BV (B7 + 1) V CB (bestTo (idx na) (idx nb) F m 3) := hbv
                  clear hbv hdd0 hDk hDs bl bc hFc hNs hbva b7a hUa hFa hNa hW2a hdda
                  have hbv := hbv'
                  clear hbv'
                  go_wp2
                  rw [rounds_succ]
                  have hwV := belowCall hB2 hU
                  have c2 := (p2.below hwV).cell
                  have l2 := (p2.below hwV).lt
                  have c3 := (p3.below hwV).cell
                  have l3 := (p3.below hwV).lt
                  obtain rfl : most = 3 := by omega
                  have bOV := bO2.below hU
                  have hs9 := hbv.size
                  have ho9 := hbv.ones
                  have hi9 : (Tryz.prog.info? 135).map (·.size) = some CB.size := by rw [hs9]; exact sizeBest
                  go_wp2_with first | (refine wpList_load_box rfl 135 (.tmp 7) rfl B7 rfl 135 CB b7 _ Tryz.underlying135 rfl hi9 ?_) | (refine wpList_store_box rfl 135 _ _ rfl BO 0 135 _ CB CB rfl rfl bOV hi9 (Nat.le_of_eq (by rw [hs9]; rfl)) ho9 (whole_new (by rw [hs9]; rfl)) ?_; intro Ve hke be)
                  have hBE := hke.below (belowCall hB2 hU) hleO (belowCall hB2 hU).size
                  have hbvE := hbv.keep hke (by omega) (hke.ext bOV (by decide))
                  have hr3 : Ve.heap[D3]? = some (.deferred (some [])) := (hke.block D3 (lt_of_some (hdd D3 (by simp))) (fun e => by have h1 := hdd D3 (by simp); rw [e, bOV.blk] at h1; cases h1)).trans (hdd D3 (by simp))
                  have hr2 : Ve.heap[D2]? = some (.deferred (some [])) := (hke.block D2 (lt_of_some (hdd D2 (by simp))) (fun e => by have h1 := hdd D2 (by simp); rw [e, bOV.blk] at h1; cases h1)).trans (hdd D2 (by simp))
                  have hr1 : Ve.heap[D1]? = some (.deferred (some [])) := (hke.block D1 (lt_of_some (hdd D1 (by simp))) (fun e => by have h1 := hdd D1 (by simp); rw [e, bOV.blk] at h1; cases h1)).trans (hdd D1 (by simp))
                  refine ⟨by simp, .inl ⟨_, _, rfl, run_takeDeferred hr3, ?_⟩⟩
                  have hg2 : ∀ r, some D3 = some r → ∃ o : Obj, (Ve).heap[r]? = some o ∧ o.isCells = false := fun r e => by cases e; exact ⟨_, hr3, rfl⟩
                  replace be := be.grown (grownBy_putObj' _ D3 (.deferred none)) hg2
                  replace hbvE := hbvE.grown (grownBy_putObj' _ D3 (.deferred none)) hg2
                  replace hBE := below_putObj hBE hge3 (.deferred none)
                  clear hg2
                  replace hr2 : (Ve.putObj D3 (.deferred none)).heap[D2]? = some (.deferred (some [])) := (World.putObj_heap_other (show D2 ≠ D3 by have := hlt3 D2 (by simp); omega)).trans hr2
                  replace hr1 : (Ve.putObj D3 (.deferred none)).heap[D1]? = some (.deferred (some [])) := (World.putObj_heap_other (show D1 ≠ D3 by have := hlt3 D1 (by simp); omega)).trans hr1
                  refine ⟨by simp, .inl ⟨_, _, rfl, run_takeDeferred hr2, ?_⟩⟩
                  have hg2 : ∀ r, some D2 = some r → ∃ o : Obj, ((Ve.putObj D3 (.deferred none))).heap[r]? = some o ∧ o.isCells = false := fun r e => by cases e; exact ⟨_, hr2, rfl⟩
                  replace be := be.grown (grownBy_putObj' _ D2 (.deferred none)) hg2
                  replace hbvE := hbvE.grown (grownBy_putObj' _ D2 (.deferred none)) hg2
                  replace hBE := below_putObj hBE hge2 (.deferred none)
                  clear hg2
                  replace hr1 : ((Ve.putObj D3 (.deferred none)).putObj D2 (.deferred none)).heap[D1]? = some (.deferred (some [])) := (World.putObj_heap_other (show D1 ≠ D2 by have := hlt2 D1 (by simp); omega)).trans hr1
                  refine ⟨by simp, .inl ⟨_, _, rfl, run_takeDeferred hr1, ?_⟩⟩
                  have hg2 : ∀ r, some D1 = some r → ∃ o : Obj, (((Ve.putObj D3 (.deferred none)).putObj D2 (.deferred none))).heap[r]? = some o ∧ o.isCells = false := fun r e => by cases e; exact ⟨_, hr1, rfl⟩
                  replace be := be.grown (grownBy_putObj' _ D1 (.deferred none)) hg2
                  replace hbvE := hbvE.grown (grownBy_putObj' _ D1 (.deferred none)) hg2
                  replace hBE := below_putObj hBE hge1 (.deferred none)
                  clear hg2
                  exact ⟨.agg CB, be.results rfl _ _ rfl Tryz.underlying135 rfl hi9, CB, rfl, hbvE.mono (by omega), hBE⟩
              · obtain rfl : most = 2 := by omega
                have bOV := bO2.below hU
                have hs9 := hbv.size
                have ho9 := hbv.ones
                have hi9 : (Tryz.prog.info? 135).map (·.size) = some CB.size := by rw [hs9]; exact sizeBest
                go_wp2_with first | (refine wpList_load_box rfl 135 (.tmp 7) rfl B7 rfl 135 CB b7 _ Tryz.underlying135 rfl hi9 ?_) | (refine wpList_store_box rfl 135 _ _ rfl BO 0 135 _ CB CB rfl rfl bOV hi9 (Nat.le_of_eq (by rw [hs9]; rfl)) ho9 (whole_new (by rw [hs9]; rfl)) ?_; intro Ve hke be)
                have hBE := hke.below (belowCall hB2 hU) hleO (belowCall hB2 hU).size
                have hbvE := hbv.keep hke (by omega) (hke.ext bOV (by decide))
                have hr2 : Ve.heap[D2]? = some (.deferred (some [])) := (hke.block D2 (lt_of_some (hdd D2 (by simp))) (fun e => by have h1 := hdd D2 (by simp); rw [e, bOV.blk] at h1; cases h1)).trans (hdd D2 (by simp))
                have hr1 : Ve.heap[D1]? = some (.deferred (some [])) := (hke.block D1 (lt_of_some (hdd D1 (by simp))) (fun e => by have h1 := hdd D1 (by simp); rw [e, bOV.blk] at h1; cases h1)).trans (hdd D1 (by simp))
                refine ⟨by simp, .inl ⟨_, _, rfl, run_takeDeferred hr2, ?_⟩⟩
                have hg2 : ∀ r, some D2 = some r → ∃ o : Obj, (Ve).heap[r]? = some o ∧ o.isCells = false := fun r e => by cases e; exact ⟨_, hr2, rfl⟩
                replace be := be.grown (grownBy_putObj' _ D2 (.deferred none)) hg2
                replace hbvE := hbvE.grown (grownBy_putObj' _ D2 (.deferred none)) hg2
                replace hBE := below_putObj hBE hge2 (.deferred none)
                clear hg2
                replace hr1 : (Ve.putObj D2 (.deferred none)).heap[D1]? = some (.deferred (some [])) := (World.putObj_heap_other (show D1 ≠ D2 by have := hlt2 D1 (by simp); omega)).trans hr1
                refine ⟨by simp, .inl ⟨_, _, rfl, run_takeDeferred hr1, ?_⟩⟩
                have hg2 : ∀ r, some D1 = some r → ∃ o : Obj, ((Ve.putObj D2 (.deferred none))).heap[r]? = some o ∧ o.isCells = false := fun r e => by cases e; exact ⟨_, hr1, rfl⟩
                replace be := be.grown (grownBy_putObj' _ D1 (.deferred none)) hg2
                replace hbvE := hbvE.grown (grownBy_putObj' _ D1 (.deferred none)) hg2
                replace hBE := below_putObj hBE hge1 (.deferred none)
                clear hg2
                exact ⟨.agg CB, be.results rfl _ _ rfl Tryz.underlying135 rfl hi9, CB, rfl, hbvE.mono (by omega), hBE⟩
          · obtain rfl : most = 1 := by omega
            have bOV := bO2.below hU
            have hs9 := hbv.size
            have ho9 := hbv.ones
            have hi9 : (Tryz.prog.info? 135).map (·.size) = some CB.size := by rw [hs9]; exact sizeBest
            go_wp2_with first | (refine wpList_load_box rfl 135 (.tmp 7) rfl B7 rfl 135 CB b7 _ Tryz.underlying135 rfl hi9 ?_) | (refine wpList_store_box rfl 135 _ _ rfl BO 0 135 _ CB CB rfl rfl bOV hi9 (Nat.le_of_eq (by rw [hs9]; rfl)) ho9 (whole_new (by rw [hs9]; rfl)) ?_; intro Ve hke be)
            have hBE := hke.below (belowCall hB2 hU) hleO (belowCall hB2 hU).size
            have hbvE := hbv.keep hke (by omega) (hke.ext bOV (by decide))
            have hr1 : Ve.heap[D1]? = some (.deferred (some [])) := (hke.block D1 (lt_of_some (hdd D1 (by simp))) (fun e => by have h1 := hdd D1 (by simp); rw [e, bOV.blk] at h1; cases h1)).trans (hdd D1 (by simp))
            refine ⟨by simp, .inl ⟨_, _, rfl, run_takeDeferred hr1, ?_⟩⟩
            have hg2 : ∀ r, some D1 = some r → ∃ o : Obj, (Ve).heap[r]? = some o ∧ o.isCells = false := fun r e => by cases e; exact ⟨_, hr1, rfl⟩
            replace be := be.grown (grownBy_putObj' _ D1 (.deferred none)) hg2
            replace hbvE := hbvE.grown (grownBy_putObj' _ D1 (.deferred none)) hg2
            replace hBE := below_putObj hBE hge1 (.deferred none)
            clear hg2
            exact ⟨.agg CB, be.results rfl _ _ rfl Tryz.underlying135 rfl hi9, CB, rfl, hbvE.mono (by omega), hBE⟩
      · obtain rfl : most = 0 := by omega
        have bOV := bO2.below hU
        have hs9 := hbv.size
        have ho9 := hbv.ones
        have hi9 : (Tryz.prog.info? 135).map (·.size) = some CB.size := by rw [hs9]; exact sizeBest
        go_wp2_with first | (refine wpList_load_box rfl 135 (.tmp 7) rfl B7 rfl 135 CB b7 _ Tryz.underlying135 rfl hi9 ?_) | (refine wpList_store_box rfl 135 _ _ rfl BO 0 135 _ CB CB rfl rfl bOV hi9 (Nat.le_of_eq (by rw [hs9]; rfl)) ho9 (whole_new (by rw [hs9]; rfl)) ?_; intro Ve hke be)
        have hBE := hke.below (belowCall hB2 hU) hleO (belowCall hB2 hU).size
        have hbvE := hbv.keep hke (by omega) (hke.ext bOV (by decide))
        exact ⟨.agg CB, be.results rfl _ _ rfl Tryz.underlying135 rfl hi9, CB, rfl, hbvE.mono (by omega), hBE⟩
end Go.Proofs.YtdgodcgdlfjpaaaGreatDoor
namespace Go.Mono
open Go.Proofs.YtdgodcgdlfjpaaaGreatDoor
def fQ : Flm := ⟨15000000, 1, 1⟩
def fH : Flm := ⟨20000000, 1, 1⟩
def fH2 : Flm := ⟨20000000, 1, 2⟩
def fG : Flm := ⟨10000000, 1000, 1000⟩
def fB : Flm := ⟨10000000, 1, 0⟩
def fT : Flm := ⟨20000000, 3, 3⟩
def QH (i : Nat) : Flm := if i = 0 then fQ else fH
theorem fH_mat : fH.mat.a = Rat.divInt 0 1 ∧ fH.mat.b = Rat.divInt 1 2 ∧ fH.mat.c = Rat.divInt 2 1 ∧ fH.mat.d = Rat.divInt 0 1 := by decide +kernel
theorem fH2_mat : fH2.mat.a = Rat.divInt 3 5 ∧ fH2.mat.b = Rat.divInt 2 5 ∧ fH2.mat.c = Rat.divInt 8 5 ∧ fH2.mat.d = Rat.divInt 3 5 := by decide +kernel
theorem bare_rt : back (idx 10000000) (idx 15000000) (stackN QH 0) = Rat.divInt 1 25 ∧ through (idx 10000000) (idx 15000000) (stackN QH 0) = Rat.divInt 24 25 := by decide +kernel
theorem quarter_rt : back (idx 10000000) (idx 22500000) (stackN QH 1) = Rat.divInt 0 1 ∧ through (idx 10000000) (idx 22500000) (stackN QH 1) = Rat.divInt 1 1 := by decide +kernel
theorem best_ex : (bestTo (idx 10000000) (idx 22500000) QH 2 2).n = 1 ∧ (bestTo (idx 10000000) (idx 22500000) QH 2 2).G 0 = fQ ∧ (bestTo (idx 10000000) (idx 22500000) QH 2 2).r = Rat.divInt 0 1 := by decide +kernel
theorem best_nil : (bestTo (idx 10000000) (idx 10000000) QH 0 3).n = 0 ∧ (bestTo (idx 10000000) (idx 10000000) QH 0 3).r = Rat.divInt 0 1 := by decide +kernel
theorem third_rt : back (idx 10000000) (idx 15000000) (stackN (fun _ => fT) 1) = Rat.divInt 25 121 ∧ through (idx 10000000) (idx 15000000) (stackN (fun _ => fT) 1) = Rat.divInt 96 121 := by decide +kernel
theorem thirds_rt : back (idx 10000000) (idx 15000000) (stackN (fun _ => fT) 2) = Rat.divInt 1 25 ∧ through (idx 10000000) (idx 15000000) (stackN (fun _ => fT) 2) = Rat.divInt 24 25 := by decide +kernel
theorem QH_ok : ∀ i, (QH i).ok := fun i => by unfold QH; split <;> decide
end Go.Mono
namespace Go.Proofs.YtdgodcgdlfjpaaaGreatDoor
open Go.RowKit Go.Mono
set_option maxRecDepth 100000 in
set_option maxHeartbeats 2000000 in
/-- coat.Surface where its computation returns -/
theorem surfX_ret (a : Lns) (q : Plc) (k s : Int) (r t : Rat) (w : World)
    (hg : ∀ W Bo Bk Bs, Below w.heap.size w W → Box W Bo 96 (a.ovals q) → Box W Bk 3 #[.int .i64 k] → Box W Bs 3 #[.int .i64 s] → Calls Tryz.prog 132 #[.pointer (some ⟨Bo, 0, none⟩), .pointer (some ⟨Bk, 0, none⟩), .pointer (some ⟨Bs, 0, none⟩)] W fun e w' => ∃ C, e = .returned (.agg C) ∧ LV w' C r t ∧ Below W.heap.size W w') :
    Calls Tryz.prog 56 #[.agg (a.ovals q), .int .i64 k, .int .i64 s] w fun e w' => ∃ C D, e = .returned (.tuple #[.agg C, .agg D, .int .i64 0]) ∧ QV w' (.agg C) r ∧ QV w' (.agg D) t ∧ Below w.heap.size w w' := by
  simp only [Lns.ovals] at hg ⊢
  have hmf : ∀ (fn : Fn) (first cap : Array Value) (w : World), (Instr.makeFunc fn first cap).run Tryz.prog w = .ok (.func fn first cap) w := fun _ _ _ _ => rfl
  go_enter Tryz.func56, Tryz.ntmps56
  go_wp2_with fail
  refine boxes5k fun W hB hs b0 b1 b2 bR bT => ?_
  refine (caughtLi_ret 132 _ enters_surfX1 W (fun C w1 => LV w1 C r t) ?_ ?_).mono ?_
  · intro C w1 w2 c0 _ hx _ _ h
    exact h.ext hx
  · intro W2 hW2 hs2
    refine (hg W2 _ _ _ (belowCall hB hW2) (b0.below hW2) (b1.below hW2) (b2.below hW2)).mono ?_
    rintro e w' ⟨C, rfl, hC, hb⟩
    exact ⟨C, rfl, hC.size, hC.ones, hC, hb⟩
  rintro e W3 ⟨C, rfl, hs8, ho, hC, hb3⟩
  replace hB := belowCall hB hb3
  replace bR := bR.below hb3
  replace bT := bT.below hb3
  have hq : (Tryz.prog.info? 124).map (·.size) = some C.size := by rw [hs8]; exact sizeLight
  go_wp2_with first | (refine wpList_new rfl 124 rfl _ alloc_light ?_; intro W4 BL hleL hb4 bL) | (refine wpList_store_box rfl 124 _ _ rfl BL 0 124 _ C C rfl rfl bL hq (Nat.le_of_eq (by rw [hs8]; rfl)) ho (whole_new (by rw [hs8]; rfl)) ?_; intro W5 hk5 bL5)
  have hb35 := hk5.below hb4 hleL hb4.size
  replace hB := belowCall hB hb35
  replace bR := bR.below hb35
  replace bT := bT.below hb35
  replace hC := hC.ext (.of_below hb35)
  have hne : w.heap.size + 1 + 1 + 1 ≠ BL := by have := hb3.size; omega
  have hne2 : w.heap.size + 1 + 1 + 1 + 1 ≠ BL := by have := hb3.size; omega
  obtain ⟨x0, x1, x2, x3, y0, y1, y2, y3, rfl, Rx, Ry⟩ := hC.parts
  obtain ⟨s0, s1, s2, s3⟩ := Rx.ones
  obtain ⟨s4, s5, s6, s7⟩ := Ry.ones
  clear hb35 hk5 hb4 bL hC hq ho hs8
  refine wp_region_held_drew (S := fun w' => Box w' BL 124 #[x0, x1, x2, x3, y0, y1, y2, y3] ∧ Below w.heap.size w w') (by as_aux_lemma => kernel_rfl) ⟨bL5.drew, hB.drew⟩ (fun hHeld => ?_)
  refine tk 0 (some 15) ?_
  refine tl 1 (some 16) rfl (.agg #[x0, x1, x2, x3]) (exec_load 37 _ rfl BL 0 rfl #[x0, x1, x2, x3] (fun w h => h.1.part 0 #[x0, x1, x2, x3] rfl) _ Tryz.underlying37 rfl sizeQuot) ?_
  refine tk 2 (some 17) ?_
  refine tl 3 (some 18) rfl (.agg #[y0, y1, y2, y3]) (exec_load 37 _ rfl BL 4 rfl #[y0, y1, y2, y3] (fun w h => h.1.part 4 #[y0, y1, y2, y3] rfl) _ Tryz.underlying37 rfl sizeQuot) ?_
  refine tk 4 (some 19) ?_
  refine wpAnyH_storeB (w.heap.size + 1 + 1 + 1) 37 5 rfl rfl rfl rfl 0 #[x0, x1, x2, x3] _ #[x0, x1, x2, x3] (by as_aux_lemma => kernel_rfl) (fun w' i u hS => ⟨hS.1.other _ _ (Ne.symm hne), hS.2.setCell (p := ⟨w.heap.size + 1 + 1 + 1, i, none⟩) (by simp; omega) u⟩) rfl rfl bR.drew hHeld sizeQuot (Nat.le_of_eq rfl) (by simp [*]) (whole_new rfl) (fun Ws hk0 bs hHeld => ?_)
  have bT1 := hk0.box bT.drew bT.drew.lt (by omega)
  refine wpAnyH_storeB (w.heap.size + 1 + 1 + 1 + 1) 37 6 rfl rfl rfl rfl 0 #[y0, y1, y2, y3] _ #[y0, y1, y2, y3] (by as_aux_lemma => kernel_rfl) (fun w' i u hS => ⟨hS.1.other _ _ (Ne.symm hne2), hS.2.setCell (p := ⟨w.heap.size + 1 + 1 + 1 + 1, i, none⟩) (by simp; omega) u⟩) rfl rfl bT1 hHeld sizeQuot (Nat.le_of_eq rfl) (by simp [*]) (whole_new rfl) (fun Wt hk1 bt hHeld => ?_)
  have bs1 := hk1.box bs bs.lt (by omega)
  have hx := (hk0.ext bR.drew (by decide)).trans (hk1.ext bT1 (by decide))
  refine tk 7 (some 8) ?_
  refine wpAnyH_done (by as_aux_lemma => kernel_rfl) ?_ _
  go_wp2
  refine bodyPost_ret (bs1.results3c bt rfl _ _ rfl rfl Tryz.underlying37 rfl sizeQuot sizeQuot) rfl ?_
  exact ⟨_, _, rfl, Rx.ext ((Ext.of_below (Below.refl _ _).drew).trans hx), Ry.ext ((Ext.of_below (Below.refl _ _).drew).trans hx), hHeld.2⟩
end Go.Proofs.YtdgodcgdlfjpaaaGreatDoor
namespace Go.Mono
open Go.RowKit
/-- a slot, a struct out of a box, a slot -/
theorem Box.resultsTCT {P : Program} {w : World} {B : Nat} {T : TypeId} {cs : Array Value} (b : Box w B T cs) {fn : Func} {p p1 p2 : Tmp} {ty : TypeId} (h : fn.results = #[.tmp p1, .cell p ty, .tmp p2]) (tmps : Array Value) (d : TypeDesc)
    (ht : tmps.getD p undef = .pointer (some ⟨B, 0, none⟩)) (hu : P.underlying ty = some d) (hd : d.isRow = true) (hi : (P.info? ty).map (·.size) = some cs.size) : (Go.results fn tmps).run P w = .ok (.tuple #[tmps.getD p1 undef, .agg cs, tmps.getD p2 undef]) w := by
  have hp' : tmps[p]?.getD undef = .pointer (some ⟨B, 0, none⟩) := by simpa using ht
  have hld := run_loadVar_row (P := P) w B T ty cs (0, 0) d b.blk hu (by cases d <;> simp_all [TypeDesc.isRow]) hi
  simp [Go.results, h, hp', asAddr, hld]
theorem BV.cells {N : Nat} {w w' : World} {C : Array Value} {b : Bst} (h : BV N w C b) (hx : Ext w w') (hs : w.heap.size ≤ w'.heap.size) (hc : ∀ k o, k < w.heap.size → N ≤ k → w'.cell? ⟨k, o, none⟩ = w.cell? ⟨k, o, none⟩) : BV N w' C b := by
  obtain ⟨a0, a1, a2, a3, b0, b1, b2, b3, p, c, rfl, h1, h2, h3, h4⟩ := h.parts
  refine ⟨⟨_, _, _, _, _, _, _, _, p, c, rfl, h1.ext hx, h2.ext hx, ?_, h4⟩⟩
  obtain ⟨g1, g2, g3⟩ := h3
  refine ⟨g1, g2, fun hn => ?_⟩
  obtain ⟨k, off, hp, hk, hcc⟩ := g3 hn
  refine ⟨k, off, hp, Nat.lt_of_lt_of_le hk hs, fun i j hi hj => ?_⟩
  rw [← hcc i j hi hj]
  exact hc k _ hk (h4 _ hp)
end Go.Mono
namespace Go.Proofs.YtdgodcgdlfjpaaaGreatDoor
open Go.RowKit Go.Mono
theorem enters_best1 : ∀ args w, (callFunc 69 args).run Tryz.prog w = .ok (.enter 69 args) w := Go.Proofs.enters_of Tryz.func69 (by kernel_rfl) rfl
set_option maxRecDepth 100000 in
set_option maxHeartbeats 2000000 in
/-- coat.Best of valid films -/
theorem best_ok (na nb : Int) (a1 : 10000000 ≤ na) (a2 : na ≤ 40000000) (b1 : 10000000 ≤ nb) (b2 : nb ≤ 40000000) (F : Nat → Flm) (m : Nat) (hm : m ≤ 6) (hF : ∀ i, i < m → (F i).ok) (most : Nat) (hmost : most ≤ 3) (pc : Option Addr) (cc : Nat) (w : World) (h : FilmsAt w pc m cc F) :
    Calls Tryz.prog 18 #[.int .i64 na, .int .i64 nb, .slice pc m cc, .int .i64 (most : Int)] w fun e w' => ∃ p c D, e = .returned (.tuple #[.slice p (bestTo (idx na) (idx nb) F m most).n c, .agg D, .int .i64 0]) ∧ FilmsAt w' p (bestTo (idx na) (idx nb) F m most).n c (bestTo (idx na) (idx nb) F m most).G ∧ QV w' (.agg D) (bestTo (idx na) (idx nb) F m most).r ∧ Below w.heap.size w w' := by
  have hmf : ∀ (fn : Fn) (first cap : Array Value) (w : World), (Instr.makeFunc fn first cap).run Tryz.prog w = .ok (.func fn first cap) w := fun _ _ _ _ => rfl
  have hb1 := fun W (hW : Below w.heap.size w W) P0 P1 P2 P3 p0 p1 p2 p3 => best1_ok na nb a1 a2 b1 b2 F m hm hF most hmost pc cc W (h.below hW) P0 P1 P2 P3 p0 p1 p2 p3
  generalize bestTo (idx na) (idx nb) F m most = B at *
  obtain ⟨br, bt, bn, bG⟩ := B
  dsimp only
  go_enter Tryz.func18, Tryz.ntmps18
  go_wp2_with fail
  refine boxes5k fun W hB hs q0 q1 q2 q3 bR => ?_
  refine (caughtBe_ret 69 _ enters_best1 W (fun C w1 => BV (W.heap.size + 2) w1 C ⟨br, bt, bn, bG⟩) ?_ ?_).mono ?_
  · intro C w1 w2 c0 _ hx hsz hc hv
    exact hv.cells hx hsz fun k o hk hN => hc k o hk (by omega) (by omega)
  · intro W2 hW2 hs2
    refine (hb1 W2 (belowCall hB hW2) _ _ _ _ (q0.below hW2) (q1.below hW2) (q3.below hW2) (q2.below hW2)).mono ?_
    rintro e w' ⟨C, rfl, hC, hb⟩
    exact ⟨C, rfl, hC.size, hC.ones, hC.mono hs2, hb⟩
  rintro e W3 ⟨C, rfl, hs9, ho, hC, hb3⟩
  replace hB := belowCall hB hb3
  replace bR := bR.below hb3
  have hq : (Tryz.prog.info? 135).map (·.size) = some C.size := by rw [hs9]; exact sizeBest
  clear hb1 q0 q1 q2 q3
  go_wp2_with first | (refine wpList_new rfl 135 rfl _ alloc_best ?_; intro W4 BL hleL hb4 bL) | (refine wpList_store_box rfl 135 _ _ rfl BL 0 135 _ C C rfl rfl bL hq (Nat.le_of_eq (by rw [hs9]; rfl)) ho (whole_new (by rw [hs9]; rfl)) ?_; intro W5 hk5 bL5)
  have hb35 := hk5.below hb4 hleL hb4.size
  replace hB := belowCall hB hb35
  replace bR := bR.below hb35
  replace hC := hC.below hb35
  have hne : w.heap.size + 1 + 1 + 1 + 1 ≠ BL := by have := hb3.size; omega
  obtain ⟨x0, x1, x2, x3, y0, y1, y2, y3, p, c, rfl, Rx, Ry, hFl, hpN⟩ := hC.parts
  obtain ⟨s0, s1, s2, s3⟩ := Rx.ones
  have hs3 : w.heap.size + 5 ≤ W.heap.size := hs
  clear hb35 hk5 hb4 bL hC hq ho hs9
  dsimp only at *
  refine wp_region_held_drew (S := fun w' => w'.cell? ⟨BL, 8, none⟩ = some (.slice p bn c) ∧ Box w' BL 135 #[x0, x1, x2, x3, y0, y1, y2, y3, .slice p bn c] ∧ Below w.heap.size w w') (by as_aux_lemma => kernel_rfl) ⟨bL5.drew.cell 8, bL5.drew, hB.drew⟩ (fun hHeld => ?_)
  refine tk 0 (some 17) ?_
  refine tk 1 (some 18) ?_
  refine tk 2 (some 19) ?_
  refine tk 3 (some 20) ?_
  refine tl 4 (some 21) rfl (.agg #[x0, x1, x2, x3]) (exec_load 37 _ rfl BL 0 rfl #[x0, x1, x2, x3] (fun w h => h.2.1.part 0 #[x0, x1, x2, x3] rfl) _ Tryz.underlying37 rfl sizeQuot) ?_
  refine tk 5 (some 22) ?_
  refine tk 6 (some 8) ?_
  refine wpAnyH_storeB (w.heap.size + 1 + 1 + 1 + 1) 37 7 rfl rfl rfl rfl 0 #[x0, x1, x2, x3] _ #[x0, x1, x2, x3] (by as_aux_lemma => kernel_rfl) (fun w' i u hS => ⟨(hS.2.1.other _ _ (Ne.symm hne)).cell 8, hS.2.1.other _ _ (Ne.symm hne), hS.2.2.setCell (p := ⟨w.heap.size + 1 + 1 + 1 + 1, i, none⟩) (by simp; omega) u⟩) rfl rfl bR.drew hHeld sizeQuot (Nat.le_of_eq rfl) (by simp [*]) (whole_new rfl) (fun Ws hk0 bs hHeld => ?_)
  refine tk 8 (some 10) ?_
  refine wpAnyH_done (by as_aux_lemma => kernel_rfl) ?_ _
  go_wp2
  refine bodyPost_ret (bs.resultsTCT rfl _ _ rfl Tryz.underlying37 rfl sizeQuot) rfl ?_
  exact ⟨p, c, _, rfl, (hFl.below (Below.refl _ _).drew).keep hk0 (fun a e => by have := hpN a e; omega), Rx.ext ((Ext.of_below (Below.refl _ _).drew).trans (hk0.ext bR.drew (by decide))), hHeld.2.2⟩
end Go.Proofs.YtdgodcgdlfjpaaaGreatDoor
namespace Go.Proofs.YtdgodcgdlfjpaaaGreatDoor
open Go.RowKit Go.Mono
/-- coat.Film of a film -/
theorem film_ex (f : Flm) (hf : f.ok) (w : World) : Calls Tryz.prog 24 #[.agg f.vals] w fun e w' => ∃ C, e = .returned (.tuple #[.agg C, .int .i64 0]) ∧ MV w' C f.mat ∧ Below w.heap.size w w' :=
  filmX_ret f.vals rfl (film_ones f) f.mat w fun W _ => layer_ok f hf W
/-- coat.Stack of films -/
theorem stack_ex (F : Nat → Flm) (n : Nat) (hn : n ≤ 8) (hF : ∀ i, i < n → (F i).ok) (p : Option Addr) (c : Nat) (w : World) (h : FilmsAt w p n c F) :
    Calls Tryz.prog 27 #[.slice p n c] w fun e w' => ∃ C, e = .returned (.tuple #[.agg C, .int .i64 0]) ∧ MV w' C (stackN F n) ∧ Below w.heap.size w w' :=
  stackX_ret p n c (stackN F n) w fun W hW => cstack_ok F n hn hF p c W (h.below hW)
/-- coat.Reflect of films -/
theorem refl_ex (na nb : Int) (a1 : 10000000 ≤ na) (a2 : na ≤ 40000000) (b1 : 10000000 ≤ nb) (b2 : nb ≤ 40000000) (F : Nat → Flm) (n : Nat) (hn : n ≤ 8) (hF : ∀ i, i < n → (F i).ok) (p : Option Addr) (c : Nat) (w : World) (h : FilmsAt w p n c F) :
    Calls Tryz.prog 15 #[.int .i64 na, .int .i64 nb, .slice p n c] w fun e w' => ∃ C D, e = .returned (.tuple #[.agg C, .agg D, .int .i64 0]) ∧ QV w' (.agg C) (back (idx na) (idx nb) (stackN F n)) ∧ QV w' (.agg D) (through (idx na) (idx nb) (stackN F n)) ∧ Below w.heap.size w w' :=
  reflX_ret na nb p n c _ _ w fun W hW => creflect_films na nb a1 a2 b1 b2 F n hn hF p c W (h.below hW)
/-- coat.Surface of the mirror -/
theorem surf_ex (q : Plc) (w : World) (h : OptAt w cmL q) :
    Calls Tryz.prog 56 #[.agg (cmL.ovals q), .int .i64 0, .int .i64 0] w fun e w' => ∃ C D, e = .returned (.tuple #[.agg C, .agg D, .int .i64 0]) ∧ QV w' (.agg C) (Rat.divInt 1 1) ∧ QV w' (.agg D) (Rat.divInt 0 1) ∧ Below w.heap.size w w' :=
  surfX_ret cmL q 0 0 _ _ w fun W Bo Bk Bs hW bo bk bs => surfX1_mirror q W (h.below hW) Bo Bk Bs bo bk bs
/-- films that lie in a box -/
theorem films_box {W : World} {B : Nat} {T : TypeId} {cs : Array Value} (b : Box W B T cs) (n : Nat) (hn : n ≤ 1000) (F : Nat → Flm) (h : ∀ i j, i < n → j < 3 → cs[i * 3 + j]? = some ((F i).vals.getD j undef)) : FilmsAt W (some ⟨B, 0, none⟩) n n F :=
  ⟨Nat.le_refl _, by omega, fun _ => ⟨B, 0, rfl, b.lt, fun i j hi hj => by rw [b.cell, Nat.zero_add]; exact h i j hi hj⟩⟩
theorem films_nil (W : World) (F : Nat → Flm) (c : Nat) : FilmsAt W none 0 c F := ⟨Nat.zero_le _, by omega, fun h => by omega⟩
theorem eqfilm_b (p q : Option Addr) (n c1 c2 : Nat) (F G : Nat → Flm) (w : World) (h1 : FilmsAt w p n c1 F) (h2 : FilmsAt w q n c2 G) (he : ∀ i, i < n → F i = G i) :
    Calls Tryz.prog 57 #[.slice p n c1, .slice q n c2] w fun e w' => e = .returned (.bool true) ∧ Below w.heap.size w w' := by
  refine (eqfilm_true p q n c1 c2 F G w h1 h2 he).mono ?_
  rintro e w' ⟨rfl, k, rfl⟩
  exact ⟨rfl, below_drewK _ _⟩
end Go.Proofs.YtdgodcgdlfjpaaaGreatDoor
