/- CoatLeast returns true for every list of thin films, every list of octets and every two small numbers. Part 5 of 7. No condition beside the row. -/
import Derived.Test.YtdgodcgdlfjpaaaGreatDoorL01
import Derived.Test.YtdgodcgdlfjpaaaGreatDoorL03
import Derived.Test.YtdgodcgdlfjpaaaGreatDoorL04
set_option linter.unusedVariables false
set_option linter.unusedSimpArgs false
namespace Go.Mono
open Go.RowKit
def OctsAt (w : World) (p : Option Addr) (n c : Nat) (O : Nat → Int) : Prop := RdC w p n c 1 (fun i _ => .int .u8 (O i))
theorem FilmsAt.low {w : World} {p : Option Addr} {n c : Nat} {F : Nat → Flm} (h : FilmsAt w p n c F) (hn : 0 < n) : ∀ a : Addr, p = some a → a.block < w.heap.size := by
  obtain ⟨_, _, h3⟩ := h
  obtain ⟨b, off, rfl, hb, _⟩ := h3 hn
  intro a e
  cases e
  exact hb
theorem FilmsAt.keepN {W w : World} {R : Nat} {p : Option Addr} {n c : Nat} {F : Nat → Flm} (h : FilmsAt W p n c F) (hk : KeepBut R W.heap.size W w) (hR : 0 < n → ∀ a : Addr, p = some a → a.block ≠ R) : FilmsAt w p n c F := by
  by_cases hn : 0 < n
  · exact h.keep hk (hR hn)
  · exact ⟨h.1, h.2.1, fun h' => absurd h' hn⟩
theorem cmpQ_npos {a b : Rat} (h : a ≤ b) : ¬ 0 < cmpQ a b := fun h0 => absurd (cmpQ_pos.1 h0) (Rat.not_lt.2 h)
theorem FilmsAt.neq {w : World} {p : Option Addr} {n c : Nat} {F : Nat → Flm} {B : Nat} {T : TypeId} {C : Array Value} {q : Rat} (h : FilmsAt w p n c F) (y : QB w B T C q) : 0 < n → ∀ a : Addr, p = some a → a.block ≠ B := by
  intro hn a e
  obtain ⟨_, _, h3⟩ := h
  obtain ⟨b, off, rfl, _, hc⟩ := h3 hn
  cases e
  intro hb
  have hb : b = B := hb
  subst hb
  have h0 := hc 0 0 hn (by decide)
  obtain ⟨p1, n1, c1, p2, n2, c2, e, _, _⟩ := y.qv
  cases e
  rw [y.box.cell] at h0
  have hlt : off + 0 * 3 + 0 < 4 := by
    by_cases hl : off + 0 * 3 + 0 < 4
    · exact hl
    · rw [Array.getElem?_eq_none (by simp; omega)] at h0
      cases h0
  rcases (by omega : off + 0 * 3 + 0 = 0 ∨ off + 0 * 3 + 0 = 1 ∨ off + 0 * 3 + 0 = 2 ∨ off + 0 * 3 + 0 = 3) with e | e | e | e <;> rw [e] at h0 <;> cases h0
end Go.Mono
namespace Go.Proofs.YtdgodcgdlfjpaaaGreatDoor
open Go.RowKit Go.Mono
set_option maxRecDepth 100000 in
set_option maxHeartbeats 20000000 in
theorem vleast_of (hwk : Hid (∀ w : World, Calls Tryz.prog 12 #[] w fun e w' => e = .returned (.bool true) ∧ Below w.heap.size w w')) (p : Option Addr) (n c : Nat) (G : Nat → Thn) (hG : ∀ i, i < n → (G i).ok) (q : Option Addr) (m c2 : Nat) (O : Nat → Int) (hO : ∀ i, i < m → 0 ≤ O i ∧ O i ≤ 255) (s0 s1 : Int) (hs0 : 0 ≤ s0 ∧ s0 ≤ 255) (hs1 : 0 ≤ s1 ∧ s1 ≤ 255) (w : World) (h : ThinsAt w p n c G) (hq : OctsAt w q m c2 O) :
    Calls Tryz.prog 5 #[.slice p n c, .slice q m c2, .agg #[.int .u8 s0, .int .u8 s1]] w fun e w' => e = .returned (.bool true) ∧ Below w.heap.size w w' := by
  go_enter Tryz.func5, Tryz.ntmps5
  go_wp2_with fail
  refine boxes1c (T0 := 25) fun Wa hBa hsa bS => ?_
  refine (hwk.out Wa).mono ?_
  rintro e W0 ⟨rfl, hb0⟩
  have B0 := belowCall hBa hb0
  replace bS := bS.below hb0
  replace h := h.below B0
  clear hBa hsa hb0 hwk
  go_wp2_with fail
  refine (films_ok p n c G hG 4 (by decide) W0 h).mono ?_
  rintro e W1 ⟨p', c', rfl, hown, hb1⟩
  replace B0 := belowCall B0 hb1
  replace bS := bS.below hb1
  have hk6 : min n 4 ≤ 4 := Nat.min_le_right _ _
  have hF : ∀ i, i < min n 4 → (G i).film.ok := fun i hi => Thn.film_ok (hG i (by omega))
  generalize min n 4 = k at *
  generalize hFF : (fun i => (G i).film) = F at *
  replace hF : ∀ i, i < k → (F i).ok := fun i hi => by rw [← hFF]; exact hF i hi
  have hfm := ownsRow_films hown (by omega)
  clear h hG hFF hown hb1
  go_wp2_with fail
  have hcS := bS.cell
  refine wp_region_held_drew (S := fun w' => w'.cell? ⟨w.heap.size, 0, none⟩ = some (.int .u8 s0) ∧ w'.cell? ⟨w.heap.size, 1, none⟩ = some (.int .u8 s1) ∧ Below W1.heap.size W1 w') (by as_aux_lemma => kernel_rfl) ⟨hcS 0, hcS 1, (Below.refl _ _).drew⟩ (fun hHeld => ?_)
  have BX := hHeld.2.2
  generalize W1.drew = X0 at *
  refine tkf 0 (some 40) ?_
  refine tkf 1 (some 41) ?_
  refine tkf 2 (some 42) ?_
  refine tkf 3 (some 43) ?_
  refine tkf 4 (some 44) ?_
  refine tkf 5 (some 45) ?_
  refine tkf 6 (some 46) ?_
  refine tkf 7 (some 47) ?_
  refine tkf 8 (some 48) ?_
  refine tkf 9 (some 49) ?_
  refine tkf 10 (some 8) ?_
  refine tkf 11 (some 9) ?_
  refine wpAnyH_done (by as_aux_lemma => kernel_rfl) ?_ _
  have e0 := small_wrap s0 hs0
  have e1 := small_wrap s1 hs1
  rw [e0, e1]
  have a1 : 10000000 ≤ 10000000 + 100000 * s0 := by omega
  have a2 : 10000000 + 100000 * s0 ≤ 40000000 := by omega
  have b1 : 10000000 ≤ 10000000 + 100000 * s1 := by omega
  have b2 : 10000000 + 100000 * s1 ≤ 40000000 := by omega
  clear e0 e1
  generalize 10000000 + 100000 * s0 = na at *
  generalize 10000000 + 100000 * s1 = nb at *
  replace B0 := belowCall B0 BX
  replace hfm := hfm.below BX
  clear hcS bS BX hHeld hs0 hs1
  have hr0 := fun W => refl_ex na nb a1 a2 b1 b2 F 0 (by decide) (fun i hi => absurd hi (Nat.not_lt_zero _)) none 0 W (films_nil W F 0)
  have hb00 := fun W h => best_ok na nb a1 a2 b1 b2 F k (by omega) hF 0 (by decide) p' c' W h
  obtain ⟨zn, zr⟩ := bestTo_zero (idx na) (idx nb) F F k
  have hbz := fun (x : Bst) (hx : bestTo (idx na) (idx nb) F k 0 = x) => hx
  rw [zn, zr] at hb00
  replace zr := Lib.hid zr
  clear zn hbz
  generalize back (idx na) (idx nb) (stackN F 0) = r0 at *
  generalize through (idx na) (idx nb) (stackN F 0) = t0 at *
  go_wp2_with fail
  refine (hr0 X0).mono ?_
  rintro e U2 ⟨C10, C11, rfl, q10, q11, hbA⟩
  replace B0 := belowCall B0 hbA
  replace hfm := hfm.below hbA
  clear hbA hr0
  go_wp2_with first | (refine wpList_put2 37 10 11 _ _ C10 C11 _ rfl rfl rfl rfl rfl rfl rfl rfl rfl rfl rfl rfl alloc_quot (by as_aux_lemma => (intro _ _; kernel_rfl)) (by as_aux_lemma => (intro _ _; kernel_rfl)) (by as_aux_lemma => (intro _ _; kernel_rfl)) (by as_aux_lemma => (intro _ _; kernel_rfl)) sizeQuot (by rw [q10.size]; rfl) (by rw [q11.size]; rfl) q10.one q11.one ?_; intro V3 B10 B11 _ _ _ hv3 x10 x11; have y10 := QB.mk x10 (q10.ext (.of_below hv3)); replace B0 := belowCall B0 hv3; replace hfm := hfm.below hv3; clear x10 x11 q10 q11 hv3)
  refine (hb00 _ hfm).mono ?_
  rintro e U4 ⟨pz, cz, D14, rfl, _, q14, hbB⟩
  replace B0 := belowCall B0 hbB
  replace hfm := hfm.below hbB
  replace y10 := y10.below hbB
  clear hbB hb00
  have d4 := q14.size
  have d1 := q14.one
  have hi4 : (Tryz.prog.info? 37).map (·.size) = some D14.size := by rw [d4]; exact sizeQuot
  go_wp2_with first | (refine wpList_new rfl 37 rfl _ alloc_quot ?_; intro V4 B14 hle14 hc14 bn14) | (refine wpList_store_box rfl 37 (.tmp 14) _ rfl B14 0 37 _ D14 D14 rfl rfl bn14 hi4 (Nat.le_of_eq (by rw [d4]; rfl)) d1 (whole_new (by rw [d4]; rfl)) ?_; intro V5 hk14 bm14; have hv5 := hk14.below hc14 hle14 hc14.size; have y14 := QB.mk bm14 ((q14.ext (.of_below hc14)).ext (hk14.ext bn14 (by decide))); replace B0 := belowCall B0 hv5; replace hfm := hfm.below hv5; replace y10 := y10.below hv5) | (refine wpList_load_midG (by as_aux_lemma => kernel_rfl) 37 (.tmp 14) rfl B14 0 (by as_aux_lemma => kernel_rfl) D14.toList _ y14.box.range Tryz.underlying37 rfl (by rw [Array.length_toList]; exact hi4) ?_) | (refine wpList_load_midG (by as_aux_lemma => kernel_rfl) 37 (.tmp 10) rfl B10 0 (by as_aux_lemma => kernel_rfl) C10.toList _ y10.box.range Tryz.underlying37 rfl (by rw [Array.length_toList, y10.qv.size]; exact sizeQuot) ?_)
  refine (vsame_true _ _ r0 r0 rfl _ y14.qv y10.qv).mono ?_
  rintro e U6 ⟨rfl, hbC⟩
  replace B0 := belowCall B0 hbC
  replace hfm := hfm.below hbC
  replace y10 := y10.below hbC
  clear hbC y14 hv5 bm14 hk14 bn14 hc14 hle14 hi4 d1 d4 q14
  have hsz6 := B0.size
  go_wp2_with first | (refine wpList_put1 37 16 _ C10 _ rfl rfl rfl rfl rfl rfl alloc_quot (by as_aux_lemma => (intro _; kernel_rfl)) (by as_aux_lemma => (intro _; kernel_rfl)) (by rw [y10.qv.size]; exact sizeQuot) (by rw [y10.qv.size]; rfl) y10.qv.one ?_; intro V7 B16 hle16 hv7 x16; have y16 := QB.mk x16 (y10.qv.ext (.of_below hv7)); replace B0 := belowCall B0 hv7; replace hfm := hfm.below hv7; clear x16 hv7) | (refine wpList_load_box rfl 37 (.tmp 10) rfl B10 (by as_aux_lemma => kernel_rfl) 37 C10 y10.box _ Tryz.underlying37 rfl (by rw [y10.qv.size]; exact sizeQuot) ?_)
  have hB16 : w.heap.size ≤ B16 := by omega
  clear y10 hle16 hsz6
  go_loopw [17] (fun a wr => ∃ (kk : Nat) (Cb : Array Value), 1 ≤ kk ∧ kk ≤ 3 ∧ a = .int .i64 (kk : Int) ∧ QB wr B16 37 Cb (bestTo (idx na) (idx nb) F k (kk - 1)).r ∧ FilmsAt wr p' k c' F ∧ Below w.heap.size w wr) (fun a _ => (3 - intOf a).toNat)
  case atStart => exact ⟨1, C10, Nat.le_refl _, by omega, rfl, by rw [show 1 - 1 = 0 from rfl, zr.out]; exact y16, hfm, B0⟩
  case round =>
    clear y16 hfm B0 zr
    obtain ⟨kk, Cb, hk1, hk3, rfl, y16, hfm, B0⟩ := hrel
    by_cases hk2 : kk ≤ 2
    · have hk2' : (kk : Int) ≤ 2 := by omega
      have hbest := fun W h => best_ok na nb a1 a2 b1 b2 F k (by omega) hF kk (by omega) p' c' W h
      obtain ⟨own, len, mem⟩ := bestTo_inv (idx na) (idx nb) F k kk
      have hmono := bestTo_le (na := idx na) (nb := idx nb) (F := F) (m := k) (show kk - 1 ≤ kk by omega)
      have hleast := fun (l : Nat) (hl : l ≤ kk) (e : Nat → Nat) he => best_least (na := idx na) (nb := idx nb) (F := F) (m := k) hl e he
      obtain ⟨prev, hprev⟩ : ∃ x, (bestTo (idx na) (idx nb) F k (kk - 1)).r = x := ⟨_, rfl⟩
      rw [hprev] at y16 hmono
      obtain ⟨bb, hbb⟩ : ∃ x, bestTo (idx na) (idx nb) F k kk = x := ⟨_, rfl⟩
      rw [hbb] at hbest own len mem hmono hleast
      replace hbb := Lib.hid hbb
      clear hprev
      obtain ⟨br, bt, bn, bG⟩ := bb
      dsimp only at hbest own len mem hmono hleast
      have hGok : ∀ i, i < bn → (bG i).ok := fun i hi => by obtain ⟨j, hj, e⟩ := mem i hi; rw [e]; exact hF j hj
      go_wp2_with fail
      refine (hbest wr hfm).mono ?_
      rintro e U1 ⟨pl, cl, D19, rfl, hfl, q19, hb1⟩
      replace B0 := belowCall B0 hb1
      replace hfm := hfm.below hb1
      replace y16 := y16.below hb1
      clear hb1 hbest
      have hl16 := y16.box.lt
      have d4 := q19.size
      have d1 := q19.one
      have hi4 : (Tryz.prog.info? 37).map (·.size) = some D19.size := by rw [d4]; exact sizeQuot
      go_wp2_with first | (refine wpList_new rfl 37 rfl _ alloc_quot ?_; intro V4 B19 hle19 hc19 bn19) | (refine wpList_store_box rfl 37 (.tmp 19) _ rfl B19 0 37 _ D19 D19 rfl rfl bn19 hi4 (Nat.le_of_eq (by rw [d4]; rfl)) d1 (whole_new (by rw [d4]; rfl)) ?_; intro V5 hk19 bm19; have hv5 := hk19.below hc19 hle19 hc19.size; have y19 := QB.mk bm19 ((q19.ext (.of_below hc19)).ext (hk19.ext bn19 (by decide))); replace B0 := belowCall B0 hv5; replace hfm := hfm.below hv5; replace hfl := hfl.below hv5; replace y16 := y16.below hv5)
      have hlo19 : B19 ≠ B16 := by omega
      clear hv5 bm19 hk19 bn19 hc19 q19
      have hown := fun W h => refl_ex na nb a1 a2 b1 b2 bG bn (by omega) hGok pl cl W h
      rw [← own] at hown
      refine (hown _ hfl).mono ?_
      rintro e U6 ⟨C21, C22, rfl, q21, q22, hb2⟩
      replace B0 := belowCall B0 hb2
      replace hfm := hfm.below hb2
      replace hfl := hfl.below hb2
      replace y16 := y16.below hb2
      replace y19 := y19.below hb2
      clear hb2 hown
      go_wp2_with first | (refine wpList_load_box rfl 37 (.tmp 19) rfl B19 (by as_aux_lemma => kernel_rfl) 37 D19 y19.box _ Tryz.underlying37 rfl hi4 ?_) | (refine wpList_load_box rfl 37 (.tmp 16) rfl B16 (by as_aux_lemma => kernel_rfl) 37 Cb y16.box _ Tryz.underlying37 rfl (by rw [y16.qv.size]; exact sizeQuot) ?_) | (refine wpList_put2 37 21 22 _ _ C21 C22 _ rfl rfl rfl rfl rfl rfl rfl rfl rfl rfl rfl rfl alloc_quot (by as_aux_lemma => (intro _ _; kernel_rfl)) (by as_aux_lemma => (intro _ _; kernel_rfl)) (by as_aux_lemma => (intro _ _; kernel_rfl)) (by as_aux_lemma => (intro _ _; kernel_rfl)) sizeQuot (by rw [q21.size]; rfl) (by rw [q22.size]; rfl) q21.one q22.one ?_; intro V7 B21 B22 _ _ _ hv7 x21 x22; have y21 := QB.mk x21 (q21.ext (.of_below hv7)); replace B0 := belowCall B0 hv7; replace hfm := hfm.below hv7; replace hfl := hfl.below hv7; replace y16 := y16.below hv7; replace y19 := y19.below hv7; clear x21 x22 q21 q22 hv7)
      have hz := cmpQ_npos hmono
      refine (qcmp_ok br prev D19 Cb _ y19.qv y16.qv).mono ?_
      rintro e U8 ⟨rfl, hb3⟩
      generalize cmpQ br prev = z at *
      replace B0 := belowCall B0 hb3
      replace hfm := hfm.below hb3
      replace hfl := hfl.below hb3
      replace y16 := y16.below hb3
      replace y19 := y19.below hb3
      replace y21 := y21.below hb3
      clear hb3
      have hbnk : (bn : Int) ≤ kk := by omega
      have hbnk' : ¬ (kk : Int) < bn := by omega
      have hbnk3 : ¬ kk < bn := by omega
      have hbnk4 : decide (kk < bn) = false := decide_eq_false hbnk3
      go_wp2_with first | (refine wpList_load_midG (by rfl) 37 (.tmp 19) rfl B19 0 rfl D19.toList _ y19.box.range Tryz.underlying37 rfl (by rw [Array.length_toList]; exact hi4) ?_) | (refine wpList_load_midG (by rfl) 37 (.tmp 21) rfl B21 0 rfl C21.toList _ y21.box.range Tryz.underlying37 rfl (by rw [Array.length_toList, y21.qv.size]; exact sizeQuot) ?_)
      refine (vsame_true _ _ br br rfl _ y19.qv y21.qv).mono ?_
      rintro e U9 ⟨rfl, hb4⟩
      replace B0 := belowCall B0 hb4
      replace hfm := hfm.below hb4
      replace hfl := hfl.below hb4
      replace y16 := y16.below hb4
      replace y19 := y19.below hb4
      replace y21 := y21.below hb4
      clear hb4
      clear y21
      obtain ⟨hmc, hmx, hqx⟩ := hq
      have nfm := hfm.neq y16
      have nfl := hfl.neq y16
      obtain ⟨L, hL⟩ : ∃ L, min m kk = L := ⟨_, rfl⟩
      have hLm : L ≤ m := by omega
      have hLk : L ≤ kk := by omega
      have hLc : (L : Int) ≤ c2 := by omega
      have hLc2 : L ≤ c2 := by omega
      replace hL := Lib.hid hL
      go_wp2_with first | (refine wpList_load_box rfl 37 (.tmp 19) rfl B19 (by as_aux_lemma => kernel_rfl) 37 D19 y19.box _ Tryz.underlying37 rfl hi4 ?_) | (refine wpList_store_box rfl 37 (.tmp 16) _ rfl B16 0 37 _ D19 D19 rfl rfl y16.box hi4 (Nat.le_of_eq (by rw [d4, y16.qv.size])) d1 (whole_new (by rw [d4, y16.qv.size])) ?_; intro V10 hk10 b16) | (refine wpList_min2 rfl _ _ _ rfl m kk L rfl rfl hL.out ?_)
      replace hfm := hfm.keepN hk10 nfm
      replace hfl := hfl.keepN hk10 nfl
      have e10 := hk10.ext y16.box (by decide)
      have z19 := QB.mk (hk10.box y19.box y19.box.lt hlo19) (y19.qv.ext e10)
      have z16 := QB.mk b16 (y19.qv.ext e10)
      replace B0 := hk10.below B0 hB16 B0.size
      clear y16 y19 nfm nfl e10 hk10 b16 hlo19 hl16 hmono
      obtain ⟨e, he⟩ : ∃ e : Nat → Nat, e = fun i => (O i).toNat % k := ⟨_, rfl⟩
      have hee : ∀ i, e i = (O i).toNat % k := fun i => by rw [he]
      replace hee := Lib.hid hee
      clear he
      have hek : 0 < k → ∀ i, e i < k := fun hk i => by rw [hee.out]; exact Nat.mod_lt _ hk
      obtain ⟨J, hJ⟩ : ∃ J : Nat → Nat, J = fun j => if k = 0 then 0 else j := ⟨_, rfl⟩
      have hJ0 : k = 0 → ∀ j, J j = 0 := fun h j => by rw [hJ]; exact if_pos h
      have hJ1 : 0 < k → ∀ j, J j = j := fun h j => by rw [hJ]; exact if_neg (by omega)
      have hJL : ∀ j, J j ≤ j := fun j => by by_cases h : k = 0 <;> simp [hJ, h]
      replace hJ0 := Lib.hid hJ0
      replace hJ1 := Lib.hid hJ1
      clear hJ
      go_loopw [26, 28, 144] (fun v x i wr2 => ∃ j : Nat, j ≤ L ∧ i = .int .i64 (j : Int) ∧ wr2.ownsRow V10.heap.size 24 3 v (J j) (frow (fun i => F (e i)) (J j)) ∧ Below V10.heap.size V10 wr2) (fun _ _ i _ => (L - intOf i).toNat)
      case atStart =>
        have e0 : J 0 = 0 := Nat.le_zero.1 (hJL 0)
        exact ⟨0, Nat.zero_le _, rfl, by rw [e0]; exact World.ownsRow_nil _ _ _ _, Below.refl _ _⟩
      case round =>
        obtain ⟨j, hj, rfl, hoth, hBr⟩ := hrel
        obtain ⟨po, co, rfl⟩ := ownsRow_slice hoth
        by_cases hjL : j < L
        · have hjL' : (j : Int) < L := by omega
          obtain ⟨b, off, rfl, hb, hcell⟩ := hqx (by omega)
          have hw2 := belowCall B0 hBr
          have ao := (hw2.cell (p := ⟨b, off + j, none⟩) hb).trans (by have := hcell j 0 (by omega) (by decide); simpa using this)
          obtain ⟨o0, o9⟩ := hO j (by omega)
          have hej := hee.out j
          generalize O j = oj at *
          clear hcell
          by_cases hk0 : 0 < k
          · have hk0' : (0 : Int) < k := by omega
            have hfr := hfm.below hBr
            obtain ⟨b', off', rfl, hb', hc'⟩ := hfr.2.2 hk0
            have hek' := hek hk0 j
            have hrem : oj.tmod k = ((e j : Nat) : Int) := by rw [hej, Int.tmod_eq_emod_of_nonneg o0, Int.natCast_emod, Int.toNat_of_nonneg o0]
            have hejk : ((e j : Nat) : Int) < k := by omega
            have hJj := hJ1.out hk0 j
            rw [hJj] at hoth
            obtain ⟨x0, x1, x2, hv⟩ : ∃ x0 x1 x2 : Int, F (e j) = ⟨x0, x1, x2⟩ := ⟨_, _, _, rfl⟩
            have hrg : wr.rangeAt b' (off' + e j * 3) (Flm.mk x0 x1 x2).vals.toList := by
              intro i u hi
              have hi3 : i < 3 := (List.getElem?_eq_some_iff.1 hi).1
              have h0 : wr.cell? ⟨b', off' + e j * 3 + i, none⟩ = some ((Flm.mk x0 x1 x2).vals.getD i undef) := by rw [← hv]; exact hc' (e j) i hek' hi3
              rw [h0]
              rcases (by omega : i = 0 ∨ i = 1 ∨ i = 2) with rfl | rfl | rfl <;> exact hi
            have hsl : (Tryz.prog.info? 24).map (·.size) = some (Flm.mk x0 x1 x2).vals.toList.length := by kernel_rfl
            obtain ⟨ti, hti1, htz, hts, htb⟩ := info_parts infoFilm
            have hwr := hBr.size
            have hb2 : Below wr.heap.size wr (wr.alloc (.cells #[.int .i64 x0, .int .i64 x1, .int .i64 x2] 24)) := belowAlloc (Below.refl _ _) _
            have hown2 := ownsRow_below hoth hb2
            have hB2 := belowCall hBr hb2
            have hcn := new_cells wr #[.int .i64 x0, .int .i64 x1, .int .i64 x2] 24
            have hvl : (Flm.mk x0 x1 x2).vals = #[.int .i64 x0, .int .i64 x1, .int .i64 x2] := rfl
            rw [hvl] at hrg hsl
            replace hv := Lib.hid hv
            replace hej := Lib.hid hej
            clear hvl hc' hfr
            generalize hge : e j = ej at *
            replace hge := Lib.hid hge
            go_wp2_with first | (refine wpList_load_mid rfl 24 (.tmp 158) rfl b' (off' + ej * 3) (by as_aux_lemma => kernel_rfl) [.int .i64 x0, .int .i64 x1, .int .i64 x2] _ hrg Tryz.underlying24 rfl hsl ?_) | (at_builtin; (refine wpList_append_own _ rfl _ _ 27 rfl V10.heap.size 24 ti _ 3 24 Tryz.underlying27 hti1 htz hts htb rfl (by decide) _ _ _ rfl hown2 ⟨wr.heap.size, 0, none⟩ 1 1 [.int .i64 x0, .int .i64 x1, .int .i64 x2] rfl rfl hcn (by simp [Value.oneCell']) (by simp [maxLen]; omega) (by omega) hB2.size ?_); intro v' W3 hown3 hgrow _)
            have hB3 := Below.appended hown2 hgrow hB2 (Nat.le_refl _)
            go_roundw
            case rel =>
              refine ⟨j + 1, by omega, by simp, ?_, hB3⟩
              rw [hJ1.out hk0, frow, hge.out, hv.out]
              exact hown3
            case measure => simp [intOf]; omega
          · obtain rfl : k = 0 := by omega
            go_wp2_with fail
            go_roundw
            case rel =>
              refine ⟨j + 1, by omega, by simp, ?_, hBr⟩
              rw [hJ0.out rfl j] at hoth
              rw [hJ0.out rfl (j + 1), hJ0.out rfl j]
              exact hoth
            case measure => simp [intOf]; omega
        · obtain rfl : j = L := by omega
          have hJl := hJL j
          have hot := ownsRow_films hoth (by omega)
          have hoe : ∀ i, i < J j → e i < k := fun i hi => by
            by_cases hk0 : 0 < k
            · exact hek hk0 i
            · have := hJ0.out (by omega) j
              omega
          have hle2 := hleast (J j) (by omega) e hoe
          have hother := fun W h => refl_ex na nb a1 a2 b1 b2 (fun i => F (e i)) (J j) (by omega) (fun i hi => hF _ (hoe i hi)) po co W h
          generalize back (idx na) (idx nb) (stackN (fun i => F (e i)) (J j)) = q2 at *
          generalize through (idx na) (idx nb) (stackN (fun i => F (e i)) (J j)) = t2 at *
          replace B0 := belowCall B0 hBr
          replace hfm := hfm.below hBr
          replace hfl := hfl.below hBr
          replace z19 := z19.below hBr
          replace z16 := z16.below hBr
          clear hqx hoth hBr hleast
          generalize J j = nj at *
          go_wp2_with fail
          refine (hother wr hot).mono ?_
          rintro e9 U1 ⟨C29, C30, rfl, q29, q30, hb5⟩
          replace B0 := belowCall B0 hb5
          replace hfm := hfm.below hb5
          replace hfl := hfl.below hb5
          replace z19 := z19.below hb5
          replace z16 := z16.below hb5
          clear hb5 hother hot
          go_wp2_with first | (refine wpList_load_box rfl 37 (.tmp 19) rfl B19 (by as_aux_lemma => kernel_rfl) 37 D19 z19.box _ Tryz.underlying37 rfl hi4 ?_) | (refine wpList_load_box rfl 37 (.tmp 29) rfl B29 (by as_aux_lemma => kernel_rfl) 37 C29 y29.box _ Tryz.underlying37 rfl (by rw [y29.qv.size]; exact sizeQuot) ?_) | (refine wpList_put2 37 29 30 _ _ C29 C30 _ rfl rfl rfl rfl rfl rfl rfl rfl rfl rfl rfl rfl alloc_quot (by as_aux_lemma => (intro _ _; kernel_rfl)) (by as_aux_lemma => (intro _ _; kernel_rfl)) (by as_aux_lemma => (intro _ _; kernel_rfl)) (by as_aux_lemma => (intro _ _; kernel_rfl)) sizeQuot (by rw [q29.size]; rfl) (by rw [q30.size]; rfl) q29.one q30.one ?_; intro V7 B29 B30 _ _ _ hv7 x29 x30; have y29 := QB.mk x29 (q29.ext (.of_below hv7)); replace B0 := belowCall B0 hv7; replace hfm := hfm.below hv7; replace hfl := hfl.below hv7; replace z19 := z19.below hv7; replace z16 := z16.below hv7; clear x29 x30 q29 q30 hv7)
          refine (qcmp_ok br q2 D19 C29 _ z19.qv y29.qv).mono ?_
          rintro e9 U2 ⟨rfl, hb6⟩
          have hz2 := cmpQ_npos hle2
          generalize cmpQ br q2 = z2 at *
          replace B0 := belowCall B0 hb6
          replace hfm := hfm.below hb6
          replace hfl := hfl.below hb6
          replace z16 := z16.below hb6
          clear hb6 y29 z19 hle2
          go_wp2_with fail
          go_loopw [35, 189] (fun u v wr4 => ∃ i : Nat, i ≤ bn ∧ v = .int .i64 (i : Int) ∧ Below U2.heap.size U2 wr4) (fun _ v _ => (bn - intOf v).toNat)
          case atStart => exact ⟨0, Nat.zero_le _, rfl, Below.refl _ _⟩
          case round =>
            obtain ⟨i, hi, rfl, hBr⟩ := hrel
            replace B0 := belowCall B0 hBr
            replace hfm := hfm.below hBr
            replace hfl := hfl.below hBr
            replace z16 := z16.below hBr
            by_cases hin : i < bn
            · have hin' : (i : Int) < bn := by omega
              obtain ⟨b2', off2, rfl, hb2', hc2⟩ := hfl.2.2 (by omega)
              have hcont := fun W hW => contF_ok p' k c' F (bG i) W (hfm.below hW) (mem i hin)
              obtain ⟨x0, x1, x2, hv⟩ : ∃ x0 x1 x2 : Int, bG i = ⟨x0, x1, x2⟩ := ⟨_, _, _, rfl⟩
              have hrg : wr.rangeAt b2' (off2 + i * 3) (Flm.mk x0 x1 x2).vals.toList := by
                intro u y hy
                have hu3 : u < 3 := (List.getElem?_eq_some_iff.1 hy).1
                have h0 : wr.cell? ⟨b2', off2 + i * 3 + u, none⟩ = some ((Flm.mk x0 x1 x2).vals.getD u undef) := by rw [← hv]; exact hc2 i u hin hu3
                rw [h0]
                rcases (by omega : u = 0 ∨ u = 1 ∨ u = 2) with rfl | rfl | rfl <;> exact hy
              have hsl : (Tryz.prog.info? 24).map (·.size) = some (Flm.mk x0 x1 x2).vals.toList.length := by kernel_rfl
              have hvl : (Flm.mk x0 x1 x2).vals = #[.int .i64 x0, .int .i64 x1, .int .i64 x2] := rfl
              rw [hv, hvl] at hcont
              rw [hvl] at hrg hsl
              have hif3 : (Tryz.prog.info? 24).map (·.size) = some 3 := by kernel_rfl
              have h3o : (#[.int .i64 x0, .int .i64 x1, .int .i64 x2] : Array Value).all (·.oneCell') = true := by simp [Value.oneCell']
              clear hc2 hvl hv
              go_wp2_with first | (refine wpList_load_mid rfl 24 (.tmp 191) rfl b2' (off2 + i * 3) (by as_aux_lemma => kernel_rfl) [.int .i64 x0, .int .i64 x1, .int .i64 x2] _ hrg Tryz.underlying24 rfl hsl ?_) | (refine wpList_load_box rfl 24 (.tmp 35) rfl B35 (by as_aux_lemma => kernel_rfl) 24 #[.int .i64 x0, .int .i64 x1, .int .i64 x2] x35 _ Tryz.underlying24 rfl hif3 ?_) | (refine wpList_put1 24 35 _ #[.int .i64 x0, .int .i64 x1, .int .i64 x2] _ rfl rfl rfl rfl rfl rfl alloc_film (by as_aux_lemma => (intro _; kernel_rfl)) (by as_aux_lemma => (intro _; kernel_rfl)) hif3 rfl h3o ?_; intro V8 B35 _ hv8 x35)
              refine (hcont _ hv8).mono ?_
              rintro e9 U4 ⟨rfl, hb7⟩
              have hB9 := belowCall (belowCall hBr hv8) hb7
              clear hcont hv8 hb7 x35
              go_wp2_with fail
              go_roundw
              case rel => exact ⟨i + 1, by omega, by simp, hB9⟩
              case measure => simp [intOf]; omega
            · obtain rfl : i = bn := by omega
              clear hi hin
              go_wp2_with fail
              go_roundw
              case rel => exact ⟨kk + 1, D19, by omega, by omega, by simp, by rw [show kk + 1 - 1 = kk from by omega, hbb.out]; exact z16, hfm, B0⟩
              case measure => simp [intOf]; omega
    · go_wp2
      go_ret
      exact ⟨rfl, B0⟩
end Go.Proofs.YtdgodcgdlfjpaaaGreatDoor
