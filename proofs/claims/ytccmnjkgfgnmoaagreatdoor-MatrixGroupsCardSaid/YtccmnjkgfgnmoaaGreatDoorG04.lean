/- MatrixGroups: products of drafted matrices whose fractions are letters, walked by the evaluator. Part 4 of 6. No condition beside the row. -/
import Derived.Test.YtccmnjkgfgnmoaaGreatDoorA13
import Derived.Test.YtccmnjkgfgnmoaaGreatDoorA27
import Derived.Test.YtccmnjkgfgnmoaaGreatDoorG02
import Derived.Test.YtccmnjkgfgnmoaaGreatDoorG03
set_option linter.unusedVariables false
set_option linter.unusedSimpArgs false
set_option maxRecDepth 100000
set_option maxHeartbeats 4000000
namespace Go.Mono
open Go.RowKit
theorem floor_parts (x : Int) : (x.tmod 1000000000 < 0 → x.tmod 1000000000 + 1000000000 = x % 1000000000 ∧ x.tdiv 1000000000 - 1 = x / 1000000000) ∧ (¬ x.tmod 1000000000 < 0 → x.tmod 1000000000 = x % 1000000000 ∧ x.tdiv 1000000000 = x / 1000000000) := by
 by_cases h : 0 ≤ x
 ·rw [Int.tmod_eq_emod_of_nonneg h, Int.tdiv_eq_ediv_of_nonneg h]
  omega
 ·obtain ⟨y, rfl⟩ : ∃ y, x = -y := ⟨-x, by omega⟩
  rw [Int.neg_tmod, Int.neg_tdiv, Int.tmod_eq_emod_of_nonneg (by omega), Int.tdiv_eq_ediv_of_nonneg (by omega)]
  omega
structure TInv (w0 wr : World) (base G n : Nat) (f : Nat → Int) : Prop where
 row : RowF wr G n f
 lo : base ≤ G
 low : w0.heap.size ≤ base
 below : Below w0.heap.size w0 wr
 size : base ≤ wr.heap.size
theorem TInv.set {w0 wr : World} {base G n : Nat} {f : Nat → Int} (h : TInv w0 wr base G n f) (j : Nat) (x : Int) : TInv w0 (wr.setCell ⟨G, j, none⟩ (.int .i64 x)) base G n (fun i => if i = j then x else f i) :=
 ⟨h.row.set j x, h.lo, h.low, belowSet h.below (Nat.le_trans h.low h.lo) _ _, by simp only [World.size_setCell]; exact h.size⟩
theorem TInv.drew {w0 wr : World} {base G n : Nat} {f : Nat → Int} (h : TInv w0 wr base G n f) : TInv w0 wr.drew base G n f := ⟨h.row.drewN 1, h.lo, h.low, h.below.drew, h.size⟩
theorem TInv.congr {w0 wr : World} {base G n : Nat} {f f' : Nat → Int} (h : TInv w0 wr base G n f) (he : ∀ i, i < n → f i = f' i) : TInv w0 wr base G n f' := ⟨h.row.congr he, h.lo, h.low, h.below, h.size⟩
end Go.Mono
namespace Go.Proofs.YtccmnjkgfgnmoaaGreatDoor
open Go.RowKit Go.Mono
theorem r3taken_ok (base : Nat) (v : Value) (n : Nat) (f : Nat → Int) (q : Option Addr) (m c2 : Nat) (g : Nat → Int) (w0 w : World) (ho : OwnF w base v n f) (hlow : w0.heap.size ≤ base) (hbase : base ≤ w.heap.size) (hB0 : Below w0.heap.size w0 w) (h2 : SlF w0 (.slice q (m + 1) c2) (m + 1) g) (d1 : Digs f n) (d2 : Digs g (m + 1)) (hm6 : m ≤ 100000) (hlt : vf f n < vf g (m + 1) * 1000000000) :
  Calls Tryz.prog 323 #[v, .slice q (m + 1) c2] w fun e w' => ∃ v' n' f' k, e = .returned (.tuple #[v', .int .i64 k]) ∧ OwnF w' base v' n' f' ∧ Digs f' n' ∧ vf f' n' = vf f n % vf g (m + 1) ∧ k = vf f n / vf g (m + 1) ∧ Below w0.heap.size w0 w' ∧ base ≤ w'.heap.size := by
 obtain ⟨hc2, hn2, hx2⟩ := h2.opens
 have hB1 : 0 < vf g (m + 1) := d2.pos.2 (by omega)
 obtain ⟨BB, hBB⟩ : ∃ BB, vf g (m + 1) = BB := ⟨_, rfl⟩
 obtain ⟨RR, hRR⟩ : ∃ RR, vf f n = RR := ⟨_, rfl⟩
 rw [hBB, hRR]
 rw [hBB, hRR] at hlt
 rw [hBB] at hB1
 replace hBB := Lib.hid hBB
 go_enter Tryz.func323, Tryz.ntmps323
 go_wp2
 go_loopw [0, 6] (fun a b wr => ∃ (n : Nat) (f : Nat → Int) (k : Int), OwnF wr base a n f ∧ b = .int .i64 k ∧ Digs f n ∧ vf f n + k * BB = RR ∧ 0 ≤ k ∧ Below w0.heap.size w0 wr ∧ base ≤ wr.heap.size) (fun _ b _ => (1000000000 - intOf b).toNat)
 case atStart => exact ⟨n, f, 0, ho, rfl, d1, by rw [hRR]; simp, Int.le_refl _, hB0, hbase⟩
 case round =>
  clear ho d1 hRR hB0 hbase f n v
  obtain ⟨n, f, k, ho, rfl, d1, hv, hk0, hB0, hbase⟩ := hrel
  obtain ⟨p, c, rfl⟩ := ho.shape
  have hf0 := d1.nonneg
  have hk1 : k * BB < 1000000000 * BB := by rw [Int.mul_comm 1000000000]; omega
  have hk9 : k < 1000000000 := Int.lt_of_mul_lt_mul_right hk1 (by omega)
  have hnm : n ≤ m + 2 := by
   by_cases hn : n ≤ m + 2
   ·exact hn
   ·have h3 := d1.ge (by omega)
    have h4 := pw_mono (show m + 2 ≤ n - 1 by omega)
    have h5 := d2.lt
    have h6 : pw (m + 2) = pw (m + 1) * 1000000000 := rfl
    have h7 := Int.mul_nonneg hk0 (Int.le_of_lt hB1)
    rw [hBB.out] at h5
    omega
  have hsl := ho.sl (by omega)
  have hless := fun (W : World) (hW : Ext wr W) => r3less_ok p q n (m + 1) c c2 f g W (hsl.ext hW) ((h2.ext (.of_below hB0)).ext hW) d1 d2
  rw [hBB.out] at hless
  by_cases hge : BB ≤ vf f n
  ·rw [decide_eq_false (by omega)] at hless
   have hnm1 : m + 1 ≤ n := d2.len_le d1 (by rw [hBB.out]; exact hge)
   have hmn : m < n := by omega
   have hmul := Int.mul_nonneg hk0 (Int.le_of_lt hB1)
   obtain ⟨tk0, tk1⟩ := tak_some d1.lo d2 (by rw [hBB.out]; exact hge) hnm hmn
   have tk2 := tak_bound d1.lo d2 (by rw [hBB.out]; omega) hnm hmn
   have f0 := d1.lo m hmn
   have f9 := d1.hi m hmn
   have g0 := d2.lo m (by omega)
   have g9 := d2.hi m (by omega)
   have x0 := xt_lo d1.lo (m + 1)
   have x9 := xt_hi d1.hi (m + 1)
   rw [hBB.out] at tk1
   obtain ⟨b', off', rfl, hb', hcell'⟩ := hx2 (by omega)
   have a2 := (hB0.cell (p := ⟨b', off' + m, none⟩) hb').trans (hcell' m (by omega))
   obtain ⟨G, cap, hp1, hGb, hcap, hrow⟩ : ∃ g cap, Value.slice p n c = .slice (some ⟨g, 0, none⟩) n cap ∧ base ≤ g ∧ n ≤ cap ∧ RowF wr g n f := by
    rcases ho.open with ⟨_, h0⟩ | h
    ·omega
    ·exact h
   obtain ⟨rfl, rfl⟩ : p = some ⟨G, 0, none⟩ ∧ c = cap := by simpa using hp1
   have a1 := hrow.cell m hmn
   have hgl := hrow.lt
   have hTI : TInv w0 wr base G n f := ⟨hrow, hGb, hlow, hB0, hbase⟩
   have hat1 := fun (W : World) (hW : Ext wr W) => r3at_ok (some ⟨G, 0, none⟩) n c (m + 1) f W (hsl.ext hW)
   have hm1' : (m : Int) < n := by omega
   have hm2' : (m : Int) < m + 1 := by omega
   clear hcell' hp1 ho hsl
   go_wp2_with fail
   refine (hless wr (Ext.refl _)).mono ?_
   rintro e W1 ⟨rfl, kl, rfl⟩
   replace hTI : TInv w0 (wr.drewN kl) base G n f := ⟨hrow.drewN kl, hGb, hlow, below_drewN hB0 _, hbase⟩
   have hx1 : Ext wr (wr.drewN kl) := .of_below (below_drewN (Below.refl _ _) kl)
   replace a1 : (wr.drewN kl).cell? ⟨G, m, none⟩ = some (.int .i64 (f m)) := a1
   replace a2 : (wr.drewN kl).cell? ⟨b', off' + m, none⟩ = some (.int .i64 (g m)) := a2
   clear hless hrow hB0 hbase hgl
   generalize wr.drewN kl = V at *
   go_wp2
   refine wp_region_held_drew (S := fun w' => w'.cell? ⟨G, m, none⟩ = some (.int .i64 (f m)) ∧ w'.cell? ⟨b', off' + m, none⟩ = some (.int .i64 (g m)) ∧ Ext wr w') (by as_aux_lemma => kernel_rfl) ⟨a1, a2, hx1.drew⟩ (fun hHeld => ?_)
   have hTX := hTI.drew
   generalize V.drew = X0 at *
   refine tk 0 (some 19) ?_
   refine tk 1 (some 20) ?_
   refine tk 2 (some 21) ?_
   refine tk 5 (some 24) ?_
   refine tk 6 (some 25) ?_
   refine tk 7 (some 26) ?_
   refine tk 8 (some 27) ?_
   refine tk 10 (some 29) ?_
   refine tk 11 (some 30) ?_
   refine tk 12 (some 31) ?_
   refine tk 13 (some 32) ?_
   refine tk 14 (some 33) ?_
   rw [show IntKind.i64.wrap ((m : Int) + 1) = ((m + 1 : Nat) : Int) from by rw [wrapId (by omega) (by omega)]; rfl, wrapId (z := g m + 1) (by omega) (by omega)]
   refine Mono.stc 3 (some 22) (hat1 X0 hHeld.2.2) (fun e X1 hR => ?_)
   obtain ⟨rfl, rfl⟩ := hR
   refine ⟨(hHeld), fun hHeld => Mono.pt ?_⟩
   generalize xt f n (m + 1) = x at *
   generalize f m = y at *
   generalize g m = t at *
   refine tk 4 (some 23) ?_
   refine tk 9 (some 28) ?_
   rw [wrapId (z := x * 1000000000) (by omega) (by omega), wrapId (z := x * 1000000000 + y) (by omega) (by omega)]
   have ht0 : (t + 1 == 0) = false := by simp; omega
   have ht1 : t + 1 ≠ 0 := by omega
   refine tk 15 (some 34) ?_
   have hH : 0 ≤ x * 1000000000 + y := by omega
   rw [Int.tdiv_eq_ediv_of_nonneg hH, wrapId (z := (x * 1000000000 + y) / (t + 1)) (by omega) (by omega)]
   generalize (x * 1000000000 + y) / (t + 1) = kk at *
   refine tk 16 (some 8) ?_
   refine wpAnyH_done (by as_aux_lemma => kernel_rfl) ?_ _
   clear hHeld hat1 hTI a1 a2 hx1 ht0 ht1 hH x0 x9 f0 f9 g0 g9
   obtain ⟨K, hK, hK1, hK9, hKB⟩ : ∃ K : Int, (K = if kk = 0 then 1 else kk) ∧ 1 ≤ K ∧ K < 1000000000 ∧ K * BB ≤ vf f n := by
    by_cases h : kk = 0
    ·exact ⟨1, by rw [if_pos h], by omega, by omega, by omega⟩
    ·exact ⟨kk, by rw [if_neg h], by omega, by omega, tk1⟩
   replace hK := Lib.hid hK
   replace hKB := Lib.hid hKB
   have hkK : (k + K) * BB ≤ RR := by
    have := hKB.out
    rw [Int.add_mul]; omega
   have hkK9 : k + K < 1000000000 := Int.lt_of_mul_lt_mul_right (a := BB) (by rw [Int.mul_comm 1000000000]; omega) (by omega)
   by_cases hkz : kk = 0
   ·subst hkz
    have hKv := hK.out
    rw [if_pos rfl] at hKv
    obtain rfl : K = 1 := hKv
    clear hK
    go_wp2
    go_loopw [9, 10] (fun a b wr => ∃ (i : Nat) (c : Int) (h : Nat → Int), i ≤ n ∧ a = .int .i64 c ∧ b = .int .i64 (i : Int) ∧ TakI f (xt g (m + 1)) 1 i h c ∧ TInv w0 wr base G n (fun j => if j < i then h j else f j)) (fun _ b _ => (n - intOf b).toNat)
    case atStart => exact ⟨0, 0, fun _ => 0, Nat.zero_le _, rfl, rfl, TakI.start _ _ _ _, hTX.congr fun j _ => by rw [if_neg (by omega)]⟩
    case round =>
     clear hTX hHeld
     obtain ⟨i, c', h, hi, rfl, rfl, hT, hTI⟩ := hrel
     have hrow := hTI.row
     by_cases hin : i < n
     ·have hin' : (i : Int) < n := by omega
      have x0 := d1.lo i hin
      have x9 := d1.hi i hin
      have y0 := xt_lo d2.lo i
      have y9 := xt_hi d2.hi i
      have hnx := hT.next x0 x9 y0 y9 (by omega) hK9
      obtain ⟨q0, q9⟩ := mul_dig y0 y9 (show 0 ≤ 1 by omega) hK9
      have r0 := hT.c0
      have r9 := hT.c1
      have a1 := hrow.cell i hin
      rw [if_neg (Nat.lt_irrefl i)] at a1
      have hat2 := fun (W : World) (hW : Below w0.heap.size w0 W) => r3at_ok (some ⟨b', off', none⟩) (m + 1) c2 i g W (h2.ext (.of_below hW))
      go_wp2
      refine wp_region_held_drew (S := fun w' => w'.cell? ⟨G, i, none⟩ = some (.int .i64 (f i)) ∧ Below w0.heap.size w0 w') (by as_aux_lemma => kernel_rfl) ⟨a1, hTI.below.drew⟩ (fun hHeld => ?_)
      have hTX := hTI.drew
      generalize wr.drew = X0 at *
      refine tk 0 (some 46) ?_
      refine tk 1 (some 47) ?_
      refine tk 2 (some 48) ?_
      refine tk 3 (some 49) ?_
      refine tk 4 (some 50) ?_
      refine tk 5 (some 51) ?_
      refine tk 7 (some 53) ?_
      refine tk 10 (some 56) ?_
      refine Mono.stc 6 (some 52) (hat2 X0 hHeld.2) (fun e X1 hR => ?_)
      obtain ⟨rfl, rfl⟩ := hR
      refine ⟨(hHeld), fun hHeld => Mono.pt ?_⟩
      generalize xt g (m + 1) i = y at *
      generalize hfi : f i = x at *
      refine tk 8 (some 54) ?_
      refine tk 9 (some 55) ?_
      refine tk 11 (some 57) ?_
      refine tk 12 (some 11) ?_
      rw [wrapId (z := y) (by omega) (by omega), wrapId (z := x - y) (by omega) (by omega), wrapId (z := x - y + c') (by omega) (by omega)]
      rw [Int.mul_one] at hnx
      refine wpAnyH_done (by as_aux_lemma => kernel_rfl) ?_ _
      have hHB := hHeld.2
      have e1 : -2000000000000000000 ≤ x - y + c' := by omega
      have e2 : x - y + c' ≤ 1000000000 := by omega
      clear hHeld hat2 q0 q9 hT hTI a1 hrow
      generalize x - y + c' = e at *
      obtain ⟨p1, p2⟩ := floor_parts e
      have hmm : (e.tmod 1000000000).natAbs < 1000000000 := by rw [Int.natAbs_tmod]; exact Nat.mod_lt _ (by decide)
      have t1 : -1000000000 < e.tmod 1000000000 := by omega
      have t2 : e.tmod 1000000000 < 1000000000 := by omega
      have hw : wrap64 (e.tdiv 1000000000) = e.tdiv 1000000000 := by
       have := Int.natAbs_tdiv e 1000000000
       unfold wrap64; omega
      have a3 := hTX.row.cell i hin
      have a4 := hTX.row.frozen i
      have hst := hTX.set i (e % 1000000000)
      replace p1 := Lib.hid p1
      replace p2 := Lib.hid p2
      by_cases hneg : e.tmod 1000000000 < 0
      ·obtain ⟨z1, z2⟩ := p1.out hneg
       go_wp2
       go_roundw
       case rel =>
        refine ⟨i + 1, e / 1000000000, _, by omega, by first | rfl | rw [z2], by simp, hnx, ?_⟩
        try rw [z1]
        exact hst.congr fun j hj => by
         by_cases hji : j = i
         ·subst hji; simp
         ·simp only [if_neg hji]
          by_cases hlt : j < i
          ·rw [if_pos hlt, if_pos (by omega)]
          ·rw [if_neg hlt, if_neg (by omega)]
       case measure => simp [intOf]; omega
      ·obtain ⟨z1, z2⟩ := p2.out hneg
       go_wp2
       go_roundw
       case rel =>
        refine ⟨i + 1, e / 1000000000, _, by omega, by first | rfl | rw [z2], by simp, hnx, ?_⟩
        try rw [z1]
        exact hst.congr fun j hj => by
         by_cases hji : j = i
         ·subst hji; simp
         ·simp only [if_neg hji]
          by_cases hlt : j < i
          ·rw [if_pos hlt, if_pos (by omega)]
          ·rw [if_neg hlt, if_neg (by omega)]
       case measure => simp [intOf]; omega
     ·obtain rfl : i = n := by omega
      have hval := hT.done (m := m + 1) hnm1 (by rw [hBB.out]; exact hKB.out)
      rw [hBB.out] at hval
      have hsl2 : SlF wr (.slice (some ⟨G, 0, none⟩) i c) i h := SlF.congr (hrow.slice (by omega) i (Nat.le_refl _) c hcap) (fun j hj => if_pos hj)
      have hmm := fun W1 hW1 => r3made_ok false (some ⟨G, 0, none⟩) i c h W1 (hsl2.ext hW1) (by omega) hT.lo hT.hi
      have hBw := hTI.below
      have hsz := hTI.size
      replace hval := Lib.hid hval
      clear hT hrow hsl2 hx2
      go_wp2_with fail
      refine (hmm wr (Ext.refl _)).mono ?_
      rintro e W2 ⟨v', rfl, ho2, d3, e3, hb⟩
      have hBw2 := belowCall hBw hb
      have hsz2 := hb.size
      obtain ⟨p', c'', rfl⟩ := ho2.shape
      have hf0 : ∀ w : World, (Instr.field 33 (.agg #[.bool false, .slice p' (trimN h i) c'']) 1).run Tryz.prog w = .ok (.slice p' (trimN h i) c'') w := fun _ => by kernel_rfl
      clear hmm hTI hBw
      go_wp2
      go_roundw
      case rel =>
       refine ⟨trimN h i, h, k + 1, ho2.lower (by omega), rfl, d3, ?_, by omega, hBw2, by omega⟩
       rw [e3, hval.out, Int.add_mul]; omega
      case measure => simp [intOf]; omega
   ·have hKv := hK.out
    rw [if_neg hkz] at hKv
    obtain rfl : K = kk := hKv
    have hkz' : (K == 0) = false := by simpa using hkz
    clear hK
    go_wp2
    go_loopw [9, 10] (fun a b wr => ∃ (i : Nat) (c : Int) (h : Nat → Int), i ≤ n ∧ a = .int .i64 c ∧ b = .int .i64 (i : Int) ∧ TakI f (xt g (m + 1)) K i h c ∧ TInv w0 wr base G n (fun j => if j < i then h j else f j)) (fun _ b _ => (n - intOf b).toNat)
    case atStart => exact ⟨0, 0, fun _ => 0, Nat.zero_le _, rfl, rfl, TakI.start _ _ _ _, hTX.congr fun j _ => by rw [if_neg (by omega)]⟩
    case round =>
     clear hTX hHeld
     obtain ⟨i, c', h, hi, rfl, rfl, hT, hTI⟩ := hrel
     have hrow := hTI.row
     by_cases hin : i < n
     ·have hin' : (i : Int) < n := by omega
      have x0 := d1.lo i hin
      have x9 := d1.hi i hin
      have y0 := xt_lo d2.lo i
      have y9 := xt_hi d2.hi i
      have hnx := hT.next x0 x9 y0 y9 (by omega) hK9
      obtain ⟨q0, q9⟩ := mul_dig y0 y9 (show 0 ≤ K by omega) hK9
      have r0 := hT.c0
      have r9 := hT.c1
      have a1 := hrow.cell i hin
      rw [if_neg (Nat.lt_irrefl i)] at a1
      have hat2 := fun (W : World) (hW : Below w0.heap.size w0 W) => r3at_ok (some ⟨b', off', none⟩) (m + 1) c2 i g W (h2.ext (.of_below hW))
      go_wp2
      refine wp_region_held_drew (S := fun w' => w'.cell? ⟨G, i, none⟩ = some (.int .i64 (f i)) ∧ Below w0.heap.size w0 w') (by as_aux_lemma => kernel_rfl) ⟨a1, hTI.below.drew⟩ (fun hHeld => ?_)
      have hTX := hTI.drew
      generalize wr.drew = X0 at *
      refine tk 0 (some 46) ?_
      refine tk 1 (some 47) ?_
      refine tk 2 (some 48) ?_
      refine tk 3 (some 49) ?_
      refine tk 4 (some 50) ?_
      refine tk 5 (some 51) ?_
      refine tk 7 (some 53) ?_
      refine tk 10 (some 56) ?_
      refine Mono.stc 6 (some 52) (hat2 X0 hHeld.2) (fun e X1 hR => ?_)
      obtain ⟨rfl, rfl⟩ := hR
      refine ⟨(hHeld), fun hHeld => Mono.pt ?_⟩
      generalize xt g (m + 1) i = y at *
      generalize hfi : f i = x at *
      refine tk 8 (some 54) ?_
      refine tk 9 (some 55) ?_
      refine tk 11 (some 57) ?_
      refine tk 12 (some 11) ?_
      rw [wrapId (z := y * K) (by omega) (by omega), wrapId (z := x - y * K) (by omega) (by omega), wrapId (z := x - y * K + c') (by omega) (by omega)]
      refine wpAnyH_done (by as_aux_lemma => kernel_rfl) ?_ _
      have hHB := hHeld.2
      have e1 : -2000000000000000000 ≤ x - y * K + c' := by omega
      have e2 : x - y * K + c' ≤ 1000000000 := by omega
      clear hHeld hat2 q0 q9 hT hTI a1 hrow
      generalize x - y * K + c' = e at *
      obtain ⟨p1, p2⟩ := floor_parts e
      have hmm : (e.tmod 1000000000).natAbs < 1000000000 := by rw [Int.natAbs_tmod]; exact Nat.mod_lt _ (by decide)
      have t1 : -1000000000 < e.tmod 1000000000 := by omega
      have t2 : e.tmod 1000000000 < 1000000000 := by omega
      have hw : wrap64 (e.tdiv 1000000000) = e.tdiv 1000000000 := by
       have := Int.natAbs_tdiv e 1000000000
       unfold wrap64; omega
      have a3 := hTX.row.cell i hin
      have a4 := hTX.row.frozen i
      have hst := hTX.set i (e % 1000000000)
      replace p1 := Lib.hid p1
      replace p2 := Lib.hid p2
      by_cases hneg : e.tmod 1000000000 < 0
      ·obtain ⟨z1, z2⟩ := p1.out hneg
       go_wp2
       go_roundw
       case rel =>
        refine ⟨i + 1, e / 1000000000, _, by omega, by first | rfl | rw [z2], by simp, hnx, ?_⟩
        try rw [z1]
        exact hst.congr fun j hj => by
         by_cases hji : j = i
         ·subst hji; simp
         ·simp only [if_neg hji]
          by_cases hlt : j < i
          ·rw [if_pos hlt, if_pos (by omega)]
          ·rw [if_neg hlt, if_neg (by omega)]
       case measure => simp [intOf]; omega
      ·obtain ⟨z1, z2⟩ := p2.out hneg
       go_wp2
       go_roundw
       case rel =>
        refine ⟨i + 1, e / 1000000000, _, by omega, by first | rfl | rw [z2], by simp, hnx, ?_⟩
        try rw [z1]
        exact hst.congr fun j hj => by
         by_cases hji : j = i
         ·subst hji; simp
         ·simp only [if_neg hji]
          by_cases hlt : j < i
          ·rw [if_pos hlt, if_pos (by omega)]
          ·rw [if_neg hlt, if_neg (by omega)]
       case measure => simp [intOf]; omega
     ·obtain rfl : i = n := by omega
      have hval := hT.done (m := m + 1) hnm1 (by rw [hBB.out]; exact hKB.out)
      rw [hBB.out] at hval
      have hsl2 : SlF wr (.slice (some ⟨G, 0, none⟩) i c) i h := SlF.congr (hrow.slice (by omega) i (Nat.le_refl _) c hcap) (fun j hj => if_pos hj)
      have hmm := fun W1 hW1 => r3made_ok false (some ⟨G, 0, none⟩) i c h W1 (hsl2.ext hW1) (by omega) hT.lo hT.hi
      have hBw := hTI.below
      have hsz := hTI.size
      replace hval := Lib.hid hval
      clear hT hrow hsl2 hx2
      go_wp2_with fail
      refine (hmm wr (Ext.refl _)).mono ?_
      rintro e W2 ⟨v', rfl, ho2, d3, e3, hb⟩
      have hBw2 := belowCall hBw hb
      have hsz2 := hb.size
      obtain ⟨p', c'', rfl⟩ := ho2.shape
      have hf0 : ∀ w : World, (Instr.field 33 (.agg #[.bool false, .slice p' (trimN h i) c'']) 1).run Tryz.prog w = .ok (.slice p' (trimN h i) c'') w := fun _ => by kernel_rfl
      clear hmm hTI hBw
      go_wp2
      go_roundw
      case rel =>
       refine ⟨trimN h i, h, k + K, ho2.lower (by omega), rfl, d3, ?_, by omega, hBw2, by omega⟩
       rw [e3, hval.out, Int.add_mul]; omega
      case measure => simp [intOf]; omega
  ·rw [decide_eq_true (by omega)] at hless
   have hdiv : vf f n = RR % BB ∧ k = RR / BB := by
    rw [← hv, Int.add_mul_ediv_right _ _ (by omega), Int.ediv_eq_zero_of_lt hf0 (by omega), Int.zero_add, Int.add_mul_emod_self_right, Int.emod_eq_of_lt hf0 (by omega)]
    exact ⟨rfl, rfl⟩
   replace hdiv := Lib.hid hdiv
   go_wp2_with fail
   refine (hless wr (Ext.refl _)).mono ?_
   rintro e W1 ⟨rfl, kl, rfl⟩
   clear hv hx2
   go_wp2
   go_ret2
   refine ⟨_, n, f, k, rfl, ho.below (below_drewN (Below.refl _ _) _), d1, hdiv.out.1, hdiv.out.2, below_drewN hB0 _, hbase⟩
end Go.Proofs.YtccmnjkgfgnmoaaGreatDoor
namespace Go.Mono
open Go.RowKit
theorem Box.results2s {P : Program} {w : World} {B B1 : Nat} {T T1 : TypeId} {cs cs1 : Array Value} (b : Box w B T cs) (b1 : Box w B1 T1 cs1) {fn : Func} {p p1 : Tmp} {ty ty1 : TypeId} (h : fn.results = #[.cell p ty, .cell p1 ty1]) (tmps : Array Value) (d d1 : TypeDesc)
  (ht : tmps.getD p undef = .pointer (some ⟨B, 0, none⟩)) (ht1 : tmps.getD p1 undef = .pointer (some ⟨B1, 0, none⟩)) (hu : P.underlying ty = some d) (hd : d.isRow = true) (hi : (P.info? ty).map (·.size) = some cs.size)
  (hu1 : P.underlying ty1 = some d1) (hd1 : d1.isRow = true) (hi1 : (P.info? ty1).map (·.size) = some cs1.size) : (Go.results fn tmps).run P w = .ok (.tuple #[.agg cs, .agg cs1]) w := by
 have hp' : tmps[p]?.getD undef = .pointer (some ⟨B, 0, none⟩) := by simpa using ht
 have hp1 : tmps[p1]?.getD undef = .pointer (some ⟨B1, 0, none⟩) := by simpa using ht1
 have hld := run_loadVar_row (P := P) w B T ty cs (0, 0) d b.blk hu (by cases d <;> simp_all [TypeDesc.isRow]) hi
 have hld1 := run_loadVar_row (P := P) w B1 T1 ty1 cs1 (0, 0) d1 b1.blk hu1 (by cases d1 <;> simp_all [TypeDesc.isRow]) hi1
 simp [Go.results, h, hp', hp1, asAddr, hld, hld1]
theorem OwnF.lit (w : World) (x : Int) : OwnF (w.alloc (.cells #[.int .i64 x] 3)) w.heap.size (.slice (some ⟨w.heap.size, 0, none⟩) 1 1) 1 (fun _ => x) :=
 ⟨by simp, .inr ⟨w.heap.size, 1, #[.int .i64 x], rfl, Nat.le_refl _, (Box.new _ _ _).blk, Nat.le_refl _, by simp [maxLen], rfl, rfl⟩⟩
theorem cells_other {X : World} {B R j : Nat} {u : Value} {A : Array Value} (h : ∀ i, X.cell? ⟨B, i, none⟩ = A[i]?) (hne : B ≠ R) : ∀ i, (X.setCell ⟨R, j, none⟩ u).cell? ⟨B, i, none⟩ = A[i]? := fun i =>
 (World.cell?_of_block (a := ⟨B, i, none⟩) (Below.heap_setCell X ⟨R, j, none⟩ u B hne)).trans (h i)
structure QInv (w wr : World) (T : TypeId) (R n : Nat) (q : Nat → Int) (A0 A1 : Array Value) : Prop where
 row : RowF wr R n q
 b0 : Box wr w.heap.size T A0
 b1 : Box wr (w.heap.size + 1) T A1
 b2 : Box wr (w.heap.size + 1 + 1) T #[.bool false, .slice none 0 0]
 b3 : Box wr (w.heap.size + 1 + 1 + 1) T #[.bool false, .slice none 0 0]
 below : Below w.heap.size w wr
 above : w.heap.size + 1 + 1 + 1 + 1 ≤ R
theorem QInv.of_below {w wr w' : World} {T : TypeId} {R n : Nat} {q : Nat → Int} {A0 A1 : Array Value} (h : QInv w wr T R n q A0 A1) (hb : Below (R + 1) wr w') : QInv w w' T R n q A0 A1 := by
 have ha := h.above
 obtain ⟨cs, h1, h2⟩ := h.row
 exact ⟨⟨cs, (hb.block R (by omega)).trans h1, h2⟩, h.b0.low hb (by omega), h.b1.low hb (by omega), h.b2.low hb (by omega), h.b3.low hb (by omega), h.below.trans (hb.mono (by omega)), ha⟩
theorem QInv.set {w wr : World} {T : TypeId} {R n : Nat} {q : Nat → Int} {A0 A1 : Array Value} (h : QInv w wr T R n q A0 A1) (j : Nat) (x : Int) : QInv w (wr.setCell ⟨R, j, none⟩ (.int .i64 x)) T R n (fun i => if i = j then x else q i) A0 A1 := by
 have ha := h.above
 exact ⟨h.row.set j x, h.b0.other _ _ (by show w.heap.size ≠ R; omega), h.b1.other _ _ (by show w.heap.size + 1 ≠ R; omega), h.b2.other _ _ (by show w.heap.size + 1 + 1 ≠ R; omega), h.b3.other _ _ (by show w.heap.size + 1 + 1 + 1 ≠ R; omega), belowSet h.below (by omega) _ _, ha⟩
end Go.Mono
namespace Go.Proofs.YtccmnjkgfgnmoaaGreatDoor
open Go.RowKit Go.Mono
theorem r3parts_digits (s t : Bool) (p q : Option Addr) (n m c1 c2 : Nat) (f g : Nat → Int) (w : World) (h1 : SlF w (.slice p n c1) n f) (h2 : SlF w (.slice q (m + 1) c2) (m + 1) g) (d1 : Digs f n) (d2 : Digs g (m + 1)) (hn6 : n ≤ 100000) (hm6 : m ≤ 100000) :
  Calls Tryz.prog 298 #[.agg #[.bool s, .slice p n c1], .agg #[.bool t, .slice q (m + 1) c2]] w fun e w' => ∃ p1 k1 c1 h1 p2 k2 c2 h2, e = .returned (.tuple #[.agg #[.bool ((s != t) && decide (0 < vf f n / vf g (m + 1))), .slice p1 k1 c1], .agg #[.bool (s && decide (0 < vf f n % vf g (m + 1))), .slice p2 k2 c2]]) ∧
   SlF w' (.slice p1 k1 c1) k1 h1 ∧ Digs h1 k1 ∧ vf h1 k1 = vf f n / vf g (m + 1) ∧ k1 ≤ n ∧ SlF w' (.slice p2 k2 c2) k2 h2 ∧ Digs h2 k2 ∧ vf h2 k2 = vf f n % vf g (m + 1) ∧ k2 ≤ m + 1 ∧ Below w.heap.size w w' := by
 obtain ⟨hc1, hn1, hx1⟩ := h1.opens
 obtain ⟨hc2, hn2, hx2⟩ := h2.opens
 have hB1 : 0 < vf g (m + 1) := d2.pos.2 (by omega)
 obtain ⟨s1, hs1⟩ : ∃ sg : Bool, ((s != t) && decide (0 < vf f n / vf g (m + 1))) = sg := ⟨_, rfl⟩
 obtain ⟨s2, hs2⟩ : ∃ sg : Bool, (s && decide (0 < vf f n % vf g (m + 1))) = sg := ⟨_, rfl⟩
 rw [hs1, hs2]
 replace hs1 := Lib.hid hs1
 replace hs2 := Lib.hid hs2
 go_enter Tryz.func298, Tryz.ntmps298
 go_wp2_with (first
  | (at_make; refine wpList_make_ints _ rfl _ _ 26 rfl Tryz.underlying26 infoInt _ _ n rfl rfl (by simp) (by simp) (by omega) ?_; intro W1 r1 hb1; have q0 := ((((Box.new w 33 #[.bool s, .slice p n c1]).alloc (.cells #[.bool t, .slice q (m + 1) c2] 33)).alloc (.cells #[.bool false, .slice none 0 0] 33)).alloc (.cells #[.bool false, .slice none 0 0] 33)).below hb1; have cq0 := q0.cell))
 have hR : ((((w.alloc (.cells #[.bool s, .slice p n c1] 33)).alloc (.cells #[.bool t, .slice q (m + 1) c2] 33)).alloc (.cells #[.bool false, .slice none 0 0] 33)).alloc (.cells #[.bool false, .slice none 0 0] 33)).heap.size = w.heap.size + 1 + 1 + 1 + 1 := by simp
 rw [hR] at r1
 have hB := belowCall (belowAlloc (below3_new w (.cells #[.bool s, .slice p n c1] 33) (.cells #[.bool t, .slice q (m + 1) c2] 33) (.cells #[.bool false, .slice none 0 0] 33)) (.cells #[.bool false, .slice none 0 0] 33)) hb1
 have hI0 : QInv w W1 33 (w.heap.size + 1 + 1 + 1 + 1) n (fun _ => 0) #[.bool s, .slice p n c1] #[.bool t, .slice q (m + 1) c2] := by
  have b1 := Box.new (w.alloc (.cells #[.bool s, .slice p n c1] 33)) 33 #[.bool t, .slice q (m + 1) c2]
  have b3 := Box.new (((w.alloc (.cells #[.bool s, .slice p n c1] 33)).alloc (.cells #[.bool t, .slice q (m + 1) c2] 33)).alloc (.cells #[.bool false, .slice none 0 0] 33)) 33 #[.bool false, .slice none 0 0]
  simp only [World.size_alloc] at b1 b3
  exact ⟨r1, q0, ((b1.alloc _).alloc _).below hb1, ((box3_new w _ _ _ _ _ _).alloc _).below hb1, b3.below hb1, hB, Nat.le_refl _⟩
 have hs0 := hI0.row.lt
 clear hb1 hB hR r1 q0 cq0
 go_loopw [7, 8] (fun v x wr => ∃ (i r : Nat) (h qf : Nat → Int) (R : Int), i ≤ n ∧ x = .int .i64 ((i : Int) - 1) ∧ OwnF wr (w.heap.size + 1 + 1 + 1 + 1 + 1) v r h ∧ Digs h r ∧ vf h r = R ∧ ParI f n (vf g (m + 1)) i qf R ∧ QInv w wr 33 (w.heap.size + 1 + 1 + 1 + 1) n qf #[.bool s, .slice p n c1] #[.bool t, .slice q (m + 1) c2] ∧ w.heap.size + 1 + 1 + 1 + 1 + 1 ≤ wr.heap.size) (fun _ x _ => (intOf x + 1).toNat)
 case atStart => exact ⟨n, 0, fun _ => 0, _, 0, Nat.le_refl _, rfl, OwnF.nil _ _ _, ⟨fun i hi => by omega, fun i hi => by omega, fun h => by omega⟩, rfl, ParI.start _ _ _ hB1, hI0, by omega⟩
 case round =>
  clear hI0 hs0
  obtain ⟨i, r, h, qf, R, hi, rfl, ho, d3, hv, hP, hI, hsz⟩ := hrel
  obtain ⟨pr, cr, rfl⟩ := ho.shape
  have b0 := hI.b0
  have cb0 := b0.cell
  have lb0 := b0.lt
  have fb0 := b0.frozen
  by_cases hi0 : 0 < i
  ·obtain ⟨i, rfl⟩ : ∃ j, i = j + 1 := ⟨i - 1, by omega⟩
   rw [show ((i + 1 : Nat) : Int) - 1 = (i : Int) by omega]
   obtain ⟨b, off, rfl, hb, hcell⟩ := hx1 (by omega)
   have ai := (hI.below.cell (p := ⟨b, off + i, none⟩) hb).trans (hcell i (by omega))
   have hin : (i : Int) < n := by omega
   have f0 := d1.lo i (by omega)
   have f9 := d1.hi i (by omega)
   have hr6 : r ≤ m + 1 := d3.len_le d2 (by have := hP.r1; omega)
   generalize hfi : f i = x at *
   clear hcell
   go_wp2_with (at_builtin; (refine wpList_append_ints _ rfl _ _ 26 rfl Tryz.underlying26 infoInt wr.heap.size (.slice (some ⟨wr.heap.size, 0, none⟩) 1 1) 1 (fun _ => x) rfl (OwnF.lit wr x) pr r cr h rfl ?_ ?_ ?_ ?_); (exact (ho.sl (by omega)).ext ((Ext.refl _).alloc _)); omega; (simp); (intro v' w1 ho' hg))
   obtain ⟨p', c', rfl⟩ := ho'.shape
   have hz : Below wr.heap.size wr w1 := ((Below.refl wr.heap.size wr).alloc (Nat.le_refl _) (.cells #[.int .i64 x] 3)).grown hg (by simp) (fun k hk => (OwnF.lit wr x).low k hk)
   have hnext : SlF w1 (.slice p' (r + 1) c') (r + 1) (shl x h) := by
    have e : OwnF w1 wr.heap.size (.slice p' (1 + r) c') (1 + r) (shl x h) := ho'.congr fun j hj => by
     unfold shl
     by_cases h0 : j = 0
     ·rw [if_pos (by omega), if_pos h0]
     ·rw [if_neg (by omega), if_neg h0]
    rw [Nat.add_comm] at e
    exact e.sl (by omega)
   rw [Nat.add_comm 1 r]
   have hmade := fun (X : World) (hX : Ext w1 X) => r3made_ok false p' (r + 1) c' (shl x h) X (hnext.ext hX) (by omega) (fun j hj => by
    unfold shl; split
    ·exact f0
    ·exact d3.lo _ (by omega)) (fun j hj => by
    unfold shl; split
    ·exact f9
    ·exact d3.hi _ (by omega))
   have hIz := hI.of_below (hz.mono (by omega))
   clear cb0 lb0 fb0 b0 ai ho hg ho'
   have b1 := hIz.b1
   have cb1 := b1.cell
   have lb1 := b1.lt
   have fb1 := b1.frozen
   go_wp2
   refine wp_region_held_drew (S := fun w' => (∀ i, w'.cell? ⟨w.heap.size + 1, i, none⟩ = (#[.bool t, .slice q (m + 1) c2] : Array Value)[i]?) ∧ Below w.heap.size w w') (by as_aux_lemma => kernel_rfl) ⟨cb1, hIz.below.drew⟩ (fun hHeld => ?_)
   have hz0 := hz.drew
   have hx0 : Ext w1 w1.drew := (Ext.refl _).drew
   have hsz0 : wr.heap.size ≤ w1.drew.heap.size := hz.size
   generalize w1.drew = X0 at *
   refine tk 0 (some 31) ?_
   refine tk 1 (some 32) ?_
   refine tk 2 (some 33) ?_
   refine tk 5 (some 36) ?_
   refine tk 6 (some 37) ?_
   have hIX := hI.of_below (hz0.mono (by omega))
   refine Mono.stc 3 (some 34) (hmade X0 hx0) (fun e X1 hR => ?_)
   obtain ⟨v2, rfl, ho2, d4, e4, hb4⟩ := hR
   refine ⟨(⟨(hIX.b1.below hb4).cell, belowCall hHeld.2 hb4⟩), fun hHeld => Mono.pt ?_⟩
   obtain ⟨p2, c2', rfl⟩ := ho2.shape
   refine tl 4 (some 35) rfl (.slice p2 (trimN (shl x h) (r + 1)) c2') (fun w _ => by as_aux_lemma => kernel_rfl) ?_
   have hz1 := belowCall hz0 hb4
   have hP0 := hP.r0
   have hP1 := hP.r1
   have hvs : vf (shl x h) (trimN (shl x h) (r + 1)) = x + 1000000000 * R := by rw [e4, vf_shl, hv]
   have htk := r3taken_ok wr.heap.size (.slice p2 (trimN (shl x h) (r + 1)) c2') (trimN (shl x h) (r + 1)) (shl x h) q m c2 g wr X1 (ho2.lower hsz0) (Nat.le_refl _) (Nat.le_trans hsz0 hb4.size) hz1 (h2.ext (.of_below hI.below)) d4 d2 hm6 (by rw [hvs]; omega)
   rw [hvs] at htk
   refine Mono.stc 7 (some 38) (htk) (fun e X2 hR => ?_)
   obtain ⟨v3, n3, f3, k3, rfl, ho3, d5, e5, hk3, hb5, hs5⟩ := hR
   refine ⟨(⟨(hI.of_below (hb5.mono (by omega))).b1.cell, (hI.of_below (hb5.mono (by omega))).below⟩), fun hHeld => Mono.pt ?_⟩
   replace hk3 := Lib.hid hk3
   refine tk 8 (some 30) ?_
   refine tk 9 (some 39) ?_
   refine tk 10 (some 40) ?_
   refine tk 11 (some 7) ?_
   refine tk 12 (some 41) ?_
   have hI3 := hI.of_below (hb5.mono (by omega))
   have hI4 := hI3.set i k3
   have a5 := hI3.row.cell i (by omega)
   have a6 := hI3.row.frozen i
   refine Mono.st 13 ?_
   intro K hK
   go_simp
   refine kp hK (⟨hI4.b1.cell, hI4.below⟩) (fun hHeld => ?_)
   clear hK K
   refine wpAnyH_done (by as_aux_lemma => kernel_rfl) ?_ _
   have hk30 : 0 ≤ k3 := by rw [hk3.out]; exact Int.ediv_nonneg (by omega) (by omega)
   have hk39 : k3 < 1000000000 := by rw [hk3.out]; exact Int.ediv_lt_of_lt_mul hB1 (by rw [Int.mul_comm]; omega)
   have hdiv := Int.emod_add_mul_ediv (x + 1000000000 * R) (vf g (m + 1))
   have hr0 := Int.emod_nonneg (x + 1000000000 * R) (by omega : vf g (m + 1) ≠ 0)
   have hr1 := Int.emod_lt_of_pos (x + 1000000000 * R) hB1
   rw [← hk3.out] at hdiv
   have hPn := hP.next (by omega) hk30 hk39 hr0 hr1 (by rw [hfi, Int.mul_comm k3]; omega)
   have ho5 := ho3.lower hsz
   have hs6 : w.heap.size + 1 + 1 + 1 + 1 + 1 ≤ X2.heap.size := by omega
   have ho6 := ho5.set ⟨w.heap.size + 1 + 1 + 1 + 1, i, none⟩ (.int .i64 k3) (by show w.heap.size + 1 + 1 + 1 + 1 < _; omega)
   clear hHeld htk hmade hnext hIX hIz hI3 ho3 ho2 hb5 hb4 cb1 fb1 lb1 b1 a5 a6 hz hz0 hz1 hx0
   go_wp2
   go_roundw
   case rel =>
    exact ⟨i, n3, f3, _, _, by omega, by simp, ho6, d5, e5, hPn, hI4, by simpa using hs6⟩
   case measure => simp [intOf]
  ·obtain rfl : i = 0 := by omega
   obtain ⟨hq, hR⟩ := hP.done
   have hlo := fun j (hj : j < n) => hP.lo j (Nat.zero_le _) hj
   have hhi := fun j (hj : j < n) => hP.hi j (Nat.zero_le _) hj
   have hr6 : r ≤ m + 1 := d3.len_le d2 (by have := hP.r1; omega)
   have hm1 := fun (X : World) (hX : Ext wr X) => r3made_ok (s != t) (some ⟨w.heap.size + 1 + 1 + 1 + 1, 0, none⟩) n n qf X ((hI.row.slice (by omega) n (Nat.le_refl _) n (Nat.le_refl _)).ext hX) (by omega) hlo hhi
   have hm2 := fun (X : World) (hX : Ext wr X) => r3made_ok s pr r cr h X ((ho.sl (by omega)).ext hX) (by omega) d3.lo d3.hi
   rw [hq, hs1.out] at hm1
   rw [hv, hR, hs2.out] at hm2
   have b1 := hI.b1
   have cb1 := b1.cell
   have lb1 := b1.lt
   have fb1 := b1.frozen
   clear hx1 hx2 hP
   go_wp2_with fail
   refine wp_region_held_drew (S := fun w' => (∀ i, w'.cell? ⟨w.heap.size, i, none⟩ = (#[.bool s, .slice p n c1] : Array Value)[i]?) ∧ (∀ i, w'.cell? ⟨w.heap.size + 1, i, none⟩ = (#[.bool t, .slice q (m + 1) c2] : Array Value)[i]?) ∧ Below w.heap.size w w') (by as_aux_lemma => kernel_rfl) ⟨cb0, cb1, hI.below.drew⟩ (fun hHeld => ?_)
   have hx0 : Ext wr wr.drew := (Ext.refl _).drew
   have hI0 : QInv w wr.drew 33 (w.heap.size + 1 + 1 + 1 + 1) n qf #[.bool s, .slice p n c1] #[.bool t, .slice q (m + 1) c2] := hI.of_below (Below.refl _ _).drew
   have hsz0 : w.heap.size + 1 + 1 + 1 + 1 + 1 ≤ wr.drew.heap.size := hsz
   generalize wr.drew = X0 at *
   refine tk 0 (some 42) ?_
   refine tk 1 (some 43) ?_
   refine tk 2 (some 44) ?_
   refine tk 3 (some 45) ?_
   refine tk 4 (some 46) ?_
   refine tk 5 (some 47) ?_
   refine tk 7 (some 49) ?_
   refine tk 8 (some 50) ?_
   refine tk 9 (some 51) ?_
   refine Mono.stc 6 (some 48) (hm1 X0 hx0) (fun e X1 hR => ?_)
   obtain ⟨v1, rfl, ho1, hd1, g1, hb4⟩ := hR
   refine ⟨(⟨(hI0.b0.below hb4).cell, (hI0.b1.below hb4).cell, belowCall hHeld.2.2 hb4⟩), fun hHeld => Mono.pt ?_⟩
   have hI1 := hI0.of_below (hb4.mono (by omega))
   refine Mono.stc 10 (some 52) (hm2 X1 (hx0.below hb4)) (fun e X2 hR => ?_)
   obtain ⟨v2, rfl, ho2, hd2, g2, hb5⟩ := hR
   refine ⟨(⟨(hI1.b0.below hb5).cell, (hI1.b1.below hb5).cell, belowCall hHeld.2.2 hb5⟩), fun hHeld => Mono.pt ?_⟩
   have hsz1 := hb4.size
   have hI2 := hI1.of_below (hb5.mono (by omega))
   obtain ⟨p1, c1', rfl⟩ := ho1.shape
   obtain ⟨p2, c2', rfl⟩ := ho2.shape
   have l1 := ho1.sl (by have := trimN_le qf n; omega)
   have l2 := ho2.sl (by have := trimN_le h r; omega)
   have l1' := l1.ext (.of_below hb5)
   have b2 := hI2.b2
   have b3 := hI2.b3
   have hBb := hI2.below
   clear hm1 hm2 hx0 hI0 hI1 hI hb4 hb5 ho1 ho2 l1 b0 b1 cb0 cb1 lb0 lb1 fb0 fb1 ho
   refine wpAnyH_storeA (w.heap.size + 1 + 1) 33 11 rfl rfl rfl rfl 0 #[.bool s1, .slice p1 (trimN qf n) c1'] #[.bool false, .slice none 0 0] #[.bool s1, .slice p1 (trimN qf n) c1'] (by as_aux_lemma => kernel_rfl) (fun X i u h => ⟨cells_other h.1 (by omega), cells_other h.2.1 (by omega), belowSet h.2.2 (by omega) _ _⟩) (by as_aux_lemma => kernel_rfl) (by as_aux_lemma => kernel_rfl) b2 hHeld sizeLong (Nat.le_of_ble_eq_true rfl) (long_ones _ _ _ _) (whole_new rfl) (fun Y1 hk1 r2 hHeld => ?_)
   have b3' := hk1.box b3 b3.lt (by omega)
   refine wpAnyH_storeA (w.heap.size + 1 + 1 + 1) 33 12 rfl rfl rfl rfl 0 #[.bool s2, .slice p2 (trimN h r) c2'] #[.bool false, .slice none 0 0] #[.bool s2, .slice p2 (trimN h r) c2'] (by as_aux_lemma => kernel_rfl) (fun X i u h => ⟨cells_other h.1 (by omega), cells_other h.2.1 (by omega), belowSet h.2.2 (by omega) _ _⟩) (by as_aux_lemma => kernel_rfl) (by as_aux_lemma => kernel_rfl) b3' hHeld sizeLong (Nat.le_of_ble_eq_true rfl) (long_ones _ _ _ _) (whole_new rfl) (fun Y2 hk2 r3 hHeld => ?_)
   have r2' := hk2.box r2 r2.lt (by omega)
   have e1 := hk1.ext b2 (by decide)
   have e2 := hk2.ext b3' (by decide)
   have hBe := hHeld.2.2
   refine wpAnyH_done (by as_aux_lemma => kernel_rfl) ?_ _
   clear hHeld hk1 hk2 b2 b3 b3' r2 hI2
   go_wp2
   refine bodyPost_ret (r2'.results2s r3 rfl _ _ _ rfl rfl Tryz.underlying33 rfl sizeLong Tryz.underlying33 rfl sizeLong) rfl ?_
   exact ⟨p1, _, c1', qf, p2, _, c2', rfl, (l1'.ext e1).ext e2, hd1, g1, trimN_le qf n, h, (l2.ext e1).ext e2, hd2, g2, by have := trimN_le h r; omega, hBe⟩
end Go.Proofs.YtccmnjkgfgnmoaaGreatDoor
namespace Go.Mono
open Go.RowKit
theorem LgV.unique {m m' : Nat} {w : World} {v : Value} {z z' : Int} (h : LgV m w v z) (h' : LgV m' w v z') : z = z' := by
 obtain ⟨p, n, c, f, rfl, s1, d1, e1, _⟩ := h
 obtain ⟨p', n', c', f', hv, s2, d2, e2, _⟩ := h'
 simp only [Value.agg.injEq, Array.mk.injEq, List.cons.injEq, Value.bool.injEq, Value.slice.injEq, and_true] at hv
 obtain ⟨hs, rfl, rfl, rfl⟩ := hv
 have hf : ∀ i, i < n → f i = f' i := fun i hi => by
  obtain ⟨_, _, x1⟩ := s1.opens
  obtain ⟨_, _, x2⟩ := s2.opens
  obtain ⟨b, off, hp, _, g1⟩ := x1 (by omega)
  obtain ⟨b', off', hp', _, g2⟩ := x2 (by omega)
  rw [hp] at hp'
  simp only [Option.some.injEq, Addr.mk.injEq] at hp'
  obtain ⟨rfl, rfl, _⟩ := hp'
  have := g1 i hi
  rw [g2 i hi] at this
  simpa using this.symm
 have e := vf_congr hf
 have h3 : (z < 0 ↔ z' < 0) := by simpa using hs
 omega
def IsVal (w : World) (B : Nat) (T : TypeId) (k : Nat) : Prop := ∃ C z m, Box w B T C ∧ LgV m w (.agg C) z ∧ z.natAbs = k
noncomputable def valAt (w : World) (B : Nat) (T : TypeId) : Nat := Classical.epsilon (IsVal w B T)
theorem valAt_eq {w : World} {B : Nat} {T : TypeId} {C : Array Value} {z : Int} {m : Nat} (hb : Box w B T C) (h : LgV m w (.agg C) z) : valAt w B T = z.natAbs := by
 obtain ⟨C', z', m', hb', h', e⟩ := Classical.epsilon_spec (p := IsVal w B T) ⟨z.natAbs, C, z, m, hb, h, rfl⟩
 have hc : C' = C := by
  have := hb.blk.symm.trans hb'.blk
  simp at this
  exact this.symm
 subst hc
 have := h.unique h'
 subst this
 exact e.symm
end Go.Mono
namespace Go.Proofs.YtccmnjkgfgnmoaaGreatDoor
open Go.RowKit Go.Mono
theorem r3parts_ok {m1 m2 : Nat} {v1 v2 : Value} {z y : Int} (w : World) (h1 : LgV m1 w v1 z) (h2 : LgV m2 w v2 y) (hy : y ≠ 0) (hm1 : m1 ≤ 100000) (hm2 : m2 ≤ 100000) :
  Calls Tryz.prog 298 #[v1, v2] w fun e w' => ∃ q r, e = .returned (.tuple #[q, r]) ∧ LgV m1 w' q (z.tdiv y) ∧ LgV m2 w' r (z.tmod y) ∧ Below w.heap.size w w' := by
 obtain ⟨p, n, c, f, rfl, s1, d1, e1, l1⟩ := h1
 obtain ⟨q, m, c', g, rfl, s2, d2, e2, l2⟩ := h2
 have hm0 : 0 < m := d2.pos.1 (by omega)
 obtain ⟨m, rfl⟩ : ∃ k, m = k + 1 := ⟨m - 1, by omega⟩
 obtain ⟨t1, t2, t3, t4⟩ := tdiv_parts z y hy
 refine (r3parts_digits _ _ p q n m c c' f g w s1 s2 d1 d2 (by omega) (by omega)).mono ?_
 rintro e w' ⟨p1, k1, c1, h1, p2, k2, c2, h2, rfl, hs1, hd1, hv1, hk1, hs2, hd2, hv2, hk2, hb⟩
 rw [e1, e2] at hv1 hv2 ⊢
 rw [t1] at hv1 ⊢
 rw [t2] at hv2 ⊢
 rw [t3, t4]
 exact ⟨_, _, rfl, ⟨p1, k1, c1, h1, rfl, hs1, hd1, hv1, by omega⟩, ⟨p2, k2, c2, h2, rfl, hs2, hd2, hv2, by omega⟩, hb⟩
theorem r3common_ok {m : Nat} {v1 v2 : Value} {z y : Int} (w : World) (h1 : LgV m w v1 z) (h2 : LgV m w v2 y) (hm : m ≤ 100000) :
  Calls Tryz.prog 280 #[v1, v2] w fun e w' => ∃ v, e = .returned v ∧ LgV m w' v (Int.gcd z y) ∧ Below w.heap.size w w' := by
 obtain ⟨A0, rfl, hA0, hA0o⟩ := h1.cells
 obtain ⟨A1, rfl, hA1, hA1o⟩ := h2.cells
 obtain ⟨gz, hgz⟩ : ∃ k, Int.gcd z y = k := ⟨_, rfl⟩
 rw [hgz]
 go_enter Tryz.func280, Tryz.ntmps280
 go_wp2_with fail
 refine boxes3 fun W hB hs b0 b1 b2 => ?_
 go_loopw [5, 6] (fun u v wr => ∃ (A B : Array Value) (a b : Int), Box wr w.heap.size 33 A ∧ Box wr (w.heap.size + 1) 33 B ∧ LgV m wr (.agg A) a ∧ LgV m wr (.agg B) b ∧ Int.gcd a b = gz ∧ Box wr (w.heap.size + 1 + 1) 33 #[.bool false, .slice none 0 0] ∧ Below w.heap.size w wr ∧ w.heap.size + 1 + 1 + 1 ≤ wr.heap.size) (fun _ _ wr => valAt wr (w.heap.size + 1) 33)
 case atStart => exact ⟨A0, A1, z, y, b0, b1, h1.below hB, h2.below hB, hgz, b2, hB, hs⟩
 case round =>
  clear b0 b1 b2 hB hs h1 h2 hgz
  obtain ⟨A, B, a, b, b0, b1, ha, hb, hg, b2, hB, hsz⟩ := hrel
  by_cases hb0 : b = 0
  ·subst hb0
   obtain ⟨pz, cz, hBv⟩ := hb.zero
   cases hBv
   have hga : (Int.natAbs a) = gz := by rw [← hg]; simp
   obtain ⟨p, n, c, f, hAv, s1, d1, e1, l1⟩ := ha
   cases hAv
   generalize decide (a < 0) = sa at *
   have hmade := fun (X : World) (hX : Ext wr X) => r3made_ok false p n c f X (s1.ext hX) (by omega) d1.lo d1.hi
   have cb0 := b0.cell
   have lb0 := b0.lt
   have fb0 := b0.frozen
   have cb1 := b1.cell
   have lb1 := b1.lt
   have fb1 := b1.frozen
   go_wp2_with fail
   refine (hmade wr (Ext.refl _)).mono ?_
   rintro e W2 ⟨v', rfl, ho2, d3, e3, hbb⟩
   replace b2 := b2.below hbb
   have hB1 := belowCall hB hbb
   obtain ⟨p', c', rfl⟩ := ho2.shape
   have hlg : LgV m W2 (.agg #[.bool false, .slice p' (trimN f n) c']) (gz : Int) := ⟨p', _, c', f, by rw [decide_eq_false (by omega)], ho2.sl (by have := trimN_le f n; omega), d3, by rw [e3, e1, hga]; rfl, by have := trimN_le f n; omega⟩
   rw [Bool.false_and]
   clear hmade ho2 b0 b1 cb0 cb1 fb0 fb1 lb0 lb1 hB hb
   go_wp2_with first | (refine wpList_store_box rfl 33 _ _ rfl (w.heap.size + 1 + 1) 0 33 _ #[.bool false, .slice p' (trimN f n) c'] #[.bool false, .slice p' (trimN f n) c'] rfl rfl b2 sizeLong (Nat.le_of_ble_eq_true rfl) (long_ones _ _ _ _) (whole_new rfl) ?_; intro W3 hk b4)
   have hb2 := hk.below hB1 (by omega) hB1.size
   exact bodyPost_ret (b4.results rfl _ _ rfl Tryz.underlying33 rfl sizeLong) rfl ⟨_, rfl, hlg.ext (hk.ext b2 (by decide)), hb2⟩
  ·have hval := valAt_eq b1 hb
   have hpt := fun (X : World) (hX : Ext wr X) => r3parts_ok X (ha.ext hX) (hb.ext hX) hb0 hm hm
   have hg2 : Int.gcd b (a.tmod b) = gz := by
    rw [← hg]
    unfold Int.gcd
    rw [Int.natAbs_tmod, Nat.gcd_comm a.natAbs b.natAbs, Nat.gcd_comm b.natAbs (a.natAbs % b.natAbs)]
    exact (Nat.gcd_rec b.natAbs a.natAbs).symm
   have hlt : (a.tmod b).natAbs < b.natAbs := by
    rw [Int.natAbs_tmod]
    exact Nat.mod_lt _ (by omega)
   obtain ⟨q, n, c, hBv, hn0⟩ := hb.nz hb0
   have hn' : (0 : Int) < n := by omega
   cases hBv
   obtain ⟨sa, pa, na, ca, hAv⟩ := ha.parts
   cases hAv
   generalize decide (b < 0) = sb at *
   have cb0 := b0.cell
   have lb0 := b0.lt
   have fb0 := b0.frozen
   have cb1 := b1.cell
   have lb1 := b1.lt
   have fb1 := b1.frozen
   go_wp2_with fail
   refine (hpt wr (Ext.refl _)).mono ?_
   rintro e W2 ⟨vq, vr, rfl, hq, hr, hbb⟩
   obtain ⟨sq, pq, nq, cq, rfl⟩ := hq.parts
   obtain ⟨sr, pr, nr, cr, rfl⟩ := hr.parts
   have hsz2 := hbb.size
   replace b0 := b0.below hbb
   replace b1 := b1.below hbb
   replace b2 := b2.below hbb
   replace hb := hb.below hbb
   have hB2 := belowCall hB hbb
   clear hpt ha hq cb0 lb0 fb0 cb1 lb1 fb1 hB hbb hg
   go_wp2_with fail
   have h2n := (Below.refl W2.heap.size W2).alloc (Nat.le_refl _) (.cells #[.bool sq, .slice pq nq cq] 33)
   have b6 := Box.new (W2.alloc (.cells #[.bool sq, .slice pq nq cq] 33)) 33 #[.bool sr, .slice pr nr cr]
   rw [World.size_alloc] at b6
   have hbn : Below W2.heap.size W2 ((W2.alloc (.cells #[.bool sq, .slice pq nq cq] 33)).alloc (.cells #[.bool sr, .slice pr nr cr] 33)) := belowAlloc (belowAlloc (Below.refl _ _) _) _
   replace b0 := b0.below hbn
   replace b1 := b1.below hbn
   replace b2 := b2.below hbn
   replace hb := hb.below hbn
   replace hr := hr.below hbn
   replace hB2 := belowCall hB2 hbn
   have hs3 := hbn.size
   generalize (W2.alloc (.cells #[.bool sq, .slice pq nq cq] 33)).alloc (.cells #[.bool sr, .slice pr nr cr] 33) = V at *
   refine wp_region_held_drew (S := fun w' => Box w' (W2.heap.size + 1) 33 #[.bool sr, .slice pr nr cr] ∧ Below w.heap.size w w') (by as_aux_lemma => kernel_rfl) ⟨b6.drew, hB2.drew⟩ (fun hHeld => ?_)
   have c0 := b0.drew
   have c1 := b1.drew
   have c2 := b2.drew
   have hbX : LgV m V.drew (.agg #[.bool sb, .slice q n c]) b := hb.ext (Ext.refl _).drew
   have hrX : LgV m V.drew (.agg #[.bool sr, .slice pr nr cr]) (a.tmod b) := hr.ext (Ext.refl _).drew
   have hsX : w.heap.size + 1 + 1 + 1 ≤ V.drew.heap.size := by show _ ≤ V.heap.size; omega
   clear b0 b1 b2 hb hr b6 hbn h2n hB2
   generalize V.drew = X0 at *
   refine tl 1 (some 18) rfl (.agg #[.bool sr, .slice pr nr cr]) (exec_load 33 _ rfl (W2.heap.size + 1) 0 rfl #[.bool sr, .slice pr nr cr] (fun w h => h.1.range) _ Tryz.underlying33 rfl sizeLong) ?_
   refine Mono.sta 0 (some 17) (.agg #[.bool sb, .slice q n c]) X0 hHeld (fun hHeld => Mono.pt ?_) rfl rfl (by as_aux_lemma => kernel_rfl) (by as_aux_lemma => kernel_rfl) (exec_load (S := fun w => w = X0) 33 _ rfl (w.heap.size + 1) 0 (by as_aux_lemma => kernel_rfl) #[.bool sb, .slice q n c] (fun w hS => by subst hS; exact c1.range) _ Tryz.underlying33 rfl sizeLong X0 rfl)
   refine wpAnyH_storeA w.heap.size 33 2 rfl rfl rfl rfl 0 #[.bool sb, .slice q n c] #[.bool sa, .slice pa na ca] #[.bool sb, .slice q n c] (by as_aux_lemma => kernel_rfl) (fun X i u h => ⟨h.1.other _ _ (by show W2.heap.size + 1 ≠ w.heap.size; omega), belowSet h.2 (by omega) _ _⟩) (by as_aux_lemma => kernel_rfl) (by as_aux_lemma => kernel_rfl) c0 hHeld sizeLong (Nat.le_of_ble_eq_true rfl) (long_ones _ _ _ _) (whole_new rfl) (fun Y1 hk1 r0 hHeld => ?_)
   have d1 := hk1.box c1 c1.lt (by omega)
   have d2 := hk1.box c2 c2.lt (by omega)
   have e1 := hk1.ext c0 (by decide)
   refine wpAnyH_storeA (w.heap.size + 1) 33 3 rfl rfl rfl rfl 0 #[.bool sr, .slice pr nr cr] #[.bool sb, .slice q n c] #[.bool sr, .slice pr nr cr] (by as_aux_lemma => kernel_rfl) (fun X i u h => ⟨h.1.other _ _ (by show W2.heap.size + 1 ≠ w.heap.size + 1; omega), belowSet h.2 (by omega) _ _⟩) (by as_aux_lemma => kernel_rfl) (by as_aux_lemma => kernel_rfl) d1 hHeld sizeLong (Nat.le_of_ble_eq_true rfl) (long_ones _ _ _ _) (whole_new rfl) (fun Y2 hk2 r1 hHeld => ?_)
   have r0' := hk2.box r0 r0.lt (by omega)
   have d2' := hk2.box d2 d2.lt (by omega)
   have e2 := hk2.ext d1 (by decide)
   have hbY := (hbX.ext e1).ext e2
   have hrY := (hrX.ext e1).ext e2
   have hBY := hHeld.2
   have hsY : w.heap.size + 1 + 1 + 1 ≤ Y2.heap.size := by have := hk1.size; have := hk2.size; omega
   have hvn := valAt_eq r1 hrY
   replace hval := Lib.hid hval
   refine wpAnyH_done (by as_aux_lemma => kernel_rfl) ?_ _
   clear hHeld hk1 hk2 r0 c0 c1 c2 d1 d2 e1 e2 hbX hrX
   go_wp2
   go_roundw
   case rel => exact ⟨_, _, b, a.tmod b, r0', r1, hbY, hrY, hg2, d2', hBY, hsY⟩
   case measure => rw [hvn, hval.out]; exact hlt
theorem r3right_ok {v : Value} {z : Int} (w : World) (h : LgV 600 w v z) :
  Calls Tryz.prog 273 #[v] w fun e w' => e = .returned (.bool true) ∧ Below w.heap.size w w' := by
 obtain ⟨p, n, c, f, rfl, s1, d1, e1, l1⟩ := h
 obtain ⟨hc1, hn1, hx1⟩ := s1.opens
 by_cases hn : n = 0
 ·subst hn
  have hz : decide (z < 0) = false := decide_eq_false (by simp [vf] at e1; omega)
  rw [hz]
  clear hx1
  go_enter Tryz.func273, Tryz.ntmps273
  go_wp2
  go_ret
  exact ⟨rfl, belowAlloc (Below.refl _ _) _⟩
 ·have hn' : ((n : Int) == 0) = false := by simp; omega
  generalize decide (z < 0) = s at *
  go_enter Tryz.func273, Tryz.ntmps273
  go_wp2
  refine boxes1 fun W hB hs b0 => ?_
  go_loopw [3] (fun a wr => ∃ i : Nat, i ≤ n ∧ a = .int .i64 (i : Int) ∧ wr = W) (fun a _ => (n - intOf a).toNat)
  case atStart => exact ⟨0, Nat.zero_le _, rfl, rfl⟩
  case round =>
   obtain ⟨i, hi, rfl, hWe⟩ := hrel
   obtain rfl : W = wr := hWe.symm
   have cb0 := b0.cell
   have lb0 := b0.lt
   have fb0 := b0.frozen
   by_cases hin : i < n
   ·obtain ⟨b, off, rfl, hb, hcell⟩ := hx1 (by omega)
    have a1 := (hB.cell (p := ⟨b, off + i, none⟩) hb).trans (hcell i hin)
    have hin' : (i : Int) < n := by omega
    have f0 := d1.lo i hin
    have f9 := d1.hi i hin
    generalize f i = x at *
    clear hcell hx1
    go_wp2
    go_roundw
    case rel => exact ⟨i + 1, by omega, by simp, trivial⟩
    case measure => simp [intOf]; omega
   ·obtain rfl : i = n := by omega
    have hip : 0 < i := Nat.pos_of_ne_zero hn
    clear e1
    obtain ⟨b, off, rfl, hb, hcell⟩ := hx1 hip
    have a1 := (hB.cell (p := ⟨b, off + (i - 1), none⟩) hb).trans (hcell (i - 1) (by omega))
    have ht := d1.top (by omega)
    obtain ⟨k, rfl⟩ : ∃ k, i = k + 1 := ⟨i - 1, by omega⟩
    simp only [Nat.add_sub_cancel] at a1 ht
    have ht2 : (f k != 0) = true := by simpa using ht
    generalize f k = x at *
    have hk6 : (k : Int) + 1 ≤ 600 := by omega
    clear hcell hx1
    go_wp2
    go_ret
    exact ⟨rfl, hB⟩
end Go.Proofs.YtccmnjkgfgnmoaaGreatDoor
namespace Go.Mono
open Go.RowKit
def QtV (m : Nat) (w : World) (v : Value) (q : Rat) : Prop := ∃ s p n c s' p' n' c', v = .agg #[.bool s, .slice p n c, .bool s', .slice p' n' c'] ∧ LgV m w (.agg #[.bool s, .slice p n c]) q.num ∧ LgV m w (.agg #[.bool s', .slice p' n' c']) q.den
theorem QtV.ext {m : Nat} {w w' : World} {v : Value} {q : Rat} (h : QtV m w v q) (hx : Ext w w') : QtV m w' v q := by
 obtain ⟨s, p, n, c, s', p', n', c', hv, h1, h2⟩ := h
 exact ⟨s, p, n, c, s', p', n', c', hv, h1.ext hx, h2.ext hx⟩
theorem QtV.below {m : Nat} {w w' : World} {v : Value} {q : Rat} (h : QtV m w v q) (hb : Below w.heap.size w w') : QtV m w' v q := h.ext (.of_below hb)
theorem QtV.mono {m m' : Nat} {w : World} {v : Value} {q : Rat} (h : QtV m w v q) (hm : m ≤ m') : QtV m' w v q := by
 obtain ⟨s, p, n, c, s', p', n', c', hv, h1, h2⟩ := h
 exact ⟨s, p, n, c, s', p', n', c', hv, h1.mono hm, h2.mono hm⟩
theorem LgV.sz {m : Nat} {w : World} {s : Bool} {p : Option Addr} {n c : Nat} {z : Int} (h : LgV m w (.agg #[.bool s, .slice p n c]) z) : s = decide (z < 0) ∧ Sz m w (.slice p n c) z.natAbs := by
 obtain ⟨p', n', c', f, hv, h1, h2, h3, h4⟩ := h
 simp only [Value.agg.injEq, Array.mk.injEq, List.cons.injEq, Value.bool.injEq, Value.slice.injEq, and_true] at hv
 obtain ⟨rfl, rfl, rfl, rfl⟩ := hv
 exact ⟨rfl, n, f, h1, h2, h3, h4⟩
theorem LgV.of_sz {m : Nat} {w : World} {s : Bool} {p : Option Addr} {n c : Nat} {z : Int} (hs : s = decide (z < 0)) (h : Sz m w (.slice p n c) z.natAbs) : LgV m w (.agg #[.bool s, .slice p n c]) z := by
 obtain ⟨n', f, h1, h2, h3, h4, rfl⟩ := h.sl
 exact ⟨p, _, c, f, by rw [hs], h1, h2, h3, h4⟩
theorem QtV.qv {w : World} {v : Value} {q : Rat} (h : QtV 600 w v q) : QV w v q := by
 obtain ⟨s, p, n, c, s', p', n', c', rfl, h1, h2⟩ := h
 obtain ⟨rfl, z1⟩ := h1.sz
 obtain ⟨rfl, z2⟩ := h2.sz
 refine ⟨p, n, c, p', n', c', ?_, z1, by simpa using z2⟩
 rw [decide_eq_false (by omega : ¬ (q.den : Int) < 0)]
theorem QV.qt {w : World} {v : Value} {q : Rat} (h : QV w v q) : QtV 600 w v q := by
 obtain ⟨p, n, c, p', n', c', rfl, z1, z2⟩ := h
 exact ⟨_, p, n, c, _, p', n', c', rfl, LgV.of_sz rfl z1, LgV.of_sz (by rw [decide_eq_false (by omega)]) (by simpa using z2)⟩
end Go.Mono
namespace Go.Proofs.YtccmnjkgfgnmoaaGreatDoor
open Go.RowKit Go.Mono
theorem alloc_long (w : World) : (Instr.alloc 33 true (.tuple #[])).run Tryz.prog w = .ok (.pointer (some ⟨w.heap.size, 0, none⟩)) (w.alloc (.cells #[.bool false, .slice none 0 0] 33)) := by go_simp
theorem quot_ones (a b : Bool) (p q : Option Addr) (n m c d : Nat) : (#[.bool a, .slice p n c, .bool b, .slice q m d] : Array Value).all (·.oneCell') = true := by simp [Value.oneCell']
theorem r4lowest_pos {m : Nat} {v1 v2 : Value} {n d : Int} (w : World) (h1 : LgV m w v1 n) (h2 : LgV m w v2 d) (hd : 0 < d) (hm : m ≤ 100000) :
  Calls Tryz.prog 274 #[v1, v2] w fun e w' => ∃ v, e = .returned v ∧ QtV m w' v (Rat.divInt n d) ∧ Below w.heap.size w w' := by
 have hg0 : 0 < Int.gcd n d := Int.gcd_pos_of_ne_zero_right n (by omega)
 have hnum : (Rat.divInt n d).num = n.tdiv (Int.gcd n d) := by
  rw [Rat.num_divInt, Int.sign_eq_one_of_pos hd, Int.one_mul, Int.gcd_comm d n]
  exact (Int.tdiv_eq_ediv_of_dvd (Int.gcd_dvd_left ..)).symm
 have hden : ((Rat.divInt n d).den : Int) = d.tdiv (Int.gcd n d) := by
  rw [Rat.den_divInt, if_neg (by omega), Int.gcd_comm d n, Int.tdiv_eq_ediv_of_dvd (Int.gcd_dvd_right ..)]
  have : (d.natAbs : Int) = d := by omega
  rw [Int.natCast_ediv, this]
 have hcm := fun (X : World) (hX : Ext w X) => r3common_ok X (h1.ext hX) (h2.ext hX) hm
 have hp1 := fun (X : World) (g : Value) (hX : Ext w X) (h : LgV m X g (Int.gcd n d)) => r3parts_ok X (h1.ext hX) h (by omega) hm hm
 have hp2 := fun (X : World) (g : Value) (hX : Ext w X) (h : LgV m X g (Int.gcd n d)) => r3parts_ok X (h2.ext hX) h (by omega) hm hm
 obtain ⟨s1, p1, n1, c1, rfl⟩ := h1.parts
 have hs2 : ∃ p2 n2 c2, v2 = .agg #[.bool false, .slice p2 n2 c2] := by
  obtain ⟨p, k, c, f, rfl, _⟩ := h2
  exact ⟨p, k, c, by rw [decide_eq_false (by omega)]⟩
 obtain ⟨p2, n2, c2, rfl⟩ := hs2
 go_enter Tryz.func274, Tryz.ntmps274
 go_wp2_with fail
 refine boxes3c fun W hB hs b0 b1 b2 => ?_
 refine (hcm W (.of_below hB)).mono ?_
 rintro e W2 ⟨vg, rfl, hg, hbb⟩
 obtain ⟨sg, pg, ng, cg, rfl⟩ := hg.parts
 replace b0 := b0.below hbb
 replace b1 := b1.below hbb
 replace b2 := b2.below hbb
 have hB2 := belowCall hB hbb
 clear hcm hbb hB
 go_wp2_with first | (refine wpList_put1 33 5 _ #[.bool sg, .slice pg ng cg] _ rfl rfl rfl rfl rfl rfl alloc_long (by as_aux_lemma => (intro _; kernel_rfl)) (by as_aux_lemma => (intro _; kernel_rfl)) sizeLong rfl (long_ones _ _ _ _) ?_; intro W3 B5 _ hB3 b5; replace b0 := b0.below hB3; replace b1 := b1.below hB3; replace b2 := b2.below hB3) | (refine wpList_load_box rfl 33 (.tmp 2) rfl w.heap.size (by as_aux_lemma => kernel_rfl) 33 #[.bool s1, .slice p1 n1 c1] b0 _ Tryz.underlying33 rfl sizeLong ?_) | (refine wpList_load_box rfl 33 (.tmp 5) rfl B5 (by as_aux_lemma => kernel_rfl) 33 #[.bool sg, .slice pg ng cg] b5 _ Tryz.underlying33 rfl sizeLong ?_)
 refine (hp1 W3 _ (.of_below (belowCall hB2 hB3)) (hg.below hB3)).mono ?_
 rintro e W4 ⟨vx, vr, rfl, hx, hr, hb4⟩
 obtain ⟨sx, px, nx, cx, rfl⟩ := hx.parts
 obtain ⟨sr, pr, nr, cr, rfl⟩ := hr.parts
 replace b1 := b1.below hb4
 replace b2 := b2.below hb4
 replace b5 := b5.below hb4
 have hB4 := belowCall (belowCall hB2 hB3) hb4
 have hg4 := (hg.below hB3).below hb4
 clear hp1 hg hb4 hB3 b0 hB2
 go_wp2_with first | (refine wpList_put2 33 6 7 _ _ #[.bool sx, .slice px nx cx] #[.bool sr, .slice pr nr cr] _ rfl rfl rfl rfl rfl rfl rfl rfl rfl rfl rfl rfl alloc_long (by as_aux_lemma => (intro _ _; kernel_rfl)) (by as_aux_lemma => (intro _ _; kernel_rfl)) (by as_aux_lemma => (intro _ _; kernel_rfl)) (by as_aux_lemma => (intro _ _; kernel_rfl)) sizeLong rfl rfl (long_ones _ _ _ _) (long_ones _ _ _ _) ?_; intro W5 B6 B7 _ _ _ hB5 b6 b7; replace b1 := b1.below hB5; replace b2 := b2.below hB5; replace b5 := b5.below hB5) | (refine wpList_load_box rfl 33 (.tmp 3) rfl (w.heap.size + 1) (by as_aux_lemma => kernel_rfl) 33 #[.bool false, .slice p2 n2 c2] b1 _ Tryz.underlying33 rfl sizeLong ?_) | (refine wpList_load_box rfl 33 (.tmp 5) rfl B5 (by as_aux_lemma => kernel_rfl) 33 #[.bool sg, .slice pg ng cg] b5 _ Tryz.underlying33 rfl sizeLong ?_)
 refine (hp2 W5 _ (.of_below (belowCall hB4 hB5)) (hg4.below hB5)).mono ?_
 rintro e W6 ⟨vy, vr2, rfl, hy, hr2, hb6⟩
 obtain ⟨sy, py, ny, cy, rfl⟩ := hy.parts
 obtain ⟨sr2, pr2, nr2, cr2, rfl⟩ := hr2.parts
 replace b2 := b2.below hb6
 replace b6 := b6.below hb6
 have hB6 := belowCall (belowCall hB4 hB5) hb6
 have hx6 := (hx.below hB5).below hb6
 clear hp2 hg4 hb6 hB5 hB4 b1 b5 b7 hx hr hr2
 rw [← hnum] at hx6
 rw [← hden] at hy
 clear hnum hden h1 h2 hg0
 go_wp2_with first | (refine wpList_load_box rfl 33 (.tmp 6) rfl B6 (by as_aux_lemma => kernel_rfl) 33 #[.bool sx, .slice px nx cx] b6 _ Tryz.underlying33 rfl sizeLong ?_) | (refine wpList_load_box rfl 33 (.tmp 8) rfl B8 (by as_aux_lemma => kernel_rfl) 33 #[.bool sy, .slice py ny cy] b8 _ Tryz.underlying33 rfl sizeLong ?_) | (refine wpList_build2 rfl 35 _ rfl #[.bool sx, .slice px nx cx, .bool sy, .slice py ny cy] (by as_aux_lemma => kernel_rfl) ?_) | (refine wpList_store_box rfl 35 (.tmp 4) _ rfl (w.heap.size + 1 + 1) 0 35 _ #[.bool sx, .slice px nx cx, .bool sy, .slice py ny cy] #[.bool sx, .slice px nx cx, .bool sy, .slice py ny cy] rfl rfl b2 sizeQuot (Nat.le_of_ble_eq_true rfl) (quot_ones _ _ _ _ _ _ _ _) (whole_new rfl) ?_; intro W8 hk b4) | (refine wpList_put2 33 8 9 _ _ #[.bool sy, .slice py ny cy] #[.bool sr2, .slice pr2 nr2 cr2] _ rfl rfl rfl rfl rfl rfl rfl rfl rfl rfl rfl rfl alloc_long (by as_aux_lemma => (intro _ _; kernel_rfl)) (by as_aux_lemma => (intro _ _; kernel_rfl)) (by as_aux_lemma => (intro _ _; kernel_rfl)) (by as_aux_lemma => (intro _ _; kernel_rfl)) sizeLong rfl rfl (long_ones _ _ _ _) (long_ones _ _ _ _) ?_; intro W7 B8 B9 _ _ _ hB7 b8 b9; replace b2 := b2.below hB7; replace b6 := b6.below hB7)
 have hB8 := belowCall hB6 hB7
 have hb8 := hk.below hB8 (by omega) hB8.size
 have he := hk.ext b2 (by decide)
 refine bodyPost_ret (b4.results rfl _ _ rfl Tryz.underlying35 rfl sizeQuot) rfl ⟨_, rfl, ⟨_, _, _, _, _, _, _, _, rfl, (hx6.below hB7).ext he, (hy.below hB7).ext he⟩, hb8⟩
end Go.Proofs.YtccmnjkgfgnmoaaGreatDoor
