/- The law CoatStacks: Film and Stack equal the reference, its walk by a verified evaluator, and its card. Part 2 of 11. No condition beside the row. -/
import Derived.Great.BuildSlice
import Derived.Test.YtdgodcgdlfjpaaaGreatDoorA01
import Derived.Test.YtdgodcgdlfjpaaaGreatDoorA02
import Derived.Test.YtdgodcgdlfjpaaaGreatDoorA03
import Derived.Test.YtdgodcgdlfjpaaaGreatDoorA04
import Derived.Test.YtdgodcgdlfjpaaaGreatDoorT01
set_option linter.unusedVariables false
set_option linter.unusedSimpArgs false
namespace Go.Mono
open Go.RowKit
theorem trimN_pos {f : Nat → Int} {k : Nat} (h0 : ∀ i, i < k → 0 ≤ f i) (h1 : ∀ i, i < k → f i < 1000000000) : (0 < trimN f k) ↔ 0 < vf f k := by
 obtain ⟨a, b⟩ := trimN_can h0 h1
 rw [← b]
 exact a.pos.symm
theorem trimN_last {f : Nat → Int} {k : Nat} (h : ¬ (0 < k ∧ f (k - 1) = 0)) : trimN f k = k := by
 by_cases hk : 0 < k
 ·exact trimN_ne f k hk (fun e => h ⟨hk, e⟩)
 ·obtain rfl : k = 0 := by omega
  rfl
end Go.Mono
namespace Go.Proofs.YtdgodcgdlfjpaaaGreatDoor
open Go.RowKit Go.Mono
theorem sizeLong : (Tryz.prog.info? 35).map (·.size) = some 2 := by kernel_rfl
set_option maxRecDepth 100000 in
set_option maxHeartbeats 1000000 in
theorem r3made_core (neg nb : Bool) (p : Option Addr) (n c K : Nat) (f : Nat → Int) (w : World) (h : SlF w (.slice p n c) n f) (hn6 : n ≤ 1000000) (hK : Hid (trimN f n = K)) (hN : Hid ((neg && decide (0 < K)) = nb)) :
  Calls Tryz.prog 245 #[.bool neg, .slice p n c] w fun e w' => ∃ v, e = .returned (.agg #[.bool nb, v]) ∧ OwnF w' w.heap.size v K f ∧ Below w.heap.size w w' := by
 obtain ⟨hc, hn, hx⟩ := h.opens
 have hsl := h
 clear h
 go_enter Tryz.func245, Tryz.ntmps245
 go_wp2_with fail
 refine boxes1 fun W hB hs b0 => ?_
 go_loopw [5] (fun a wr => ∃ k : Nat, k ≤ n ∧ a = .int .i64 (k : Int) ∧ trimN f k = trimN f n ∧ wr = W) (fun a _ => (intOf a).toNat)
 case atStart => exact ⟨n, Nat.le_refl _, rfl, rfl, rfl⟩
 case round =>
  obtain ⟨k, hk, rfl, ht, hWe⟩ := hrel
  obtain rfl : W = wr := hWe.symm
  have HT := Lib.hid ht; clear ht
  by_cases h0 : 0 < k ∧ f (k - 1) = 0
  ·obtain ⟨hk0, hz⟩ := h0
   obtain ⟨b, off, rfl, hb, hcell⟩ := hx (by omega)
   have hcl := (hB.cell (p := ⟨b, off + (k - 1), none⟩) hb).trans (hcell (k - 1) (by omega))
   rw [hz] at hcl
   obtain ⟨k, rfl⟩ : ∃ j, k = j + 1 := ⟨k - 1, by omega⟩
   have hz' := trimN_zero f (k + 1) hk0 hz
   simp only [Nat.add_sub_cancel] at hcl hz'
   replace hz' := Lib.hid hz'
   replace hz := Lib.hid hz
   clear hcell hx
   go_wp2
   go_roundw
   case rel => exact ⟨k, by omega, by simp, by rw [← hz'.out]; exact HT.out, trivial⟩
   case measure => simp [intOf]
  ·have hk' := trimN_last h0
   obtain rfl : k = K := by rw [← hK.out, ← HT.out, hk']
   clear hK hk' HT
   have hw0 := hB.size
   by_cases hk0 : 0 < k
   ·have hz : ¬ f (k - 1) = 0 := fun e => h0 ⟨hk0, e⟩
    obtain ⟨b, off, rfl, hb, hcell⟩ := hx (by omega)
    have hcl := (hB.cell (p := ⟨b, off + (k - 1), none⟩) hb).trans (hcell (k - 1) (by omega))
    obtain ⟨k, rfl⟩ : ∃ j, k = j + 1 := ⟨k - 1, by omega⟩
    simp only [Nat.add_sub_cancel] at hcl hz
    have hz2 : (f k == 0) = false := by simpa using hz
    replace hz := Lib.hid hz
    clear h0
    cases neg
    all_goals
     go_wp2
     go_loopw [7] (fun a W2 => ∃ (i : Nat) (v : Value), i ≤ k + 1 ∧ a = .int .i64 (i : Int) ∧ OwnF W2 (W.heap.size + 1) v i f ∧ Box W2 W.heap.size 35 #[.bool nb, v] ∧ Box W2 w.heap.size 35 #[.bool false, .slice none 0 0] ∧ Below w.heap.size w W2 ∧ W.heap.size + 1 ≤ W2.heap.size) (fun a _ => (k + 1 - intOf a).toNat)
     case atStart => exact ⟨0, _, Nat.zero_le _, rfl, OwnF.nil _ _ _, by rw [← hN.out]; exact Box.new _ _ _, b0.alloc _, belowAlloc hB _, by simp⟩
     case round =>
      obtain ⟨i, v, hi, rfl, ho, b1, b2, hB2, hs2⟩ := hrel
      by_cases hik : i < k + 1
      ·have hci := (hB2.cell (p := ⟨b, off + i, none⟩) hb).trans (hcell i (by omega))
       have hik' : (i : Int) < k + 1 := by omega
       obtain ⟨pv, cv, rfl⟩ := ho.shape
       have hin : i < n := by omega
       have hin' : (i : Int) < n := by omega
       have bX1 := b1.drew
       have bX2 := b2.drew
       have hoX := ho.below (Below.refl wr.heap.size wr).drew
       have hBX := hB2.drew
       have hX1 : wr.drew.cell? ⟨W.heap.size, 1, none⟩ = some (.slice pv i cv) := bX1.cell 1
       have hX2 : wr.drew.cell? ⟨b, off + i, none⟩ = some (.int .i64 (f i)) := hci
       have hsX : W.heap.size + 1 ≤ wr.drew.heap.size := hs2
       clear hcell hx hcl b1 b2 ho hci
       go_wp2_with fail
       refine wp_region_held_drew (S := fun w' => Below w.heap.size w w') (by as_aux_lemma => kernel_rfl) hBX (fun hHeld => ?_)
       generalize wr.drew = X0 at *
       refine tk 0 (some 33) ?_
       refine tk 2 (some 35) ?_
       refine tk 3 (some 36) ?_
       refine tk 4 (some 37) ?_
       refine Mono.fork2 1 5 ?_ ?_
       ·intro K hK
        refine Mono.arma (some 34) hK (.slice pv i cv) X0 hHeld (fun hHeld => Mono.pt ?_) rfl (by as_aux_lemma => kernel_rfl) (by go_simp)
        clear hK K
        refine Mono.sta 5 (some 38) (.int .i64 (f i)) X0 hHeld (fun hHeld => Mono.pt ?_) rfl rfl (by as_aux_lemma => kernel_rfl) (by as_aux_lemma => kernel_rfl) (by go_simp)
        refine Mono.sta 6 (some 39) (.slice (some ⟨X0.heap.size, 0, none⟩) 1 1) (X0.alloc (.cells #[.int .i64 (f i)] 3)) (belowAlloc hHeld _) (fun hHeld => Mono.pt ?_)
        refine Mono.st 7 ?_
        intro K hK
        rw [if_pos (by as_aux_lemma => kernel_rfl)]
        refine wp_push_int (.tmp 34) (.tmp 39) 33 rfl Tryz.underlying33 infoInt (W.heap.size + 1) (.slice pv i cv) i f rfl (hoX.below (belowAlloc (Below.refl _ _) _)) X0.heap.size (f i) rfl (Box.new _ _ _) (by omega) (by simp; omega) ?_
        intro v' X1 ho' hg
        have hz : Below (W.heap.size + 1) X0 X1 := ((Below.refl (W.heap.size + 1) X0).alloc hsX _).grown hg (by simp; omega) (fun k hk => hoX.low k hk)
        obtain ⟨p', c', rfl⟩ := ho'.shape
        have b1' := bX1.low hz (by omega)
        have b2' := bX2.low hz (by omega)
        have hB1 := hBX.trans (hz.mono (by omega))
        have hs1 := hz.size
        refine hK.out _ _ hB1 (fun hHeld => Mono.pt ?_)
        clear hK K hg hz bX1 bX2 hoX hBX hX1 hX2
        refine tk 8 (some 41) ?_
        have cb1 := b1'.cell
        have fb1 := b1'.frozen
        have lb1 := b1'.lt
        refine Mono.st 9 ?_
        intro K hK
        go_simp
        refine kp hK (belowSet hB1 (by omega) _ _) (fun hHeld => ?_)
        clear hK K
        refine wpAnyH_done (by as_aux_lemma => kernel_rfl) ?_ _
        go_wp2
        go_roundw
        case rel =>
         refine ⟨i + 1, _, by omega, by simp, ?_, b1'.set 1 _, b2'.other _ _ (by show w.heap.size ≠ W.heap.size; omega), hHeld, by simp; omega⟩
         refine OwnF.congr (ho'.set _ _ (by show W.heap.size < _; omega)) fun j hj => ?_
         by_cases hji : j < i
         ·rw [if_pos hji]
         ·rw [if_neg hji]
          congr 1; omega
        case measure => simp [intOf]; omega
       ·intro K hK
        refine Mono.arma (some 38) hK (.int .i64 (f i)) X0 hHeld (fun hHeld => Mono.pt ?_) rfl (by as_aux_lemma => kernel_rfl) (by go_simp)
        clear hK K
        refine Mono.fork2 1 6 ?_ ?_
        ·intro K hK
         refine Mono.arma (some 34) hK (.slice pv i cv) X0 hHeld (fun hHeld => Mono.pt ?_) rfl (by as_aux_lemma => kernel_rfl) (by go_simp)
         clear hK K
         refine Mono.sta 6 (some 39) (.slice (some ⟨X0.heap.size, 0, none⟩) 1 1) (X0.alloc (.cells #[.int .i64 (f i)] 3)) (belowAlloc hHeld _) (fun hHeld => Mono.pt ?_)
         refine Mono.st 7 ?_
         intro K hK
         rw [if_pos (by as_aux_lemma => kernel_rfl)]
         refine wp_push_int (.tmp 34) (.tmp 39) 33 rfl Tryz.underlying33 infoInt (W.heap.size + 1) (.slice pv i cv) i f rfl (hoX.below (belowAlloc (Below.refl _ _) _)) X0.heap.size (f i) rfl (Box.new _ _ _) (by omega) (by simp; omega) ?_
         intro v' X1 ho' hg
         have hz : Below (W.heap.size + 1) X0 X1 := ((Below.refl (W.heap.size + 1) X0).alloc hsX _).grown hg (by simp; omega) (fun k hk => hoX.low k hk)
         obtain ⟨p', c', rfl⟩ := ho'.shape
         have b1' := bX1.low hz (by omega)
         have b2' := bX2.low hz (by omega)
         have hB1 := hBX.trans (hz.mono (by omega))
         have hs1 := hz.size
         refine hK.out _ _ hB1 (fun hHeld => Mono.pt ?_)
         clear hK K hg hz bX1 bX2 hoX hBX hX1 hX2
         refine tk 8 (some 41) ?_
         have cb1 := b1'.cell
         have fb1 := b1'.frozen
         have lb1 := b1'.lt
         refine Mono.st 9 ?_
         intro K hK
         go_simp
         refine kp hK (belowSet hB1 (by omega) _ _) (fun hHeld => ?_)
         clear hK K
         refine wpAnyH_done (by as_aux_lemma => kernel_rfl) ?_ _
         go_wp2
         go_roundw
         case rel =>
          refine ⟨i + 1, _, by omega, by simp, ?_, b1'.set 1 _, b2'.other _ _ (by show w.heap.size ≠ W.heap.size; omega), hHeld, by simp; omega⟩
          refine OwnF.congr (ho'.set _ _ (by show W.heap.size < _; omega)) fun j hj => ?_
          by_cases hji : j < i
          ·rw [if_pos hji]
          ·rw [if_neg hji]
           congr 1; omega
         case measure => simp [intOf]; omega
        ·intro K hK
         have hX1' : (X0.alloc (.cells #[.int .i64 (f i)] 3)).cell? ⟨W.heap.size, 1, none⟩ = some (.slice pv i cv) := (bX1.alloc _).cell 1
         refine Mono.arma (some 39) hK (.slice (some ⟨X0.heap.size, 0, none⟩) 1 1) (X0.alloc (.cells #[.int .i64 (f i)] 3)) (belowAlloc hHeld _) (fun hHeld => Mono.pt ?_)
         clear hK K
         refine Mono.sta 1 (some 34) (.slice pv i cv) (X0.alloc (.cells #[.int .i64 (f i)] 3)) hHeld (fun hHeld => Mono.pt ?_) rfl rfl (by as_aux_lemma => kernel_rfl) (by as_aux_lemma => kernel_rfl) (by go_simp)
         refine Mono.st 7 ?_
         intro K hK
         rw [if_pos (by as_aux_lemma => kernel_rfl)]
         refine wp_push_int (.tmp 34) (.tmp 39) 33 rfl Tryz.underlying33 infoInt (W.heap.size + 1) (.slice pv i cv) i f rfl (hoX.below (belowAlloc (Below.refl _ _) _)) X0.heap.size (f i) rfl (Box.new _ _ _) (by omega) (by simp; omega) ?_
         intro v' X1 ho' hg
         have hz : Below (W.heap.size + 1) X0 X1 := ((Below.refl (W.heap.size + 1) X0).alloc hsX _).grown hg (by simp; omega) (fun k hk => hoX.low k hk)
         obtain ⟨p', c', rfl⟩ := ho'.shape
         have b1' := bX1.low hz (by omega)
         have b2' := bX2.low hz (by omega)
         have hB1 := hBX.trans (hz.mono (by omega))
         have hs1 := hz.size
         refine hK.out _ _ hB1 (fun hHeld => Mono.pt ?_)
         clear hK K hg hz bX1 bX2 hoX hBX hX1 hX2
         refine tk 8 (some 41) ?_
         have cb1 := b1'.cell
         have fb1 := b1'.frozen
         have lb1 := b1'.lt
         refine Mono.st 9 ?_
         intro K hK
         go_simp
         refine kp hK (belowSet hB1 (by omega) _ _) (fun hHeld => ?_)
         clear hK K
         refine wpAnyH_done (by as_aux_lemma => kernel_rfl) ?_ _
         go_wp2
         go_roundw
         case rel =>
          refine ⟨i + 1, _, by omega, by simp, ?_, b1'.set 1 _, b2'.other _ _ (by show w.heap.size ≠ W.heap.size; omega), hHeld, by simp; omega⟩
          refine OwnF.congr (ho'.set _ _ (by show W.heap.size < _; omega)) fun j hj => ?_
          by_cases hji : j < i
          ·rw [if_pos hji]
          ·rw [if_neg hji]
           congr 1; omega
         case measure => simp [intOf]; omega
      ·obtain rfl : i = k + 1 := by omega
       obtain ⟨pv, cv, rfl⟩ := ho.shape
       have hlong := sizeLong
       have cb1 := b1.cell
       have lb1 := b1.lt
       have fb1 := b1.frozen
       have cb2 := b2.cell
       have lb2 := b2.lt
       have fb2 := b2.frozen
       clear hcell hx hcl
       go_wp2
       have b4 := (b2.set 0 (.bool nb)).set 1 (.slice pv (k + 1) cv)
       refine bodyPost_ret (b4.results rfl _ _ rfl Tryz.underlying35 rfl sizeLong) rfl ⟨.slice pv (k + 1) cv, rfl, ?_, belowSet (belowSet hB2 (Nat.le_refl _) _ _) (Nat.le_refl _) _ _⟩
       exact ((ho.set _ _ (by show w.heap.size < _; omega)).set _ _ (by show w.heap.size < _; omega)).lower (by omega)
   ·obtain rfl : k = 0 := by omega
    cases neg
    all_goals
     go_wp2
     go_loopw [7] (fun a W2 => a = .int .i64 0 ∧ Box W2 W.heap.size 35 #[.bool nb, .slice none 0 0] ∧ Box W2 w.heap.size 35 #[.bool false, .slice none 0 0] ∧ Below w.heap.size w W2) (fun a _ => 0)
     case atStart => exact ⟨rfl, by rw [← hN.out]; exact Box.new _ _ _, b0.alloc _, belowAlloc hB _⟩
     case round =>
      obtain ⟨rfl, b1, b2, hB2⟩ := hrel
      have cb1 := b1.cell
      have lb1 := b1.lt
      have fb1 := b1.frozen
      have cb2 := b2.cell
      have lb2 := b2.lt
      have fb2 := b2.frozen
      clear hx
      go_wp2
      have b4 := (b2.set 0 (.bool nb)).set 1 (.slice none 0 0)
      refine bodyPost_ret (b4.results rfl _ _ rfl Tryz.underlying35 rfl sizeLong) rfl ⟨.slice none 0 0, rfl, OwnF.nil _ _ _, belowSet (belowSet hB2 (Nat.le_refl _) _ _) (Nat.le_refl _) _ _⟩
theorem r3made_ok (neg : Bool) (p : Option Addr) (n c : Nat) (f : Nat → Int) (w : World) (h : SlF w (.slice p n c) n f) (hn6 : n ≤ 1000000) (f0 : ∀ i, i < n → 0 ≤ f i) (f1 : ∀ i, i < n → f i < 1000000000) :
  Calls Tryz.prog 245 #[.bool neg, .slice p n c] w fun e w' => ∃ v, e = .returned (.agg #[.bool (neg && decide (0 < vf f n)), v]) ∧ OwnF w' w.heap.size v (trimN f n) f ∧ Digs f (trimN f n) ∧ vf f (trimN f n) = vf f n ∧ Below w.heap.size w w' := by
 obtain ⟨d1, d2⟩ := trimN_can f0 f1
 have hp := trimN_pos f0 f1
 refine (r3made_core neg (neg && decide (0 < vf f n)) p n c (trimN f n) f w h hn6 (Lib.hid rfl) (Lib.hid (by simp only [hp]))).mono ?_
 rintro e w' ⟨v, rfl, ho, hb⟩
 exact ⟨v, rfl, ho, d1, d2, hb⟩
end Go.Proofs.YtdgodcgdlfjpaaaGreatDoor
namespace Go.Proofs.YtdgodcgdlfjpaaaGreatDoor
open Go.RowKit Go.Mono
set_option maxHeartbeats 400000 in
theorem r3less_any (p q : Option Addr) (n m c1 c2 : Nat) (f g : Nat → Int) (w : World) (h1 : SlF w (.slice p n c1) n f) (h2 : SlF w (.slice q m c2) m g) :
  Calls Tryz.prog 253 #[.slice p n c1, .slice q m c2] w fun e w' => e = .returned (.bool (decide (cmpV f n g m < 0))) ∧ ∃ k, w' = w.drewN k := by
 obtain ⟨hc1, hn1, hx1⟩ := h1.opens
 obtain ⟨hc2, hn2, hx2⟩ := h2.opens
 clear h1 h2
 by_cases hnm : n = m
 ·subst hnm
  go_enter Tryz.func253, Tryz.ntmps253
  go_wp2
  go_loopw [5] (fun a wr => ∃ k : Nat, k ≤ n ∧ a = .int .i64 ((k : Int) - 1) ∧ cmpDown f g k = cmpDown f g n ∧ ∃ j, wr = w.drewN j) (fun a _ => (intOf a + 1).toNat)
  case atStart => exact ⟨n, Nat.le_refl _, rfl, rfl, 0, rfl⟩
  case round =>
   obtain ⟨k, hk, rfl, ht, j, rfl⟩ := hrel
   have HT := Lib.hid ht; clear ht
   by_cases h0 : 0 < k
   ·obtain ⟨b, off, rfl, hb, hcell⟩ := hx1 (by omega)
    obtain ⟨b2, off2, rfl, hb2, hcell2⟩ := hx2 (by omega)
    have a1 := hcell (k-1) (by omega)
    have a2 := hcell2 (k-1) (by omega)
    clear hcell hcell2 hx1 hx2
    obtain ⟨k, rfl⟩ : ∃ j, k = j + 1 := ⟨k-1, by omega⟩
    simp only [Nat.add_sub_cancel] at a1 a2
    rw [show ((k + 1 : Nat) : Int) - 1 = (k : Int) by omega]
    have HE := cmpDown_eq f g (k + 1) (by omega)
    have HN := cmpDown_ne f g (k + 1) (by omega)
    simp only [Nat.add_sub_cancel] at HE HN
    replace HE := Lib.hid HE
    replace HN := Lib.hid HN
    by_cases hfg : f k = g k
    ·have hq : (f k != g k) = false := by simpa using hfg
     have HF := Lib.hid hfg; clear hfg
     go_wp2
     go_quiet (fail)
     go_wp2
     go_roundw
     case rel => exact ⟨k, by omega, rfl, by rw [← HT.out, HE.out HF.out], _, rfl⟩
     case measure => simp [intOf]
    ·have hq : (f k != g k) = true := by simpa using hfg
     have HF := Lib.hid hfg; clear hfg
     go_wp2
     go_quiet (fail)
     go_wp2
     go_quiet (fail)
     go_wp2
     go_ret
     exact ⟨by rw [cmpV, if_pos rfl, ← HT.out, HN.out HF.out, show decide (f k - g k < 0) = decide (f k < g k) from by rw [decide_eq_decide]; omega]; rfl, _, by rw [World.drewN_drewN, World.drewN_drewN]⟩
   ·obtain rfl : k = 0 := by omega
    go_wp2
    go_ret
    exact ⟨by rw [cmpV, if_pos rfl, ← HT.out]; rfl, _, rfl⟩
 ·have hnm' : ((n : Int) != (m : Int)) = true := by simp; omega
  go_enter Tryz.func253, Tryz.ntmps253
  go_wp2
  go_ret
  refine ⟨by rw [cmpV, if_neg hnm, show decide ((n : Int) - m < 0) = decide (n < m) from by rw [decide_eq_decide]; omega]; rfl, 0, rfl⟩
theorem r3less_ok (p q : Option Addr) (n m c1 c2 : Nat) (f g : Nat → Int) (w : World) (h1 : SlF w (.slice p n c1) n f) (h2 : SlF w (.slice q m c2) m g) (d1 : Digs f n) (d2 : Digs g m) :
  Calls Tryz.prog 253 #[.slice p n c1, .slice q m c2] w fun e w' => e = .returned (.bool (decide (vf f n < vf g m))) ∧ ∃ k, w' = w.drewN k := by
 refine (r3less_any p q n m c1 c2 f g w h1 h2).mono ?_
 rintro e w' ⟨rfl, hk⟩
 exact ⟨by simp only [(cmpV_spec d1 d2).1], hk⟩
theorem r3at_ok (p : Option Addr) (n c i : Nat) (f : Nat → Int) (w : World) (h : SlF w (.slice p n c) n f) :
  Calls Tryz.prog 275 #[.slice p n c, .int .i64 (i : Int)] w fun e w' => e = .returned (.int .i64 (xt f n i)) ∧ w' = w := by
 obtain ⟨hc, hn, hx⟩ := h.opens
 clear h
 by_cases hin : i < n
 ·obtain ⟨b, off, rfl, hb, hcell⟩ := hx (by omega)
  have a1 := hcell i hin
  have hi' : (i : Int) < n := by omega
  rw [xt_lt hin]
  clear hcell hx
  go_enter Tryz.func275, Tryz.ntmps275
  go_wp2
  go_ret
  exact ⟨rfl, rfl⟩
 ·have hi' : ¬ (i : Int) < n := by omega
  rw [xt_ge (by omega)]
  clear hx
  go_enter Tryz.func275, Tryz.ntmps275
  go_wp2
  go_ret
  exact ⟨rfl, rfl⟩
end Go.Proofs.YtdgodcgdlfjpaaaGreatDoor
namespace Go.Proofs.YtdgodcgdlfjpaaaGreatDoor
open Go.RowKit Go.Mono
theorem frow_ones (G : Nat → Flm) (n : Nat) : ∀ u ∈ frow G n, u.oneCell' = true := by
 induction n with
 | zero => intro u hu; cases hu
 | succ n ih =>
   intro u hu
   rw [frow, List.mem_append] at hu
   rcases hu with hu | hu
   ·exact ih u hu
   ·simp [Flm.vals] at hu
    rcases hu with rfl | rfl | rfl <;> rfl
theorem films_cells {w : World} {b : Addr} {n c : Nat} {F : Nat → Flm} (h : FilmsAt w (some b) n c F) : ∀ j u, (frow F n)[j]? = some u → w.cell? (b.add j) = some u := by
 intro j u hj
 have hl : j < (frow F n).length := (List.getElem?_eq_some_iff.1 hj).1
 rw [frow_length] at hl
 obtain ⟨b', off, hp, hb, hc⟩ := h.2.2 (by omega)
 cases hp
 have h1 := hc (j / 3) (j % 3) (by omega) (by omega)
 have h2 := frow_get F n (j / 3) (j % 3) (by omega) (by omega)
 rw [show j / 3 * 3 + j % 3 = j by omega] at h2
 rw [h2] at hj
 cases hj
 rw [Addr.add_lit, ← h1]
 congr 2
 omega
set_option maxRecDepth 100000 in
set_option maxHeartbeats 2000000 in
theorem clone_ok (p : Option Addr) (n c : Nat) (hn : n ≤ 1000) (F : Nat → Flm) (w : World) (h : FilmsAt w p n c F) (hp : p = none → n = 0 ∧ c = 0) :
  Calls Tryz.prog 33 #[.slice p n c] w fun e w' => ∃ p' c', e = .returned (.slice p' n c') ∧ w'.ownsRow w.heap.size 24 3 (.slice p' n c') n (frow F n) ∧ Below w.heap.size w w' := by
 obtain ⟨ti, hti1, htz, hts, htb⟩ := info_parts infoFilm
 cases p with
 | none =>
   obtain ⟨rfl, rfl⟩ := hp rfl
   have hnil : ∀ w, (binOp BinOp.eql 27 (Value.slice none 0 0) (Value.slice none 0 0)).run Tryz.prog w = .ok (.bool true) w := fun w => by kernel_rfl
   go_enter Tryz.func33, Tryz.ntmps33
   go_wp2
   go_ret
   exact ⟨none, 0, rfl, World.ownsRow_nil _ _ _ _, Below.refl _ _⟩
 | some b =>
   have hb1 : Below w.heap.size w (w.alloc (.cells #[] 24)) := belowAlloc (Below.refl _ _) _
   have hcl := films_cells (h.below hb1)
   have hown : (w.alloc (.cells #[] 24)).ownsRow w.heap.size 24 3 (.slice (some ⟨w.heap.size, 0, none⟩) 0 0) 0 [] := ⟨rfl, .inr ⟨w.heap.size, 0, #[], rfl, Nat.le_refl _, (Box.new _ _ _).blk, Nat.le_refl _, Nat.zero_le _, rfl, rfl⟩⟩
   have hnil : ∀ w, (binOp BinOp.eql 27 (Value.slice (some b) n c) (Value.slice none 0 0)).run Tryz.prog w = .ok (.bool false) w := fun w => by kernel_rfl
   have hfl := frow_length F n
   have hf1 := frow_ones F n
   generalize frow F n = row at *
   go_enter Tryz.func33, Tryz.ntmps33
   go_wp2_with first | (refine wpList_append_own _ rfl _ _ 27 rfl w.heap.size 24 ti _ 3 24 Tryz.underlying27 hti1 htz hts htb rfl (by decide) _ _ _ rfl hown b n c row rfl hfl hcl hf1 (by simp [maxLen]; omega) (by omega) hb1.size ?_; intro v' W3 hown3 hgrow _)
   have hB3 := Below.appended hown hgrow hb1 (Nat.le_refl _)
   rw [Nat.zero_add] at hown3
   obtain ⟨p', c', rfl⟩ := ownsRow_slice hown3
   go_wp2
   go_ret
   exact ⟨p', c', rfl, hown3, hB3⟩
end Go.Proofs.YtdgodcgdlfjpaaaGreatDoor
namespace Go.Proofs.YtdgodcgdlfjpaaaGreatDoor
open Go.RowKit Go.Mono
set_option maxRecDepth 100000 in
set_option maxHeartbeats 2000000 in
theorem films_ok (p : Option Addr) (n c : Nat) (G : Nat → Thn) (hG : ∀ i, i < n → (G i).ok) (most : Nat) (hm : most ≤ 9) (w : World) (h : ThinsAt w p n c G) :
  Calls Tryz.prog 13 #[.slice p n c, .int .i64 (most : Int)] w fun e w' => ∃ p' c', e = .returned (.slice p' (min n most) c') ∧ w'.ownsRow w.heap.size 24 3 (.slice p' (min n most) c') (min n most) (frow (fun i => (G i).film) (min n most)) ∧ Below w.heap.size w w' := by
 have hn63 : n ≤ 140737488351232 := h.2.1
 go_enter Tryz.func13, Tryz.ntmps13
 go_wp2_with fail
 go_loopw [5, 6] (fun v x wr => ∃ i : Nat, i ≤ min n most ∧ x = .int .i64 (i : Int) ∧ wr.ownsRow w.heap.size 24 3 v i (frow (fun i => (G i).film) i) ∧ Below w.heap.size w wr) (fun _ x _ => (most - intOf x).toNat)
 case atStart => exact ⟨0, Nat.zero_le _, rfl, World.ownsRow_nil _ _ _ _, Below.refl _ _⟩
 case round =>
  obtain ⟨i, hi, rfl, hown, hB⟩ := hrel
  by_cases him : i < min n most
  ·have h1 : i < n := by omega
   have h2 : i < most := by omega
   obtain ⟨b, off, rfl, hbl, hrow0⟩ := h.rowAt (by omega)
   have hrow := hrow0 i h1 wr hB
   have hti := hG i h1
   obtain ⟨v0, v1, v2, hv⟩ : ∃ v0 v1 v2 : Int, G i = ⟨v0, v1, v2⟩ := ⟨_, _, _, rfl⟩
   have r0 : wr.cell? ⟨b, off + i * 3, none⟩ = some (.int .u8 v0) := by have := hrow 0 (by omega); rw [hv] at this; exact this
   have r1 : wr.cell? ⟨b, off + i * 3 + 1, none⟩ = some (.int .u8 v1) := by have := hrow 1 (by omega); rw [hv] at this; exact this
   have r2 : wr.cell? ⟨b, off + i * 3 + 2, none⟩ = some (.int .u8 v2) := by have := hrow 2 (by omega); rw [hv] at this; exact this
   have hrg : wr.rangeAt b (off + i * 3) (Thn.mk v0 v1 v2).vals.toList := by
    intro j u hj
    match j, hj with
    | 0, hj => cases hj; exact r0
    | 1, hj => cases hj; exact r1
    | 2, hj => cases hj; exact r2
   have hsl : (Tryz.prog.info? 112).map (·.size) = some (Thn.mk v0 v1 v2).vals.toList.length := by kernel_rfl
   have hin : (i : Int) < n := by omega
   have him' : (i : Int) < most := by omega
   obtain ⟨ti, hti1, htz, hts, htb⟩ := info_parts infoFilm
   have hwr := hB.size
   have hfi : (fun i => (G i).film) i = Thn.film ⟨v0, v1, v2⟩ := by simp only [hv]
   clear hrow0 hrow r0 r1 r2 h hG
   rw [hv] at hti
   go_wp2_with first | (refine wpList_load_mid rfl 112 _ rfl b (off + i * 3) rfl (Thn.mk v0 v1 v2).vals.toList _ hrg Tryz.underlying112 rfl hsl ?_)
   refine (thin_film ⟨v0, v1, v2⟩ hti wr).mono ?_
   rintro e W1 ⟨rfl, hb1⟩
   obtain ⟨x0, x1, x2, hx⟩ : ∃ x0 x1 x2 : Int, (Thn.film ⟨v0, v1, v2⟩).vals = #[.int .i64 x0, .int .i64 x1, .int .i64 x2] := ⟨_, _, _, rfl⟩
   rw [hx]
   have hown1 := ownsRow_below hown hb1
   have hB1 := belowCall hB hb1
   have hb2 : Below W1.heap.size W1 (W1.alloc (.cells #[.int .i64 x0, .int .i64 x1, .int .i64 x2] 24)) := belowAlloc (Below.refl _ _) _
   have hown2 := ownsRow_below hown1 hb2
   have hB2 := belowCall hB1 hb2
   have hcn := new_cells W1 #[.int .i64 x0, .int .i64 x1, .int .i64 x2] 24
   replace hx := Lib.hid hx
   replace hfi := Lib.hid hfi
   clear hown hown1 hb1 hrg
   go_wp2_with first | ((refine wpList_append_own _ rfl _ _ 27 rfl w.heap.size 24 ti _ 3 24 Tryz.underlying27 hti1 htz hts htb rfl (by decide) _ _ _ rfl hown2 ⟨W1.heap.size, 0, none⟩ 1 1 [.int .i64 x0, .int .i64 x1, .int .i64 x2] rfl rfl hcn (by simp [Value.oneCell']) (by simp [maxLen]; omega) (by omega) hB2.size ?_); intro v' W3 hown3 hgrow _)
   have hB3 := Below.appended hown2 hgrow hB2 (Nat.le_refl _)
   go_roundw
   case rel =>
    refine ⟨i + 1, by omega, by simp, ?_, hB3⟩
    rw [frow, hfi.out, hx.out]
    exact hown3
   case measure => simp [intOf]; omega
  ·obtain rfl : i = min n most := by omega
   obtain ⟨p', c', rfl⟩ := ownsRow_slice hown
   by_cases hnm : (↑(min n most) : Int) < n
   ·have hmm : ¬ (↑(min n most) : Int) < most := by omega
    go_wp2
    go_ret
    exact ⟨p', c', rfl, hown, hB⟩
   ·go_wp2
    go_ret
    exact ⟨p', c', rfl, hown, hB⟩
end Go.Proofs.YtdgodcgdlfjpaaaGreatDoor
namespace Go.Ev
open Go.RowKit Go.Mono
theorem oneCell_cells {v : Value} (h : v.oneCell' = true) : v.cells = #[v] := by
 cases v <;> first | rfl | simp [Value.oneCell'] at h
def unitsA : SA → List U
 | .one u => [u]
 | .agg l => l
theorem denA_cells {D : Den} {ρ : Nm} {w : World} : ∀ {x : SA} {v : Value}, denA D ρ w x v → denL D ρ w (unitsA x) v.cells.toList
 | .one u, v, h => by
   rw [oneCell_cells (denU.ones h v (by simp))]
   exact ⟨[v], [], rfl, h, rfl⟩
 | .agg l, v, ⟨cs, e, hl⟩ => by rw [e]; exact hl
def fillS (place : Nat → Option (Nat × Nat)) (l : List U) : List (Nat × List U) → Option (List U)
 | [] => some l
 | (i, us) :: r => match place i with
   | none => none
   | some (off, size) => if widths us = size then (putU l off us).bind fun m => fillS place m r else none
theorem foldl_put (off : Nat) : ∀ (vs : List Value) (k : Nat) (cs : Array Value), off + k + vs.length ≤ cs.size →
  (vs.zipIdx k).foldl (fun c (p : Value × Nat) => c.setIfInBounds (off + p.2) p.1) cs = (cs.toList.take (off + k) ++ vs ++ cs.toList.drop (off + k + vs.length)).toArray
 | [], k, cs, h => by simp
 | v :: r, k, cs, h => by
   have hl : off + k + (r.length + 1) ≤ cs.size := by simpa using h
   rw [List.zipIdx_cons, List.foldl_cons, foldl_put off r (k + 1) _ (by simp; omega)]
   apply congrArg
   rw [Array.toList_setIfInBounds, ← Nat.add_assoc]
   have hL : off + k < cs.toList.length := by rw [Array.length_toList]; omega
   rw [List.set_eq_take_append_cons_drop, if_pos hL]
   generalize off + k = m at *
   have e1 : (cs.toList.take m).length = m := by rw [List.length_take]; omega
   have t1 : (cs.toList.take m ++ v :: cs.toList.drop (m + 1)).take (m + 1) = cs.toList.take m ++ [v] := by
    rw [List.take_append, e1, List.take_of_length_le (by omega), show m + 1 - m = 0 + 1 by omega, List.take_succ_cons]
    simp
   have t2 : (cs.toList.take m ++ v :: cs.toList.drop (m + 1)).drop (m + 1 + r.length) = cs.toList.drop (m + (r.length + 1)) := by
    rw [List.drop_append, e1, List.drop_of_length_le (by omega), show m + 1 + r.length - m = r.length + 1 by omega, List.drop_succ_cons, List.drop_drop, List.nil_append]
    congr 1
    omega
   rw [t1, t2]
   simp
section
variable {D : Den} {ρ : Nm} {w : World}
def denParts (D : Den) (ρ : Nm) (w : World) : List (Nat × List U) → List (Nat × Value) → Prop
 | [], vs => vs = []
 | p :: r, vs => ∃ v s, vs = (p.1, v) :: s ∧ denL D ρ w p.2 v.cells.toList ∧ denParts D ρ w r s
theorem fillS_ok (place : Nat → Option (Nat × Nat)) : ∀ {ps : List (Nat × List U)} {l m : List U} {cs : List Value} {vs : List (Nat × Value)}, fillS place l ps = some m → denL D ρ w l cs → denParts D ρ w ps vs →
  ∃ c : Array Value, Instr.fill place cs.toArray vs = some c ∧ denL D ρ w m c.toList
 | [], l, m, cs, vs, h, hl, hp => by
   obtain rfl : vs = [] := hp
   cases h
   exact ⟨_, rfl, hl⟩
 | (i, us) :: r, l, m, cs, vs, h, hl, hp => by
   obtain ⟨v, s, rfl, hv, hs⟩ := hp
   unfold fillS at h
   cases hpl : place i with
   | none => rw [hpl] at h; cases h
   | some os =>
     obtain ⟨off, size⟩ := os
     rw [hpl] at h
     dsimp only at h
     split at h
     ·rename_i hw
      obtain ⟨m', hm', h2⟩ := Option.bind_eq_some_iff.1 h
      obtain ⟨k1, k2⟩ := putU_den hm' hl hv
      have hlen := hv.len
      have hsz : v.cells.size = size := by rw [← hw, ← hlen, Array.length_toList]
      have hk : ¬ (off + v.cells.size > cs.length) := by
       rw [Array.length_toList] at k2
       omega
      obtain ⟨c, hc1, hc2⟩ := fillS_ok place h2 k1 hs
      refine ⟨c, ?_, hc2⟩
      show (match place i with
       | none => none
       | some (off, size) =>
         if v.cells.size ≠ size || off + v.cells.size > cs.toArray.size then none
         else Instr.fill place (v.cells.zipIdx.foldl (fun cs (c, j) => cs.setIfInBounds (off + j) c) cs.toArray) s) = some c
      rw [hpl]
      dsimp only
      rw [if_neg (by simp [hsz]; omega), ← hc1]
      congr 1
      have := foldl_put off v.cells.toList 0 cs.toArray (by simp; rw [Array.length_toList] at k2; omega)
      simp only [Nat.add_zero, List.toList_toArray] at this
      rw [← this, ← Array.foldl_toList]
      simp
     ·cases h
end
def zeroU (P : Program) (t : TypeId) : Option (List U) :=
 match (P.info? t).bind (·.zero) with
 | some z => if z.cells.toList.all (·.oneCell') then some (z.cells.toList.map .val) else none
 | none => none
theorem zeroU_ok {P : Program} {t : TypeId} {l : List U} (h : zeroU P t = some l) (D : Den) (ρ : Nm) (w : World) :
  ∃ i z, P.info? t = some i ∧ i.zero = some z ∧ denL D ρ w l z.cells.toList := by
 unfold zeroU at h
 split at h
 ·rename_i z hz
  obtain ⟨i, hi, hz'⟩ := Option.bind_eq_some_iff.1 hz
  split at h
  ·rename_i ha
   cases h
   exact ⟨i, z, hi, hz', denL_vals _ fun v hv => List.all_eq_true.1 ha v hv⟩
  ·cases h
 ·cases h
def getS (tm : List (Nat × SV)) : Operand → Option SV
 | .tmp t => tm.lookup t
 | .const v => ofVal v
 | .global g => some (.a (.one (.val (.pointer (some ⟨g, 0, none⟩)))))
 | .func f => some (.a (.one (.clo f [])))
structure TSat (D : Den) (ρ : Nm) (w : World) (n : Nat) (tm : List (Nat × SV)) (a : Act) : Prop where
 size : a.tmps.size = n
 at_ : ∀ t x, tm.lookup t = some x → ∃ v, a.tmps[t]? = some v ∧ denV D ρ w x v
theorem TSat.get {D : Den} {ρ : Nm} {w : World} {n : Nat} {tm : List (Nat × SV)} {a : Act} (h : TSat D ρ w n tm a) : ∀ {x : Operand} {z : SV}, getS tm x = some z → denV D ρ w z (a.eval x)
 | .tmp t, z, hz => by
   obtain ⟨v, hv, hd⟩ := h.at_ t z hz
   have : a.eval (.tmp t) = v := by
    show a.tmps.getD t undef = v
    simp [Array.getD_eq_getD_getElem?, hv]
   rw [this]
   exact hd
 | .const v, z, hz => ofVal_den hz
 | .global g, z, hz => by cases hz; exact ⟨rfl, rfl⟩
 | .func f, z, hz => by cases hz; exact ⟨[], rfl, rfl⟩
theorem TSat.mono {D : Den} {ρ ρ' : Nm} {w w' : World} {n : Nat} {tm : List (Nat × SV)} {a : Act} (h : TSat D ρ w n tm a) (hr : ρ.le ρ') (hx : Ext w w') : TSat D ρ' w' n tm a :=
 ⟨h.size, fun t x hl => let ⟨v, hv, hd⟩ := h.at_ t x hl; ⟨v, hv, hd.mono hr hx⟩⟩
def partsS (get : Operand → Option SV) : List (Nat × Operand) → Option (List (Nat × List U))
 | [] => some []
 | (i, x) :: r => match get x with
   | some (.a s) => (partsS get r).map ((i, unitsA s) :: ·)
   | _ => none
theorem partsS_ok {D : Den} {ρ : Nm} {w : World} {get : Operand → Option SV} {ev : Operand → Value} (hg : ∀ x z, get x = some z → denV D ρ w z (ev x)) :
  ∀ {l : List (Nat × Operand)} {ps : List (Nat × List U)}, partsS get l = some ps → denParts D ρ w ps (l.map fun (i, x) => (i, ev x))
 | [], ps, h => by cases h; rfl
 | (i, x) :: r, ps, h => by
   unfold partsS at h
   split at h
   ·rename_i s hs
    obtain ⟨q, hq, rfl⟩ := Option.map_eq_some_iff.1 h
    exact ⟨_, _, rfl, denA_cells (hg _ _ hs), partsS_ok hg hq⟩
   ·cases h
def buildS (P : Program) (t : TypeId) (parts : List (Nat × Operand)) (get : Operand → Option SV) : Option SV :=
 match zeroU P t, partsS get parts with
 | some z, some ps => match P.underlying t with
   | some (.array _ e) => match szOf P e with
     | some s => (fillS (fun i => some (i * s, s)) z ps).map fun m => .a (.agg m)
     | none => none
   | some (.struct fields) => match fields.toList.mapM (fun f => (P.info? f.type).map fun i => (f.offset, i.size)) with
     | some places => (fillS (places.toArray[·]?) z ps).map fun m => .a (.agg m)
     | none => none
   | _ => none
 | _, _ => none
theorem buildS_ok {D : Den} {P : Program} {ρ : Nm} {w : World} {get : Operand → Option SV} {ev : Operand → Value} (hg : ∀ x z, get x = some z → denV D ρ w z (ev x))
  {t : TypeId} {parts : Array (Nat × Operand)} {x : SV} (h : buildS P t parts.toList get = some x) (W : World) :
  ∃ v, (Instr.build t (parts.map fun (i, x) => (i, ev x))).run P W = .ok v W ∧ denV D ρ w x v := by
 unfold buildS at h
 split at h
 ·rename_i z ps hz hp
  obtain ⟨it, zv, h1, h2, h3⟩ := zeroU_ok hz D ρ w
  have hps := partsS_ok hg hp
  split at h
  ·rename_i n e hu
   split at h
   ·rename_i s hs
    obtain ⟨m, hm, rfl⟩ := Option.map_eq_some_iff.1 h
    obtain ⟨c, hc1, hc2⟩ := fillS_ok _ hm h3 hps
    obtain ⟨ie, hie, rfl⟩ := Option.map_eq_some_iff.1 hs
    refine ⟨.agg c, run_build W t _ c ?_, c.toList, by simp, hc2⟩
    unfold Program.built
    rw [h1, hu]
    dsimp only
    rw [h2, hie]
    simpa using hc1
   ·cases h
  ·rename_i fields hu
   split at h
   ·rename_i places hpl
    obtain ⟨m, hm, rfl⟩ := Option.map_eq_some_iff.1 h
    obtain ⟨c, hc1, hc2⟩ := fillS_ok _ hm h3 hps
    refine ⟨.agg c, run_build W t _ c ?_, c.toList, by simp, hc2⟩
    unfold Program.built
    rw [h1, hu]
    dsimp only
    rw [h2, hpl]
    simpa using hc1
   ·cases h
  ·cases h
 ·cases h
end Go.Ev
namespace Go.Ev
open Go.RowKit Go.Mono
def capsOf (get : Operand → Option SV) : List Operand → Option (List (Nat × Nat))
 | [] => some []
 | x :: r => match get x with
   | some (.a (.one (.ptr k o))) => (capsOf get r).map ((k, o) :: ·)
   | _ => none
def realO (get : Operand → Option SV) : Option Operand → Option (Option Value)
 | none => some none
 | some x => ((get x).bind realV).map some
def sliceS (P : Program) (t : TypeId) (x : Option SV) (get : Operand → Option SV) (lo hi mx : Option Operand) : Option SV :=
 match realO get lo, realO get hi, realO get mx with
 | some l, some h, some m => match x, P.underlying t with
   | some (.a (.one (.slc k off len cap))), some (.slice e) => match pureOf P (Instr.sliceBounds true len cap l h m), szOf P e with
     | some (a, b, c), some s => some (.a (.one (.slc k (if c = a then off else off + a * s) (b - a) (c - a))))
     | _, _ => none
   | some (.a (.one (.ptr k off))), some (.array n e) => match pureOf P (Instr.sliceBounds false n n l h m), szOf P e with
     | some (a, b, c), some s => some (.a (.one (.slc k (if c = a then off else off + a * s) (b - a) (c - a))))
     | _, _ => none
   | _, _ => none
 | _, _, _ => none
def lenS (P : Program) (c : Call) (get : Operand → Option SV) : Option SV :=
 match c.callee, c.args.toList, c.argTypes.toList with
 | .builtin .len, [x], [t] => match get x, P.underlying t with
   | some (.a (.one (.slc _ _ n _))), some (.slice _) => some (.a (.one (.val (goInt n))))
   | some (.a (.one (.sli _ _ n))), some (.slice _) => some (.a (.one (.val (goInt n))))
   | some (.a (.one .emp)), some (.slice _) => some (.a (.one (.val (goInt (0 : Nat)))))
   | _, _ => none
 | .builtin .cap, [x], [t] => match get x, P.underlying t with
   | some (.a (.one (.slc _ _ _ c))), some (.slice _) => some (.a (.one (.val (goInt c))))
   | _, _ => none
 | _, _, _ => none
def loadS (P : Program) (t : TypeId) (x : Option SV) (bk : List (Nat × Blk)) : Option SV :=
 match x with
 | some (.a (.one (.ptr k off))) => match bk.lookup k with
   | some b => partS P t b.cells off
   | none => none
 | _ => none
def isSelect : Op → Bool
 | .select .. => true
 | _ => false
def realOp (P : Program) (o : Oper) (get : Operand → Option SV) : Option SV :=
 if !isSelect o.op && o.op.operands.toList.all (fun x => ((get x).bind realV).isSome) then
  match pureOf P (execOp (fun x => ((get x).bind realV).getD undef) o) with
  | some (.value v) => ofVal v
  | _ => none
 else none
def evPure (P : Program) (o : Oper) (get : Operand → Option SV) (bk : List (Nat × Blk)) : Option SV :=
 match o.op with
 | .move x => get x
 | .assign x => get x
 | .makeFunc (.func f) first caps => if first.isEmpty then (capsOf get caps.toList).map fun l => .a (.one (.clo f l)) else none
 | .fieldAddr s x f => fieldAddrS P s (get x) f
 | .indexAddr t x ix => match indexAddrS P t (get x) (get ix) with
   | some r => some r
   | none => realOp P o get
 | .field t x f => match fieldS P t (get x) f with
   | some r => some r
   | none => realOp P o get
 | .index t x ix => match indexS P t (get x) (get ix) with
   | some r => some r
   | none => realOp P o get
 | .extract x i => match get x with
   | some (.tup l) => (l[i]?).map .a
   | _ => none
 | .nilCheck x => match get x with
   | some (.a (.one (.ptr k off))) => some (.a (.one (.ptr k off)))
   | some (.a (.one (.clo f l))) => some (.a (.one (.clo f l)))
   | _ => realOp P o get
 | .build t parts => buildS P t parts.toList get
 | .load t x => loadS P t (get x) bk
 | .slice t x lo hi mx => match sliceS P t (get x) get lo hi mx with
   | some r => some r
   | none => realOp P o get
 | .call c => match lenS P c get with
   | some r => some r
   | none => realOp P o get
 | _ => realOp P o get
section
variable {D : Den} {P : Program} {ρ : Nm} {wc w : World} {get : Operand → Option SV} {ev : Operand → Value}
theorem capsOf_ok (hg : ∀ x z, get x = some z → denV D ρ wc z (ev x)) : ∀ {l : List Operand} {c : List (Nat × Nat)}, capsOf get l = some c → adrs ρ c (l.map ev)
 | [], c, h => by cases h; rfl
 | x :: r, c, h => by
   unfold capsOf at h
   split at h
   ·rename_i k o hx
    obtain ⟨q, hq, rfl⟩ := Option.map_eq_some_iff.1 h
    obtain ⟨B, hB, e⟩ := hg _ _ hx
    exact ⟨B, _, hB, by rw [List.map_cons, show ev x = _ from by simpa using e], capsOf_ok hg hq⟩
   ·cases h
theorem realO_ok (hg : ∀ x z, get x = some z → denV D ρ wc z (ev x)) {x : Option Operand} {l : Option Value} (h : realO get x = some l) : l = x.map ev := by
 cases x with
 | none => cases h; rfl
 | some x =>
   unfold realO at h
   obtain ⟨v, hv, rfl⟩ := Option.map_eq_some_iff.1 h
   obtain ⟨z, hz, hr⟩ := Option.bind_eq_some_iff.1 hv
   rw [Option.map_some, realV_den hr (hg _ _ hz)]
theorem add_if (B off a c s : Nat) : (if c = a then (⟨B, off, none⟩ : Addr) else (⟨B, off, none⟩ : Addr).add (a * s)) = ⟨B, if c = a then off else off + a * s, none⟩ := by
 split
 ·rfl
 ·rw [Addr.add_mid]
theorem sliceS_ok (hg : ∀ x z, get x = some z → denV D ρ wc z (ev x)) {t : TypeId} {x : Operand} {lo hi mx : Option Operand} {r : SV} (h : sliceS P t (get x) get lo hi mx = some r) :
  ∃ v, (Instr.sliceAt t (ev x) (lo.map ev) (hi.map ev) (mx.map ev)).run P w = .ok v w ∧ denV D ρ wc r v := by
 unfold sliceS at h
 split at h
 ·rename_i l h' m hl hh hm
  rw [← realO_ok hg hl, ← realO_ok hg hh, ← realO_ok hg hm]
  split at h
  ·rename_i k off len cap e hx hu
   split at h
   ·rename_i a b c s hb hs
    cases h
    obtain ⟨B, hB, e1⟩ := hg _ _ hx
    rw [show ev x = _ from by simpa using e1]
    refine ⟨.slice (some ⟨B.blk, B.base + (if c = a then off else off + a * s), none⟩) (b - a) (c - a), ?_, B, hB, rfl⟩
    unfold Instr.sliceAt
    simp only [Sem.run_bind, run_underlying hu, Result.andThen_ok]
    unfold Instr.slice
    simp only [Sem.run_bind, run_underlying hu, Result.andThen_ok, pureOf_run hb, run_szOf hs, Sem.run_pure]
    congr 2
    split <;> simp [Addr.add_mid, Nat.add_assoc]
   ·cases h
  ·rename_i k off n e hx hu
   split at h
   ·rename_i a b c s hb hs
    cases h
    obtain ⟨B, hB, e1⟩ := hg _ _ hx
    rw [show ev x = _ from by simpa using e1]
    refine ⟨.slice (some ⟨B.blk, B.base + (if c = a then off else off + a * s), none⟩) (b - a) (c - a), ?_, B, hB, rfl⟩
    unfold Instr.sliceAt
    simp only [Sem.run_bind, run_underlying hu, Result.andThen_ok, Instr.sureAddr, pureOf_run hb, run_szOf hs, Sem.run_pure]
    rw [add_if]
    congr 2
    split <;> simp [Nat.add_assoc]
   ·cases h
  ·cases h
 ·cases h
theorem realOp_ok (hg : ∀ x z, get x = some z → denV D ρ wc z (ev x)) {o : Oper} {r : SV} (h : realOp P o get = some r) :
  ∃ v, (execOp ev o).run P w = .ok (.value v) w ∧ denV D ρ wc r v := by
 unfold realOp at h
 split at h
 ·rename_i hc
  rw [Bool.and_eq_true] at hc
  split at h
  ·rename_i v hv
   refine ⟨v, ?_, ofVal_den h⟩
   rw [execOp_congr (ρ := ev) (ρ' := fun x => ((get x).bind realV).getD undef) o (fun cs b he => by rw [he] at hc; simp [isSelect] at hc) (fun x hx => by
    have := List.all_eq_true.1 hc.2 x (by simpa using hx)
    obtain ⟨y, hy⟩ := Option.isSome_iff_exists.1 this
    obtain ⟨z, hz, hr⟩ := Option.bind_eq_some_iff.1 hy
    rw [hy, Option.getD_some, realV_den hr (hg _ _ hz)])]
   exact pureOf_run hv w
  ·cases h
 ·cases h
theorem fieldAddrS_ok (hg : ∀ x z, get x = some z → denV D ρ wc z (ev x)) {s f : Nat} {x : Operand} {r : SV} (h : fieldAddrS P s (get x) f = some r) :
  ∃ v, (Instr.fieldAt s (ev x) f).run P w = .ok v w ∧ denV D ρ wc r v := by
 unfold fieldAddrS at h
 split at h
 ·rename_i k off hx
  split at h
  ·rename_i fs hu
   split at h
   ·rename_i fl hf
    split at h
    ·rename_i n hz
     cases h
     obtain ⟨B, hB, e1⟩ := hg _ _ hx
     rw [show ev x = _ from by simpa using e1]
     exact ⟨.pointer (some ⟨B.blk, B.base + (off + fl.offset), none⟩), by rw [← Nat.add_assoc]; exact run_fieldAt' hu hf hz, B, hB, rfl⟩
    ·cases h
   ·cases h
  ·cases h
 ·cases h
theorem indexAddrS_ok (hg : ∀ x z, get x = some z → denV D ρ wc z (ev x)) {t : Nat} {x ix : Operand} {r : SV} (h : indexAddrS P t (get x) (get ix) = some r) :
  ∃ v, (Instr.indexAt t (ev x) (ev ix)).run P w = .ok v w ∧ denV D ρ wc r v := by
 unfold indexAddrS at h
 split at h
 ·rename_i k off kd i hx hi
  split at h
  ·rename_i n e hu
   split at h
   ·rename_i s hz
    split at h
    ·rename_i hb
     cases h
     obtain ⟨B, hB, e1⟩ := hg _ _ hx
     rw [show ev x = _ from by simpa using e1, show ev ix = _ from by simpa using (hg _ _ hi).1]
     exact ⟨.pointer (some ⟨B.blk, B.base + (off + i.toNat * s), none⟩), by rw [← Nat.add_assoc]; exact run_indexAt_a hu hz hb, B, hB, rfl⟩
    ·cases h
   ·cases h
  ·cases h
 ·rename_i k off len cap kd i hx hi
  split at h
  ·rename_i e hu
   split at h
   ·rename_i s hz
    split at h
    ·rename_i hb
     cases h
     obtain ⟨B, hB, e1⟩ := hg _ _ hx
     rw [show ev x = _ from by simpa using e1, show ev ix = _ from by simpa using (hg _ _ hi).1]
     exact ⟨.pointer (some ⟨B.blk, B.base + (off + i.toNat * s), none⟩), by rw [← Nat.add_assoc]; exact run_indexAt_s hu hz hb, B, hB, rfl⟩
    ·cases h
   ·cases h
  ·cases h
 ·rename_i k off len kd i hx hi
  split at h
  ·rename_i e hu
   split at h
   ·rename_i s hz
    split at h
    ·rename_i hb
     cases h
     obtain ⟨B, c, hB, hc, e1⟩ := hg _ _ hx
     rw [show ev x = _ from by simpa using e1, show ev ix = _ from by simpa using (hg _ _ hi).1]
     exact ⟨.pointer (some ⟨B.blk, B.base + (off + i.toNat * s), none⟩), by rw [← Nat.add_assoc]; exact run_indexAt_s hu hz hb, B, hB, rfl⟩
    ·cases h
   ·cases h
  ·cases h
 ·cases h
theorem fieldS_ok (hg : ∀ x z, get x = some z → denV D ρ wc z (ev x)) {s f : Nat} {x : Operand} {r : SV} (h : fieldS P s (get x) f = some r) :
  ∃ v, (Instr.field s (ev x) f).run P w = .ok v w ∧ denV D ρ wc r v := by
 unfold fieldS at h
 split at h
 ·rename_i l hx
  split at h
  ·rename_i fs hu
   split at h
   ·rename_i fl hf
    obtain ⟨cs, e, hl⟩ := hg _ _ hx
    obtain ⟨v, h1, h2⟩ := partS_ok (P := P) (w := w) h hl
    refine ⟨v, ?_, h2⟩
    rw [e]
    unfold Instr.field
    simp only [Sem.run_bind, run_underlying hu, Result.andThen_ok, hf, asAgg, Sem.run_pure, h1]
   ·cases h
  ·cases h
 ·cases h
theorem indexS_ok (hg : ∀ x z, get x = some z → denV D ρ wc z (ev x)) {t : Nat} {x ix : Operand} {r : SV} (h : indexS P t (get x) (get ix) = some r) :
  ∃ v, (Instr.index t (ev x) (ev ix)).run P w = .ok v w ∧ denV D ρ wc r v := by
 unfold indexS at h
 split at h
 ·rename_i l kd i hx hi
  split at h
  ·rename_i n e hu
   split at h
   ·rename_i s hz
    split at h
    ·rename_i hb
     obtain ⟨cs, e1, hl⟩ := hg _ _ hx
     obtain ⟨v, h1, h2⟩ := partS_ok (P := P) (w := w) h hl
     refine ⟨v, ?_, h2⟩
     rw [e1, show ev ix = _ from by simpa using (hg _ _ hi).1]
     unfold Instr.index
     simp only [Sem.run_bind, asIntOf, run_underlying hu, Result.andThen_ok, Sem.run_pure, if_pos hb, run_szOf hz, h1]
    ·cases h
   ·cases h
  ·cases h
 ·cases h
theorem denAs_get : ∀ {l : List SA} {vs : List Value} {i : Nat} {x : SA}, denAs D ρ w l vs → l[i]? = some x → ∃ v, vs[i]? = some v ∧ denA D ρ w x v
 | [], vs, i, x, h, hx => by simp at hx
 | y :: l, vs, i, x, ⟨v, r, e, hv, hr⟩, hx => by
   subst e
   cases i with
   | zero => simp at hx; subst hx; exact ⟨v, by simp, hv⟩
   | succ i => simp at hx; simpa using denAs_get hr hx
end
end Go.Ev
namespace Go.Ev
open Go.RowKit Go.Mono
section
variable {D : Den} {P : Program} {ρ : Nm} {wc w : World} {get : Operand → Option SV} {ev : Operand → Value}
theorem partS_val {t : TypeId} {l : List U} {off : Nat} {x : SV} {cs : List Value} (h : partS P t l off = some x) (hl : denL D ρ wc l cs) :
  (∃ n m, rowT P t = some true ∧ szOf P t = some n ∧ x = .a (.agg m) ∧ denL D ρ wc m ((cs.drop off).take n) ∧ ((cs.drop off).take n).length = n) ∨
  (∃ u v, rowT P t = some false ∧ x = .a (.one u) ∧ cs[off]? = some v ∧ denU D ρ wc u [v]) := by
 unfold partS at h
 split at h
 ·rename_i n hr hz
  obtain ⟨m, hm, rfl⟩ := Option.map_eq_some_iff.1 h
  obtain ⟨h1, h2⟩ := subU_den hm hl
  exact .inl ⟨n, m, hr, hz, rfl, h1, h2⟩
 ·rename_i n hr hz
  split at h
  ·rename_i u hu
   cases h
   obtain ⟨h1, h2⟩ := subU_den hu hl
   obtain ⟨c, d, e, hc, hd⟩ := h1
   obtain rfl : d = [] := hd
   rw [List.append_nil] at e
   rw [e] at h2
   obtain ⟨v, rfl⟩ : ∃ v, c = [v] := List.length_eq_one_iff.1 h2
   refine .inr ⟨u, v, hr, rfl, ?_, hc⟩
   have := congrArg (·[0]?) e
   simpa using this
  ·cases h
 ·cases h
def Holds (w : World) (p : Pl) (T : TypeId) (cs : List Value) : Prop :=
 (p.ro = true ∧ w.rangeAt p.blk p.base cs) ∨ (p.ro = false ∧ p.base = 0 ∧ Box w p.blk T cs.toArray)
theorem Holds.cell {w : World} {p : Pl} {T : TypeId} {cs : List Value} (h : Holds w p T cs) {i : Nat} {v : Value} (hi : cs[i]? = some v) : w.cell? ⟨p.blk, p.base + i, none⟩ = some v := by
 rcases h with ⟨_, h⟩ | ⟨_, h0, h⟩
 ·exact h i v hi
 ·rw [h0, Nat.zero_add, h.cell]
  simpa using hi
theorem cell_of_block {w w' : World} {B : Nat} (h : w'.heap[B]? = w.heap[B]?) (o : Nat) : w'.cell? ⟨B, o, none⟩ = w.cell? ⟨B, o, none⟩ := by
 simp only [World.cell?, h]
theorem Holds.of_block {w w' : World} {p : Pl} {T : TypeId} {cs : List Value} (h : Holds w p T cs) (hb : w'.heap[p.blk]? = w.heap[p.blk]?) : Holds w' p T cs := by
 rcases h with ⟨h1, h⟩ | ⟨h1, h0, h⟩
 ·exact .inl ⟨h1, fun j v hj => (cell_of_block hb _).trans (h j v hj)⟩
 ·exact .inr ⟨h1, h0, ⟨hb.trans h.blk⟩⟩
def BkOk (D : Den) (ρ : Nm) (wc w : World) (bk : List (Nat × Blk)) : Prop :=
 ∀ k b, bk.lookup k = some b → ∃ B cs, ρ k = some B ∧ Holds w B b.T cs ∧ denL D ρ wc b.cells cs ∧ B.ro = b.ro
theorem loadS_ok (hg : ∀ x z, get x = some z → denV D ρ wc z (ev x)) {bk : List (Nat × Blk)} (hb : BkOk D ρ wc w bk) {t : TypeId} {x : Operand} {r : SV} (h : loadS P t (get x) bk = some r) :
  ∃ v, (Instr.loadAt t (ev x)).run P w = .ok v w ∧ denV D ρ wc r v := by
 unfold loadS at h
 split at h
 ·rename_i k off hx
  split at h
  ·rename_i b hk
   obtain ⟨B, cs, hB, bx, hl, _⟩ := hb k b hk
   obtain ⟨B', hB', e⟩ := hg _ _ hx
   cases hB.symm.trans hB'
   rw [show ev x = _ from by simpa using e]
   rcases partS_val h hl with ⟨n, m, hr, hz, rfl, h1, h2⟩ | ⟨u, v, hr, rfl, hv, hu⟩
   ·refine ⟨.agg ((cs.drop off).take n).toArray, ?_, _, rfl, h1⟩
    obtain ⟨d, hd, hd'⟩ := Option.map_eq_some_iff.1 hr
    refine run_loadAt_mid w B.blk (B.base + off) t _ d ?_ hd hd' (by rw [h2]; exact hz)
    intro j v hj
    rw [Nat.add_assoc]
    refine bx.cell ?_
    have hjl : j < n := by
     have := (List.getElem?_eq_some_iff.1 hj).1
     omega
    rw [List.getElem?_take, if_pos hjl, List.getElem?_drop] at hj
    simpa using hj
   ·refine ⟨v, ?_, hu⟩
    unfold Instr.loadAt loadVar
    simp only [Sem.run_bind, Instr.sureAddr, Sem.run_pure, Result.andThen_ok, run_rowT hr, Bool.false_eq_true, if_false]
    rw [run_load, bx.cell hv]
  ·cases h
 ·cases h
theorem lenS_ok (hg : ∀ x z, get x = some z → denV D ρ wc z (ev x)) {o : Oper} {c : Call} (ho : o.op = .call c) {r : SV} (h : lenS P c get = some r) :
  ∃ v, (execOp ev o).run P w = .ok (.value v) w ∧ denV D ρ wc r v := by
 obtain ⟨cal, ⟨args⟩, ⟨ts⟩⟩ := c
 unfold lenS at h
 dsimp only at h
 split at h
 ·rename_i x t
  split at h
  ·rename_i k off n cp e hx hu
   cases h
   obtain ⟨B, hB, e1⟩ := hg _ _ hx
   have e2 : ev x = .slice (some ⟨B.blk, B.base + off, none⟩) n cp := by simpa using e1
   refine ⟨goInt n, ?_, rfl, rfl⟩
   unfold execOp
   simp only [ho, resolve, Sem.run_bind, Sem.run_pure, Result.andThen_ok, invoke, builtin, Builtin.len_]
   simp [e2, run_underlying hu]
  ·rename_i k off n e hx hu
   cases h
   obtain ⟨B, cp, hB, hc, e1⟩ := hg _ _ hx
   have e2 : ev x = .slice (some ⟨B.blk, B.base + off, none⟩) n cp := by simpa using e1
   refine ⟨goInt n, ?_, rfl, rfl⟩
   unfold execOp
   simp only [ho, resolve, Sem.run_bind, Sem.run_pure, Result.andThen_ok, invoke, builtin, Builtin.len_]
   simp [e2, run_underlying hu]
  ·rename_i e hx hu
   cases h
   obtain ⟨p, cp, hp, e1⟩ := hg _ _ hx
   have e2 : ev x = .slice p 0 cp := by simpa using e1
   refine ⟨goInt (0 : Nat), ?_, rfl, rfl⟩
   unfold execOp
   simp only [ho, resolve, Sem.run_bind, Sem.run_pure, Result.andThen_ok, invoke, builtin, Builtin.len_]
   simp [e2, run_underlying hu]
  ·cases h
 ·rename_i x t
  split at h
  ·rename_i k off n cp e hx hu
   cases h
   obtain ⟨B, hB, e1⟩ := hg _ _ hx
   have e2 : ev x = .slice (some ⟨B.blk, B.base + off, none⟩) n cp := by simpa using e1
   refine ⟨goInt cp, ?_, rfl, rfl⟩
   unfold execOp
   simp only [ho, resolve, Sem.run_bind, Sem.run_pure, Result.andThen_ok, invoke, builtin, Builtin.cap_]
   simp [e2, run_underlying hu]
  ·cases h
 ·cases h
theorem evPure_ok (hg : ∀ x z, get x = some z → denV D ρ wc z (ev x)) {bk : List (Nat × Blk)} (hb : BkOk D ρ wc w bk) {o : Oper} {r : SV} (h : evPure P o get bk = some r) :
  ∃ v, (execOp ev o).run P w = .ok (.value v) w ∧ denV D ρ wc r v := by
 have viaV : ∀ {s : Sem Value}, (∃ v, s.run P w = .ok v w ∧ denV D ρ wc r v) → ∃ v, (do pure (Next.value (← s)) : Sem Next).run P w = .ok (.value v) w ∧ denV D ρ wc r v := by
  rintro s ⟨v, h1, h2⟩
  exact ⟨v, by simp only [Sem.run_bind, h1, Result.andThen_ok, Sem.run_pure], h2⟩
 unfold evPure at h
 split at h
 ·rename_i x ho
  exact ⟨ev x, by unfold execOp; rw [ho]; rfl, hg _ _ h⟩
 ·rename_i x ho
  exact ⟨ev x, by unfold execOp; rw [ho]; rfl, hg _ _ h⟩
 ·rename_i f first caps ho
  split at h
  ·rename_i hf
   obtain ⟨l, hl, rfl⟩ := Option.map_eq_some_iff.1 h
   have hc := capsOf_ok hg hl
   have hfe : first = #[] := Array.isEmpty_iff.1 hf
   subst hfe
   refine ⟨.func (.func f) #[] (caps.map ev), by unfold execOp; simp [ho, Instr.makeFunc], _, hc, ?_⟩
   congr 2
   apply Array.toList_inj.1
   simp
  ·cases h
 ·rename_i s x f ho
  unfold execOp
  rw [ho]
  exact viaV (fieldAddrS_ok hg h)
 ·rename_i t x ix ho
  split at h
  ·rename_i r' hr
   cases h
   unfold execOp
   rw [ho]
   exact viaV (indexAddrS_ok (x := x) (ix := ix) hg hr)
  ·exact realOp_ok hg h
 ·rename_i t x f ho
  split at h
  ·rename_i r' hr
   cases h
   unfold execOp
   rw [ho]
   exact viaV (fieldS_ok hg hr)
  ·exact realOp_ok hg h
 ·rename_i t x ix ho
  split at h
  ·rename_i r' hr
   cases h
   unfold execOp
   rw [ho]
   exact viaV (indexS_ok (x := x) (ix := ix) hg hr)
  ·exact realOp_ok hg h
 ·rename_i x i ho
  split at h
  ·rename_i l hx
   obtain ⟨y, hy, rfl⟩ := Option.map_eq_some_iff.1 h
   obtain ⟨vs, e, hl⟩ := hg _ _ hx
   obtain ⟨v, hv, hd⟩ := denAs_get hl hy
   unfold execOp
   rw [ho]
   refine viaV ⟨v, ?_, hd⟩
   rw [e]
   simp [Instr.extract, hv]
  ·cases h
 ·rename_i x ho
  split at h
  ·rename_i k off hx
   cases h
   have hd := hg _ _ hx
   obtain ⟨B, hB, e1⟩ := hd
   have e2 : ev x = .pointer (some ⟨B.blk, B.base + off, none⟩) := by simpa using e1
   refine ⟨ev x, ?_, B, hB, e1⟩
   unfold execOp
   rw [ho]
   simp only [e2]
   rfl
  ·rename_i f l hx
   cases h
   have hd := hg _ _ hx
   obtain ⟨vs, hv, e1⟩ := hd
   have e2 : ev x = .func (.func f) #[] vs.toArray := by simpa using e1
   refine ⟨ev x, ?_, vs, hv, e1⟩
   unfold execOp
   rw [ho]
   simp only [e2]
   rfl
  ·exact realOp_ok hg h
 ·rename_i t parts ho
  unfold execOp
  rw [ho]
  exact viaV (buildS_ok hg h w)
 ·rename_i t x ho
  unfold execOp
  rw [ho]
  exact viaV (loadS_ok hg hb h)
 ·rename_i t x lo hi mx ho
  split at h
  ·rename_i r' hr
   cases h
   unfold execOp
   rw [ho]
   exact viaV (sliceS_ok hg hr)
  ·exact realOp_ok hg h
 ·rename_i c ho
  split at h
  ·rename_i r' hr
   cases h
   exact lenS_ok hg ho hr
  ·exact realOp_ok hg h
 ·exact realOp_ok hg h
end
end Go.Ev
namespace Go.Ev
open Go.RowKit Go.Mono
structure Frm (w0 : World) (X : Nat → Prop) (w : World) : Prop where
 os : w.os = w0.os
 tape : w.tape = w0.tape
 output : w.output = w0.output
 size : w0.heap.size ≤ w.heap.size
 block : ∀ i, i < w0.heap.size → ¬ X i → w.heap[i]? = w0.heap[i]?
theorem Frm.refl (w : World) (X : Nat → Prop) : Frm w X w := ⟨rfl, rfl, rfl, Nat.le_refl _, fun _ _ _ => rfl⟩
theorem Frm.below {w0 w : World} (h : Frm w0 (fun _ => False) w) : Below w0.heap.size w0 w := ⟨h.os, h.tape, h.output, h.size, fun k hk => h.block k hk id⟩
theorem Frm.of_below {w0 w : World} (h : Below w0.heap.size w0 w) (X : Nat → Prop) : Frm w0 X w := ⟨h.os, h.tape, h.output, h.size, fun k hk _ => h.block k hk⟩
structure Sat (D : Den) (w0 : World) (X : Nat → Prop) (th : Nat) (ρ : Nm) (wc w : World) (bk : List (Nat × Blk)) : Prop where
 fr : Frm w0 X w
 ext : Ext wc w
 inj : ∀ k k' B B', ρ k = some B → ρ k' = some B' → B.blk = B'.blk → k = k' ∨ (B.ro = true ∧ B'.ro = true)
 lt : ∀ k B, ρ k = some B → B.blk < w.heap.size
 box : ∀ k b, bk.lookup k = some b → ∃ B cs, ρ k = some B ∧ Holds w B b.T cs ∧ denL D ρ wc b.cells cs ∧ (b.ro = false → w0.heap.size ≤ B.blk ∨ X B.blk) ∧ (th ≤ k → wc.heap.size ≤ B.blk) ∧ B.ro = b.ro
structure Evo (ρ : Nm) (wc w : World) (bk : List (Nat × Blk)) (c c' : Nat) (ρ' : Nm) (wc' w' : World) (bk' : List (Nat × Blk)) : Prop where
 rho : ρ.le ρ'
 ext : Ext wc wc'
 size : w.heap.size ≤ w'.heap.size
 os : w'.os = w.os
 tape : w'.tape = w.tape
 output : w'.output = w.output
 loc : ∀ i, i < w.heap.size → (∀ k b B, bk.lookup k = some b → ρ k = some B → B.ro = false → B.blk ≠ i) → w'.heap[i]? = w.heap[i]?
 ids : ∀ k b, bk'.lookup k = some b → (bk.lookup k).isSome = true ∨ (c ≤ k ∧ k < c' ∧ ∃ B, ρ' k = some B ∧ (B.ro = true ∨ w.heap.size ≤ B.blk))
 cc : c ≤ c'
 dom : ∀ k, (k < c ∨ c' ≤ k) → ρ' k = ρ k
theorem Evo.refl (ρ : Nm) (wc w : World) (bk : List (Nat × Blk)) (c : Nat) : Evo ρ wc w bk c c ρ wc w bk :=
 ⟨Nm.le.refl _, Ext.refl _, Nat.le_refl _, rfl, rfl, rfl, fun _ _ _ => rfl, fun k b h => .inl (by rw [h]; rfl), Nat.le_refl _, fun _ _ => rfl⟩
theorem Evo.trans {ρ ρ1 ρ2 : Nm} {wc w wc1 w1 wc2 w2 : World} {bk bk1 bk2 : List (Nat × Blk)} {c c1 c2 : Nat}
  (h : Evo ρ wc w bk c c1 ρ1 wc1 w1 bk1) (g : Evo ρ1 wc1 w1 bk1 c1 c2 ρ2 wc2 w2 bk2) (hlt : ∀ k b, bk.lookup k = some b → ∃ B, ρ k = some B) : Evo ρ wc w bk c c2 ρ2 wc2 w2 bk2 where
 rho := h.rho.trans g.rho
 ext := h.ext.trans g.ext
 size := Nat.le_trans h.size g.size
 os := g.os.trans h.os
 tape := g.tape.trans h.tape
 output := g.output.trans h.output
 loc := fun i hi hn => by
  rw [g.loc i (Nat.lt_of_lt_of_le hi h.size) ?_, h.loc i hi hn]
  intro k b C hk he hro
  rcases h.ids k b hk with h1 | ⟨_, _, B, hB, hle⟩
  ·obtain ⟨b', hb'⟩ := Option.isSome_iff_exists.1 h1
   obtain ⟨B, hB⟩ := hlt k b' hb'
   have := h.rho k B hB
   rw [he] at this
   cases this
   exact hn k b' C hb' hB hro
  ·rw [he] at hB
   cases hB
   rcases hle with hle | hle
   ·rw [hro] at hle; cases hle
   ·omega
 ids := fun k b hk => by
  have hc1 := h.cc
  have hc2 := g.cc
  rcases g.ids k b hk with h1 | ⟨k1, k2, B, hB, hle⟩
  ·obtain ⟨b', hb'⟩ := Option.isSome_iff_exists.1 h1
   rcases h.ids k b' hb' with h2 | ⟨k1, k2, B, hB, hle⟩
   ·exact .inl h2
   ·exact .inr ⟨k1, by omega, B, g.rho k B hB, hle⟩
  ·exact .inr ⟨by omega, k2, B, hB, hle.imp id fun hle => Nat.le_trans h.size hle⟩
 cc := Nat.le_trans h.cc g.cc
 dom := fun k hk => by
  have h1 := h.cc
  have h2 := g.cc
  rw [g.dom k (by omega), h.dom k (by omega)]
section
variable {D : Den} {w0 : World} {X : Nat → Prop} {th : Nat} {ρ : Nm} {wc w : World} {bk : List (Nat × Blk)}
theorem Sat.named (h : Sat D w0 X th ρ wc w bk) : ∀ k b, bk.lookup k = some b → ∃ B, ρ k = some B := fun k b hk => let ⟨B, _, hB, _⟩ := h.box k b hk; ⟨B, hB⟩
theorem Sat.bkOk (h : Sat D w0 X th ρ wc w bk) : BkOk D ρ wc w bk := fun k b hk => let ⟨B, cs, h1, h2, h3, _, _, h6⟩ := h.box k b hk; ⟨B, cs, h1, h2, h3, h6⟩
theorem Sat.mono (h : Sat D w0 X th ρ wc w bk) {th' : Nat} (hle : th ≤ th') : Sat D w0 X th' ρ wc w bk :=
 ⟨h.fr, h.ext, h.inj, h.lt, fun k b hk => let ⟨B, cs, h1, h2, h3, h4, h5, h6⟩ := h.box k b hk; ⟨B, cs, h1, h2, h3, h4, fun hh => h5 (Nat.le_trans hle hh), h6⟩⟩
theorem lookup_cons {α : Type} (k k' : Nat) (x : α) (l : List (Nat × α)) : List.lookup k ((k', x) :: l) = if k = k' then some x else List.lookup k l := by
 rw [List.lookup_cons]
 by_cases h : k = k'
 ·subst h
  simp
 ·have e : (k == k') = false := by simpa using h
  rw [e, if_neg h]
def addNm (ρ : Nm) (k B : Nat) : Nm := fun j => if j = k then some ⟨B, 0, false⟩ else ρ j
theorem addNm_le {ρ : Nm} {k B : Nat} (h : ρ k = none) : ρ.le (addNm ρ k B) := fun j C hj => by
 unfold addNm
 by_cases e : j = k
 ·subst e; rw [h] at hj; cases hj
 ·rw [if_neg e]; exact hj
theorem Sat.alloc (h : Sat D w0 X th ρ wc w bk) {k : Nat} (hk : ρ k = none) (T : TypeId) {l : List U} {cs : List Value} (hl : denL D ρ wc l cs) :
  Sat D w0 X th (addNm ρ k w.heap.size) wc (w.alloc (.cells cs.toArray T)) ((k, ⟨T, l, false⟩) :: bk) ∧
  Evo ρ wc w bk k (k + 1) (addNm ρ k w.heap.size) wc (w.alloc (.cells cs.toArray T)) ((k, ⟨T, l, false⟩) :: bk) ∧ addNm ρ k w.heap.size k = some ⟨w.heap.size, 0, false⟩ := by
 have hle := addNm_le (B := w.heap.size) hk
 have hb : Below w.heap.size w (w.alloc (.cells cs.toArray T)) := belowAlloc (Below.refl _ _) _
 have hnew : addNm ρ k w.heap.size k = some ⟨w.heap.size, 0, false⟩ := by simp [addNm]
 refine ⟨⟨⟨h.fr.os, h.fr.tape, h.fr.output, Nat.le_trans h.fr.size hb.size, fun i hi hx => (hb.block i (Nat.lt_of_lt_of_le hi h.fr.size)).trans (h.fr.block i hi hx)⟩,
  h.ext.alloc _, ?_, ?_, ?_⟩, ⟨hle, Ext.refl _, hb.size, rfl, rfl, rfl, fun i hi _ => hb.block i hi, ?_, by omega, ?_⟩, hnew⟩
 ·intro j j' B B' h1 h2 he
  unfold addNm at h1 h2
  by_cases e1 : j = k <;> by_cases e2 : j' = k
  ·exact .inl (by rw [e1, e2])
  ·rw [if_pos e1] at h1; rw [if_neg e2] at h2; cases h1
   have := h.lt j' _ h2; dsimp only at he; omega
  ·rw [if_neg e1] at h1; rw [if_pos e2] at h2; cases h2
   have := h.lt j _ h1; dsimp only at he; omega
  ·rw [if_neg e1] at h1; rw [if_neg e2] at h2
   exact h.inj j j' B B' h1 h2 he
 ·intro j B h1
  unfold addNm at h1
  by_cases e1 : j = k
  ·rw [if_pos e1] at h1; cases h1; simp
  ·rw [if_neg e1] at h1
   exact Nat.lt_of_lt_of_le (h.lt j B h1) hb.size
 ·intro j b hj
  rw [lookup_cons] at hj
  by_cases e1 : j = k
  ·rw [if_pos e1] at hj
   cases hj
   subst e1
   exact ⟨_, cs, hnew, .inr ⟨rfl, rfl, Box.new _ _ _⟩, hl.mono hle (Ext.refl _), fun _ => .inl h.fr.size, fun _ => h.ext.size, rfl⟩
  ·rw [if_neg e1] at hj
   obtain ⟨B, cs', h1, h2, h3, h4, h5, h6⟩ := h.box j b hj
   exact ⟨B, cs', hle j B h1, h2.of_block (hb.block _ (h.lt j B h1)), h3.mono hle (Ext.refl _), h4, h5, h6⟩
 ·intro j b hj
  rw [lookup_cons] at hj
  by_cases e1 : j = k
  ·subst e1
   exact .inr ⟨Nat.le_refl _, by omega, _, hnew, .inr (Nat.le_refl _)⟩
  ·rw [if_neg e1] at hj
   exact .inl (by rw [hj]; rfl)
 ·intro j hj
  unfold addNm
  rw [if_neg (by omega)]
theorem Sat.store (h : Sat D w0 X th ρ wc w bk) {k : Nat} {b : Blk} (hk : bk.lookup k = some b) (hro : b.ro = false) {off : Nat} {us l : List U} {ps : List Value} (hput : putU b.cells off us = some l) (hp : denL D ρ wc us ps)
  (hT : b.T ≠ 3 ∨ th ≤ k) {B : Pl} (hB : ρ k = some B) (c : Nat) :
  Sat D w0 X th ρ wc (w.setCells B.blk off ps) ((k, ⟨b.T, l, false⟩) :: bk) ∧ Evo ρ wc w bk c c ρ wc (w.setCells B.blk off ps) ((k, ⟨b.T, l, false⟩) :: bk) ∧ w.there B.blk off ps.length ∧ B.base = 0 := by
 obtain ⟨B', cs, h1, h2, h3, h4, h5, h6⟩ := h.box k b hk
 cases hB.symm.trans h1
 have hBro : B.ro = false := h6.trans hro
 have h2' : B.base = 0 ∧ Box w B.blk b.T cs.toArray := by
  rcases h2 with ⟨g, _⟩ | ⟨_, g⟩
  ·rw [hBro] at g; cases g
  ·exact g
 obtain ⟨hbase, h2'⟩ := h2'
 obtain ⟨q1, q2⟩ := putU_den hput h3 hp
 have hks : KeepBut B.blk w.heap.size w (w.setCells B.blk off ps) := (KeepBut.refl _ _).setCells _ _ _
 have hbx : Box (w.setCells B.blk off ps) B.blk b.T (cs.take off ++ ps ++ cs.drop (off + ps.length)).toArray := Box.setCells ps off w cs.toArray h2' (by simpa using q2)
 have hext : Ext wc (w.setCells B.blk off ps) := by
  rcases hT with hT | hT
  ·exact h.ext.trans (hks.ext h2' hT)
  ·have h6 := h5 hT
   refine ⟨Nat.le_trans h.ext.size hks.size, fun j ds fr hj => ?_⟩
   have h7 := h.ext.kept j ds fr hj
   have h8 := lt_of_some hj
   rw [hks.block j (lt_of_some h7) (by omega)]
   exact h7
 refine ⟨⟨⟨?_, ?_, ?_, ?_, ?_⟩, hext, h.inj, fun j C hj => Nat.lt_of_lt_of_le (h.lt j C hj) hks.size, ?_⟩, ⟨Nm.le.refl _, Ext.refl _, hks.size, hks.os, hks.tape, hks.output, ?_, ?_, Nat.le_refl _, fun _ _ => rfl⟩, ?_, hbase⟩
 ·exact hks.os.trans h.fr.os
 ·exact hks.tape.trans h.fr.tape
 ·exact hks.output.trans h.fr.output
 ·exact Nat.le_trans h.fr.size hks.size
 ·intro i hi hx
  rw [hks.block i (Nat.lt_of_lt_of_le hi h.fr.size) (by
   intro e
   subst e
   rcases h4 hro with h4 | h4
   ·omega
   ·exact hx h4)]
  exact h.fr.block i hi hx
 ·intro j b' hj
  rw [lookup_cons] at hj
  by_cases e1 : j = k
  ·rw [if_pos e1] at hj
   cases hj
   subst e1
   exact ⟨B, _, h1, .inr ⟨hBro, hbase, hbx⟩, q1, fun _ => h4 hro, h5, hBro⟩
  ·rw [if_neg e1] at hj
   obtain ⟨C, ds, g1, g2, g3, g4, g5, g6⟩ := h.box j b' hj
   refine ⟨C, ds, g1, g2.of_block (hks.block _ (h.lt j C g1) fun e => ?_), g3, g4, g5, g6⟩
   rcases h.inj j k C B g1 h1 e with h7 | h7
   ·exact e1 h7
   ·rw [hBro] at h7; cases h7.2
 ·intro i hi hn
  exact hks.block i hi (fun e => hn k b B hk h1 hBro e.symm)
 ·intro j b' hj
  rw [lookup_cons] at hj
  by_cases e1 : j = k
  ·subst e1
   exact .inl (by rw [hk]; rfl)
  ·rw [if_neg e1] at hj
   exact .inl (by rw [hj]; rfl)
 ·exact h2'.there off ps.length (by simpa using q2)
theorem Sat.call (h : Sat D w0 X th ρ wc w bk) (hf : ∀ k b, bk.lookup k = some b → ¬ th ≤ k) {w' : World} (hb : Below w.heap.size w w') (c : Nat) :
  Sat D w0 X th ρ w' w' bk ∧ Evo ρ wc w bk c c ρ w' w' bk := by
 have hx : Ext wc w' := h.ext.trans (.of_below hb)
 refine ⟨⟨⟨hb.os.trans h.fr.os, hb.tape.trans h.fr.tape, hb.output.trans h.fr.output, Nat.le_trans h.fr.size hb.size, fun i hi hX => (hb.block i (Nat.lt_of_lt_of_le hi h.fr.size)).trans (h.fr.block i hi hX)⟩,
  Ext.refl _, h.inj, fun j C hj => Nat.lt_of_lt_of_le (h.lt j C hj) hb.size, ?_⟩, ⟨Nm.le.refl _, hx, hb.size, hb.os, hb.tape, hb.output, fun i hi _ => hb.block i hi, fun k b hk => .inl (by rw [hk]; rfl), Nat.le_refl _, fun _ _ => rfl⟩⟩
 intro j b hj
 obtain ⟨B, cs, h1, h2, h3, h4, h5, h6⟩ := h.box j b hj
 exact ⟨B, cs, h1, h2.of_block (hb.block _ (h.lt j B h1)), h3.mono (Nm.le.refl _) hx, h4, fun hh => absurd hh (hf j b hj), h6⟩
theorem Sat.drew (h : Sat D w0 X th ρ wc w bk) : Sat D w0 X th ρ wc w.drew bk :=
 ⟨⟨h.fr.os, h.fr.tape, h.fr.output, h.fr.size, h.fr.block⟩, h.ext.drew, h.inj, h.lt, fun k b hk => let ⟨B, cs, h1, h2, h3⟩ := h.box k b hk; ⟨B, cs, h1, h2.of_block rfl, h3⟩⟩
theorem Evo.drew (ρ : Nm) (wc w : World) (bk : List (Nat × Blk)) (c : Nat) : Evo ρ wc w bk c c ρ wc w.drew bk :=
 ⟨Nm.le.refl _, Ext.refl _, Nat.le_refl _, rfl, rfl, rfl, fun _ _ _ => rfl, fun k b h => .inl (by rw [h]; rfl), Nat.le_refl _, fun _ _ => rfl⟩
end
end Go.Ev
