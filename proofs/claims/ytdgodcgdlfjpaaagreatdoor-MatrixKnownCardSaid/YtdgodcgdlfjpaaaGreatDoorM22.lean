/- The law MatrixKnown: the examples of the ray transfer matrices, afocal lenses, mirrors and the order of errors; its walk by a verified evaluator of the model, and its card. Part 22 of 36. No condition beside the row. -/
import Derived.Test.YtdgodcgdlfjpaaaGreatDoorM19
set_option linter.unusedVariables false
set_option linter.unusedSimpArgs false
set_option maxRecDepth 100000
set_option maxHeartbeats 4000000
namespace Go.Proofs.YtdgodcgdlfjpaaaGreatDoor
open Go.RowKit Go.Mono
theorem image_ok (s : Srf) (p : Option Addr) (c : Nat) (w : World) (h1 : s.kind = 1) (h2 : s.glass = { data := #[] }) (h3 : s.thick = 0) (h4 : s.order = 0) :
  Calls Tryz.prog 284 #[.agg (s.cs p c)] w fun e w' => e = .returned (.bool true) ∧ Below w.heap.size w w' := by
 simp only [Srf.cs, h1, h2, h3, h4]
 go_enter Tryz.func284, Tryz.ntmps284
 go_wp2
 go_ret
 exact ⟨rfl, belowAlloc (Below.refl _ _) _⟩
theorem different_nil (w : World) :
  Calls Tryz.prog 286 #[.slice none 0 0] w fun e w' => e = .returned (.bool true) ∧ Below w.heap.size w w' := by
 have hmm : ∀ w : World, (Instr.makeMap 318 none).run Tryz.prog w = .ok (.map (some w.heap.size)) (w.alloc (.map #[] 0)) := fun _ => rfl
 go_enter Tryz.func286, Tryz.ntmps286
 go_wp2
 go_loopw [9] (fun a wr => a = .int .i64 0 ∧ Below w.heap.size w wr) (fun _ _ => 0)
 case atStart => exact ⟨rfl, belowAlloc (Below.refl _ _) _⟩
 case round =>
  obtain ⟨rfl, hB⟩ := hrel
  go_wp2
  go_ret
  exact ⟨rfl, hB⟩
theorem configs_ok (B : Nat) (nm : ByteArray) (di pu st pr : Int) (pf pw' ps pc : Option Addr) (nf cf n cw ns cs cc : Nat) (w : World)
  (b0 : Box w B 258 #[.string nm, .int .i64 di, .int .i64 pu, .int .i64 st, .int .i64 pr, .slice pf nf cf, .slice pw' n cw, .slice ps ns cs, .slice pc 0 cc]) :
  Calls Tryz.prog 272 #[.pointer (some ⟨B, 0, none⟩)] w fun e w' => e = .returned (.bool true) ∧ Below w.heap.size w w' := by
 have cb0 := b0.cell
 go_enter Tryz.func272, Tryz.ntmps272
 go_wp2
 go_loopw [3, 14] (fun l a wr => l = .slice none 0 0 ∧ a = .int .i64 0 ∧ wr = w) (fun _ _ _ => 0)
 case atStart => exact ⟨rfl, rfl, rfl⟩
 case round =>
  obtain ⟨rfl, rfl, rfl⟩ := hrel
  go_wp2_with (go_at_call 286; refine (different_nil _).mono ?_; rintro e w' ⟨rfl, hb⟩)
  go_ret
  exact ⟨rfl, hb⟩
theorem fields_ok (B : Nat) (nm : ByteArray) (di pu st pr : Int) (pf pw' ps pc : Option Addr) (nf cf n cw ns cs nc cc : Nat) (X Y : Nat → Int) (w : World)
  (b0 : Box w B 258 #[.string nm, .int .i64 di, .int .i64 pu, .int .i64 st, .int .i64 pr, .slice pf nf cf, .slice pw' n cw, .slice ps ns cs, .slice pc nc cc])
  (hr : RdC w pf nf cf 2 (fun i j => if j = 0 then .int .i64 (X i) else .int .i64 (Y i)))
  (n1 : 1 ≤ nf) (n2 : nf ≤ 5) (m : Int) (hm : m = if di = 0 then 1000000 else 1000000000)
  (l0 : ∀ i, i < nf → (-m ≤ X i ∧ X i ≤ m) ∧ -m ≤ Y i ∧ Y i ≤ m) (l1 : ∀ i k, k < i → i < nf → ¬ (X i = X k ∧ Y i = Y k)) :
  Calls Tryz.prog 269 #[.pointer (some ⟨B, 0, none⟩)] w fun e w' => e = .returned (.bool true) ∧ Below w.heap.size w w' := by
 have cb0 := b0.cell
 have m1 : 0 ≤ m ∧ m ≤ 1000000000 := by subst hm; split <;> omega
 obtain ⟨hc1, hn1, hx⟩ := hr
 obtain ⟨b, off, rfl, hb, hcell⟩ := hx (by omega)
 clear hx
 have hdd : (m = 1000000 ∧ di = 0) ∨ (m = 1000000000 ∧ (di == 0) = false) := by
  subst hm
  by_cases hd : di = 0
  ·left; simp [hd]
  ·right; simp [hd]
 clear hm
 rcases hdd with ⟨rfl, rfl⟩ | ⟨rfl, hd⟩
 all_goals
  go_enter Tryz.func269, Tryz.ntmps269
  go_wp2
  go_loopw [20] (fun a wr => ∃ i : Nat, i ≤ nf ∧ a = .int .i64 (i : Int) ∧ Below w.heap.size w wr) (fun a _ => (nf - intOf a).toNat)
  case atStart => exact ⟨0, Nat.zero_le _, rfl, Below.refl _ _⟩
  case round =>
   obtain ⟨i, hi, rfl, hB⟩ := hrel
   have hbb := b0.below hB
   have cbb := hbb.cell
   have lbb := hbb.lt
   have hbw : b < wr.heap.size := Nat.lt_of_lt_of_le hb hB.size
   by_cases hin : i < nf
   ·have hin' : (i : Int) < nf := by omega
    have a0 := (hB.cell hb).trans (hcell i 0 hin (by omega))
    have a1 := (hB.cell hb).trans (hcell i 1 hin (by omega))
    simp only [if_true, Nat.add_zero, Nat.succ_ne_self, if_false] at a0 a1
    replace l0 := Lib.hid l0; replace l1 := Lib.hid l1; replace hcell := Lib.hid hcell
    clear cb0
    go_wp2
    refine boxes1 fun W1 hB1 hs1 bF => ?_
    replace hbb := hbb.below hB1
    have hBW := belowCall hB hB1
    clear cbb lbb a0 a1
    go_loopw [33] (fun a w2 => ∃ k : Nat, k ≤ i ∧ a = .int .i64 (k : Int) ∧ Below W1.heap.size W1 w2) (fun a _ => (i - intOf a).toNat)
    case atStart => exact ⟨0, Nat.zero_le _, rfl, Below.refl _ _⟩
    case round =>
     obtain ⟨k, hk, rfl, hB2⟩ := hrel
     have bF2 := bF.below hB2
     have cF := bF2.cell
     have lF := bF2.lt
     have fF := bF2.frozen
     have hBW2 := belowCall hBW hB2
     have hbw2 : b < wr.heap.size := Nat.lt_of_lt_of_le hb hBW2.size
     by_cases hki : k < i
     ·have hki' : (k : Int) < i := by omega
      have a0 := (hBW2.cell hb).trans (hcell.out k 0 (by omega) (by omega))
      have a1 := (hBW2.cell hb).trans (hcell.out k 1 (by omega) (by omega))
      simp only [if_true, Nat.add_zero, Nat.succ_ne_self, if_false] at a0 a1
      have hne := l1.out i k hki hin
      by_cases hX : X i = X k
      ·have hqx : (X i == X k) = true := by simpa using hX
       have hqy : (Y i == Y k) = false := by
        rw [beq_eq_false_iff_ne]
        exact fun h => hne ⟨hX, h⟩
       replace hX := Lib.hid hX
       replace hne := Lib.hid hne
       go_wp2
       go_roundw
       case rel => exact ⟨k + 1, by omega, by simp, belowAlloc hB2 _⟩
       case measure => simp [intOf]; omega
      ·have hqx : (X i == X k) = false := by rw [beq_eq_false_iff_ne]; exact hX
       replace hX := Lib.hid hX
       replace hne := Lib.hid hne
       go_wp2
       go_roundw
       case rel => exact ⟨k + 1, by omega, by simp, belowAlloc hB2 _⟩
       case measure => simp [intOf]; omega
     ·obtain rfl : k = i := by omega
      obtain ⟨⟨x1, x2⟩, y1, y2⟩ := l0.out k hin
      go_wp2_with first | (go_at_call 268; (with_reducible refine (lbetween_ok (X k) _ _ x1 x2 _).mono ?_); rintro e w' ⟨rfl, rfl⟩) | (go_at_call 268; (with_reducible refine (lbetween_ok (Y k) _ _ y1 y2 _).mono ?_); rintro e w' ⟨rfl, rfl⟩)
      go_roundw
      case rel => exact ⟨k + 1, by omega, by simp, hBW2⟩
      case measure => simp [intOf]; omega
   ·obtain rfl : i = nf := by omega
    have e1 : (1 : Int) ≤ i := by omega
    have e2 : (i : Int) ≤ 5 := by omega
    clear hcell cb0 l0 l1
    go_wp2_with (go_at_call 268; refine (lbetween_ok (i : Int) 1 5 e1 e2 _).mono ?_; rintro e w' ⟨rfl, rfl⟩)
    go_ret
    exact ⟨rfl, hB⟩
theorem lall_ok (n c : Nat) (p : Option Addr) (g : Nat → Nat) (fi ca : Nat → Array Value) (w : World) (hr : RdC w p n c 1 (fun i _ => .func (.func (g i)) (fi i) (ca i)))
  (eg : ∀ i, i < n → ∀ args w, (callFunc (g i) args).run Tryz.prog w = .ok (.enter (g i) args) w)
  (hc : ∀ i, i < n → ∀ W, Below w.heap.size w W → Calls Tryz.prog (g i) (fi i ++ ca i) W fun e w' => e = .returned (.bool true) ∧ Below W.heap.size W w') :
  Calls Tryz.prog 265 #[.slice p n c] w fun e w' => e = .returned (.bool true) ∧ Below w.heap.size w w' := by
 obtain ⟨hc1, hn1, hx⟩ := hr
 go_enter Tryz.func265, Tryz.ntmps265
 go_wp2
 go_step3
 go_wp2
 go_step3
 go_wp2
 go_loopw [3, 8] (fun l a wr => ∃ k : Nat, k ≤ n ∧ l = .bool true ∧ a = .int .i64 (k : Int) ∧ Below w.heap.size w wr) (fun _ a _ => (n - intOf a).toNat)
 case atStart => exact ⟨0, Nat.zero_le _, rfl, rfl, Below.refl _ _⟩
 case round =>
  obtain ⟨k, hk, rfl, rfl, hB⟩ := hrel
  by_cases h0 : k < n
  ·obtain ⟨b, off, rfl, hb, hcell⟩ := hx (by omega)
   have a1 := (hB.cell hb).trans (hcell k 0 h0 (by omega))
   simp only [Nat.mul_one, Nat.add_zero] at a1
   have hck := hc k h0 wr hB
   have egk := eg k h0
   generalize g k = G at *
   generalize fi k = FI at *
   generalize ca k = CA at *
   clear hcell hx hc eg
   have h0' : (k : Int) < n := by omega
   go_wp2
   refine hck.mono ?_
   rintro e w' ⟨rfl, hb'⟩
   go_wp2
   go_roundw
   case rel => exact ⟨k + 1, by omega, rfl, by simp, belowCall hB hb'⟩
   case measure => simp [intOf]; omega
  ·obtain rfl : k = n := by omega
   clear hx hc eg
   go_wp2
   rw [Exit.noGoto_ret]
   go_ret
   exact ⟨rfl, hB⟩
theorem valid1_ok (A B : Nat) (nm : ByteArray) (w : World) (a0 : Box w A 286 #[.pointer (some ⟨B, 0, none⟩)]) (hn : w.cell? ⟨B, 0, none⟩ = some (.string nm))
  (h0 : 1 ≤ nm.size) (h1 : nm.size ≤ 16) (hl : ∀ i (hi : i < nm.size), isLetter (nm[i].toNat : Int)) :
  Calls Tryz.prog 266 #[.pointer (some ⟨A, 0, none⟩)] w fun e w' => e = .returned (.bool true) ∧ Below w.heap.size w w' := by
 have ca0 := a0.cell
 have hk := name_ok nm h0 h1 hl w
 clear hl h0 h1
 go_enter Tryz.func266, Tryz.ntmps266
 go_wp2_with (go_at_call 217; refine hk.mono ?_; rintro e w' ⟨rfl, rfl⟩)
 go_ret
 exact ⟨rfl, Below.refl _ _⟩
theorem valid2_ok (A B : Nat) (di pu : Int) (w : World) (a0 : Box w A 286 #[.pointer (some ⟨B, 0, none⟩)]) (h1 : w.cell? ⟨B, 1, none⟩ = some (.int .i64 di)) (h2 : w.cell? ⟨B, 2, none⟩ = some (.int .i64 pu))
  (d0 : 0 ≤ di) (d1 : di ≤ 1000000000) (p0 : 1 ≤ pu) (p1 : pu ≤ 1000000000) :
  Calls Tryz.prog 267 #[.pointer (some ⟨A, 0, none⟩)] w fun e w' => e = .returned (.bool true) ∧ Below w.heap.size w w' := by
 have ca0 := a0.cell
 go_enter Tryz.func267, Tryz.ntmps267
 go_wp2_with first | (go_at_call 268; (with_reducible refine (lbetween_ok di _ _ d0 d1 _).mono ?_); rintro e w' ⟨rfl, rfl⟩) | (go_at_call 268; (with_reducible refine (lbetween_ok pu _ _ p0 p1 _).mono ?_); rintro e w' ⟨rfl, rfl⟩)
 go_ret
 exact ⟨rfl, Below.refl _ _⟩
end Go.Proofs.YtdgodcgdlfjpaaaGreatDoor
