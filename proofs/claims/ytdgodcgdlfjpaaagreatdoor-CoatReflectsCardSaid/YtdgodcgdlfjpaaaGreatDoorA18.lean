/- Contracts of package coat and of the examples of its law, for the laws of layer 40. Part 18 of 40. No condition beside the row. -/
import Derived.Deep.MidRow
import Derived.Test.YtdgodcgdlfjpaaaGreatDoorA17
set_option linter.unusedVariables false
set_option linter.unusedSimpArgs false
set_option maxRecDepth 100000
set_option maxHeartbeats 4000000
namespace Go.Proofs.YtdgodcgdlfjpaaaGreatDoor
open Go.RowKit Go.Mono
theorem fields_ok (B : Nat) (nm : ByteArray) (di pu st pr : Int) (pf pw' ps pc : Option Addr) (nf cf n cw ns cs nc cc : Nat) (X Y : Nat → Int) (w : World)
  (b0 : Box w B 258 #[.string nm, .int .i64 di, .int .i64 pu, .int .i64 st, .int .i64 pr, .slice pf nf cf, .slice pw' n cw, .slice ps ns cs, .slice pc nc cc])
  (hr : RdC w pf nf cf 2 (fun i j => if j = 0 then .int .i64 (X i) else .int .i64 (Y i)))
  (n1 : 1 ≤ nf) (n2 : nf ≤ 5) (m : Int) (hm : m = if di = 0 then 1000000 else 1000000000)
  (l0 : ∀ i, i < nf → (-m ≤ X i ∧ X i ≤ m) ∧ -m ≤ Y i ∧ Y i ≤ m) (l1 : ∀ i k, k < i → i < nf → ¬ (X i = X k ∧ Y i = Y k)) :
  Calls Tryz.prog 269 #[.pointer (some ⟨B, 0, none⟩)] w fun e w' => e = .returned (.bool true) ∧ Below w.heap.size w w' := by
 have cb0 := b0.cell
 have m1 : 0 ≤ m ∧ m ≤ 1000000000 := by subst hm; split <;> omega
 obtain ⟨hc1, hn1, hx⟩ := hr
 obtain ⟨b, off, rfl, hb, hcell⟩ := hx (by omega)
 clear hx
 have hdd : (m = 1000000 ∧ di = 0) ∨ (m = 1000000000 ∧ (di == 0) = false) := by
  subst hm
  by_cases hd : di = 0
  ·left; simp [hd]
  ·right; simp [hd]
 clear hm
 rcases hdd with ⟨rfl, rfl⟩ | ⟨rfl, hd⟩
 all_goals
  go_enter Tryz.func269, Tryz.ntmps269
  go_wp2
  go_loopw [20] (fun a wr => ∃ i : Nat, i ≤ nf ∧ a = .int .i64 (i : Int) ∧ Below w.heap.size w wr) (fun a _ => (nf - intOf a).toNat)
  case atStart => exact ⟨0, Nat.zero_le _, rfl, Below.refl _ _⟩
  case round =>
   obtain ⟨i, hi, rfl, hB⟩ := hrel
   have hbb := b0.below hB
   have cbb := hbb.cell
   have lbb := hbb.lt
   have hbw : b < wr.heap.size := Nat.lt_of_lt_of_le hb hB.size
   by_cases hin : i < nf
   ·have hin' : (i : Int) < nf := by omega
    have a0 := (hB.cell hb).trans (hcell i 0 hin (by omega))
    have a1 := (hB.cell hb).trans (hcell i 1 hin (by omega))
    simp only [if_true, Nat.add_zero, Nat.succ_ne_self, if_false] at a0 a1
    replace l0 := Lib.hid l0; replace l1 := Lib.hid l1; replace hcell := Lib.hid hcell
    clear cb0
    go_wp2
    refine boxes1 fun W1 hB1 hs1 bF => ?_
    replace hbb := hbb.below hB1
    have hBW := belowCall hB hB1
    clear cbb lbb a0 a1
    go_loopw [33] (fun a w2 => ∃ k : Nat, k ≤ i ∧ a = .int .i64 (k : Int) ∧ Below W1.heap.size W1 w2) (fun a _ => (i - intOf a).toNat)
    case atStart => exact ⟨0, Nat.zero_le _, rfl, Below.refl _ _⟩
    case round =>
     obtain ⟨k, hk, rfl, hB2⟩ := hrel
     have bF2 := bF.below hB2
     have cF := bF2.cell
     have lF := bF2.lt
     have fF := bF2.frozen
     have hBW2 := belowCall hBW hB2
     have hbw2 : b < wr.heap.size := Nat.lt_of_lt_of_le hb hBW2.size
     by_cases hki : k < i
     ·have hki' : (k : Int) < i := by omega
      have a0 := (hBW2.cell hb).trans (hcell.out k 0 (by omega) (by omega))
      have a1 := (hBW2.cell hb).trans (hcell.out k 1 (by omega) (by omega))
      simp only [if_true, Nat.add_zero, Nat.succ_ne_self, if_false] at a0 a1
      have hne := l1.out i k hki hin
      by_cases hX : X i = X k
      ·have hqx : (X i == X k) = true := by simpa using hX
       have hqy : (Y i == Y k) = false := by
        rw [beq_eq_false_iff_ne]
        exact fun h => hne ⟨hX, h⟩
       replace hX := Lib.hid hX
       replace hne := Lib.hid hne
       go_wp2
       go_roundw
       case rel => exact ⟨k + 1, by omega, by simp, belowAlloc hB2 _⟩
       case measure => simp [intOf]; omega
      ·have hqx : (X i == X k) = false := by rw [beq_eq_false_iff_ne]; exact hX
       replace hX := Lib.hid hX
       replace hne := Lib.hid hne
       go_wp2
       go_roundw
       case rel => exact ⟨k + 1, by omega, by simp, belowAlloc hB2 _⟩
       case measure => simp [intOf]; omega
     ·obtain rfl : k = i := by omega
      obtain ⟨⟨x1, x2⟩, y1, y2⟩ := l0.out k hin
      go_wp2_with first | (go_at_call 268; (with_reducible refine (lbetween_ok (X k) _ _ x1 x2 _).mono ?_); rintro e w' ⟨rfl, rfl⟩) | (go_at_call 268; (with_reducible refine (lbetween_ok (Y k) _ _ y1 y2 _).mono ?_); rintro e w' ⟨rfl, rfl⟩)
      go_roundw
      case rel => exact ⟨k + 1, by omega, by simp, hBW2⟩
      case measure => simp [intOf]; omega
   ·obtain rfl : i = nf := by omega
    have e1 : (1 : Int) ≤ i := by omega
    have e2 : (i : Int) ≤ 5 := by omega
    clear hcell cb0 l0 l1
    go_wp2_with (go_at_call 268; refine (lbetween_ok (i : Int) 1 5 e1 e2 _).mono ?_; rintro e w' ⟨rfl, rfl⟩)
    go_ret
    exact ⟨rfl, hB⟩
theorem lall_ok (n c : Nat) (p : Option Addr) (g : Nat → Nat) (fi ca : Nat → Array Value) (w : World) (hr : RdC w p n c 1 (fun i _ => .func (.func (g i)) (fi i) (ca i)))
  (eg : ∀ i, i < n → ∀ args w, (callFunc (g i) args).run Tryz.prog w = .ok (.enter (g i) args) w)
  (hc : ∀ i, i < n → ∀ W, Below w.heap.size w W → Calls Tryz.prog (g i) (fi i ++ ca i) W fun e w' => e = .returned (.bool true) ∧ Below W.heap.size W w') :
  Calls Tryz.prog 265 #[.slice p n c] w fun e w' => e = .returned (.bool true) ∧ Below w.heap.size w w' := by
 obtain ⟨hc1, hn1, hx⟩ := hr
 go_enter Tryz.func265, Tryz.ntmps265
 go_wp2
 go_step3
 go_wp2
 go_step3
 go_wp2
 go_loopw [3, 8] (fun l a wr => ∃ k : Nat, k ≤ n ∧ l = .bool true ∧ a = .int .i64 (k : Int) ∧ Below w.heap.size w wr) (fun _ a _ => (n - intOf a).toNat)
 case atStart => exact ⟨0, Nat.zero_le _, rfl, rfl, Below.refl _ _⟩
 case round =>
  obtain ⟨k, hk, rfl, rfl, hB⟩ := hrel
  by_cases h0 : k < n
  ·obtain ⟨b, off, rfl, hb, hcell⟩ := hx (by omega)
   have a1 := (hB.cell hb).trans (hcell k 0 h0 (by omega))
   simp only [Nat.mul_one, Nat.add_zero] at a1
   have hck := hc k h0 wr hB
   have egk := eg k h0
   generalize g k = G at *
   generalize fi k = FI at *
   generalize ca k = CA at *
   clear hcell hx hc eg
   have h0' : (k : Int) < n := by omega
   go_wp2
   refine hck.mono ?_
   rintro e w' ⟨rfl, hb'⟩
   go_wp2
   go_roundw
   case rel => exact ⟨k + 1, by omega, rfl, by simp, belowCall hB hb'⟩
   case measure => simp [intOf]; omega
  ·obtain rfl : k = n := by omega
   clear hx hc eg
   go_wp2
   rw [Exit.noGoto_ret]
   go_ret
   exact ⟨rfl, hB⟩
theorem valid1_ok (A B : Nat) (nm : ByteArray) (w : World) (a0 : Box w A 286 #[.pointer (some ⟨B, 0, none⟩)]) (hn : w.cell? ⟨B, 0, none⟩ = some (.string nm))
  (h0 : 1 ≤ nm.size) (h1 : nm.size ≤ 16) (hl : ∀ i (hi : i < nm.size), isLetter (nm[i].toNat : Int)) :
  Calls Tryz.prog 266 #[.pointer (some ⟨A, 0, none⟩)] w fun e w' => e = .returned (.bool true) ∧ Below w.heap.size w w' := by
 have ca0 := a0.cell
 have hk := name_ok nm h0 h1 hl w
 clear hl h0 h1
 go_enter Tryz.func266, Tryz.ntmps266
 go_wp2_with (go_at_call 217; refine hk.mono ?_; rintro e w' ⟨rfl, rfl⟩)
 go_ret
 exact ⟨rfl, Below.refl _ _⟩
theorem valid2_ok (A B : Nat) (di pu : Int) (w : World) (a0 : Box w A 286 #[.pointer (some ⟨B, 0, none⟩)]) (h1 : w.cell? ⟨B, 1, none⟩ = some (.int .i64 di)) (h2 : w.cell? ⟨B, 2, none⟩ = some (.int .i64 pu))
  (d0 : 0 ≤ di) (d1 : di ≤ 1000000000) (p0 : 1 ≤ pu) (p1 : pu ≤ 1000000000) :
  Calls Tryz.prog 267 #[.pointer (some ⟨A, 0, none⟩)] w fun e w' => e = .returned (.bool true) ∧ Below w.heap.size w w' := by
 have ca0 := a0.cell
 go_enter Tryz.func267, Tryz.ntmps267
 go_wp2_with first | (go_at_call 268; (with_reducible refine (lbetween_ok di _ _ d0 d1 _).mono ?_); rintro e w' ⟨rfl, rfl⟩) | (go_at_call 268; (with_reducible refine (lbetween_ok pu _ _ p0 p1 _).mono ?_); rintro e w' ⟨rfl, rfl⟩)
 go_ret
 exact ⟨rfl, Below.refl _ _⟩
theorem isurf_none (n c : Nat) (p : Option Addr) (A : Nat → Array Value) (hA : ∀ i, (A i).size = 22) (g : Nat) (eg : ∀ args w, (callFunc g args).run Tryz.prog w = .ok (.enter g args) w) (w : World)
  (h : RdC w p n c 22 (fun i j => (A i).getD j undef))
  (hf : ∀ i, i < n → ∀ W, Below w.heap.size w W → Calls Tryz.prog g #[.agg (A i)] W fun e w' => e = .returned (.bool false) ∧ Below W.heap.size W w') :
  Calls Tryz.prog 292 #[.slice p n c, .func (.func g) #[] #[]] w fun e w' => e = .returned (.int .i64 (-1)) ∧ Below w.heap.size w w' := by
 obtain ⟨hc1, hn1, hx1⟩ := h
 have hsz : (Tryz.prog.info? 104).map (·.size) = some 22 := by kernel_rfl
 go_enter Tryz.func292, Tryz.ntmps292
 go_wp2
 go_loopw [8] (fun a wr => ∃ k : Nat, k ≤ n ∧ a = .int .i64 (k : Int) ∧ Below w.heap.size w wr) (fun a _ => (n - intOf a).toNat)
 case atStart => exact ⟨0, Nat.zero_le _, rfl, Below.refl _ _⟩
 case round =>
  obtain ⟨k, hk, rfl, hB⟩ := hrel
  by_cases h0 : k < n
  ·obtain ⟨b, off, rfl, hb, hcell⟩ := hx1 (by omega)
   have hAk := hA k
   have hrange : wr.rangeAt b (off + k * 22) (A k).toList := fun j v hv => by
    have hj : j < 22 := by
     have := (List.getElem?_eq_some_iff.1 hv).1
     simpa [hAk] using this
    refine ((hB.cell hb).trans (hcell k j h0 hj)).trans ?_
    rw [Array.getElem?_toList] at hv
    rw [Array.getD_eq_getD_getElem?, hv]
    rfl
   have hfk := hf k h0 wr hB
   have hi : (Tryz.prog.info? 104).map (·.size) = some (A k).toList.length := by rw [hsz]; simp [hAk]
   clear hcell hx1 hf hA hAk
   generalize A k = AK at *
   have h0' : (k : Int) < n := by omega
   go_wp2_with (refine wpList_load_mid rfl 104 _ rfl b (off + k * 22) rfl AK.toList _ hrange Tryz.underlying104 rfl hi ?_)
   refine hfk.mono ?_
   rintro e w' ⟨rfl, hb'⟩
   go_wp2
   go_roundw
   case rel => exact ⟨k + 1, by omega, by simp, belowCall hB hb'⟩
   case measure => simp [intOf]; omega
  ·obtain rfl : k = n := by omega
   clear hx1 hf
   go_wp2
   go_ret
   exact ⟨rfl, hB⟩
theorem csurf_none (n c : Nat) (p : Option Addr) (A : Nat → Array Value) (hA : ∀ i, (A i).size = 22) (g : Nat) (eg : ∀ args w, (callFunc g args).run Tryz.prog w = .ok (.enter g args) w) (w : World)
  (h : RdC w p n c 22 (fun i j => (A i).getD j undef))
  (hf : ∀ i, i < n → ∀ W, Below w.heap.size w W → Calls Tryz.prog g #[.agg (A i)] W fun e w' => e = .returned (.bool false) ∧ Below W.heap.size W w') :
  Calls Tryz.prog 283 #[.slice p n c, .func (.func g) #[] #[]] w fun e w' => e = .returned (.bool false) ∧ Below w.heap.size w w' := by
 have hi := isurf_none n c p A hA g eg w h hf
 clear h hf hA
 go_enter Tryz.func283, Tryz.ntmps283
 go_wp2_with (go_at_call 292; refine hi.mono ?_; rintro e w' ⟨rfl, hb⟩)
 go_ret
 exact ⟨rfl, hb⟩
theorem enters_surfaces1 : ∀ args w, (callFunc 282 args).run Tryz.prog w = .ok (.enter 282 args) w := Go.Proofs.enters_of Tryz.func282 (by kernel_rfl) rfl
theorem Box.range {w : World} {B : Nat} {T : TypeId} {cs : Array Value} (b : Box w B T cs) : w.rangeAt B 0 cs.toList := fun j v hv => by
 rw [Nat.zero_add, b.cell, ← Array.getElem?_toList]
 exact hv
theorem surfaces1_ok (A : Array Value) (hA : A.size = 22) (w : World) (hc : ∀ W, Below w.heap.size w W → Calls Tryz.prog 150 #[.agg A] W fun e w' => e = .returned (.int .i64 0) ∧ Below W.heap.size W w') :
  Calls Tryz.prog 282 #[.agg A] w fun e w' => e = .returned (.bool false) ∧ Below w.heap.size w w' := by
 have hsz : (Tryz.prog.info? 104).map (·.size) = some 22 := by kernel_rfl
 have hi : (Tryz.prog.info? 104).map (·.size) = some A.toList.length := by rw [hsz]; simp [hA]
 go_enter Tryz.func282, Tryz.ntmps282
 go_wp2_with (refine wpList_load_mid rfl 104 _ rfl w.heap.size 0 rfl A.toList _ (Box.range (Box.new w 104 A)) Tryz.underlying104 rfl hi ?_)
 refine (hc _ (belowAlloc (Below.refl _ _) _)).mono ?_
 rintro e w' ⟨rfl, hb⟩
 go_wp2
 go_ret
 exact ⟨rfl, belowCall (belowAlloc (Below.refl _ _) _) hb⟩
theorem enters_valid : (∀ args w, (callFunc 266 args).run Tryz.prog w = .ok (.enter 266 args) w) ∧ (∀ args w, (callFunc 267 args).run Tryz.prog w = .ok (.enter 267 args) w) ∧ (∀ args w, (callFunc 269 args).run Tryz.prog w = .ok (.enter 269 args) w) ∧ (∀ args w, (callFunc 270 args).run Tryz.prog w = .ok (.enter 270 args) w) ∧ (∀ args w, (callFunc 271 args).run Tryz.prog w = .ok (.enter 271 args) w) ∧ (∀ args w, (callFunc 272 args).run Tryz.prog w = .ok (.enter 272 args) w) :=
 ⟨Go.Proofs.enters_of Tryz.func266 (by kernel_rfl) rfl, Go.Proofs.enters_of Tryz.func267 (by kernel_rfl) rfl, Go.Proofs.enters_of Tryz.func269 (by kernel_rfl) rfl, Go.Proofs.enters_of Tryz.func270 (by kernel_rfl) rfl, Go.Proofs.enters_of Tryz.func271 (by kernel_rfl) rfl, Go.Proofs.enters_of Tryz.func272 (by kernel_rfl) rfl⟩
def vG : Nat → Nat := fun i => if i = 0 then 266 else if i = 1 then 267 else if i = 2 then 269 else if i = 3 then 270 else if i = 4 then 271 else 272
def vF (B : Nat) : Nat → Array Value := fun i => if i < 2 then #[] else #[.pointer (some ⟨B, 0, none⟩)]
def vC (A : Nat) : Nat → Array Value := fun i => if i < 2 then #[.pointer (some ⟨A, 0, none⟩)] else #[]
theorem valid_ok (B : Nat) (w : World)
  (h1 : ∀ A W, Below w.heap.size w W → Box W A 286 #[.pointer (some ⟨B, 0, none⟩)] → Calls Tryz.prog 266 #[.pointer (some ⟨A, 0, none⟩)] W fun e w' => e = .returned (.bool true) ∧ Below W.heap.size W w')
  (h2 : ∀ A W, Below w.heap.size w W → Box W A 286 #[.pointer (some ⟨B, 0, none⟩)] → Calls Tryz.prog 267 #[.pointer (some ⟨A, 0, none⟩)] W fun e w' => e = .returned (.bool true) ∧ Below W.heap.size W w')
  (h3 : ∀ W, Below w.heap.size w W → Calls Tryz.prog 269 #[.pointer (some ⟨B, 0, none⟩)] W fun e w' => e = .returned (.bool true) ∧ Below W.heap.size W w')
  (h4 : ∀ W, Below w.heap.size w W → Calls Tryz.prog 270 #[.pointer (some ⟨B, 0, none⟩)] W fun e w' => e = .returned (.bool true) ∧ Below W.heap.size W w')
  (h5 : ∀ W, Below w.heap.size w W → Calls Tryz.prog 271 #[.pointer (some ⟨B, 0, none⟩)] W fun e w' => e = .returned (.bool true) ∧ Below W.heap.size W w')
  (h6 : ∀ W, Below w.heap.size w W → Calls Tryz.prog 272 #[.pointer (some ⟨B, 0, none⟩)] W fun e w' => e = .returned (.bool true) ∧ Below W.heap.size W w') :
  Calls Tryz.prog 243 #[.pointer (some ⟨B, 0, none⟩)] w fun e w' => e = .returned (.bool true) ∧ Below w.heap.size w w' := by
 have hmf : ∀ (fn : Fn) (first cap : Array Value) (w : World), (Instr.makeFunc fn first cap).run Tryz.prog w = .ok (.func fn first cap) w := fun _ _ _ _ => rfl
 go_enter Tryz.func243, Tryz.ntmps243
 go_wp2_with fail
 refine boxes2c fun W hB hs b0 b1 => ?_
 obtain ⟨e1, e2, e3, e4, e5, e6⟩ := enters_valid
 refine (lall_ok 6 6 _ vG (vF B) (vC w.heap.size) W ⟨by omega, by omega, fun _ => ⟨_, _, rfl, b1.lt, fun i j hi hj => ?_⟩⟩ (fun i hi => ?_) (fun i hi W' hW => ?_)).mono ?_
 ·obtain rfl : j = 0 := by omega
  rw [b1.cell]
  rcases (by omega : i = 0 ∨ i = 1 ∨ i = 2 ∨ i = 3 ∨ i = 4 ∨ i = 5) with rfl | rfl | rfl | rfl | rfl | rfl <;> rfl
 ·rcases (by omega : i = 0 ∨ i = 1 ∨ i = 2 ∨ i = 3 ∨ i = 4 ∨ i = 5) with rfl | rfl | rfl | rfl | rfl | rfl
  ·exact e1
  ·exact e2
  ·exact e3
  ·exact e4
  ·exact e5
  ·exact e6
 ·have hBW := belowCall hB hW
  rcases (by omega : i = 0 ∨ i = 1 ∨ i = 2 ∨ i = 3 ∨ i = 4 ∨ i = 5) with rfl | rfl | rfl | rfl | rfl | rfl
  ·exact h1 _ W' hBW (b0.below hW)
  ·exact h2 _ W' hBW (b0.below hW)
  ·exact h3 W' hBW
  ·exact h4 W' hBW
  ·exact h5 W' hBW
  ·exact h6 W' hBW
 rintro e w' ⟨rfl, hb⟩
 go_wp2
 go_ret
 exact ⟨rfl, belowCall hB hb⟩
end Go.Proofs.YtdgodcgdlfjpaaaGreatDoor
