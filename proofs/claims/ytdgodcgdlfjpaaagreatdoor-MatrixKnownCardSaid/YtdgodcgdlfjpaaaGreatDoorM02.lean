/- The law MatrixKnown: the examples of the ray transfer matrices, afocal lenses, mirrors and the order of errors; its walk by a verified evaluator of the model, and its card. Part 2 of 36. No condition beside the row. -/
import Derived.Deep.RegionHeld3
import Derived.RangeFuncNested
import Derived.RangeFuncBound
import Derived.RangeFuncCalls
import Derived.RangeFuncLeaves
import Derived.Shelf.Abstract
import Derived.Shelf.RegionOpen
import Derived.WalkKit
import Derived.OwnWalkIn
import Derived.TacticsInMore
import Derived.LoopNIn
import Derived.LoopIn
import Derived.Test.YtdgodcgdlfjpaaaGreatDoorM01
set_option linter.unusedVariables false
set_option linter.unusedSimpArgs false
set_option maxRecDepth 100000
set_option maxHeartbeats 4000000
namespace Go.Proofs.YtdgodcgdlfjpaaaGreatDoor
open Go.RowKit Go.Mono
theorem infoInt : (Tryz.prog.info? 3).map (fun i => (i.zero, i.size, i.bytes)) = some (some (.int .i64 0), 1, 8) := by kernel_rfl
theorem sizeInt : (Tryz.prog.info? 3).map (·.size) = some 1 := by kernel_rfl
theorem times_any (p q : Option Addr) (n m c1 c2 : Nat) (f g : Nat → Int) (w : World) (h1 : SlF w (.slice p n c1) n f) (h2 : SlF w (.slice q m c2) m g)
  (f0 : ∀ i, i < n → 0 ≤ f i) (f1 : ∀ i, i < n → f i < 1000000000) (g0 : ∀ i, i < m → 0 ≤ g i) (g1 : ∀ i, i < m → g i < 1000000000) (hn : n ≤ 1000000) (hm : m ≤ 1000000) :
  Calls Tryz.prog 156 #[.slice p n c1, .slice q m c2] w fun e w' => ∃ b k h, e = .returned (.slice (some ⟨b, 0, none⟩) k (n + m)) ∧ SlF w' (.slice (some ⟨b, 0, none⟩) k (n + m)) k h ∧ Digs h k ∧ vf h k = vf f n * vf g m ∧ k ≤ n + m ∧ Below w.heap.size w w' := by
 obtain ⟨hc1, hn1, hx1⟩ := h1.opens
 obtain ⟨hc2, hn2, hx2⟩ := h2.opens
 clear h1 h2
 go_enter Tryz.func156, Tryz.ntmps156
 go_wp2_with (at_make; refine wpList_make_ints _ rfl _ _ 147 rfl Tryz.underlying147 infoInt _ _ (n + m) rfl rfl (by simp) (by simp) (by omega) ?_; intro w1 r1 b1; have s1 := b1.size; have L1 := r1.lt)
 go_loopw [20] (fun a wr => ∃ i : Nat, i ≤ n ∧ a = .int .i64 i ∧ Below w.heap.size w wr ∧ ∃ h, RowF wr w.heap.size (n + m) h ∧ TimesInv n m f g i 0 h 0) (fun a _ => n - (intOf a).toNat)
 case atStart => exact ⟨0, Nat.zero_le _, rfl, b1, _, r1, TimesInv.start⟩
 case round =>
  clear b1 s1 L1 r1
  obtain ⟨i, hi, rfl, hb, h, hr, HT⟩ := hrel
  by_cases hlt : i < n
  ·obtain ⟨b, off, rfl, hbs, hcell⟩ := hx1 (by omega)
   have a1 := (hb.cell (p := ⟨b, off + i, none⟩) hbs).trans (hcell i hlt)
   have fi0 := f0 i hlt
   have fi1 := f1 i hlt
   clear hcell hx1
   go_wp2
   go_loopw [8, 27] (fun c a wr => ∃ k : Nat, k ≤ m ∧ a = .int .i64 k ∧ Below w.heap.size w wr ∧ ∃ h cc, c = .int .i64 cc ∧ RowF wr w.heap.size (n + m) h ∧ TimesInv n m f g i k h cc) (fun _ a _ => m - (intOf a).toNat)
   case atStart => exact ⟨0, Nat.zero_le _, rfl, hb, _, _, rfl, hr, HT⟩
   case round =>
    clear hb hr HT a1
    obtain ⟨k, hk, rfl, hb, h, cc, rfl, hr, HT⟩ := hrel
    by_cases hlk : k < m
    ·obtain ⟨b2, off2, rfl, hbs2, hcell2⟩ := hx2 (by omega)
     have a1 := (hb.cell (p := ⟨b2, off2 + k, none⟩) hbs2).trans (hcell2 k hlk)
     have gk0 := g0 k hlk
     have gk1 := g1 k hlk
     have a2 := hr.cell (i + k) (by omega)
     have a3 := hr.frozen (i + k)
     have d1 := HT.lo (i + k) (by omega)
     have d2 := HT.hi (i + k) (by omega)
     have d3 := HT.c0
     have d4 := HT.c1
     obtain ⟨d5, d6⟩ := mul_bd fi0 fi1 gk0 gk1
     clear hcell2 hx2 f0 f1 g0 g1
     go_wp2
     go_roundw
     case rel => exact ⟨k + 1, by omega, by go_num, hb.setCell (p := ⟨w.heap.size, i + k, none⟩) (Nat.le_refl _) _, _, _, rfl, hr.set (i + k) _, HT.step hlt hlk fi0 fi1 gk0 gk1⟩
     case measure => simp [intOf]; omega
    ·obtain rfl : k = m := by omega
     have d3 := HT.c0
     have d4 := HT.c1
     have a2 := hr.cell (i + k) (by omega)
     have a3 := hr.frozen (i + k)
     clear hlk hk hx2 f0 f1 g0 g1
     go_wp2
     go_roundw
     case rel => exact ⟨i + 1, by omega, by go_num, hb.setCell (p := ⟨w.heap.size, i + k, none⟩) (Nat.le_refl _) _, _, hr.set (i + k) _, HT.outer hlt⟩
     case measure => simp [intOf]; omega
  ·obtain rfl : i = n := by omega
   clear hlt hi hx1 hx2
   have hs := hr.slice (by omega) (i + m) (Nat.le_refl _) (i + m) (Nat.le_refl _)
   obtain ⟨c1', c2'⟩ := HT.done
   have hle := trimN_le h (i + m)
   replace c2' := Lib.hid c2'
   go_wp2_with (go_at_call 223; refine (trim_any _ _ _ h _ hs).mono ?_; rintro e w' ⟨rfl, rfl⟩)
   go_ret
   exact ⟨_, _, h, rfl, hs.take _ hle, c1', c2'.out, hle, hb⟩
theorem times_sz (m1 m2 : Nat) (w wf : World) (hx : Ext wf w) (p q : Option Addr) (n m c1 c2 : Nat) (N M : Int) (h1 : Sz m1 wf (.slice p n c1) N) (h2 : Sz m2 wf (.slice q m c2) M) (hm1 : m1 ≤ 1000000) (hm2 : m2 ≤ 1000000) :
  Calls Tryz.prog 156 #[.slice p n c1, .slice q m c2] w fun e w' => ∃ p k c, e = .returned (.slice p k c) ∧ Sz (m1 + m2) w' (.slice p k c) (N * M) ∧ Below w.heap.size w w' := by
 obtain ⟨n, f, s1, d1, rfl, l1, rfl⟩ := (h1.ext hx).sl
 obtain ⟨m, g, s2, d2, rfl, l2, rfl⟩ := (h2.ext hx).sl
 refine (times_any p q n m c1 c2 f g w s1 s2 d1.lo d1.hi d2.lo d2.hi (by omega) (by omega)).mono ?_
 rintro e w' ⟨b, k, h, rfl, hs, hd, hv, hk, hb⟩
 exact ⟨_, _, _, rfl, ⟨k, h, hs, hd, hv, by omega⟩, hb⟩
theorem infoInt4 : (Tryz.prog.info? 3).map (fun i => (i.zero, i.size, i.bytes)) = some (some (.int .i64 0), 1, 8) := by kernel_rfl
theorem sizeInt4 : (Tryz.prog.info? 3).map (·.size) = some 1 := by kernel_rfl
theorem plus_ge (p q : Option Addr) (n m c1 c2 : Nat) (f g : Nat → Int) (w : World) (h1 : SlF w (.slice p n c1) n f) (h2 : SlF w (.slice q m c2) m g)
  (f0 : ∀ i, i < n → 0 ≤ f i) (f1 : ∀ i, i < n → f i < 1000000000) (g0 : ∀ i, i < m → 0 ≤ g i) (g1 : ∀ i, i < m → g i < 1000000000) (hmn : m ≤ n) (hn : n ≤ 1000000) :
  Calls Tryz.prog 157 #[.slice p n c1, .slice q m c2] w fun e w' => ∃ b k h, e = .returned (.slice (some ⟨b, 0, none⟩) k (n + 1)) ∧ SlF w' (.slice (some ⟨b, 0, none⟩) k (n + 1)) k h ∧ Digs h k ∧ vf h k = vf f n + vf g m ∧ k ≤ n + 1 ∧ Below w.heap.size w w' := by
 obtain ⟨hc1, hn1, hx1⟩ := h1.opens
 obtain ⟨hc2, hn2, hx2⟩ := h2.opens
 go_enter Tryz.func157, Tryz.ntmps157
 go_wp2_with (first
  | (at_make; refine wpList_make_ints _ rfl _ _ 147 rfl Tryz.underlying147 infoInt4 _ _ (n + 1) rfl rfl (by simp) (by simp) (by omega) ?_; intro w1 r1 b1; have s1 := b1.size; have L1 := r1.lt)
  | (with_reducible refine wpList_copy_ints _ rfl (.tmp 20) (.tmp 21) 147 147 rfl Tryz.underlying147 sizeInt4 w.heap.size (n + 1) _ (n + 1) _ _ n c1 f rfl rfl r1 (h1.ext (.of_below b1)) (by omega) (by omega) w.heap.size w b1 (Nat.le_refl _) ?_; intro w2 r2 b2))
 clear h1 h2 hx1
 go_loopw [25] (fun a wr => ∃ k : Nat, k ≤ m ∧ a = .int .i64 k ∧ Below w.heap.size w wr ∧ RowF wr w.heap.size (n + 1) (fun j => (if j < n then f j else 0) + (if j < k then g j else 0))) (fun a _ => m - (intOf a).toNat)
 case atStart => exact ⟨0, Nat.zero_le _, rfl, b2, r2.congr fun i _ => by simp⟩
 case round =>
  obtain ⟨k, hk, rfl, hb, hr⟩ := hrel
  by_cases hlt : k < m
  ·obtain ⟨b, off, rfl, hbs, hcell⟩ := hx2 (by omega)
   have a1 := (hb.cell (p := ⟨b, off + k, none⟩) hbs).trans (hcell k hlt)
   have a2 := hr.cell k (by omega)
   rw [if_pos (by omega), if_neg (by omega), Int.add_zero] at a2
   have a3 := hr.frozen k
   have d1 := f0 k (by omega)
   have d2 := f1 k (by omega)
   have d3 := g0 k hlt
   have d4 := g1 k hlt
   clear hcell hx2 f0 f1 g0 g1
   go_wp2
   go_roundw
   case rel =>
    refine ⟨k + 1, by omega, by go_num, hb.setCell (p := ⟨w.heap.size, k, none⟩) (Nat.le_refl _) _, (hr.set k _).congr fun i hi => ?_⟩
    by_cases e : i = k
    ·subst e; simp; omega
    ·rw [if_neg e]; simp only [show i < k + 1 ↔ i < k by omega]
   case measure => simp [intOf]; omega
  ·obtain rfl : k = m := by omega
   clear hlt hk hx2
   go_wp2
   have HP : PlusInv n (vf f n + vf g k) 0 (fun j => (if j < n then f j else 0) + (if j < k then g j else 0)) := PlusInv.start hmn f0 f1 g0 g1
   clear f0 f1 g0 g1
   go_loopw [40] (fun a wr => ∃ i : Nat, i ≤ n ∧ a = .int .i64 i ∧ Below w.heap.size w wr ∧ ∃ h, RowF wr w.heap.size (n + 1) h ∧ PlusInv n (vf f n + vf g k) i h) (fun a _ => n - (intOf a).toNat)
   case atStart => exact ⟨0, Nat.zero_le _, rfl, hb, _, hr, HP⟩
   case round =>
    clear hb hr HP
    obtain ⟨i, hi, rfl, hb, h, hr, HP⟩ := hrel
    by_cases hlt : i < n
    ·obtain ⟨q1, q2, q3, q4⟩ := HP.bd hlt
     have a2 := hr.cell i (by omega)
     have a3 := hr.frozen i
     have a4 := hr.cell (i + 1) (by omega)
     have a5 := hr.frozen (i + 1)
     by_cases hge : 1000000000 ≤ h i
     ·have r1 := hr.set i (h i - 1000000000)
      have a6 := r1.cell (i + 1) (by omega)
      have a7 := r1.frozen (i + 1)
      simp only [show ¬ i + 1 = i by omega, if_false] at a6
      go_wp2
      go_roundw
      case rel => exact ⟨i + 1, by omega, by go_num, (hb.setCell (p := ⟨w.heap.size, i, none⟩) (Nat.le_refl _) _).setCell (p := ⟨w.heap.size, i + 1, none⟩) (Nat.le_refl _) _, _, r1.set (i + 1) (h (i + 1) + 1), HP.carry hlt hge⟩
      case measure => simp [intOf]; omega
     ·have hge' : h i < 1000000000 := by omega
      go_wp2
      go_roundw
      case rel => exact ⟨i + 1, by omega, by go_num, hb, _, hr, HP.plain hlt hge'⟩
      case measure => simp [intOf]; omega
    ·obtain rfl : i = n := by omega
     clear hlt hi
     have hs := hr.slice (by omega) (i + 1) (Nat.le_refl _) (i + 1) (Nat.le_refl _)
     obtain ⟨c1', c2'⟩ := HP.done
     have hle := trimN_le h (i + 1)
     replace c2' := Lib.hid c2'
     go_wp2_with (go_at_call 223; refine (trim_any _ _ _ h _ hs).mono ?_; rintro e w' ⟨rfl, rfl⟩)
     go_ret
     exact ⟨_, _, h, rfl, hs.take _ hle, c1', c2'.out, hle, hb⟩
theorem plus_lt (p q : Option Addr) (n m c1 c2 : Nat) (f g : Nat → Int) (w : World) (h1 : SlF w (.slice p n c1) n f) (h2 : SlF w (.slice q m c2) m g)
  (f0 : ∀ i, i < n → 0 ≤ f i) (f1 : ∀ i, i < n → f i < 1000000000) (g0 : ∀ i, i < m → 0 ≤ g i) (g1 : ∀ i, i < m → g i < 1000000000) (hlt' : m < n) (hn : n ≤ 1000000) :
  Calls Tryz.prog 157 #[.slice q m c2, .slice p n c1] w fun e w' => ∃ b k h, e = .returned (.slice (some ⟨b, 0, none⟩) k (n + 1)) ∧ SlF w' (.slice (some ⟨b, 0, none⟩) k (n + 1)) k h ∧ Digs h k ∧ vf h k = vf f n + vf g m ∧ k ≤ n + 1 ∧ Below w.heap.size w w' := by
 have hmn : m ≤ n := by omega
 obtain ⟨hc1, hn1, hx1⟩ := h1.opens
 obtain ⟨hc2, hn2, hx2⟩ := h2.opens
 go_enter Tryz.func157, Tryz.ntmps157
 go_wp2_with (first
  | (at_make; refine wpList_make_ints _ rfl _ _ 147 rfl Tryz.underlying147 infoInt4 _ _ (n + 1) rfl rfl (by simp) (by simp) (by omega) ?_; intro w1 r1 b1; have s1 := b1.size; have L1 := r1.lt)
  | (with_reducible refine wpList_copy_ints _ rfl (.tmp 20) (.tmp 21) 147 147 rfl Tryz.underlying147 sizeInt4 w.heap.size (n + 1) _ (n + 1) _ _ n c1 f rfl rfl r1 (h1.ext (.of_below b1)) (by omega) (by omega) w.heap.size w b1 (Nat.le_refl _) ?_; intro w2 r2 b2))
 clear h1 h2 hx1
 go_loopw [25] (fun a wr => ∃ k : Nat, k ≤ m ∧ a = .int .i64 k ∧ Below w.heap.size w wr ∧ RowF wr w.heap.size (n + 1) (fun j => (if j < n then f j else 0) + (if j < k then g j else 0))) (fun a _ => m - (intOf a).toNat)
 case atStart => exact ⟨0, Nat.zero_le _, rfl, b2, r2.congr fun i _ => by simp⟩
 case round =>
  obtain ⟨k, hk, rfl, hb, hr⟩ := hrel
  by_cases hlt : k < m
  ·obtain ⟨b, off, rfl, hbs, hcell⟩ := hx2 (by omega)
   have a1 := (hb.cell (p := ⟨b, off + k, none⟩) hbs).trans (hcell k hlt)
   have a2 := hr.cell k (by omega)
   rw [if_pos (by omega), if_neg (by omega), Int.add_zero] at a2
   have a3 := hr.frozen k
   have d1 := f0 k (by omega)
   have d2 := f1 k (by omega)
   have d3 := g0 k hlt
   have d4 := g1 k hlt
   clear hcell hx2 f0 f1 g0 g1
   go_wp2
   go_roundw
   case rel =>
    refine ⟨k + 1, by omega, by go_num, hb.setCell (p := ⟨w.heap.size, k, none⟩) (Nat.le_refl _) _, (hr.set k _).congr fun i hi => ?_⟩
    by_cases e : i = k
    ·subst e; simp; omega
    ·rw [if_neg e]; simp only [show i < k + 1 ↔ i < k by omega]
   case measure => simp [intOf]; omega
  ·obtain rfl : k = m := by omega
   clear hlt hk hx2
   go_wp2
   have HP : PlusInv n (vf f n + vf g k) 0 (fun j => (if j < n then f j else 0) + (if j < k then g j else 0)) := PlusInv.start hmn f0 f1 g0 g1
   clear f0 f1 g0 g1
   go_loopw [40] (fun a wr => ∃ i : Nat, i ≤ n ∧ a = .int .i64 i ∧ Below w.heap.size w wr ∧ ∃ h, RowF wr w.heap.size (n + 1) h ∧ PlusInv n (vf f n + vf g k) i h) (fun a _ => n - (intOf a).toNat)
   case atStart => exact ⟨0, Nat.zero_le _, rfl, hb, _, hr, HP⟩
   case round =>
    clear hb hr HP
    obtain ⟨i, hi, rfl, hb, h, hr, HP⟩ := hrel
    by_cases hlt : i < n
    ·obtain ⟨q1, q2, q3, q4⟩ := HP.bd hlt
     have a2 := hr.cell i (by omega)
     have a3 := hr.frozen i
     have a4 := hr.cell (i + 1) (by omega)
     have a5 := hr.frozen (i + 1)
     by_cases hge : 1000000000 ≤ h i
     ·have r1 := hr.set i (h i - 1000000000)
      have a6 := r1.cell (i + 1) (by omega)
      have a7 := r1.frozen (i + 1)
      simp only [show ¬ i + 1 = i by omega, if_false] at a6
      go_wp2
      go_roundw
      case rel => exact ⟨i + 1, by omega, by go_num, (hb.setCell (p := ⟨w.heap.size, i, none⟩) (Nat.le_refl _) _).setCell (p := ⟨w.heap.size, i + 1, none⟩) (Nat.le_refl _) _, _, r1.set (i + 1) (h (i + 1) + 1), HP.carry hlt hge⟩
      case measure => simp [intOf]; omega
     ·have hge' : h i < 1000000000 := by omega
      go_wp2
      go_roundw
      case rel => exact ⟨i + 1, by omega, by go_num, hb, _, hr, HP.plain hlt hge'⟩
      case measure => simp [intOf]; omega
    ·obtain rfl : i = n := by omega
     clear hlt hi
     have hs := hr.slice (by omega) (i + 1) (Nat.le_refl _) (i + 1) (Nat.le_refl _)
     obtain ⟨c1', c2'⟩ := HP.done
     have hle := trimN_le h (i + 1)
     replace c2' := Lib.hid c2'
     go_wp2_with (go_at_call 223; refine (trim_any _ _ _ h _ hs).mono ?_; rintro e w' ⟨rfl, rfl⟩)
     go_ret
     exact ⟨_, _, h, rfl, hs.take _ hle, c1', c2'.out, hle, hb⟩
theorem plus_sz (m1 m2 : Nat) (w wf : World) (hx : Ext wf w) (p q : Option Addr) (n m c1 c2 : Nat) (N M : Int) (h1 : Sz m1 wf (.slice p n c1) N) (h2 : Sz m2 wf (.slice q m c2) M) (hm1 : m1 ≤ 1000000) (hm2 : m2 ≤ 1000000) :
  Calls Tryz.prog 157 #[.slice p n c1, .slice q m c2] w fun e w' => ∃ p k c, e = .returned (.slice p k c) ∧ Sz (max m1 m2 + 1) w' (.slice p k c) (N + M) ∧ Below w.heap.size w w' := by
 obtain ⟨n, f, s1, d1, rfl, l1, rfl⟩ := (h1.ext hx).sl
 obtain ⟨m, g, s2, d2, rfl, l2, rfl⟩ := (h2.ext hx).sl
 by_cases hmn : m ≤ n
 ·refine (plus_ge p q n m c1 c2 f g w s1 s2 d1.lo d1.hi d2.lo d2.hi hmn (by omega)).mono ?_
  rintro e w' ⟨b, k, h, rfl, hs, hd, hv, hk, hb⟩
  exact ⟨_, _, _, rfl, ⟨k, h, hs, hd, hv, by omega⟩, hb⟩
 ·refine (plus_lt q p m n c2 c1 g f w s2 s1 d2.lo d2.hi d1.lo d1.hi (by omega) (by omega)).mono ?_
  rintro e w' ⟨b, k, h, rfl, hs, hd, hv, hk, hb⟩
  exact ⟨_, _, _, rfl, ⟨k, h, hs, hd, by rw [hv]; omega, by omega⟩, hb⟩
end Go.Proofs.YtdgodcgdlfjpaaaGreatDoor
namespace Go.Mono
abbrev win (h : Nat → Int) (j : Nat) : Nat → Int := fun i => h (j + i)
structure LessInv (R j n : Nat) (h0 g : Nat → Int) (d : Int) (i : Nat) (h : Nat → Int) (b : Int) : Prop where
 lo : ∀ k, k < R → 0 ≤ h k
 hi : ∀ k, k < R → h k < 1000000000
 out : ∀ k, k < j ∨ j + i ≤ k → h k = h0 k
 b0 : 0 ≤ b
 b1 : b ≤ 1000000000
 val : vf (win h j) (n + 1) - b * pw i = vf (win h0 j) (n + 1) - d * vf g i
theorem win_set (h : Nat → Int) (j i k : Nat) (x : Int) : vf (win (fun y => if y = j + i then x else h y) j) k = vf (win h j) k + (if i < k then (x - h (j + i)) * pw i else 0) := by
 rw [← vf_set (win h j) i x k]
 refine vf_congr fun y _ => ?_
 simp only [win]
 by_cases e : y = i
 ·subst e; simp
 ·rw [if_neg (by omega), if_neg e]
theorem LessInv.start {R j n : Nat} {h0 g : Nat → Int} {d : Int} (lo : ∀ k, k < R → 0 ≤ h0 k) (hi : ∀ k, k < R → h0 k < 1000000000) : LessInv R j n h0 g d 0 h0 0 :=
 ⟨lo, hi, fun _ _ => rfl, by simp, by simp, by simp [vf]⟩
theorem LessInv.step {R j n : Nat} {h0 g : Nat → Int} {d : Int} {i : Nat} {h : Nat → Int} {b : Int} (H : LessInv R j n h0 g d i h b) (hi : i < n)
  (g0 : 0 ≤ g i) (g1 : g i < 1000000000) (d0 : 0 ≤ d) (d1 : d < 1000000000) {t e : Int} (ht : 0 ≤ t) (ht2 : t ≤ 2)
  (he : e = h (j + i) - (g i * d) % 1000000000 - b + t * 1000000000) (e0 : 0 ≤ e) (e1 : e < 1000000000) :
  LessInv R j n h0 g d (i + 1) (fun k => if k = j + i then e else h k) ((g i * d) / 1000000000 + t) := by
 obtain ⟨m0, m1⟩ := mul_bd g0 g1 d0 d1
 have b0 := H.b0
 have b1 := H.b1
 have hv := H.val
 generalize hx : g i * d = x at *
 have hq : x = 1000000000 * (x / 1000000000) + x % 1000000000 := (Int.mul_ediv_add_emod x 1000000000).symm
 refine ⟨fun k hk => ?_, fun k hk => ?_, fun k hk => ?_, by omega, by omega, ?_⟩
 ·show 0 ≤ if k = j + i then _ else _
  split
  ·omega
  ·exact H.lo k hk
 ·show (if k = j + i then _ else _) < _
  split
  ·omega
  ·exact H.hi k hk
 ·show (if k = j + i then _ else _) = _
  rw [if_neg (by omega)]; exact H.out k (by omega)
 ·rw [win_set, if_pos (by omega), vf_succ g i, pw_succ]
  generalize x / 1000000000 = q at hq ⊢
  generalize x % 1000000000 = r at hq he
  generalize vf (win h j) (n + 1) = V at hv ⊢
  subst he
  grind
theorem LessInv.last {R j n : Nat} {h0 g : Nat → Int} {d : Int} {h : Nat → Int} {b : Int} (H : LessInv R j n h0 g d n h b) {t e : Int} (ht : t = 0 ∨ t = 1)
  (he : e = h (j + n) - b + t * 1000000000) (e0 : 0 ≤ e) (e1 : e < 1000000000) :
  vf (win (fun k => if k = j + n then e else h k) j) (n + 1) = vf (win h0 j) (n + 1) - d * vf g n + t * pw (n + 1) ∧ (∀ k, k < R → 0 ≤ (if k = j + n then e else h k)) ∧ (∀ k, k < R → (if k = j + n then e else h k) < 1000000000) ∧
   (∀ k, k < j ∨ j + n < k → (if k = j + n then e else h k) = h0 k) := by
 have hv := H.val
 refine ⟨?_, fun k hk => ?_, fun k hk => ?_, fun k hk => ?_⟩
 ·rw [win_set, if_pos (by omega), pw_succ]
  generalize vf (win h j) (n + 1) = V at hv ⊢
  subst he
  grind
 ·split
  ·omega
  ·exact H.lo k hk
 ·split
  ·omega
  ·exact H.hi k hk
 ·rw [if_neg (by omega)]; exact H.out k (by omega)
structure MoreInv (R j n : Nat) (h0 g : Nat → Int) (i : Nat) (h : Nat → Int) (c : Int) : Prop where
 lo : ∀ k, k < R → 0 ≤ h k
 hi : ∀ k, k < R → h k < 1000000000
 out : ∀ k, k < j ∨ j + i ≤ k → h k = h0 k
 c0 : 0 ≤ c
 c1 : c ≤ 1
 val : vf (win h j) (n + 1) + c * pw i = vf (win h0 j) (n + 1) + vf g i
theorem MoreInv.start {R j n : Nat} {h0 g : Nat → Int} (lo : ∀ k, k < R → 0 ≤ h0 k) (hi : ∀ k, k < R → h0 k < 1000000000) : MoreInv R j n h0 g 0 h0 0 :=
 ⟨lo, hi, fun _ _ => rfl, by simp, by simp, by simp [vf]⟩
theorem MoreInv.step {R j n : Nat} {h0 g : Nat → Int} {i : Nat} {h : Nat → Int} {c : Int} (H : MoreInv R j n h0 g i h c) (hi : i < n) (hR : j + n < R)
  (g0 : 0 ≤ g i) (g1 : g i < 1000000000) :
  MoreInv R j n h0 g (i + 1) (fun k => if k = j + i then (h (j + i) + g i + c) % 1000000000 else h k) ((h (j + i) + g i + c) / 1000000000) := by
 have c0 := H.c0
 have c1 := H.c1
 have hv := H.val
 have a0 := H.lo (j + i) (by omega)
 have a1 := H.hi (j + i) (by omega)
 generalize hx : h (j + i) + g i + c = x
 have hq : x = 1000000000 * (x / 1000000000) + x % 1000000000 := (Int.mul_ediv_add_emod x 1000000000).symm
 refine ⟨fun k hk => ?_, fun k hk => ?_, fun k hk => ?_, by omega, by omega, ?_⟩
 ·show 0 ≤ if k = j + i then _ else _
  split
  ·omega
  ·exact H.lo k hk
 ·show (if k = j + i then _ else _) < _
  split
  ·omega
  ·exact H.hi k hk
 ·show (if k = j + i then _ else _) = _
  rw [if_neg (by omega)]; exact H.out k (by omega)
 ·rw [win_set, if_pos (by omega), vf_succ g i, pw_succ]
  generalize x / 1000000000 = q at hq ⊢
  generalize x % 1000000000 = r at hq ⊢
  generalize vf (win h j) (n + 1) = V at hv ⊢
  grind
theorem MoreInv.last {R j n : Nat} {h0 g : Nat → Int} {h : Nat → Int} {c : Int} (H : MoreInv R j n h0 g n h c) (hR : j + n < R) :
  ∃ o : Int, vf (win (fun k => if k = j + n then (h (j + n) + c) % 1000000000 else h k) j) (n + 1) = vf (win h0 j) (n + 1) + vf g n - o * pw (n + 1) ∧ (∀ k, k < R → 0 ≤ (if k = j + n then (h (j + n) + c) % 1000000000 else h k)) ∧ (∀ k, k < R → (if k = j + n then (h (j + n) + c) % 1000000000 else h k) < 1000000000) ∧
    (∀ k, k < j ∨ j + n < k → (if k = j + n then (h (j + n) + c) % 1000000000 else h k) = h0 k) := by
 have c0 := H.c0
 have c1 := H.c1
 have hv := H.val
 generalize hx : h (j + n) + c = x
 have hq : x = 1000000000 * (x / 1000000000) + x % 1000000000 := (Int.mul_ediv_add_emod x 1000000000).symm
 refine ⟨x / 1000000000, ?_, fun k hk => ?_, fun k hk => ?_, fun k hk => ?_⟩
 ·rw [win_set, if_pos (by omega), pw_succ]
  generalize x / 1000000000 = q at hq ⊢
  generalize x % 1000000000 = r at hq ⊢
  generalize vf (win h j) (n + 1) = V at hv ⊢
  grind
 ·split
  ·omega
  ·exact H.lo k hk
 ·split
  ·omega
  ·exact H.hi k hk
 ·rw [if_neg (by omega)]; exact H.out k (by omega)
theorem place_done {n : Nat} {U V d W : Int} {o t : Int} (hV0 : 0 < V) (hVn : V ≤ pw n) (hd : U < (d + 1) * V) (hd2 : d * V < U + V) (ht : t = 0 ∨ t = 1)
  (w0 : 0 ≤ U - d * V + t * pw (n + 1)) (w1 : U - d * V + t * pw (n + 1) < pw (n + 1)) (hW : t = 0 → W = U - d * V) (hW1 : t = 1 → W = U - d * V + pw (n + 1) + V - o * pw (n + 1)) (W0 : 0 ≤ W) (W1 : W < pw (n + 1)) :
  0 ≤ W ∧ W < V ∧ U = (d - t) * V + W := by
 have hp := pw_succ n
 have hp0 := pw_pos n
 have e1 : (d + 1) * V = d * V + V := by grind
 rcases ht with rfl | rfl
 ·have := hW rfl
  rw [Int.sub_zero]
  omega
 ·have h1 := hW1 rfl
  have e2 : (d - 1) * V = d * V - V := by grind
  have h2 : U - d * V < 0 := by omega
  have h3 : W - (U - d * V + V) = (1 - o) * pw (n + 1) := by grind
  have h4 : o = 1 := by
   rcases Int.lt_trichotomy o 1 with h | h | h
   ·have := mle (show 1 ≤ 1 - o by omega) (Int.le_of_lt (pw_pos (n + 1))); omega
   ·exact h
   ·have := mle (show 1 - o ≤ -1 by omega) (Int.le_of_lt (pw_pos (n + 1))); omega
  subst h4
  omega
section
open Go.RowKit
section
variable {P : Program} {ops : Array Oper} {Q : Exit → Act → World → Prop} {md : Region.Mode} {S : World → Prop}
theorem take_want (i : Nat) (d : Option Tmp) {oi : Oper} {v : Value} {fuel : Nat} {listed : Array Bool} {a : Act} {w : World} (hi : ops[i]? = some oi)
  (hs : Region.noSelect ops = true) (hf : Region.free md ops listed i = true) (hr : (Region.ready md ops listed).contains i = true) (hd : oi.dst = d)
  (hQ : ∀ c a w, Q (.panic c) (a.put d v) w → Q (.panic c) a w) (hw : Region.wanted oi (yielded ops a.tmps) = true) (hv : ∀ w, S w → (execOp a.eval oi).run P w = .ok (.value v) w) (hS : S w)
  (h : wpAnyH P md ops Q S fuel (listed.setIfInBounds i true) (a.put d v) w) : wpAnyH P md ops Q S (fuel + 1) listed a w := by
 subst hd
 exact wpAnyH_take hi hs hf hr hQ (Or.inl ⟨hw, hv⟩) hS h
theorem take_skip (i : Nat) (d : Option Tmp) {oi : Oper} {fuel : Nat} {listed : Array Bool} {a : Act} {w : World} (hi : ops[i]? = some oi)
  (hs : Region.noSelect ops = true) (hf : Region.free md ops listed i = true) (hr : (Region.ready md ops listed).contains i = true) (hd : oi.dst = d)
  (hQ : ∀ c a w, Q (.panic c) (a.put d undef) w → Q (.panic c) a w) (hw : Region.wanted oi (yielded ops a.tmps) = false) (hS : S w)
  (h : wpAnyH P md ops Q S fuel (listed.setIfInBounds i true) (a.put d undef) w) : wpAnyH P md ops Q S (fuel + 1) listed a w := by
 subst hd
 exact wpAnyH_take hi hs hf hr hQ (Or.inr ⟨hw, rfl⟩) hS h
theorem tk (i : Nat) (d : Option Tmp) {oi : Oper} {v : Value} {fuel : Nat} {listed : Array Bool} {a a' : Act} {w : World}
  (h : wpAnyH P md ops Q S fuel (listed.setIfInBounds i true) a' w) (hi : ops[i]? = some oi := by rfl)
  (hs : Region.noSelect ops = true := by as_aux_lemma => kernel_rfl) (hf : Region.free md ops listed i = true := by as_aux_lemma => kernel_rfl) (hr : (Region.ready md ops listed).contains i = true := by as_aux_lemma => kernel_rfl) (hd : oi.dst = d := by rfl)
  (hw : Region.wanted oi (yielded ops a.tmps) = true := by rfl) (hv : ∀ w, S w → (execOp a.eval oi).run P w = .ok (.value v) w := by (intro w hSw; (try dsimp only at hSw); go_simp; all_goals with_reducible rfl))
  (hQ : ∀ c a w, Q (.panic c) (a.put d v) w → Q (.panic c) a w := by exact (fun _ _ _ h => h)) (hS : S w := by assumption)
  (ha : a.put d v = a' := by (simp only [Act.put, List.setIfInBounds_toArray, List.set_cons_zero, List.set_cons_succ]; rfl)) : wpAnyH P md ops Q S (fuel + 1) listed a w := by
 subst ha
 exact take_want i d hi hs hf hr hd hQ hw hv hS h
theorem tl (i : Nat) (d : Option Tmp) {oi : Oper} (hi : ops[i]? = some oi) (v : Value) {fuel : Nat} {listed : Array Bool} {a a' : Act} {w : World}
  (hv : ∀ w, S w → (execOp a.eval oi).run P w = .ok (.value v) w) (h : wpAnyH P md ops Q S fuel (listed.setIfInBounds i true) a' w)
  (hs : Region.noSelect ops = true := by as_aux_lemma => kernel_rfl) (hf : Region.free md ops listed i = true := by as_aux_lemma => kernel_rfl) (hr : (Region.ready md ops listed).contains i = true := by as_aux_lemma => kernel_rfl) (hd : oi.dst = d := by rfl)
  (hw : Region.wanted oi (yielded ops a.tmps) = true := by rfl)
  (hQ : ∀ c a w, Q (.panic c) (a.put d v) w → Q (.panic c) a w := by exact (fun _ _ _ h => h)) (hS : S w := by assumption)
  (ha : a.put d v = a' := by (simp only [Act.put, List.setIfInBounds_toArray, List.set_cons_zero, List.set_cons_succ]; rfl)) : wpAnyH P md ops Q S (fuel + 1) listed a w := by
 subst ha
 exact take_want i d hi hs hf hr hd hQ hw hv hS h
theorem ts (i : Nat) (d : Option Tmp) {oi : Oper} {fuel : Nat} {listed : Array Bool} {a a' : Act} {w : World}
  (h : wpAnyH P md ops Q S fuel (listed.setIfInBounds i true) a' w) (hi : ops[i]? = some oi := by rfl)
  (hs : Region.noSelect ops = true := by as_aux_lemma => kernel_rfl) (hf : Region.free md ops listed i = true := by as_aux_lemma => kernel_rfl) (hr : (Region.ready md ops listed).contains i = true := by as_aux_lemma => kernel_rfl) (hd : oi.dst = d := by rfl)
  (hw : Region.wanted oi (yielded ops a.tmps) = false := by rfl)
  (hQ : ∀ c a w, Q (.panic c) (a.put d undef) w → Q (.panic c) a w := by exact (fun _ _ _ h => h)) (hS : S w := by assumption)
  (ha : a.put d undef = a' := by (simp only [Act.put, List.setIfInBounds_toArray, List.set_cons_zero, List.set_cons_succ]; rfl)) : wpAnyH P md ops Q S (fuel + 1) listed a w := by
 subst ha
 exact take_skip i d hi hs hf hr hd hQ hw hS h
theorem st (i : Nat) {o : Oper} {fuel : Nat} {listed : Array Bool} {a : Act} {w : World}
  (h : ∀ K' : Act → World → Prop, Shut (∀ a w, S w → (S w → wpAnyH P md ops Q S fuel (listed.setIfInBounds i true) a w) → K' a w) → if Region.wanted o (yielded ops a.tmps) = true then Oper.wp P o a w K' Q else K' (a.put o.dst undef) w)
  (ho : ops[i]? = some o := by rfl) (hr : Region.ready md ops listed = [i] := by as_aux_lemma => kernel_rfl) : wpAnyH P md ops Q S (fuel + 1) listed a w :=
 wpAnyH_ready hr (by simp) (AllReadyH.cons ho h AllReadyH.nil)
theorem kp {K' X : Act → World → Prop} (hK : Shut (∀ a w, S w → (S w → X a w) → K' a w)) {a a' : Act} {w : World} (hS : S w) (h : S w → X a' w)
  (ha : a = a' := by first | (simp only [Act.put, List.setIfInBounds_toArray, List.set_cons_zero, List.set_cons_succ]; rfl) | rfl) : K' a w := by
 subst ha
 exact hK.out _ _ hS h
end
end
section
open Go.RowKit
theorem OwnF.low {w : World} {base : Nat} {v : Value} {n : Nat} {f : Nat → Int} (h : OwnF w base v n f) : ∀ k, v.ownBlock = some k → base ≤ k := by
 obtain ⟨hl, ⟨rfl, _⟩ | ⟨g, cap, cur, rfl, hb, _⟩⟩ := h
 ·intro k hk; simp [Value.ownBlock] at hk
 ·intro k hk; simp only [Value.ownBlock, Option.some.injEq] at hk; omega
theorem OwnF.below {w w' : World} {base : Nat} {v : Value} {n : Nat} {f : Nat → Int} (h : OwnF w base v n f) (hB : Below w.heap.size w w') : OwnF w' base v n f := by
 obtain ⟨hl, h | ⟨g, cap, cur, hv, hb, hh, hr⟩⟩ := h
 ·exact ⟨hl, .inl h⟩
 ·exact ⟨hl, .inr ⟨g, cap, cur, hv, hb, (hB.block g (lt_of_some hh)).trans hh, hr⟩⟩
theorem OwnF.set {w : World} {base : Nat} {v : Value} {n : Nat} {f : Nat → Int} (h : OwnF w base v n f) (a : Addr) (u : Value) (ha : a.block < base) : OwnF (w.setCell a u) base v n f := by
 obtain ⟨hl, h | ⟨g, cap, cur, hv, hb, hh, hr⟩⟩ := h
 ·exact ⟨hl, .inl h⟩
 ·exact ⟨hl, .inr ⟨g, cap, cur, hv, hb, (Below.heap_setCell w a u g (by omega)).trans hh, hr⟩⟩
theorem Box.low {w w' : World} {B N : Nat} {T : TypeId} {cs : Array Value} (h : Box w B T cs) (hb : Below N w w') (hB : B < N) : Box w' B T cs := ⟨(hb.block B hB).trans h.blk⟩
theorem slF_lit (w : World) (x y : Int) (h : x = y) : SlF (w.alloc (.cells #[.int .i64 x] 3)) (.slice (some ⟨w.heap.size, 0, none⟩) 1 1) 1 (fun _ => y) := by
 subst h
 refine .inr ⟨_, _, _, #[.int .i64 x], (0, 0), rfl, by omega, by omega, (Box.new w 3 #[.int .i64 x]).blk, fun i hi => ?_⟩
 obtain rfl : i = 0 := by omega
 rfl
structure OfInv (z r : Int) (k : Nat) (f : Nat → Int) : Prop where
 lo : ∀ i, i < k → 0 ≤ f i
 hi : ∀ i, i < k → f i < 1000000000
 val : vf f k + pw k * r.natAbs = z.natAbs
 top : r = 0 → 0 < k → f (k - 1) ≠ 0
theorem OfInv.start (z : Int) : OfInv z z 0 (fun _ => 0) := ⟨fun i hi => by omega, fun i hi => by omega, by simp [vf, pw], fun _ h => by omega⟩
theorem OfInv.small {z r : Int} {k : Nat} {f : Nat → Int} (h : OfInv z r k f) (h1 : -9223372036854775808 ≤ z) (h2 : z ≤ 9223372036854775807) (h0 : r ≠ 0) : k ≤ 2 := by
 have hv := vf_nonneg h.lo
 have hval := h.val
 have hp := pw_pos k
 by_cases hk : k ≤ 2
 ·exact hk
 ·have h3 := pw_mono (i := 3) (k := k) (by omega)
  have e3 : pw 3 = 1000000000000000000000000000 := by decide
  have : pw k * 1 ≤ pw k * r.natAbs := Int.mul_le_mul_of_nonneg_left (by omega) (by omega)
  omega
theorem OfInv.bound {z r : Int} {k : Nat} {f : Nat → Int} (h : OfInv z r k f) (h1 : -9223372036854775808 ≤ z) (h2 : z ≤ 9223372036854775807) : r.natAbs ≤ 9223372036854775808 := by
 have hv := vf_nonneg h.lo
 have hval := h.val
 have hp := pw_pos k
 have : 1 * (r.natAbs : Int) ≤ pw k * r.natAbs := Int.mul_le_mul_of_nonneg_right (by omega) (by omega)
 omega
theorem OfInv.step {z r : Int} {k : Nat} {f : Nat → Int} (h : OfInv z r k f) (h0 : r ≠ 0) : OfInv z (r.tdiv 1000000000) (k + 1) (fun i => if i < k then f i else ((r.tmod 1000000000).natAbs : Int)) := by
 have hm : ((r.tmod 1000000000).natAbs : Int) = r.natAbs % 1000000000 := by rw [Int.natAbs_tmod]; rfl
 have hd : ((r.tdiv 1000000000).natAbs : Int) = r.natAbs / 1000000000 := by rw [Int.natAbs_tdiv]; rfl
 refine ⟨?_, ?_, ?_, ?_⟩
 ·intro i hi
  by_cases hk : i < k
  ·rw [if_pos hk]; exact h.lo i hk
  ·rw [if_neg hk]; omega
 ·intro i hi
  by_cases hk : i < k
  ·rw [if_pos hk]; exact h.hi i hk
  ·rw [if_neg hk]; omega
 ·rw [vf_succ, pw_succ, if_neg (Nat.lt_irrefl k), vf_congr (g := f) (fun i hi => if_pos hi), ← h.val, hm, hd]
  have e : (r.natAbs : Int) = r.natAbs % 1000000000 + 1000000000 * (r.natAbs / 1000000000) := (Int.emod_add_mul_ediv _ _).symm
  generalize hA : ((r.natAbs : Int) % 1000000000) = A at e
  generalize hB : ((r.natAbs : Int) / 1000000000) = C at e
  rw [e]
  grind
 ·intro hz _
  simp only [Nat.add_sub_cancel, Nat.lt_irrefl, if_false]
  have : ((r.tdiv 1000000000).natAbs : Int) = 0 := by rw [hz]; rfl
  omega
end
section
open Go.RowKit
def IterAll (F : Fence) (n : Nat) (P : Program) (g : Nat) (fi lb : Array Value) (m : Nat) (encs : Nat → Array Value) (Kp : World → Prop) : Prop :=
 ∀ (l : Nat) (J : Nat → World → Prop) (W : World), (∀ i V, J i V → Kp V) → (∀ i V V', J i V → Below V.heap.size V V' → J i V') →
   (∀ i V, J i V → i < m → YieldAt F (n - 1) P l (encs i) V fun e V' => e = .returned (.bool true) ∧ J (i + 1) V') →
   J 0 W → CallsIn F n P g (fi ++ #[.func (.yield l) #[] #[]] ++ lb) W fun e V => (∃ v, e = .returned v) ∧ J m V
theorem keepsOthers_of_below {W W' : World} (h : Below W.heap.size W W') : KeepsOthers W W' :=
 ⟨h.size, fun k _ hk _ => (h.block k (lt_of_some hk)).trans hk⟩
theorem below_putObj {w W : World} (h : Below w.heap.size w W) {l : Nat} (hl : w.heap.size ≤ l) (o : Obj) : Below w.heap.size w (W.putObj l o) :=
 h.grown (grownBy_putObj' W l o) h.size (fun k e => by cases e; exact hl)
theorem wpIn_range_all {F : Fence} {n : Nat} {P : Program} {g : Operand} {ps : Array Tmp} {assign body : Code} {Q : Exit → Act → World → Prop} {a : Act} {w : World}
  (hro : F.round = none) (h1 : 1 ≤ n) {gf : Nat} {fi lb : Array Value} (hg : a.eval g = .func (.func gf) fi lb) (hFg : F.fn gf)
  (eg : ∀ args w, (callFunc gf args).run P w = .ok (.enter gf args) w)
  {m : Nat} {encs : Nat → Array Value} {Kp : World → Prop} (hit : IterAll F (n - 1) P gf fi lb m encs Kp) (hps : ∀ i, (encs i).size = ps.size)
  (I : Nat → World → Prop) (hI : OwnFrom w.heap.size I) (hK : ∀ i V, I i V → Kp V) (hIB : ∀ i V V', I i V → Below V.heap.size V V' → I i V') (h0 : I 0 w) 
  (hround : ∀ (l i : Nat) (W : World), I i W → i < m → w.heap.size ≤ l → w.heap.size ≤ W.heap.size →
   assign.wpIn (F.inRound l) (n - 1 - 1) P (Exit.then (fun x W1 => KeepsOthers W W1 ∧ ∀ W2, W1.grownBy W2 (some l) → (∃ o : Obj, W1.heap[l]? = some o ∧ o.isCells = false) →
    body.wpIn (F.inRound l) (n - 1 - 1) P (fun e _ W' => e = .normal ∧ KeepsOthers W2 W' ∧ I (i + 1) W') x W2) (fun _ _ _ => False))
    { tmps := (ps.zip (encs i)).foldl (fun t (p, v) => t.setIfInBounds p v) a.tmps, defers := [] } W)
  (hdone : ∀ (D : Nat) (W : World), w.heap.size ≤ D → I m W → W.heap[D]? = some (.deferred (some [])) → Q .normal { a with defers := { target := .collected D, args := #[] } :: a.defers } W) :
  (Code.rangeFunc g ps assign body).wpIn F n P Q a w := by
 refine wpIn_rangeFunc fun fn hfn => ?_
 rw [hro]
 obtain ⟨rec, hrec⟩ : ∃ rec : LoopState → Loop, rec = fun st => { state := st, pending := none, fn, tmps := a.tmps, params := ps, assign, body, defers := w.heap.size } := ⟨_, rfl⟩
 obtain ⟨W1, hW1⟩ : ∃ W1, (w.alloc (.deferred (some []))).alloc (.loop (rec .ready)) = W1 := ⟨_, rfl⟩
 have hL1 : W1.heap[w.heap.size + 1]? = some (.loop (rec .ready)) := by
  rw [← hW1]
  have := World.alloc_heap_new (w.alloc (.deferred (some []))) (.loop (rec .ready))
  rwa [World.size_alloc] at this
 have hK1 : W1.heap[w.heap.size]? = some (.deferred (some [])) := by
  rw [← hW1]
  exact (Below.heap_alloc _ _ _ (by simp)).trans (World.alloc_heap_new w _)
 have hI1 : I 0 W1 := by rw [← hW1]; exact hI.alloc _ (hI.alloc _ h0)
 refine ⟨w.heap.size + 1, [{ target := .collected w.heap.size, args := #[] }], W1, { target := .fn (.func gf) lb, args := fi ++ #[.func (.yield (w.heap.size + 1)) #[] #[]] }, W1, gf,
  fi ++ #[.func (.yield (w.heap.size + 1)) #[] #[]] ++ lb, W1, ?_, ?_, ?_, ?_, fun _ => h1, ?_⟩
 ·rw [← hW1, hrec]; exact run_enterLoop_outer _ _ _ _ _
 ·simp only [resolve, hg]
  simp [go_sem]
 ·intro f' hf'; simp [Target.leads] at hf'; subst hf'; exact hFg
 ·simp [invoke, go_sem, eg]
 ·refine (hit (w.heap.size + 1)
   (fun i W => I i W ∧ W.heap[w.heap.size + 1]? = some (.loop (rec .ready)) ∧ W.heap[w.heap.size]? = some (.deferred (some []))) W1
   (fun i V h => hK i V h.1)
   (fun i V V' h hb => ⟨hIB i V V' h.1 hb, (hb.block _ (lt_of_some h.2.1)).trans h.2.1, (hb.block _ (lt_of_some h.2.2)).trans h.2.2⟩)
   ?_ ⟨hI1, hL1, hK1⟩).mono ?_
  ·rintro i W ⟨hi, hl, hk⟩ hlen
   have hlt : w.heap.size + 1 < W.heap.size := lt_of_some hl
   have hy := run_yield (P := P) (args := encs i) hl (by rw [hrec]; exact hps i)
   rw [hrec] at hy
   refine ⟨fn, _, assign, body, hy, roundIn_of_wpIn hfn (wpIn_mono (hround _ i W hi hlen (by omega) (by omega)) ?_)⟩
   rintro e x W0 hx
   cases e with
   | normal => ?_
   | _ => exact hx
   obtain ⟨hk0, hx⟩ := hx
   replace hl := hk0.same _ _ hl rfl
   replace hk := hk0.same _ _ hk rfl
   replace hlt : w.heap.size + 1 < W0.heap.size := lt_of_some hl
   clear hi hy hk0
   refine ⟨_, run_beginRound hl (by rw [hrec]), ?_⟩
   have hl2 : (W0.putObj (w.heap.size + 1) (.loop { rec .ready with state := .busy })).heap[w.heap.size + 1]? = some (.loop { rec .ready with state := .busy }) := World.putObj_heap_same hlt
   have hk2 : (W0.putObj (w.heap.size + 1) (.loop { rec .ready with state := .busy })).heap[w.heap.size]? = some (.deferred (some [])) := (World.putObj_heap_other (by omega)).trans hk
   refine wpIn_mono (hx _ (grownBy_putObj' _ _ _) ⟨_, hl, rfl⟩) ?_
   rintro e a3 W3 ⟨rfl, hk3, hi3⟩
   have hl3 := hk3.same _ _ hl2 rfl
   have he := run_endRound (P := P) none hl3
   have h4 : (rec LoopState.ready).pending = none := by rw [hrec]
   refine ⟨_, _, he, ?_, hI.putObj _ hi3 (by omega) hl3 rfl, ?_, (World.putObj_heap_other (by omega)).trans (hk3.same _ _ hk2 rfl)⟩
   ·rfl
   ·rw [World.putObj_heap_same (lt_of_some hl3)]
    rw [hrec]
    rfl
  ·rintro e W2 ⟨⟨v, rfl⟩, hi, hl, hk⟩
   have he := run_endLoop (P := P) hl (by rw [hrec]; simp)
   refine ⟨_, _, he, ?_⟩
   rw [hrec]
   exact hdone _ _ (Nat.le_refl _) (hI.putObj _ hi (by omega) hl rfl) ((World.putObj_heap_other (by omega)).trans hk)
theorem Box.grown {w w' : World} {B : Nat} {T : TypeId} {cs : Array Value} (b : Box w B T cs) {row : Option Nat} (hg : w.grownBy w' row) (hr : ∀ r, row = some r → ∃ o : Obj, w.heap[r]? = some o ∧ o.isCells = false) : Box w' B T cs := by
 obtain ⟨_, _, _, _, hb⟩ := hg
 refine ⟨(hb B b.lt fun e => ?_).trans b.blk⟩
 obtain ⟨o, ho, hc⟩ := hr B e.symm
 rw [b.blk] at ho
 cases ho
 cases hc
end
end Go.Mono
