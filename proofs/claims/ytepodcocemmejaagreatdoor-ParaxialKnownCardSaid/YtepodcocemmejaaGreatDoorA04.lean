/- Part 4 of 52 of the proof that the law ParaxialKnown returns true, whatever stands in memory, if the two listed variables hold what the text lays: contracts of the functions that it reaches. No condition beside the row. -/
import Derived.Deep.RegionHeld3
import Derived.RangeFuncNested
import Derived.RangeFuncBound
import Derived.RangeFuncCalls
import Derived.RangeFuncLeaves
import Derived.Shelf.Abstract
import Derived.Shelf.RegionOpen
import Derived.WalkKit
import Derived.OwnWalkIn
import Derived.TacticsInMore
import Derived.LoopNIn
import Derived.LoopIn
import Derived.Test.YtepodcocemmejaaGreatDoorA03
set_option linter.unusedVariables false
set_option linter.unusedSimpArgs false
namespace Go.Proofs.YtepodcocemmejaaGreatDoor
open Go.RowKit Go.Mono
set_option maxRecDepth 100000 in
set_option maxHeartbeats 1000000 in
/-- by: one place more, not trimmed -/
theorem by_any (p : Option Addr) (n c1 : Nat) (f : Nat → Int) (d : Int) (w : World) (h1 : SlF w (.slice p n c1) n f)
    (f0 : ∀ i, i < n → 0 ≤ f i) (f1 : ∀ i, i < n → f i < 1000000000) (hn : n ≤ 1000000) (d0 : 0 ≤ d) (d1 : d < 1000000000) :
    Calls Tryz.prog 190 #[.slice p n c1, .int .i64 d] w fun e w' => e = .returned (.slice (some ⟨w.heap.size, 0, none⟩) (n + 1) (n + 1)) ∧ Below w.heap.size w w' ∧
      ∃ h, RowF w' w.heap.size (n + 1) h ∧ (∀ j, j < n + 1 → 0 ≤ h j) ∧ (∀ j, j < n + 1 → h j < 1000000000) ∧ vf h (n + 1) = vf f n * d := by
  obtain ⟨hc1, hn1, hx1⟩ := h1.opens
  clear h1
  go_enter Tryz.func190, Tryz.ntmps190
  go_wp2_with (at_make; refine wpList_make_ints _ rfl _ _ 132 rfl Tryz.underlying132 infoInt _ _ (n + 1) rfl rfl (by simp) (by simp) (by omega) ?_; intro w1 r1 b1; have s1 := b1.size; have L1 := r1.lt)
  go_loopw [6, 16] (fun c a wr => ∃ i : Nat, i ≤ n ∧ a = .int .i64 i ∧ Below w.heap.size w wr ∧ ∃ h cc, c = .int .i64 cc ∧ RowF wr w.heap.size (n + 1) h ∧ ByInv n f d i h cc) (fun _ a _ => n - (intOf a).toNat)
  case atStart => exact ⟨0, Nat.zero_le _, rfl, b1, _, _, rfl, r1, ByInv.start⟩
  case round =>
    clear b1 s1 L1 r1
    obtain ⟨i, hi, rfl, hb, h, cc, rfl, hr, HT⟩ := hrel
    by_cases hlt : i < n
    · obtain ⟨b, off, rfl, hbs, hcell⟩ := hx1 (by omega)
      have a1 := (hb.cell (p := ⟨b, off + i, none⟩) hbs).trans (hcell i hlt)
      have fi0 := f0 i hlt
      have fi1 := f1 i hlt
      have a2 := hr.cell i (by omega)
      have a3 := hr.frozen i
      have d3 := HT.c0
      have d4 := HT.c1
      obtain ⟨d5, d6⟩ := mul_bd fi0 fi1 d0 d1
      clear hcell hx1 f0 f1
      go_wp2
      go_roundw
      case rel => exact ⟨i + 1, by omega, by go_num, hb.setCell (p := ⟨w.heap.size, i, none⟩) (Nat.le_refl _) _, _, _, rfl, hr.set i _, HT.step hlt fi0 fi1 d0 d1⟩
      case measure => simp [intOf]; omega
    · obtain rfl : i = n := by omega
      have a2 := hr.cell i (by omega)
      have a3 := hr.frozen i
      obtain ⟨q1, q2, q3⟩ := HT.done
      replace q3 := Lib.hid q3
      clear hlt hi hx1 f0 f1
      go_wp2
      go_ret
      exact ⟨rfl, hb.setCell (p := ⟨w.heap.size, i, none⟩) (Nat.le_refl _) _, _, hr.set i cc, q1, q2, q3.out⟩
set_option maxRecDepth 100000 in
set_option maxHeartbeats 1000000 in
theorem part_any (p : Option Addr) (n c1 : Nat) (f : Nat → Int) (d : Int) (w : World) (h1 : SlF w (.slice p n c1) n f)
    (f0 : ∀ i, i < n → 0 ≤ f i) (f1 : ∀ i, i < n → f i < 1000000000) (hn : n ≤ 1000000) (d0 : 0 < d) (d1 : d < 1000000000) :
    Calls Tryz.prog 189 #[.slice p n c1, .int .i64 d] w fun e w' => ∃ b k h r, e = .returned (.tuple #[.slice (some ⟨b, 0, none⟩) k n, .int .i64 r]) ∧ SlF w' (.slice (some ⟨b, 0, none⟩) k n) k h ∧ Digs h k ∧ vf f n = d * vf h k + r ∧ 0 ≤ r ∧ r < d ∧ k ≤ n ∧ Below w.heap.size w w' := by
  obtain ⟨hc1, hn1, hx1⟩ := h1.opens
  clear h1
  go_enter Tryz.func189, Tryz.ntmps189
  go_wp2_with (at_make; refine wpList_make_ints _ rfl _ _ 132 rfl Tryz.underlying132 infoInt _ _ n rfl rfl (by simp) (by simp) (by omega) ?_; intro w1 r1 b1; have s1 := b1.size; have L1 := r1.lt)
  go_loopw [7, 8] (fun c a wr => ∃ i : Nat, i ≤ n ∧ a = .int .i64 ((i : Int) - 1) ∧ Below w.heap.size w wr ∧ ∃ h cc, c = .int .i64 cc ∧ RowF wr w.heap.size n h ∧ PartInv n f d i h cc) (fun _ a _ => (intOf a + 1).toNat)
  case atStart => exact ⟨n, Nat.le_refl _, rfl, b1, _, _, rfl, r1, PartInv.start d0⟩
  case round =>
    clear b1 s1 L1 r1
    obtain ⟨i, hi, rfl, hb, h, cc, rfl, hr, HT⟩ := hrel
    by_cases hlt : 0 < i
    · obtain ⟨b, off, rfl, hbs, hcell⟩ := hx1 (by omega)
      obtain ⟨i, rfl⟩ : ∃ j, i = j + 1 := ⟨i - 1, by omega⟩
      rw [show ((i + 1 : Nat) : Int) - 1 = (i : Int) by omega]
      have a1 := (hb.cell (p := ⟨b, off + i, none⟩) hbs).trans (hcell i (by omega))
      have fi0 := f0 i (by omega)
      have fi1 := f1 i (by omega)
      have a2 := hr.cell i (by omega)
      have a3 := hr.frozen i
      have d3 := HT.r0
      have d4 := HT.r1
      have hd : ¬ d = 0 := by omega
      clear hcell hx1 f0 f1
      go_wp2
      go_region
      go_wp2
      go_roundw
      case rel => exact ⟨i, by omega, rfl, (hb.setCell (p := ⟨w.heap.size, i, none⟩) (Nat.le_refl _) _).drew, _, _, rfl, (hr.set i _).drewN 1, HT.step (by omega) fi0 fi1⟩
      case measure => simp [intOf]
    · obtain rfl : i = 0 := by omega
      clear hlt hi hx1 f0 f1
      have hs := hr.slice (by omega) n (Nat.le_refl _) n (Nat.le_refl _)
      obtain ⟨c1', c2'⟩ := HT.done
      have hle := trimN_le h n
      have d3 := HT.r0
      have d4 := HT.r1
      replace c2' := Lib.hid c2'
      go_wp2_with (go_at_call 163; refine (trim_any _ _ _ h _ hs).mono ?_; rintro e w' ⟨rfl, rfl⟩)
      go_ret2
      exact ⟨_, _, h, cc, rfl, hs.take _ hle, c1', c2'.out, d3, d4, hle, hb⟩

theorem part_sz (m1 : Nat) (w wf : World) (hx : Ext wf w) (p : Option Addr) (n c1 : Nat) (N d : Int) (h1 : Sz m1 wf (.slice p n c1) N) (hm1 : m1 ≤ 1000000) (d0 : 0 < d) (d1 : d < 1000000000) :
    Calls Tryz.prog 189 #[.slice p n c1, .int .i64 d] w fun e w' => ∃ p k c, e = .returned (.tuple #[.slice p k c, .int .i64 (N % d)]) ∧ Sz m1 w' (.slice p k c) (N / d) ∧ Below w.heap.size w w' := by
  obtain ⟨n, f, s1, d1', rfl, l1, rfl⟩ := (h1.ext hx).sl
  refine (part_any p n c1 f d w s1 d1'.lo d1'.hi (by omega) d0 d1).mono ?_
  rintro e w' ⟨b, k, h, r, rfl, hs, hd, hv, r0, r1, hk, hb⟩
  have e1 : vf f n / d = vf h k := by
    rw [hv]; exact Int.ediv_eq_iff_of_pos d0 |>.2 ⟨by rw [Int.mul_comm]; omega, by rw [Int.mul_comm] ; omega⟩
  have e2 : vf f n % d = r := by
    have := Int.mul_ediv_add_emod (vf f n) d
    rw [e1] at this; omega
  exact ⟨_, _, _, by rw [e2], ⟨k, h, hs, hd, e1.symm, by omega⟩, hb⟩
end Go.Proofs.YtepodcocemmejaaGreatDoor
namespace Go.Mono
/-- a window of digits -/
abbrev win (h : Nat → Int) (j : Nat) : Nat → Int := fun i => h (j + i)
/-- the loop of 'less': h0 is the row before, h now, at place i of the window from j on -/
structure LessInv (R j n : Nat) (h0 g : Nat → Int) (d : Int) (i : Nat) (h : Nat → Int) (b : Int) : Prop where
  lo : ∀ k, k < R → 0 ≤ h k
  hi : ∀ k, k < R → h k < 1000000000
  out : ∀ k, k < j ∨ j + i ≤ k → h k = h0 k
  b0 : 0 ≤ b
  b1 : b ≤ 1000000000
  val : vf (win h j) (n + 1) - b * pw i = vf (win h0 j) (n + 1) - d * vf g i
theorem win_set (h : Nat → Int) (j i k : Nat) (x : Int) : vf (win (fun y => if y = j + i then x else h y) j) k = vf (win h j) k + (if i < k then (x - h (j + i)) * pw i else 0) := by
  rw [← vf_set (win h j) i x k]
  refine vf_congr fun y _ => ?_
  simp only [win]
  by_cases e : y = i
  · subst e; simp
  · rw [if_neg (by omega), if_neg e]
theorem LessInv.start {R j n : Nat} {h0 g : Nat → Int} {d : Int} (lo : ∀ k, k < R → 0 ≤ h0 k) (hi : ∀ k, k < R → h0 k < 1000000000) : LessInv R j n h0 g d 0 h0 0 :=
  ⟨lo, hi, fun _ _ => rfl, by simp, by simp, by simp [vf]⟩
theorem LessInv.step {R j n : Nat} {h0 g : Nat → Int} {d : Int} {i : Nat} {h : Nat → Int} {b : Int} (H : LessInv R j n h0 g d i h b) (hi : i < n)
    (g0 : 0 ≤ g i) (g1 : g i < 1000000000) (d0 : 0 ≤ d) (d1 : d < 1000000000) {t e : Int} (ht : 0 ≤ t) (ht2 : t ≤ 2)
    (he : e = h (j + i) - (g i * d) % 1000000000 - b + t * 1000000000) (e0 : 0 ≤ e) (e1 : e < 1000000000) :
    LessInv R j n h0 g d (i + 1) (fun k => if k = j + i then e else h k) ((g i * d) / 1000000000 + t) := by
  obtain ⟨m0, m1⟩ := mul_bd g0 g1 d0 d1
  have b0 := H.b0
  have b1 := H.b1
  have hv := H.val
  generalize hx : g i * d = x at *
  have hq : x = 1000000000 * (x / 1000000000) + x % 1000000000 := (Int.mul_ediv_add_emod x 1000000000).symm
  refine ⟨fun k hk => ?_, fun k hk => ?_, fun k hk => ?_, by omega, by omega, ?_⟩
  · show 0 ≤ if k = j + i then _ else _
    split
    · omega
    · exact H.lo k hk
  · show (if k = j + i then _ else _) < _
    split
    · omega
    · exact H.hi k hk
  · show (if k = j + i then _ else _) = _
    rw [if_neg (by omega)]; exact H.out k (by omega)
  · rw [win_set, if_pos (by omega), vf_succ g i, pw_succ]
    generalize x / 1000000000 = q at hq ⊢
    generalize x % 1000000000 = r at hq he
    generalize vf (win h j) (n + 1) = V at hv ⊢
    subst he
    grind
theorem LessInv.last {R j n : Nat} {h0 g : Nat → Int} {d : Int} {h : Nat → Int} {b : Int} (H : LessInv R j n h0 g d n h b) {t e : Int} (ht : t = 0 ∨ t = 1)
    (he : e = h (j + n) - b + t * 1000000000) (e0 : 0 ≤ e) (e1 : e < 1000000000) :
    vf (win (fun k => if k = j + n then e else h k) j) (n + 1) = vf (win h0 j) (n + 1) - d * vf g n + t * pw (n + 1) ∧ (∀ k, k < R → 0 ≤ (if k = j + n then e else h k)) ∧ (∀ k, k < R → (if k = j + n then e else h k) < 1000000000) ∧
      (∀ k, k < j ∨ j + n < k → (if k = j + n then e else h k) = h0 k) := by
  have hv := H.val
  refine ⟨?_, fun k hk => ?_, fun k hk => ?_, fun k hk => ?_⟩
  · rw [win_set, if_pos (by omega), pw_succ]
    generalize vf (win h j) (n + 1) = V at hv ⊢
    subst he
    grind
  · split
    · omega
    · exact H.lo k hk
  · split
    · omega
    · exact H.hi k hk
  · rw [if_neg (by omega)]; exact H.out k (by omega)
/-- the loop of 'more' -/
structure MoreInv (R j n : Nat) (h0 g : Nat → Int) (i : Nat) (h : Nat → Int) (c : Int) : Prop where
  lo : ∀ k, k < R → 0 ≤ h k
  hi : ∀ k, k < R → h k < 1000000000
  out : ∀ k, k < j ∨ j + i ≤ k → h k = h0 k
  c0 : 0 ≤ c
  c1 : c ≤ 1
  val : vf (win h j) (n + 1) + c * pw i = vf (win h0 j) (n + 1) + vf g i
theorem MoreInv.start {R j n : Nat} {h0 g : Nat → Int} (lo : ∀ k, k < R → 0 ≤ h0 k) (hi : ∀ k, k < R → h0 k < 1000000000) : MoreInv R j n h0 g 0 h0 0 :=
  ⟨lo, hi, fun _ _ => rfl, by simp, by simp, by simp [vf]⟩
theorem MoreInv.step {R j n : Nat} {h0 g : Nat → Int} {i : Nat} {h : Nat → Int} {c : Int} (H : MoreInv R j n h0 g i h c) (hi : i < n) (hR : j + n < R)
    (g0 : 0 ≤ g i) (g1 : g i < 1000000000) :
    MoreInv R j n h0 g (i + 1) (fun k => if k = j + i then (h (j + i) + g i + c) % 1000000000 else h k) ((h (j + i) + g i + c) / 1000000000) := by
  have c0 := H.c0
  have c1 := H.c1
  have hv := H.val
  have a0 := H.lo (j + i) (by omega)
  have a1 := H.hi (j + i) (by omega)
  generalize hx : h (j + i) + g i + c = x
  have hq : x = 1000000000 * (x / 1000000000) + x % 1000000000 := (Int.mul_ediv_add_emod x 1000000000).symm
  refine ⟨fun k hk => ?_, fun k hk => ?_, fun k hk => ?_, by omega, by omega, ?_⟩
  · show 0 ≤ if k = j + i then _ else _
    split
    · omega
    · exact H.lo k hk
  · show (if k = j + i then _ else _) < _
    split
    · omega
    · exact H.hi k hk
  · show (if k = j + i then _ else _) = _
    rw [if_neg (by omega)]; exact H.out k (by omega)
  · rw [win_set, if_pos (by omega), vf_succ g i, pw_succ]
    generalize x / 1000000000 = q at hq ⊢
    generalize x % 1000000000 = r at hq ⊢
    generalize vf (win h j) (n + 1) = V at hv ⊢
    grind
theorem MoreInv.last {R j n : Nat} {h0 g : Nat → Int} {h : Nat → Int} {c : Int} (H : MoreInv R j n h0 g n h c) (hR : j + n < R) :
    ∃ o : Int, vf (win (fun k => if k = j + n then (h (j + n) + c) % 1000000000 else h k) j) (n + 1) = vf (win h0 j) (n + 1) + vf g n - o * pw (n + 1) ∧ (∀ k, k < R → 0 ≤ (if k = j + n then (h (j + n) + c) % 1000000000 else h k)) ∧ (∀ k, k < R → (if k = j + n then (h (j + n) + c) % 1000000000 else h k) < 1000000000) ∧
      (∀ k, k < j ∨ j + n < k → (if k = j + n then (h (j + n) + c) % 1000000000 else h k) = h0 k) := by
  have c0 := H.c0
  have c1 := H.c1
  have hv := H.val
  generalize hx : h (j + n) + c = x
  have hq : x = 1000000000 * (x / 1000000000) + x % 1000000000 := (Int.mul_ediv_add_emod x 1000000000).symm
  refine ⟨x / 1000000000, ?_, fun k hk => ?_, fun k hk => ?_, fun k hk => ?_⟩
  · rw [win_set, if_pos (by omega), pw_succ]
    generalize x / 1000000000 = q at hq ⊢
    generalize x % 1000000000 = r at hq ⊢
    generalize vf (win h j) (n + 1) = V at hv ⊢
    grind
  · split
    · omega
    · exact H.lo k hk
  · split
    · omega
    · exact H.hi k hk
  · rw [if_neg (by omega)]; exact H.out k (by omega)
/-- a place of the quotient: the window's number, which is less than V times the base, gets the rest of the division -/
theorem place_done {n : Nat} {U V d W : Int} {o t : Int} (hV0 : 0 < V) (hVn : V ≤ pw n) (hd : U < (d + 1) * V) (hd2 : d * V < U + V) (ht : t = 0 ∨ t = 1)
    (w0 : 0 ≤ U - d * V + t * pw (n + 1)) (w1 : U - d * V + t * pw (n + 1) < pw (n + 1)) (hW : t = 0 → W = U - d * V) (hW1 : t = 1 → W = U - d * V + pw (n + 1) + V - o * pw (n + 1)) (W0 : 0 ≤ W) (W1 : W < pw (n + 1)) :
    0 ≤ W ∧ W < V ∧ U = (d - t) * V + W := by
  have hp := pw_succ n
  have hp0 := pw_pos n
  have e1 : (d + 1) * V = d * V + V := by grind
  rcases ht with rfl | rfl
  · have := hW rfl
    rw [Int.sub_zero]
    omega
  · have h1 := hW1 rfl
    have e2 : (d - 1) * V = d * V - V := by grind
    have h2 : U - d * V < 0 := by omega
    have h3 : W - (U - d * V + V) = (1 - o) * pw (n + 1) := by grind
    have h4 : o = 1 := by
      rcases Int.lt_trichotomy o 1 with h | h | h
      · have := mle (show 1 ≤ 1 - o by omega) (Int.le_of_lt (pw_pos (n + 1))); omega
      · exact h
      · have := mle (show 1 - o ≤ -1 by omega) (Int.le_of_lt (pw_pos (n + 1))); omega
    subst h4
    omega
end Go.Mono
namespace Go.Mono
open Go.RowKit
section
variable {P : Program} {ops : Array Oper} {Q : Exit → Act → World → Prop} {md : Region.Mode} {S : World → Prop}
theorem take_want (i : Nat) (d : Option Tmp) {oi : Oper} {v : Value} {fuel : Nat} {listed : Array Bool} {a : Act} {w : World} (hi : ops[i]? = some oi)
    (hs : Region.noSelect ops = true) (hf : Region.free md ops listed i = true) (hr : (Region.ready md ops listed).contains i = true) (hd : oi.dst = d)
    (hQ : ∀ c a w, Q (.panic c) (a.put d v) w → Q (.panic c) a w) (hw : Region.wanted oi (yielded ops a.tmps) = true) (hv : ∀ w, S w → (execOp a.eval oi).run P w = .ok (.value v) w) (hS : S w)
    (h : wpAnyH P md ops Q S fuel (listed.setIfInBounds i true) (a.put d v) w) : wpAnyH P md ops Q S (fuel + 1) listed a w := by
  subst hd
  exact wpAnyH_take hi hs hf hr hQ (Or.inl ⟨hw, hv⟩) hS h
theorem take_skip (i : Nat) (d : Option Tmp) {oi : Oper} {fuel : Nat} {listed : Array Bool} {a : Act} {w : World} (hi : ops[i]? = some oi)
    (hs : Region.noSelect ops = true) (hf : Region.free md ops listed i = true) (hr : (Region.ready md ops listed).contains i = true) (hd : oi.dst = d)
    (hQ : ∀ c a w, Q (.panic c) (a.put d undef) w → Q (.panic c) a w) (hw : Region.wanted oi (yielded ops a.tmps) = false) (hS : S w)
    (h : wpAnyH P md ops Q S fuel (listed.setIfInBounds i true) (a.put d undef) w) : wpAnyH P md ops Q S (fuel + 1) listed a w := by
  subst hd
  exact wpAnyH_take hi hs hf hr hQ (Or.inr ⟨hw, rfl⟩) hS h
end
end Go.Mono
namespace Go.Mono
open Go.RowKit
/-- an iterator that hands over encs 0, .., encs (m - 1), one after the other, if every round goes on; Kp: what it needs of memory -/
def IterAll (F : Fence) (n : Nat) (P : Program) (g : Nat) (fi lb : Array Value) (m : Nat) (encs : Nat → Array Value) (Kp : World → Prop) : Prop :=
  ∀ (l : Nat) (J : Nat → World → Prop) (W : World), (∀ i V, J i V → Kp V) → (∀ i V V', J i V → Below V.heap.size V V' → J i V') →
    (∀ i V, J i V → i < m → YieldAt F (n - 1) P l (encs i) V fun e V' => e = .returned (.bool true) ∧ J (i + 1) V') →
    J 0 W → CallsIn F n P g (fi ++ #[.func (.yield l) #[] #[]] ++ lb) W fun e V => (∃ v, e = .returned v) ∧ J m V
theorem keepsOthers_of_below {W W' : World} (h : Below W.heap.size W W') : KeepsOthers W W' :=
  ⟨h.size, fun k _ hk _ => (h.block k (lt_of_some hk)).trans hk⟩
theorem below_putObj {w W : World} (h : Below w.heap.size w W) {l : Nat} (hl : w.heap.size ≤ l) (o : Obj) : Below w.heap.size w (W.putObj l o) :=
  h.grown (grownBy_putObj' W l o) h.size (fun k e => by cases e; exact hl)
/-- a loop over such an iterator, every round of which goes on -/
theorem wpIn_range_all {F : Fence} {n : Nat} {P : Program} {g : Operand} {ps : Array Tmp} {assign body : Code} {Q : Exit → Act → World → Prop} {a : Act} {w : World}
    (hro : F.round = none) (h1 : 1 ≤ n) {gf : Nat} {fi lb : Array Value} (hg : a.eval g = .func (.func gf) fi lb) (hFg : F.fn gf)
    (eg : ∀ args w, (callFunc gf args).run P w = .ok (.enter gf args) w)
    {m : Nat} {encs : Nat → Array Value} {Kp : World → Prop} (hit : IterAll F (n - 1) P gf fi lb m encs Kp) (hps : ∀ i, (encs i).size = ps.size)
    (I : Nat → World → Prop) (hI : OwnFrom w.heap.size I) (hK : ∀ i V, I i V → Kp V) (hIB : ∀ i V V', I i V → Below V.heap.size V V' → I i V') (h0 : I 0 w) 
    (hround : ∀ (l i : Nat) (W : World), I i W → i < m → w.heap.size ≤ l → w.heap.size ≤ W.heap.size →
      assign.wpIn (F.inRound l) (n - 1 - 1) P (Exit.then (fun x W1 => KeepsOthers W W1 ∧ ∀ W2, W1.grownBy W2 (some l) → (∃ o : Obj, W1.heap[l]? = some o ∧ o.isCells = false) →
        body.wpIn (F.inRound l) (n - 1 - 1) P (fun e _ W' => e = .normal ∧ KeepsOthers W2 W' ∧ I (i + 1) W') x W2) (fun _ _ _ => False))
        { tmps := (ps.zip (encs i)).foldl (fun t (p, v) => t.setIfInBounds p v) a.tmps, defers := [] } W)
    (hdone : ∀ (D : Nat) (W : World), w.heap.size ≤ D → I m W → W.heap[D]? = some (.deferred (some [])) → Q .normal { a with defers := { target := .collected D, args := #[] } :: a.defers } W) :
    (Code.rangeFunc g ps assign body).wpIn F n P Q a w := by
  refine wpIn_rangeFunc fun fn hfn => ?_
  rw [hro]
  obtain ⟨rec, hrec⟩ : ∃ rec : LoopState → Loop, rec = fun st => { state := st, pending := none, fn, tmps := a.tmps, params := ps, assign, body, defers := w.heap.size } := ⟨_, rfl⟩
  obtain ⟨W1, hW1⟩ : ∃ W1, (w.alloc (.deferred (some []))).alloc (.loop (rec .ready)) = W1 := ⟨_, rfl⟩
  have hL1 : W1.heap[w.heap.size + 1]? = some (.loop (rec .ready)) := by
    rw [← hW1]
    have := World.alloc_heap_new (w.alloc (.deferred (some []))) (.loop (rec .ready))
    rwa [World.size_alloc] at this
  have hK1 : W1.heap[w.heap.size]? = some (.deferred (some [])) := by
    rw [← hW1]
    exact (Below.heap_alloc _ _ _ (by simp)).trans (World.alloc_heap_new w _)
  have hI1 : I 0 W1 := by rw [← hW1]; exact hI.alloc _ (hI.alloc _ h0)
  refine ⟨w.heap.size + 1, [{ target := .collected w.heap.size, args := #[] }], W1, { target := .fn (.func gf) lb, args := fi ++ #[.func (.yield (w.heap.size + 1)) #[] #[]] }, W1, gf,
    fi ++ #[.func (.yield (w.heap.size + 1)) #[] #[]] ++ lb, W1, ?_, ?_, ?_, ?_, fun _ => h1, ?_⟩
  · rw [← hW1, hrec]; exact run_enterLoop_outer _ _ _ _ _
  · simp only [resolve, hg]
    simp [go_sem]
  · intro f' hf'; simp [Target.leads] at hf'; subst hf'; exact hFg
  · simp [invoke, go_sem, eg]
  · refine (hit (w.heap.size + 1)
      (fun i W => I i W ∧ W.heap[w.heap.size + 1]? = some (.loop (rec .ready)) ∧ W.heap[w.heap.size]? = some (.deferred (some []))) W1
      (fun i V h => hK i V h.1)
      (fun i V V' h hb => ⟨hIB i V V' h.1 hb, (hb.block _ (lt_of_some h.2.1)).trans h.2.1, (hb.block _ (lt_of_some h.2.2)).trans h.2.2⟩)
      ?_ ⟨hI1, hL1, hK1⟩).mono ?_
    · rintro i W ⟨hi, hl, hk⟩ hlen
      have hlt : w.heap.size + 1 < W.heap.size := lt_of_some hl
      have hy := run_yield (P := P) (args := encs i) hl (by rw [hrec]; exact hps i)
      rw [hrec] at hy
      refine ⟨fn, _, assign, body, hy, roundIn_of_wpIn hfn (wpIn_mono (hround _ i W hi hlen (by omega) (by omega)) ?_)⟩
      rintro e x W0 hx
      cases e with
      | normal => ?_
      | _ => exact hx
      obtain ⟨hk0, hx⟩ := hx
      replace hl := hk0.same _ _ hl rfl
      replace hk := hk0.same _ _ hk rfl
      replace hlt : w.heap.size + 1 < W0.heap.size := lt_of_some hl
      clear hi hy hk0
      refine ⟨_, run_beginRound hl (by rw [hrec]), ?_⟩
      have hl2 : (W0.putObj (w.heap.size + 1) (.loop { rec .ready with state := .busy })).heap[w.heap.size + 1]? = some (.loop { rec .ready with state := .busy }) := World.putObj_heap_same hlt
      have hk2 : (W0.putObj (w.heap.size + 1) (.loop { rec .ready with state := .busy })).heap[w.heap.size]? = some (.deferred (some [])) := (World.putObj_heap_other (by omega)).trans hk
      refine wpIn_mono (hx _ (grownBy_putObj' _ _ _) ⟨_, hl, rfl⟩) ?_
      rintro e a3 W3 ⟨rfl, hk3, hi3⟩
      have hl3 := hk3.same _ _ hl2 rfl
      have he := run_endRound (P := P) none hl3
      have h4 : (rec LoopState.ready).pending = none := by rw [hrec]
      refine ⟨_, _, he, ?_, hI.putObj _ hi3 (by omega) hl3 rfl, ?_, (World.putObj_heap_other (by omega)).trans (hk3.same _ _ hk2 rfl)⟩
      · rfl
      · rw [World.putObj_heap_same (lt_of_some hl3)]
        rw [hrec]
        rfl
    · rintro e W2 ⟨⟨v, rfl⟩, hi, hl, hk⟩
      have he := run_endLoop (P := P) hl (by rw [hrec]; simp)
      refine ⟨_, _, he, ?_⟩
      rw [hrec]
      exact hdone _ _ (Nat.le_refl _) (hI.putObj _ hi (by omega) hl rfl) ((World.putObj_heap_other (by omega)).trans hk)
/-- a box, behind a turn of a block that is no cells, or behind new blocks -/
theorem Box.grown {w w' : World} {B : Nat} {T : TypeId} {cs : Array Value} (b : Box w B T cs) {row : Option Nat} (hg : w.grownBy w' row) (hr : ∀ r, row = some r → ∃ o : Obj, w.heap[r]? = some o ∧ o.isCells = false) : Box w' B T cs := by
  obtain ⟨_, _, _, _, hb⟩ := hg
  refine ⟨(hb B b.lt fun e => ?_).trans b.blk⟩
  obtain ⟨o, ho, hc⟩ := hr B e.symm
  rw [b.blk] at ho
  cases ho
  cases hc
end Go.Mono
