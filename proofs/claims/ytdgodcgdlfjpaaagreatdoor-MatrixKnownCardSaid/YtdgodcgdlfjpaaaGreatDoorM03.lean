/- The law MatrixKnown: the examples of the ray transfer matrices, afocal lenses, mirrors and the order of errors; its walk by a verified evaluator of the model, and its card. Part 3 of 36. No condition beside the row. -/
import Derived.Deep.MidRow
import Derived.Laws.Rows
import Derived.Laws.ResultCell
import Derived.Test.YtdgodcgdlfjpaaaGreatDoorM01
import Derived.Test.YtdgodcgdlfjpaaaGreatDoorM02
set_option linter.unusedVariables false
set_option linter.unusedSimpArgs false
set_option maxRecDepth 100000
set_option maxHeartbeats 4000000
namespace Go.Mono
def LessPost (r j n R : Nat) (h0 g : Nat → Int) (d : Int) (w : World) (e : Ending) (w' : World) : Prop := ∃ (b : Bool) (h : Nat → Int), e = .returned (.bool b) ∧ RowF w' r R h ∧
   (∀ k, k < R → 0 ≤ h k) ∧ (∀ k, k < R → h k < 1000000000) ∧ (∀ k, k < j ∨ j + n < k → h k = h0 k) ∧ vf (win h j) (n + 1) = vf (win h0 j) (n + 1) - d * vf g n + (if b then 1 else 0) * pw (n + 1) ∧ OnlyRow r w w'
end Go.Mono
namespace Go.Proofs.YtdgodcgdlfjpaaaGreatDoor
open Go.RowKit Go.Mono
theorem less_any (r j n R cap s c2 : Nat) (h0 g : Nat → Int) (d : Int) (w : World) (hr0 : RowF w r R h0) (hs : RowF w s n g) (hrs : s ≠ r) (hR : j + n < R) (hRb : R ≤ 2000000)
  (lo : ∀ k, k < R → 0 ≤ h0 k) (hi : ∀ k, k < R → h0 k < 1000000000) (g0 : ∀ i, i < n → 0 ≤ g i) (g1 : ∀ i, i < n → g i < 1000000000) (d0 : 0 ≤ d) (d1 : d < 1000000000) :
  Calls Tryz.prog 256 #[.slice (some ⟨r, j, none⟩) (n + 1) cap, .slice (some ⟨s, 0, none⟩) n c2, .int .i64 d] w (LessPost r j n R h0 g d w) := by
 go_enter Tryz.func256, Tryz.ntmps256
 go_wp2
 go_loopw [7, 14] (fun c a wr => ∃ i : Nat, i ≤ n ∧ a = .int .i64 i ∧ OnlyRow r w wr ∧ ∃ h bo, c = .int .i64 bo ∧ RowF wr r R h ∧ LessInv R j n h0 g d i h bo) (fun _ a _ => n - (intOf a).toNat)
 case atStart => exact ⟨0, Nat.zero_le _, rfl, OnlyRow.refl _ _, _, _, rfl, hr0, LessInv.start lo hi⟩
 case round =>
  clear hr0 lo hi
  obtain ⟨i, hin, rfl, ho, h, bo, rfl, hr, HT⟩ := hrel
  by_cases hlt : i < n
  ·have a1 := (ho.row hs hrs).cell i hlt
   have gi0 := g0 i hlt
   have gi1 := g1 i hlt
   have a2 := hr.cell (j + i) (by omega)
   have a3 := hr.frozen (j + i)
   have b0 := HT.b0
   have b1 := HT.b1
   have h0' := HT.lo (j + i) (by omega)
   have h1' := HT.hi (j + i) (by omega)
   obtain ⟨d5, d6⟩ := mul_bd gi0 gi1 d0 d1
   have HS := fun (t e : Int) (ht : 0 ≤ t) (ht2 : t ≤ 2) he e0 e1 => HT.step hlt gi0 gi1 d0 d1 (t := t) (e := e) ht ht2 he e0 e1
   replace HS := Lib.hid HS
   clear HT g0 g1
   by_cases n1 : h (j + i) - g i * d % 1000000000 - bo < 0
   ·by_cases n2 : h (j + i) - g i * d % 1000000000 - bo + 1000000000 < 0
    ·go_wp2
     go_roundw
     case rel => exact ⟨i + 1, by omega, by go_num, ho.set (j + i) _, _, _, rfl, hr.set (j + i) _, (by have := HS.out 2 (h (j + i) - g i * d % 1000000000 - bo + 1000000000 + 1000000000) (by omega) (by omega) (by omega) (by omega) (by omega); rwa [show g i * d / 1000000000 + 2 = g i * d / 1000000000 + 1 + 1 by omega] at this)⟩
     case measure => simp [intOf]; omega
    ·go_wp2
     go_roundw
     case rel => exact ⟨i + 1, by omega, by go_num, ho.set (j + i) _, _, _, rfl, hr.set (j + i) _, HS.out 1 (h (j + i) - g i * d % 1000000000 - bo + 1000000000) (by omega) (by omega) (by omega) (by omega) (by omega)⟩
     case measure => simp [intOf]; omega
   ·go_wp2
    go_roundw
    case rel => exact ⟨i + 1, by omega, by go_num, ho.set (j + i) _, _, _, rfl, hr.set (j + i) _, (by have := HS.out 0 (h (j + i) - g i * d % 1000000000 - bo) (by omega) (by omega) (by omega) (by omega) (by omega); rwa [Int.add_zero] at this)⟩
    case measure => simp [intOf]; omega
  ·obtain rfl : i = n := by omega
   have a2 := hr.cell (j + i) (by omega)
   have a3 := hr.frozen (j + i)
   have b0 := HT.b0
   have b1 := HT.b1
   have h0' := HT.lo (j + i) (by omega)
   have h1' := HT.hi (j + i) (by omega)
   have HS := fun (t e : Int) ht he e0 e1 => HT.last (t := t) (e := e) ht he e0 e1
   replace HS := Lib.hid HS
   have r1 := hr.set (j + i) (h (j + i) - bo)
   have a4 := r1.cell (j + i) (by omega)
   have a5 := r1.frozen (j + i)
   simp only [if_true] at a4
   clear HT g0 g1 hlt hin hs
   by_cases n1 : h (j + i) - bo < 0
   ·go_wp2
    go_ret
    have r2 := r1.set (j + i) (h (j + i) - bo + 1000000000)
    obtain ⟨q1, q2, q3, q4⟩ := HS.out 1 (h (j + i) - bo + 1000000000) (.inr rfl) (by omega) (by omega) (by omega)
    refine ⟨true, _, rfl, r2.congr fun k hk => ?_, q2, q3, q4, q1, (ho.set _ _).set _ _⟩
    by_cases e : k = j + i
    ·rw [if_pos e, if_pos e]
    ·rw [if_neg e, if_neg e, if_neg e]
   ·go_wp2
    go_ret
    obtain ⟨q1, q2, q3, q4⟩ := HS.out 0 (h (j + i) - bo) (.inl rfl) (by omega) (by omega) (by omega)
    exact ⟨false, _, rfl, r1, q2, q3, q4, q1, ho.set _ _⟩
theorem more_any (r j n R cap s c2 : Nat) (h0 g : Nat → Int) (w : World) (hr0 : RowF w r R h0) (hs : RowF w s n g) (hrs : s ≠ r) (hR : j + n < R) (hRb : R ≤ 2000000)
  (lo : ∀ k, k < R → 0 ≤ h0 k) (hi : ∀ k, k < R → h0 k < 1000000000) (g0 : ∀ i, i < n → 0 ≤ g i) (g1 : ∀ i, i < n → g i < 1000000000) :
  Calls Tryz.prog 257 #[.slice (some ⟨r, j, none⟩) (n + 1) cap, .slice (some ⟨s, 0, none⟩) n c2] w fun e w' => ∃ (o : Int) (h : Nat → Int), e = .returned (.tuple #[]) ∧ RowF w' r R h ∧
   (∀ k, k < R → 0 ≤ h k) ∧ (∀ k, k < R → h k < 1000000000) ∧ (∀ k, k < j ∨ j + n < k → h k = h0 k) ∧ vf (win h j) (n + 1) = vf (win h0 j) (n + 1) + vf g n - o * pw (n + 1) ∧ OnlyRow r w w' := by
 go_enter Tryz.func257, Tryz.ntmps257
 go_wp2
 go_loopw [4, 10] (fun c a wr => ∃ i : Nat, i ≤ n ∧ a = .int .i64 i ∧ OnlyRow r w wr ∧ ∃ h bo, c = .int .i64 bo ∧ RowF wr r R h ∧ MoreInv R j n h0 g i h bo) (fun _ a _ => n - (intOf a).toNat)
 case atStart => exact ⟨0, Nat.zero_le _, rfl, OnlyRow.refl _ _, _, _, rfl, hr0, MoreInv.start lo hi⟩
 case round =>
  clear hr0 lo hi
  obtain ⟨i, hin, rfl, ho, h, bo, rfl, hr, HT⟩ := hrel
  have b0 := HT.c0
  have b1 := HT.c1
  by_cases hlt : i < n
  ·have a1 := (ho.row hs hrs).cell i hlt
   have gi0 := g0 i hlt
   have gi1 := g1 i hlt
   have a2 := hr.cell (j + i) (by omega)
   have a3 := hr.frozen (j + i)
   have h0' := HT.lo (j + i) (by omega)
   have h1' := HT.hi (j + i) (by omega)
   clear g0 g1
   go_wp2
   go_roundw
   case rel => exact ⟨i + 1, by omega, by go_num, ho.set (j + i) _, _, _, rfl, hr.set (j + i) _, HT.step hlt hR gi0 gi1⟩
   case measure => simp [intOf]; omega
  ·obtain rfl : i = n := by omega
   have a2 := hr.cell (j + i) (by omega)
   have a3 := hr.frozen (j + i)
   have h0' := HT.lo (j + i) (by omega)
   have h1' := HT.hi (j + i) (by omega)
   obtain ⟨o, q1, q2, q3, q4⟩ := HT.last hR
   replace q1 := Lib.hid q1
   replace q4 := Lib.hid q4
   clear HT g0 g1 hlt hin hs
   go_wp2
   go_end0
   exact ⟨o, _, rfl, hr.set _ _, q2, q3, q4.out, q1.out, ho.set _ _⟩
end Go.Proofs.YtdgodcgdlfjpaaaGreatDoor
namespace Go.Mono
theorem win_cons (h : Nat → Int) (j k : Nat) : vf (win h j) (k + 1) = h j + 1000000000 * vf (win h (j + 1)) k := by
 induction k with
 | zero => simp [vf, win, pw]
 | succ k ih =>
   rw [vf_succ, ih, vf_succ (win h (j + 1)) k, pw_succ]
   simp only [win]
   rw [show j + 1 + k = j + (k + 1) by omega]
   grind
theorem vf_window {h h' : Nat → Int} {j k R : Nat} (hR : j + k ≤ R) (ho : ∀ i, i < j ∨ j + k ≤ i → h' i = h i) : vf h' R = vf h R + pw j * (vf (win h' j) k - vf (win h j) k) := by
 obtain ⟨m, rfl⟩ := Nat.exists_eq_add_of_le hR
 rw [vf_split h', vf_split h, pw_add, vf_split h' j k, vf_split h j k]
 rw [vf_congr (f := h') (g := h) (k := j) (fun i hi => ho i (by omega))]
 rw [vf_congr (f := fun i => h' (j + k + i)) (g := fun i => h (j + k + i)) (k := m) (fun i _ => ho _ (by omega))]
 grind
structure OverInv (m Q R : Nat) (A : Int) (g : Nat → Int) (j : Nat) (h q : Nat → Int) : Prop where
 lo : ∀ k, k < R → 0 ≤ h k
 hi : ∀ k, k < R → h k < 1000000000
 zero : ∀ k, j + (m + 2) ≤ k → k < R → h k = 0
 lt : vf (win h j) (m + 2) < vf g (m + 2)
 q0 : ∀ k, k < Q → 0 ≤ q k
 q1 : ∀ k, k < Q → q k < 1000000000
 qz : ∀ k, k < j → q k = 0
 val : vf h R + vf g (m + 2) * vf q Q = A
theorem OverInv.start {m Q R : Nat} {A M : Int} {g h : Nat → Int} (hR : R = Q + (m + 2)) (lo : ∀ k, k < R → 0 ≤ h k) (hi : ∀ k, k < R → h k < 1000000000) (hA : vf h R = A) (hlt : A < M * pw Q) (hM : vf g (m + 2) = M) :
  OverInv m Q R A g Q h (fun _ => 0) := by
 refine ⟨lo, hi, fun k h1 h2 => by omega, ?_, fun _ _ => by simp, fun _ _ => by simp, fun _ _ => rfl, by rw [vf_zero (f := fun _ => 0) fun _ _ => rfl, hA]; simp⟩
 subst hR
 rw [vf_split] at hA
 have hA' : vf h Q + pw Q * vf (win h Q) (m + 2) = A := hA
 clear hA
 have h1 := vf_nonneg (f := h) (k := Q) fun i hi => lo i (by omega)
 rw [hM]
 rcases Int.lt_or_le (vf (win h Q) (m + 2)) M with h2 | h2
 ·exact h2
 ·have := mle h2 (Int.le_of_lt (pw_pos Q))
  have : pw Q * vf (win h Q) (m + 2) = vf (win h Q) (m + 2) * pw Q := Int.mul_comm _ _
  omega
theorem OverInv.U_lt {m Q R : Nat} {A : Int} {g : Nat → Int} {j : Nat} {h q : Nat → Int} (H : OverInv m Q R A g (j + 1) h q) (hj : j < R) : vf (win h j) (m + 3) < vf g (m + 2) * 1000000000 := by
 rw [win_cons]
 have := H.lt
 have := H.hi j hj
 omega
theorem OverInv.step {m Q R : Nat} {A : Int} {g : Nat → Int} {j : Nat} {h q h' : Nat → Int} {d W : Int} (H : OverInv m Q R A g (j + 1) h q) (hR : R = Q + (m + 2)) (hj : j < Q)
  (hV : vf g (m + 2) ≤ pw (m + 2)) (lo : ∀ k, k < R → 0 ≤ h' k) (hi : ∀ k, k < R → h' k < 1000000000) (ho : ∀ k, k < j ∨ j + (m + 2) < k → h' k = h k)
  (hW : vf (win h' j) (m + 3) = W) (W0 : 0 ≤ W) (W1 : W < vf g (m + 2)) (hU : vf (win h j) (m + 3) = d * vf g (m + 2) + W) :
  0 ≤ d ∧ d < 1000000000 ∧ OverInv m Q R A g j h' (fun k => if k = j then d else q k) := by
 have hlt := H.U_lt (by omega)
 have hU0 := vf_nonneg (f := win h j) (k := m + 3) fun i hi => H.lo _ (by omega)
 have hV0 : 0 < vf g (m + 2) := by omega
 have d0 : 0 ≤ d := by
  rcases Int.lt_or_le d 0 with h1 | h1
  ·have := mle (show d ≤ -1 by omega) (Int.le_of_lt hV0); omega
  ·exact h1
 have d1 : d < 1000000000 := by
  rcases Int.lt_or_le d 1000000000 with h1 | h1
  ·exact h1
  ·have := mle h1 (Int.le_of_lt hV0); omega
 refine ⟨d0, d1, lo, hi, fun k h1 h2 => ?_, ?_, fun k hk => ?_, fun k hk => ?_, fun k hk => ?_, ?_⟩
 ·rcases Nat.lt_or_ge (j + (m + 2)) k with h3 | h3
  ·rw [ho k (.inr h3)]; exact H.zero k (by omega) h2
  ·obtain rfl : k = j + (m + 2) := by omega
   rw [vf_succ] at hW
   have a0 := lo _ h2
   have a1 := vf_nonneg (f := win h' j) (k := m + 2) fun i hi => lo _ (by omega)
   rcases Int.lt_or_le 0 (h' (j + (m + 2))) with h4 | h4
   ·have := mle (show 1 ≤ win h' j (m + 2) from h4) (Int.le_of_lt (pw_pos (m + 2)))
    omega
   ·omega
 ·have e : vf (win h' j) (m + 2) = W - win h' j (m + 2) * pw (m + 2) := by rw [vf_succ] at hW; omega
  have a0 : 0 ≤ win h' j (m + 2) * pw (m + 2) := Int.mul_nonneg (lo _ (by omega)) (Int.le_of_lt (pw_pos _))
  omega
 ·show 0 ≤ if k = j then _ else _
  split
  ·exact d0
  ·exact H.q0 k hk
 ·show (if k = j then _ else _) < _
  split
  ·exact d1
  ·exact H.q1 k hk
 ·show (if k = j then _ else _) = _
  rw [if_neg (by omega)]; exact H.qz k (by omega)
 ·have hv := H.val
  rw [vf_window (h := h) (h' := h') (j := j) (k := m + 3) (R := R) (by omega) (fun i hi => ho i (by omega)), vf_set, if_pos hj, H.qz j (by omega), hW, hU]
  generalize vf g (m + 2) = V at hv ⊢
  grind
theorem OverInv.done {m Q R : Nat} {A : Int} {g : Nat → Int} {h q : Nat → Int} (H : OverInv m Q R A g 0 h q) (hR : R = Q + (m + 2)) :
  A = vf g (m + 2) * vf q Q + vf h (m + 2) ∧ 0 ≤ vf h (m + 2) ∧ vf h (m + 2) < vf g (m + 2) := by
 have hv := H.val
 have hl := H.lt
 have e1 : vf (win h 0) (m + 2) = vf h (m + 2) := vf_congr fun i _ => by simp [win]
 rw [e1] at hl
 have e2 : vf h R = vf h (m + 2) := by
  rw [hR, Nat.add_comm, vf_split, vf_zero (f := fun j => h (m + 2 + j)) (fun i hi => H.zero _ (by omega) (by omega))]; simp
 rw [e2] at hv
 exact ⟨by omega, vf_nonneg fun i hi => H.lo i (by omega), hl⟩
theorem over_final {N M f q r : Int} (hf : 0 < f) (h : N * f = M * f * q + r) (r0 : 0 ≤ r) (r1 : r < M * f) : q = N / M ∧ r / f = N % M := by
 have e : r = (N - M * q) * f := by grind
 have h0 : 0 ≤ N - M * q := by
  rcases Int.lt_or_le (N - M * q) 0 with h1 | h1
  ·have := mle (show N - M * q ≤ -1 by omega) (Int.le_of_lt hf); omega
  ·exact h1
 have h1 : N - M * q < M := by
  rcases Int.lt_or_le (N - M * q) M with h1 | h1
  ·exact h1
  ·have := mle h1 (Int.le_of_lt hf); omega
 have hM : 0 < M := by omega
 have hq : q = N / M := ((Int.ediv_eq_iff_of_pos hM).2 ⟨by rw [Int.mul_comm]; omega, by rw [Int.mul_comm]; omega⟩).symm
 refine ⟨hq, ?_⟩
 rw [e, Int.mul_ediv_cancel _ (by omega)]
 have := Int.mul_ediv_add_emod N M
 rw [← hq] at this
 omega
theorem factor_bd {b1 : Int} (h0 : 0 < b1) (h1 : b1 < 1000000000) : 0 < 1000000000 / (b1 + 1) ∧ 1000000000 / (b1 + 1) < 1000000000 ∧ (b1 + 1) * (1000000000 / (b1 + 1)) ≤ 1000000000 := by
 have e := Int.mul_ediv_add_emod 1000000000 (b1 + 1)
 have r0 := Int.emod_nonneg 1000000000 (show b1 + 1 ≠ 0 by omega)
 have r1 := Int.emod_lt_of_pos 1000000000 (show 0 < b1 + 1 by omega)
 have q0 : 0 ≤ 1000000000 / (b1 + 1) := Int.ediv_nonneg (by omega) (by omega)
 generalize 1000000000 / (b1 + 1) = q at *
 refine ⟨?_, ?_, by omega⟩
 ·rcases Int.lt_or_le 0 q with h | h
  ·exact h
  ·obtain rfl : q = 0 := by omega
   omega
 ·have := mle (show 2 ≤ b1 + 1 by omega) q0
  omega
theorem factor_lt {g : Nat → Int} {m : Nat} (g1 : ∀ i, i < m + 1 → g i < 1000000000) {f : Int} (f0 : 0 < f) (hf : (g m + 1) * f ≤ 1000000000) : vf g (m + 1) * f < pw (m + 1) := by
 rw [vf_succ, pw_succ]
 have h1 := vf_lt (f := g) (k := m) fun i hi => g1 i (by omega)
 have h2 : (vf g m + g m * pw m + 1) * f ≤ ((g m + 1) * pw m) * f := mle (by grind) (Int.le_of_lt f0)
 have h3 : ((g m + 1) * f) * pw m ≤ 1000000000 * pw m := mle hf (Int.le_of_lt (pw_pos m))
 have h4 : ((g m + 1) * pw m) * f = ((g m + 1) * f) * pw m := by grind
 have h5 : (vf g m + g m * pw m + 1) * f = (vf g m + g m * pw m) * f + f := by grind
 omega
theorem v_top {m : Nat} {v : Nat → Int} {G : Int} (v0 : ∀ i, i < m + 2 + 1 → 0 ≤ v i) (v1 : ∀ i, i < m + 2 + 1 → v i < 1000000000) (hv : vf v (m + 2 + 1) = G) (hlo : pw (m + 1) ≤ G) (hhi : G < pw (m + 2)) :
  vf v (m + 2) = G ∧ v (m + 1) ≠ 0 := by
 have a1 := vf_nonneg (f := v) (k := m + 2) fun i hi => v0 i (by omega)
 have a2 := v0 (m + 2) (by omega)
 rw [vf_succ] at hv
 have e : v (m + 2) = 0 := by
  rcases Int.lt_or_le 0 (v (m + 2)) with h | h
  ·have := mle (show 1 ≤ v (m + 2) from h) (Int.le_of_lt (pw_pos (m + 2))); omega
  ·omega
 rw [e, Int.zero_mul, Int.add_zero] at hv
 refine ⟨hv, fun h => ?_⟩
 rw [vf_succ, h] at hv
 have a3 := vf_lt (f := v) (k := m + 1) fun i hi => v1 i (by omega)
 omega
theorem start_lt {n m Q : Nat} {f g : Nat → Int} {F : Int} (hQ : n = Q + (m + 1)) (d1 : Digs f n) (d2 : Digs g (m + 2)) (F0 : 0 < F) : vf f n * F < vf g (m + 2) * F * pw Q := by
 have a1 := d1.lt
 have a2 := d2.ge (by omega)
 rw [show m + 2 - 1 = m + 1 by omega] at a2
 rw [hQ, pw_add] at a1
 rw [← hQ] at a1
 have a3 := mle a2 (Int.le_of_lt (pw_pos Q))
 have a4 : pw (m + 1) * pw Q = pw Q * pw (m + 1) := Int.mul_comm _ _
 have a5 : (vf f n + 1) * F ≤ (vf g (m + 2) * pw Q) * F := mle (by omega) (Int.le_of_lt F0)
 have a6 : (vf g (m + 2) * pw Q) * F = vf g (m + 2) * F * pw Q := by grind
 have a7 : (vf f n + 1) * F = vf f n * F + F := by grind
 omega
section
open Go.RowKit
section
variable {P : Program} {ops : Array Oper} {Q : Exit → Act → World → Prop} {md : Region.Mode} {S : World → Prop}
theorem wpOp_store {B : Nat} {T : TypeId} {a : Act} {w : World} {cs : Array Value} {K : Act → World → Prop} (i : Nat) {o : Oper} (hi : ops[i]? = some o) (hg : o.guard = none) (hd : o.dst = none) {ty : TypeId} {x y : Operand} (ho : o.op = .store ty x y)
  (off : Nat) (v : Value) (hx : a.eval x = .pointer (some ⟨B, off, none⟩)) (hy : a.eval y = v)
  (hrun : ∀ w : World, (w.cell? ⟨B, off, none⟩).isSome = true → w.frozen? ⟨B, off, none⟩ = false → (Instr.storeAt ty (.pointer (some ⟨B, off, none⟩)) v).run P w = .ok () (w.setCell ⟨B, off, none⟩ v))
  (hb : Box w B T cs) (hoff : off < cs.size) (hK : K a (w.setCell ⟨B, off, none⟩ v)) : wpOp P ops Q i K a w := by
 unfold wpOp
 rw [hi]
 have hw : Region.wanted o (yielded ops a.tmps) = true := by simp [Region.wanted, hg]
 simp only [hw, if_true]
 left
 have hc : (w.cell? ⟨B, off, none⟩).isSome = true := by rw [hb.cell]; simp [hoff]
 unfold Oper.wp execOp
 simp only [ho, hx, hy, Sem.run_bind, hrun w hc (hb.frozen off), Result.andThen_ok, Sem.run_pure]
 show K (a.put o.dst undef) _
 rw [hd]
 exact hK
theorem wpAnyH_store1 (B : Nat) (T : TypeId) (i : Nat) {o : Oper} (hi : ops[i]? = some o) (hg : o.guard = none) (hd : o.dst = none) {ty : TypeId} {x y : Operand} (ho : o.op = .store ty x y) (off : Nat) (v : Value) (cs new : Array Value) {a : Act} {fuel : Nat} {listed : Array Bool} {w : World}
  (hr : Region.ready md ops listed = [i]) (hS : ∀ w i u, S w → S (w.setCell ⟨B, i, none⟩ u)) (hx : a.eval x = .pointer (some ⟨B, off, none⟩)) (hy : a.eval y = v)
  (hrun : ∀ w : World, (w.cell? ⟨B, off, none⟩).isSome = true → w.frozen? ⟨B, off, none⟩ = false → (Instr.storeAt ty (.pointer (some ⟨B, off, none⟩)) v).run P w = .ok () (w.setCell ⟨B, off, none⟩ v))
  (hb : Box w B T cs) (hs : S w) (hoff : off < cs.size) (hnew : cs.setIfInBounds off v = new)
  (h : ∀ w', Box w' B T new → S w' → wpAnyH P md ops Q S fuel (listed.setIfInBounds i true) a w') : wpAnyH P md ops Q S (fuel + 1) listed a w := by
 refine wpAnyH_all hr (by simp) fun j hj => ?_
 obtain rfl : j = i := by simpa using hj
 exact wpOp_store j hi hg hd ho off v hx hy hrun hb hoff ⟨hS _ _ _ hs, h _ (hnew ▸ hb.set off v) (hS _ _ _ hs)⟩
end
end
section
open Go.RowKit
theorem Box.range {w : World} {B : Nat} {T : TypeId} {cs : Array Value} (b : Box w B T cs) : w.rangeAt B 0 cs.toList := fun j v hv => by
 rw [Nat.zero_add, b.cell, ← Array.getElem?_toList]
 exact hv
theorem Box.there {w : World} {B : Nat} {T : TypeId} {cs : Array Value} (b : Box w B T cs) (o n : Nat) (hn : o + n ≤ cs.size) : w.there B o n := fun j hj => by
 refine ⟨?_, b.frozen _⟩
 rw [b.cell]
 simp; omega
theorem Box.setCells {B : Nat} {T : TypeId} : ∀ (vs : List Value) (o : Nat) (w : World) (cs : Array Value), Box w B T cs → o + vs.length ≤ cs.size →
  Box (w.setCells B o vs) B T (cs.toList.take o ++ vs ++ cs.toList.drop (o + vs.length)).toArray
 | [], o, w, cs, h, _ => by simpa [World.setCells] using h
 | v :: r, o, w, cs, h, hn => by
   rw [World.setCells]
   have hn' : o + (r.length + 1) ≤ cs.size := by simpa using hn
   have := Box.setCells r (o + 1) _ _ (h.set o v) (by simp; omega)
   refine cast (congrArg _ ?_) this
   apply congrArg
   apply List.ext_getElem?
   intro i
   simp only [List.getElem?_append, List.length_append, List.length_take, List.length_drop, Array.toList_setIfInBounds, List.length_set, List.length_cons, Array.length_toList, List.getElem?_take, List.getElem?_drop, List.getElem?_set]
   by_cases h1 : i < o
   ·simp [show i < min (o + 1) cs.size by omega, show i < min o cs.size by omega, show i < min (o + 1) cs.size + r.length by omega, show i < min o cs.size + (r.length + 1) by omega, show i < o + 1 by omega, h1, show ¬ o = i by omega]
   ·by_cases h2 : i = o
    ·subst h2
     simp [show i < min (i + 1) cs.size by omega, show ¬ i < min i cs.size by omega, show i < min (i + 1) cs.size + r.length by omega, show i < min i cs.size + (r.length + 1) by omega, show i < cs.size by omega, show min i cs.size = i by omega]
    ·by_cases h3 : i < o + 1 + r.length
     ·have e1 : i - min (o + 1) cs.size = i - (o + 1) := by omega
      have e2 : i - min o cs.size = (i - (o + 1)) + 1 := by omega
      simp [show ¬ i < min (o + 1) cs.size by omega, show ¬ i < min o cs.size by omega, show i < min (o + 1) cs.size + r.length by omega, show i < min o cs.size + (r.length + 1) by omega, e1, e2]
     ·have e1 : o + 1 + r.length + (i - (min (o + 1) cs.size + r.length)) = i := by omega
      have e2 : o + (r.length + 1) + (i - (min o cs.size + (r.length + 1))) = i := by omega
      simp [show ¬ i < min (o + 1) cs.size + r.length by omega, show ¬ i < min o cs.size + (r.length + 1) by omega, e1, e2, show ¬ o = i by omega]
theorem KeepBut.setCells {R N : Nat} {W : World} : ∀ (vs : List Value) (o : Nat) (w : World), KeepBut R N W w → KeepBut R N W (w.setCells R o vs)
 | [], _, _, h => h
 | v :: r, o, w, h => by
   rw [World.setCells]
   exact KeepBut.setCells r (o + 1) _ (h.set o v)
section
variable {P : Program} {ops : Array Oper} {rest : List Oper} {o : Oper} {a : Act} {w : World} {Q : Exit → Act → World → Prop}
theorem wpList_new (hg : o.guard = none) (T : TypeId) (ho : o.op = .alloc T) (zs : Array Value)
  (hrun : ∀ w, (Instr.alloc T true (.tuple #[])).run P w = .ok (.pointer (some ⟨w.heap.size, 0, none⟩)) (w.alloc (.cells zs T)))
  (h : ∀ W B, w.heap.size ≤ B → Below w.heap.size w W → Box W B T zs → wpList P ops Q rest (a.put o.dst (.pointer (some ⟨B, 0, none⟩))) W) : wpList P ops Q (o :: rest) a w := by
 refine wpList_plain hg fun K hK => ?_
 unfold Oper.wp execOp
 simp only [ho, Sem.run_bind, hrun, Result.andThen_ok, Sem.run_pure]
 exact hK _ _ (h _ _ (Nat.le_refl _) ((Below.refl _ _).alloc (Nat.le_refl _) _) (Box.new _ _ _))
theorem wpList_build2 (hg : o.guard = none) (t : TypeId) (parts : Array (Nat × Operand)) (ho : o.op = .build t parts) (cells : Array Value)
  (hc : P.built t (parts.map fun (i, x) => (i, a.eval x)).toList = some cells) (h : wpList P ops Q rest (a.put o.dst (.agg cells)) w) : wpList P ops Q (o :: rest) a w :=
 wpList_build hg t parts ho (by rw [hc]; rfl) (by rw [hc]; exact h)
theorem wpList_load_box (hg : o.guard = none) (ty : TypeId) (x : Operand) (ho : o.op = .load ty x) (B : Nat) (hx : a.eval x = .pointer (some ⟨B, 0, none⟩)) (T : TypeId) (cells : Array Value) (hb : Box w B T cells)
  (d : TypeDesc) (hu : P.underlying ty = some d) (hd : d.isRow = true) (hi : (P.info? ty).map (·.size) = some cells.size)
  (h : wpList P ops Q rest (a.put o.dst (.agg cells)) w) : wpList P ops Q (o :: rest) a w :=
 wpList_load_mid hg ty x ho B 0 hx cells.toList d hb.range hu hd (by simpa using hi) (by simpa using h)
theorem wpList_store_box (hg : o.guard = none) (ty : TypeId) (x y : Operand) (ho : o.op = .store ty x y) (B off : Nat) (T : TypeId) (old cells new : Array Value) (hx : a.eval x = .pointer (some ⟨B, off, none⟩)) (hy : a.eval y = .agg cells)
  (hb : Box w B T old) (hi : (P.info? ty).map (·.size) = some cells.size) (hold : off + cells.size ≤ old.size) (h1 : cells.all (·.oneCell') = true)
  (hn : old.toList.take off ++ cells.toList ++ old.toList.drop (off + cells.size) = new.toList)
  (h : ∀ W, KeepBut B w.heap.size w W → Box W B T new → wpList P ops Q rest (a.put o.dst undef) W) : wpList P ops Q (o :: rest) a w := by
 refine wpList_store_mid hg ty x y ho B off cells hx hy (hb.there off cells.size hold) hi h1 (h _ ((KeepBut.refl _ _).setCells _ _ _) ?_)
 have := Box.setCells cells.toList off w old hb (by simpa using hold)
 simpa [hn] using this
end
section
variable {P : Program} {ops : Array Oper} {rest : List Oper} {a : Act} {w : World} {Q : Exit → Act → World → Prop} {T0 T1 T2 : TypeId} {c0 c1 c2 : Array Value}
theorem boxes2l (h : ∀ W, Below w.heap.size w W → w.heap.size + 2 ≤ W.heap.size → Box W w.heap.size T0 c0 → Box W (w.heap.size + 1) T1 c1 → wpList P ops Q rest a W) : wpList P ops Q rest a ((w.alloc (.cells c0 T0)).alloc (.cells c1 T1)) := by
 refine h _ (((Below.refl _ _).alloc (Nat.le_refl _) _).alloc (by simp) _) (by simp) ((Box.new _ _ _).alloc _) ?_
 have := Box.new (w.alloc (.cells c0 T0)) T1 c1
 rwa [World.size_alloc] at this
end
theorem Box.results {P : Program} {w : World} {B : Nat} {T : TypeId} {cs : Array Value} (b : Box w B T cs) {fn : Func} {p : Tmp} {ty : TypeId} (h : fn.results = #[.cell p ty]) (tmps : Array Value) (d : TypeDesc)
  (ht : tmps.getD p undef = .pointer (some ⟨B, 0, none⟩)) (hu : P.underlying ty = some d) (hd : d.isRow = true) (hi : (P.info? ty).map (·.size) = some cs.size) : (results fn tmps).run P w = .ok (.agg cs) w := by
 refine results_cell_row h tmps w B T cs (0, 0) d ht b.blk hu ?_ hi
 cases d <;> simp_all [TypeDesc.isRow]
theorem setCells_keeps {S : World → Prop} {B : Nat} (hS : ∀ w i u, S w → S (w.setCell ⟨B, i, none⟩ u)) : ∀ (vs : List Value) (o : Nat) (w : World), S w → S (w.setCells B o vs)
 | [], _, _, h => h
 | v :: r, o, w, h => by
   rw [World.setCells]
   exact setCells_keeps hS r (o + 1) _ (hS _ _ _ h)
section
variable {P : Program} {ops : Array Oper} {Q : Exit → Act → World → Prop} {md : Region.Mode} {S : World → Prop}
theorem wpAnyH_storeN (B : Nat) (T : TypeId) (i : Nat) {o : Oper} (hi : ops[i]? = some o) (hg : o.guard = none) (hd : o.dst = none) {ty : TypeId} {x y : Operand} (ho : o.op = .store ty x y) (off : Nat) (cells cs new : Array Value) {a : Act} {fuel : Nat} {listed : Array Bool} {w : World}
  (hr : Region.ready md ops listed = [i]) (hS : ∀ w i u, S w → S (w.setCell ⟨B, i, none⟩ u)) (hx : a.eval x = .pointer (some ⟨B, off, none⟩)) (hy : a.eval y = .agg cells)
  (hb : Box w B T cs) (hs : S w) (hi2 : (P.info? ty).map (·.size) = some cells.size) (hoff : off + cells.size ≤ cs.size) (h1 : cells.all (·.oneCell') = true)
  (hn : cs.toList.take off ++ cells.toList ++ cs.toList.drop (off + cells.size) = new.toList)
  (h : ∀ w', Box w' B T new → S w' → wpAnyH P md ops Q S fuel (listed.setIfInBounds i true) a w') : wpAnyH P md ops Q S (fuel + 1) listed a w := by
 refine wpAnyH_all hr (by simp) fun j hj => ?_
 obtain rfl : j = i := by simpa using hj
 unfold wpOp
 rw [hi]
 have hw : Region.wanted o (yielded ops a.tmps) = true := by simp [Region.wanted, hg]
 simp only [hw, if_true]
 left
 have hb2 := Box.setCells cells.toList off w cs hb (by simpa using hoff)
 have hb3 : Box (w.setCells B off cells.toList) B T new := by simpa [hn] using hb2
 have hs2 := setCells_keeps hS cells.toList off w hs
 refine wp_store_mid ty x y ho B off cells hx hy (hb.there off cells.size hoff) hi2 h1 ?_
 rw [hd]
 exact ⟨hs2, h _ hb3 hs2⟩
end
theorem exec_load {P : Program} {S : World → Prop} {oi : Oper} {a : Act} (ty : TypeId) (x : Operand) (ho : oi.op = .load ty x) (b o : Nat) (hx : a.eval x = .pointer (some ⟨b, o, none⟩)) (cells : Array Value) (hc : ∀ w, S w → w.rangeAt b o cells.toList)
  (d : TypeDesc) (hu : P.underlying ty = some d) (hd : d.isRow = true) (hi : (P.info? ty).map (·.size) = some cells.size) : ∀ w, S w → (execOp a.eval oi).run P w = .ok (.value (.agg cells)) w := fun w hS => by
 unfold execOp
 simp only [ho, hx, Sem.run_bind, run_loadAt_mid w b o ty cells.toList d (hc w hS) hu hd (by simpa using hi), Result.andThen_ok, Sem.run_pure]
end
end Go.Mono
namespace Go.Proofs.YtdgodcgdlfjpaaaGreatDoor
open Go.RowKit Go.Mono
theorem by_any (p : Option Addr) (n c1 : Nat) (f : Nat → Int) (d : Int) (w : World) (h1 : SlF w (.slice p n c1) n f)
  (f0 : ∀ i, i < n → 0 ≤ f i) (f1 : ∀ i, i < n → f i < 1000000000) (hn : n ≤ 1000000) (d0 : 0 ≤ d) (d1 : d < 1000000000) :
  Calls Tryz.prog 255 #[.slice p n c1, .int .i64 d] w fun e w' => e = .returned (.slice (some ⟨w.heap.size, 0, none⟩) (n + 1) (n + 1)) ∧ Below w.heap.size w w' ∧
   ∃ h, RowF w' w.heap.size (n + 1) h ∧ (∀ j, j < n + 1 → 0 ≤ h j) ∧ (∀ j, j < n + 1 → h j < 1000000000) ∧ vf h (n + 1) = vf f n * d := by
 obtain ⟨hc1, hn1, hx1⟩ := h1.opens
 clear h1
 go_enter Tryz.func255, Tryz.ntmps255
 go_wp2_with (at_make; refine wpList_make_ints _ rfl _ _ 147 rfl Tryz.underlying147 infoInt _ _ (n + 1) rfl rfl (by simp) (by simp) (by omega) ?_; intro w1 r1 b1; have s1 := b1.size; have L1 := r1.lt)
 go_loopw [6, 16] (fun c a wr => ∃ i : Nat, i ≤ n ∧ a = .int .i64 i ∧ Below w.heap.size w wr ∧ ∃ h cc, c = .int .i64 cc ∧ RowF wr w.heap.size (n + 1) h ∧ ByInv n f d i h cc) (fun _ a _ => n - (intOf a).toNat)
 case atStart => exact ⟨0, Nat.zero_le _, rfl, b1, _, _, rfl, r1, ByInv.start⟩
 case round =>
  clear b1 s1 L1 r1
  obtain ⟨i, hi, rfl, hb, h, cc, rfl, hr, HT⟩ := hrel
  by_cases hlt : i < n
  ·obtain ⟨b, off, rfl, hbs, hcell⟩ := hx1 (by omega)
   have a1 := (hb.cell (p := ⟨b, off + i, none⟩) hbs).trans (hcell i hlt)
   have fi0 := f0 i hlt
   have fi1 := f1 i hlt
   have a2 := hr.cell i (by omega)
   have a3 := hr.frozen i
   have d3 := HT.c0
   have d4 := HT.c1
   obtain ⟨d5, d6⟩ := mul_bd fi0 fi1 d0 d1
   clear hcell hx1 f0 f1
   go_wp2
   go_roundw
   case rel => exact ⟨i + 1, by omega, by go_num, hb.setCell (p := ⟨w.heap.size, i, none⟩) (Nat.le_refl _) _, _, _, rfl, hr.set i _, HT.step hlt fi0 fi1 d0 d1⟩
   case measure => simp [intOf]; omega
  ·obtain rfl : i = n := by omega
   have a2 := hr.cell i (by omega)
   have a3 := hr.frozen i
   obtain ⟨q1, q2, q3⟩ := HT.done
   replace q3 := Lib.hid q3
   clear hlt hi hx1 f0 f1
   go_wp2
   go_ret
   exact ⟨rfl, hb.setCell (p := ⟨w.heap.size, i, none⟩) (Nat.le_refl _) _, _, hr.set i cc, q1, q2, q3.out⟩
theorem part_any (p : Option Addr) (n c1 : Nat) (f : Nat → Int) (d : Int) (w : World) (h1 : SlF w (.slice p n c1) n f)
  (f0 : ∀ i, i < n → 0 ≤ f i) (f1 : ∀ i, i < n → f i < 1000000000) (hn : n ≤ 1000000) (d0 : 0 < d) (d1 : d < 1000000000) :
  Calls Tryz.prog 254 #[.slice p n c1, .int .i64 d] w fun e w' => ∃ b k h r, e = .returned (.tuple #[.slice (some ⟨b, 0, none⟩) k n, .int .i64 r]) ∧ SlF w' (.slice (some ⟨b, 0, none⟩) k n) k h ∧ Digs h k ∧ vf f n = d * vf h k + r ∧ 0 ≤ r ∧ r < d ∧ k ≤ n ∧ Below w.heap.size w w' := by
 obtain ⟨hc1, hn1, hx1⟩ := h1.opens
 clear h1
 go_enter Tryz.func254, Tryz.ntmps254
 go_wp2_with (at_make; refine wpList_make_ints _ rfl _ _ 147 rfl Tryz.underlying147 infoInt _ _ n rfl rfl (by simp) (by simp) (by omega) ?_; intro w1 r1 b1; have s1 := b1.size; have L1 := r1.lt)
 go_loopw [7, 8] (fun c a wr => ∃ i : Nat, i ≤ n ∧ a = .int .i64 ((i : Int) - 1) ∧ Below w.heap.size w wr ∧ ∃ h cc, c = .int .i64 cc ∧ RowF wr w.heap.size n h ∧ PartInv n f d i h cc) (fun _ a _ => (intOf a + 1).toNat)
 case atStart => exact ⟨n, Nat.le_refl _, rfl, b1, _, _, rfl, r1, PartInv.start d0⟩
 case round =>
  clear b1 s1 L1 r1
  obtain ⟨i, hi, rfl, hb, h, cc, rfl, hr, HT⟩ := hrel
  by_cases hlt : 0 < i
  ·obtain ⟨b, off, rfl, hbs, hcell⟩ := hx1 (by omega)
   obtain ⟨i, rfl⟩ : ∃ j, i = j + 1 := ⟨i - 1, by omega⟩
   rw [show ((i + 1 : Nat) : Int) - 1 = (i : Int) by omega]
   have a1 := (hb.cell (p := ⟨b, off + i, none⟩) hbs).trans (hcell i (by omega))
   have fi0 := f0 i (by omega)
   have fi1 := f1 i (by omega)
   have a2 := hr.cell i (by omega)
   have a3 := hr.frozen i
   have d3 := HT.r0
   have d4 := HT.r1
   have hd : ¬ d = 0 := by omega
   clear hcell hx1 f0 f1
   go_wp2
   go_region
   go_wp2
   go_roundw
   case rel => exact ⟨i, by omega, rfl, (hb.setCell (p := ⟨w.heap.size, i, none⟩) (Nat.le_refl _) _).drew, _, _, rfl, (hr.set i _).drewN 1, HT.step (by omega) fi0 fi1⟩
   case measure => simp [intOf]
  ·obtain rfl : i = 0 := by omega
   clear hlt hi hx1 f0 f1
   have hs := hr.slice (by omega) n (Nat.le_refl _) n (Nat.le_refl _)
   obtain ⟨c1', c2'⟩ := HT.done
   have hle := trimN_le h n
   have d3 := HT.r0
   have d4 := HT.r1
   replace c2' := Lib.hid c2'
   go_wp2_with (go_at_call 223; refine (trim_any _ _ _ h _ hs).mono ?_; rintro e w' ⟨rfl, rfl⟩)
   go_ret2
   exact ⟨_, _, h, cc, rfl, hs.take _ hle, c1', c2'.out, d3, d4, hle, hb⟩

theorem part_sz (m1 : Nat) (w wf : World) (hx : Ext wf w) (p : Option Addr) (n c1 : Nat) (N d : Int) (h1 : Sz m1 wf (.slice p n c1) N) (hm1 : m1 ≤ 1000000) (d0 : 0 < d) (d1 : d < 1000000000) :
  Calls Tryz.prog 254 #[.slice p n c1, .int .i64 d] w fun e w' => ∃ p k c, e = .returned (.tuple #[.slice p k c, .int .i64 (N % d)]) ∧ Sz m1 w' (.slice p k c) (N / d) ∧ Below w.heap.size w w' := by
 obtain ⟨n, f, s1, d1', rfl, l1, rfl⟩ := (h1.ext hx).sl
 refine (part_any p n c1 f d w s1 d1'.lo d1'.hi (by omega) d0 d1).mono ?_
 rintro e w' ⟨b, k, h, r, rfl, hs, hd, hv, r0, r1, hk, hb⟩
 have e1 : vf f n / d = vf h k := by
  rw [hv]; exact Int.ediv_eq_iff_of_pos d0 |>.2 ⟨by rw [Int.mul_comm]; omega, by rw [Int.mul_comm] ; omega⟩
 have e2 : vf f n % d = r := by
  have := Int.mul_ediv_add_emod (vf f n) d
  rw [e1] at this; omega
 exact ⟨_, _, _, by rw [e2], ⟨k, h, hs, hd, e1.symm, by omega⟩, hb⟩
end Go.Proofs.YtdgodcgdlfjpaaaGreatDoor
namespace Go.Mono
open Go.RowKit
section
section
variable {F : Fence} {n : Nat} {P : Program} {ops : Array Oper} {rest : List Oper} {o : Oper} {a : Act} {w : World} {Q : Exit → Act → World → Prop}
theorem wpListIn_new (hg : o.guard = none) (T : TypeId) (ho : o.op = .alloc T) (zs : Array Value)
  (hrun : ∀ w, (Instr.alloc T true (.tuple #[])).run P w = .ok (.pointer (some ⟨w.heap.size, 0, none⟩)) (w.alloc (.cells zs T)))
  (h : ∀ W B, w.heap.size ≤ B → Below w.heap.size w W → Box W B T zs → wpListIn F n P ops Q rest (a.put o.dst (.pointer (some ⟨B, 0, none⟩))) W) : wpListIn F n P ops Q (o :: rest) a w := by
 refine wpListIn_plain hg fun K hK => ?_
 unfold Oper.wpIn
 refine ⟨by simp [Oper.about, ho], ?_⟩
 rw [Oper.semAt_plain F _ _ (by rw [ho]; intro c hc'; cases hc')]
 unfold execOp
 simp only [ho, Sem.run_bind, hrun, Result.andThen_ok, Sem.run_pure]
 exact hK _ _ (h _ _ (Nat.le_refl _) ((Below.refl _ _).alloc (Nat.le_refl _) _) (Box.new _ _ _))
theorem wpListIn_load_mid (hg : o.guard = none) (ty : TypeId) (x : Operand) (ho : o.op = .load ty x)
  (b off : Nat) (hx : a.eval x = .pointer (some ⟨b, off, none⟩)) (cs : List Value) (d : TypeDesc) (hc : w.rangeAt b off cs)
  (hu : P.underlying ty = some d) (hd : d.isRow = true) (hi : (P.info? ty).map (·.size) = some cs.length)
  (h : wpListIn F n P ops Q rest (a.put o.dst (.agg cs.toArray)) w) : wpListIn F n P ops Q (o :: rest) a w := by
 refine wpListIn_plain hg fun K hK => ?_
 unfold Oper.wpIn
 refine ⟨by simp [Oper.about, ho], ?_⟩
 rw [Oper.semAt_plain F _ _ (by rw [ho]; intro c hc'; cases hc')]
 unfold execOp
 simp only [ho, hx, Sem.run_bind, run_loadAt_mid w b off ty cs d hc hu hd hi, Result.andThen_ok, Sem.run_pure]
 exact hK _ _ h
theorem wpListIn_store_box (hg : o.guard = none) (ty : TypeId) (x y : Operand) (ho : o.op = .store ty x y) (B off : Nat) (T : TypeId) (old cells new : Array Value) (hx : a.eval x = .pointer (some ⟨B, off, none⟩)) (hy : a.eval y = .agg cells)
  (hb : Box w B T old) (hi : (P.info? ty).map (·.size) = some cells.size) (hold : off + cells.size ≤ old.size) (h1 : cells.all (·.oneCell') = true)
  (hn : old.toList.take off ++ cells.toList ++ old.toList.drop (off + cells.size) = new.toList)
  (h : ∀ W, KeepBut B w.heap.size w W → KeepsOthers w W → Box W B T new → wpListIn F n P ops Q rest (a.put o.dst undef) W) : wpListIn F n P ops Q (o :: rest) a w := by
 refine wpListIn_plain hg fun K hK => ?_
 unfold Oper.wpIn
 refine ⟨by simp [Oper.about, ho], ?_⟩
 rw [Oper.semAt_plain F _ _ (by rw [ho]; intro c hc'; cases hc')]
 unfold execOp
 simp only [ho, hx, hy, Sem.run_bind, run_storeAt_mid w B off ty cells (hb.there off cells.size hold) hi h1, Result.andThen_ok, Sem.run_pure]
 refine hK _ _ (h _ ((KeepBut.refl _ _).setCells _ _ _) (setCells_keeps (S := fun V => KeepsOthers w V) (B := B) (fun V i u hV => hV.trans (.setCell _ _ _)) _ _ _ (.refl _)) ?_)
 have := Box.setCells cells.toList off w old hb (by simpa using hold)
 simpa [hn] using this
end
theorem whole_new {old cells : Array Value} (h : old.size = cells.size) : old.toList.take 0 ++ cells.toList ++ old.toList.drop (0 + cells.size) = cells.toList := by
 simp [← h]
end
end Go.Mono
def List.look {α : Type} : List (Nat × α) → Nat → Option α
 | [], _ => none
 | p :: r, k => bif Nat.beq k p.1 then some p.2 else List.look r k
namespace Go.Ex
open Go.RowKit Go.Mono
@[simp] theorem look_nil {α : Type} (k : Nat) : ([] : List (Nat × α)).look k = none := rfl
theorem look_cons {α : Type} (k k' : Nat) (x : α) (l : List (Nat × α)) : List.look ((k', x) :: l) k = if k = k' then some x else List.look l k := by
 unfold List.look
 by_cases h : k = k'
 ·subst h
  simp
 ·have e : Nat.beq k k' = false := by
   cases hb : Nat.beq k k' with
   | false => rfl
   | true => exact absurd (Nat.eq_of_beq_eq_true hb) h
  rw [if_neg h]
  dsimp only
  rw [e]
  cases l <;> rfl
inductive U where
 | val (v : Value)
 | raw (n : Nat) (cs : List Value)
 | ptr (k off : Nat)
 | slc (k off len cap : Nat)
 | clo (f : FuncId) (caps : List (Nat × Nat))
 | quo (q : Rat)
 | sym (z : Int)
 | tst (b : Bool)
 | sli (k off len : Nat)
 | own (k len size : Nat)
 | yld (k : Nat)
 | dig (n : Nat)
 | tok (i : Nat)
 | emp
def U.w : U → Nat
 | .quo _ => 4
 | .raw n _ => n
 | _ => 1
inductive SA where
 | one (u : U)
 | agg (l : List U)
inductive SV where
 | a (x : SA)
 | tup (l : List SA)
 | no
structure Blk where
 T : TypeId
 cells : List U
 ro : Bool
 sp : Bool := false
 dead : Bool := false
structure Den where
 R : World → Rat → List Value → Prop
 ext : ∀ {w w' : World} {q : Rat} {cs : List Value}, R w q cs → Ext w w' → R w' q cs
 len : ∀ {w : World} {q : Rat} {cs : List Value}, R w q cs → cs.length = 4
 one : ∀ {w : World} {q : Rat} {cs : List Value}, R w q cs → ∀ v ∈ cs, v.oneCell' = true
 K : Nat → Value
 kone : ∀ i, (K i).oneCell' = true
 S : World → Nat → Value → Prop
 sext : ∀ {w w' : World} {n : Nat} {v : Value}, S w n v → Ext w w' → S w' n v
 sone : ∀ {w : World} {n : Nat} {v : Value}, S w n v → v.oneCell' = true
 split : ∀ {w : World} {q : Rat} {cs : List Value}, R w q cs → ∃ v1 v2, cs = [.bool (decide (q.num < 0)), v1, .bool false, v2] ∧ S w q.num.natAbs v1 ∧ S w q.den v2
structure Pl where
 blk : Nat
 base : Nat
 ro : Bool
 cap : Nat := 0
 tot : Nat := 0
abbrev Nm := Nat → Option Pl
def Nm.le (ρ ρ' : Nm) : Prop := ∀ k B, ρ k = some B → ρ' k = some B
theorem Nm.le.refl (ρ : Nm) : ρ.le ρ := fun _ _ h => h
theorem Nm.le.trans {a b c : Nm} (h : a.le b) (g : b.le c) : a.le c := fun k B hk => g k B (h k B hk)
section
variable (D : Den) (ρ : Nm) (w : World)
def adrs : List (Nat × Nat) → List Value → Prop
 | [], vs => vs = []
 | p :: r, vs => ∃ B v', ρ p.1 = some B ∧ vs = .pointer (some ⟨B.blk, B.base + p.2, none⟩) :: v' ∧ adrs r v'
def denU : U → List Value → Prop
 | .val v, cs => cs = [v] ∧ v.oneCell' = true
 | .raw n c, cs => cs = c ∧ c.length = n ∧ ∀ v ∈ c, v.oneCell' = true
 | .ptr k o, cs => ∃ B, ρ k = some B ∧ cs = [.pointer (some ⟨B.blk, B.base + o, none⟩)]
 | .slc k o n c, cs => ∃ B, ρ k = some B ∧ cs = [.slice (some ⟨B.blk, B.base + o, none⟩) n c]
 | .clo f caps, cs => ∃ vs, adrs ρ caps vs ∧ cs = [.func (.func f) #[] vs.toArray]
 | .quo q, cs => D.R w q cs
 | .sym z, cs => cs = [.int .i64 z]
 | .tst b, cs => cs = [.bool b]
 | .emp, cs => ∃ p c, (p = none → c = 0) ∧ cs = [.slice p 0 c]
 | .sli k o n, cs => ∃ B c, ρ k = some B ∧ n ≤ c ∧ cs = [.slice (some ⟨B.blk, B.base + o, none⟩) n c]
 | .own k n s, cs => ∃ B, ρ k = some B ∧ n ≤ B.cap ∧ B.tot = B.cap * s ∧ B.base = 0 ∧ cs = [.slice (some ⟨B.blk, 0, none⟩) n B.cap]
 | .yld k, cs => ∃ B, ρ k = some B ∧ cs = [.func (.yield B.blk) #[] #[]]
 | .dig n, cs => ∃ v, D.S w n v ∧ cs = [v]
 | .tok i, cs => cs = [D.K i]
def denL : List U → List Value → Prop
 | [], cs => cs = []
 | u :: l, cs => ∃ c d, cs = c ++ d ∧ denU D ρ w u c ∧ denL l d
def denA : SA → Value → Prop
 | .one u, v => denU D ρ w u [v]
 | .agg l, v => ∃ cs : List Value, v = .agg cs.toArray ∧ denL D ρ w l cs
def denAs : List SA → List Value → Prop
 | [], vs => vs = []
 | x :: l, vs => ∃ v r, vs = v :: r ∧ denA D ρ w x v ∧ denAs l r
def denV : SV → Value → Prop
 | .a x, v => denA D ρ w x v
 | .tup l, v => ∃ vs : List Value, v = .tuple vs.toArray ∧ denAs D ρ w l vs
 | .no, _ => True
end
section
variable {D : Den} {ρ ρ' : Nm} {w w' : World}
theorem adrs.mono (h : ρ.le ρ') : ∀ {l : List (Nat × Nat)} {vs : List Value}, adrs ρ l vs → adrs ρ' l vs
 | [], _, e => e
 | p :: r, vs, ⟨B, v', hB, e, hr⟩ => ⟨B, v', h _ _ hB, e, adrs.mono h hr⟩
theorem adrs.one : ∀ {l : List (Nat × Nat)} {vs : List Value}, adrs ρ l vs → vs.length = l.length
 | [], _, e => by rw [show _ = [] from e]; rfl
 | p :: r, vs, ⟨B, v', hB, e, hr⟩ => by rw [e, List.length_cons, adrs.one hr]; rfl
theorem denU.mono (h : ρ.le ρ') (hx : Ext w w') : ∀ {u : U} {cs : List Value}, denU D ρ w u cs → denU D ρ' w' u cs
 | .val _, _, e => e
 | .raw _ _, _, e => e
 | .ptr _ _, _, ⟨B, hB, e⟩ => ⟨B, h _ _ hB, e⟩
 | .slc _ _ _ _, _, ⟨B, hB, e⟩ => ⟨B, h _ _ hB, e⟩
 | .clo _ _, _, ⟨vs, hv, e⟩ => ⟨vs, hv.mono h, e⟩
 | .quo _, _, e => D.ext e hx
 | .sym _, _, e => e
 | .tst _, _, e => e
 | .sli _ _ _, _, ⟨B, c, hB, hc, e⟩ => ⟨B, c, h _ _ hB, hc, e⟩
 | .own _ _ _, _, ⟨B, hB, e⟩ => ⟨B, h _ _ hB, e⟩
 | .yld _, _, ⟨B, hB, e⟩ => ⟨B, h _ _ hB, e⟩
 | .dig _, _, ⟨v, hv, e⟩ => ⟨v, D.sext hv hx, e⟩
 | .tok _, _, e => e
 | .emp, _, e => e
theorem denL.mono (h : ρ.le ρ') (hx : Ext w w') : ∀ {l : List U} {cs : List Value}, denL D ρ w l cs → denL D ρ' w' l cs
 | [], _, e => e
 | u :: l, _, ⟨c, d, e, hc, hd⟩ => ⟨c, d, e, hc.mono h hx, denL.mono h hx hd⟩
theorem denA.mono (h : ρ.le ρ') (hx : Ext w w') : ∀ {x : SA} {v : Value}, denA D ρ w x v → denA D ρ' w' x v
 | .one _, _, e => denU.mono h hx e
 | .agg _, _, ⟨cs, e, hl⟩ => ⟨cs, e, hl.mono h hx⟩
theorem denAs.mono (h : ρ.le ρ') (hx : Ext w w') : ∀ {l : List SA} {vs : List Value}, denAs D ρ w l vs → denAs D ρ' w' l vs
 | [], _, e => e
 | x :: l, _, ⟨v, r, e, hv, hr⟩ => ⟨v, r, e, hv.mono h hx, denAs.mono h hx hr⟩
theorem denV.mono (h : ρ.le ρ') (hx : Ext w w') : ∀ {x : SV} {v : Value}, denV D ρ w x v → denV D ρ' w' x v
 | .a _, _, e => denA.mono h hx e
 | .tup _, _, ⟨vs, e, hl⟩ => ⟨vs, e, hl.mono h hx⟩
 | .no, _, _ => trivial
def widths (l : List U) : Nat := l.foldr (fun u n => u.w + n) 0
theorem denU.len : ∀ {u : U} {cs : List Value}, denU D ρ w u cs → cs.length = u.w
 | .val _, _, ⟨e, _⟩ => by rw [e]; rfl
 | .raw _ _, _, ⟨e, hn, _⟩ => by rw [e]; exact hn
 | .ptr _ _, _, ⟨B, hB, e⟩ => by rw [e]; rfl
 | .slc _ _ _ _, _, ⟨B, hB, e⟩ => by rw [e]; rfl
 | .clo _ _, _, ⟨vs, hv, e⟩ => by rw [e]; rfl
 | .quo _, _, e => D.len e
 | .sym _, _, e => by rw [show _ = _ from e]; rfl
 | .tst _, _, e => by rw [show _ = _ from e]; rfl
 | .sli _ _ _, _, ⟨B, c, hB, hc, e⟩ => by rw [e]; rfl
 | .own _ _ _, _, ⟨B, hB, h1, h2, h3, e⟩ => by rw [e]; rfl
 | .yld _, _, ⟨B, hB, e⟩ => by rw [e]; rfl
 | .dig _, _, ⟨v, hv, e⟩ => by rw [e]; rfl
 | .tok _, _, e => by rw [show _ = _ from e]; rfl
 | .emp, _, ⟨p, c, hp, e⟩ => by rw [e]; rfl
theorem denU.ones : ∀ {u : U} {cs : List Value}, denU D ρ w u cs → ∀ v ∈ cs, v.oneCell' = true
 | .val _, _, ⟨e, h⟩ => by rw [e]; simpa using h
 | .raw _ _, _, ⟨e, hn, h⟩ => by rw [e]; exact h
 | .ptr _ _, _, ⟨B, hB, e⟩ => by rw [e]; simp [Value.oneCell']
 | .slc _ _ _ _, _, ⟨B, hB, e⟩ => by rw [e]; simp [Value.oneCell']
 | .clo _ _, _, ⟨vs, hv, e⟩ => by rw [e]; simp [Value.oneCell']
 | .quo _, _, e => D.one e
 | .sym _, _, e => by rw [show _ = _ from e]; simp [Value.oneCell']
 | .tst _, _, e => by rw [show _ = _ from e]; simp [Value.oneCell']
 | .sli _ _ _, _, ⟨B, c, hB, hc, e⟩ => by rw [e]; simp [Value.oneCell']
 | .own _ _ _, _, ⟨B, hB, h1, h2, h3, e⟩ => by rw [e]; simp [Value.oneCell']
 | .yld _, _, ⟨B, hB, e⟩ => by rw [e]; simp [Value.oneCell']
 | .dig _, _, ⟨v, hv, e⟩ => by rw [e]; simpa using D.sone hv
 | .tok _, _, e => by rw [show _ = _ from e]; simpa using D.kone _
 | .emp, _, ⟨p, c, hp, e⟩ => by rw [e]; simp [Value.oneCell']
theorem denL.len : ∀ {l : List U} {cs : List Value}, denL D ρ w l cs → cs.length = widths l
 | [], _, e => by rw [show _ = [] from e]; rfl
 | u :: l, _, ⟨c, d, e, hc, hd⟩ => by rw [e, List.length_append, hc.len, denL.len hd]; rfl
theorem denL.ones : ∀ {l : List U} {cs : List Value}, denL D ρ w l cs → ∀ v ∈ cs, v.oneCell' = true
 | [], _, e => by rw [show _ = [] from e]; simp
 | u :: l, _, ⟨c, d, e, hc, hd⟩ => by
   rw [e]
   intro v hv
   rcases List.mem_append.1 hv with h | h
   ·exact hc.ones v h
   ·exact denL.ones hd v h
theorem denL.append : ∀ {l m : List U} {cs ds : List Value}, denL D ρ w l cs → denL D ρ w m ds → denL D ρ w (l ++ m) (cs ++ ds)
 | [], m, cs, ds, e, hm => by rw [show cs = [] from e]; exact hm
 | u :: l, m, _, ds, ⟨c, d, e, hc, hd⟩, hm => ⟨c, d ++ ds, by rw [e, List.append_assoc], hc, denL.append hd hm⟩
def takeU : List U → Nat → Option (List U)
 | _, 0 => some []
 | [], _ + 1 => none
 | u :: l, n + 1 => if u.w = 0 then none else if u.w ≤ n + 1 then (takeU l (n + 1 - u.w)).map (u :: ·) else none
def dropU : List U → Nat → Option (List U)
 | l, 0 => some l
 | [], _ + 1 => none
 | u :: l, n + 1 => if u.w = 0 then none else if u.w ≤ n + 1 then dropU l (n + 1 - u.w) else none
def subU (l : List U) (off n : Nat) : Option (List U) := (dropU l off).bind fun m => takeU m n
def putU (l : List U) (off : Nat) (us : List U) : Option (List U) :=
 (takeU l off).bind fun a => (dropU l (off + widths us)).map fun b => a ++ (us ++ b)
theorem takeU_den : ∀ {l : List U} {n : Nat} {m : List U} {cs : List Value}, takeU l n = some m → denL D ρ w l cs → denL D ρ w m (cs.take n) ∧ (cs.take n).length = n
 | l, 0, m, cs, h, hd => by
   have : m = [] := by cases l <;> (simp only [takeU, Option.some.injEq] at h; exact h.symm)
   subst this
   exact ⟨by simp [denL], by simp⟩
 | [], n + 1, m, cs, h, hd => by simp [takeU] at h
 | u :: l, n + 1, m, cs, h, hd => by
   simp only [takeU] at h
   split at h
   ·cases h
   ·rename_i h0
    split at h
    ·rename_i hw
     obtain ⟨m', hm, rfl⟩ := Option.map_eq_some_iff.1 h
     obtain ⟨c, d, rfl, hc, hd'⟩ := hd
     have hl := hc.len
     obtain ⟨h1, h2⟩ := takeU_den hm hd'
     have e : (c ++ d).take (n + 1) = c ++ d.take (n + 1 - u.w) := by
      rw [List.take_append, hl, List.take_of_length_le (by omega)]
     rw [e]
     exact ⟨⟨c, _, rfl, hc, h1⟩, by rw [List.length_append, h2, hl]; omega⟩
    ·cases h
theorem dropU_den : ∀ {l : List U} {n : Nat} {m : List U} {cs : List Value}, dropU l n = some m → denL D ρ w l cs → denL D ρ w m (cs.drop n) ∧ n ≤ cs.length
 | l, 0, m, cs, h, hd => by
   have : m = l := by cases l <;> (simp only [dropU, Option.some.injEq] at h; exact h.symm)
   subst this
   exact ⟨by simpa using hd, by simp⟩
 | [], n + 1, m, cs, h, hd => by simp [dropU] at h
 | u :: l, n + 1, m, cs, h, hd => by
   simp only [dropU] at h
   split at h
   ·cases h
   ·split at h
    ·rename_i h0 hw
     obtain ⟨c, d, rfl, hc, hd'⟩ := hd
     have hl := hc.len
     obtain ⟨h1, h2⟩ := dropU_den h hd'
     have e : (c ++ d).drop (n + 1) = d.drop (n + 1 - u.w) := by
      rw [List.drop_append, hl, List.drop_of_length_le (by omega), List.nil_append]
     rw [e]
     exact ⟨h1, by rw [List.length_append, hl]; omega⟩
    ·cases h
theorem subU_den {l : List U} {off n : Nat} {m : List U} {cs : List Value} (h : subU l off n = some m) (hd : denL D ρ w l cs) : denL D ρ w m ((cs.drop off).take n) ∧ ((cs.drop off).take n).length = n := by
 unfold subU at h
 obtain ⟨m', h1, h2⟩ := Option.bind_eq_some_iff.1 h
 exact takeU_den h2 (dropU_den h1 hd).1
theorem putU_den {l : List U} {off : Nat} {us m : List U} {cs ps : List Value} (h : putU l off us = some m) (hd : denL D ρ w l cs) (hp : denL D ρ w us ps) :
  denL D ρ w m (cs.take off ++ ps ++ cs.drop (off + ps.length)) ∧ off + ps.length ≤ cs.length := by
 unfold putU at h
 obtain ⟨a, h1, h2⟩ := Option.bind_eq_some_iff.1 h
 obtain ⟨b, h3, rfl⟩ := Option.map_eq_some_iff.1 h2
 rw [← hp.len] at h3
 obtain ⟨k1, k2⟩ := dropU_den h3 hd
 exact ⟨by rw [List.append_assoc]; exact (takeU_den h1 hd).1.append (hp.append k1), k2⟩
def expU : U → List U
 | .quo q => [.val (.bool (decide (q.num < 0))), .dig q.num.natAbs, .val (.bool false), .dig q.den]
 | u => [u]
def expL : List U → List U
 | [] => []
 | u :: l => expU u ++ expL l
theorem expL_den : ∀ {l : List U} {cs : List Value}, denL D ρ w l cs → denL D ρ w (expL l) cs
 | [], cs, h => h
 | u :: l, _, ⟨c, d, e, hc, hd⟩ => by
   subst e
   refine denL.append ?_ (expL_den hd)
   cases u with
   | quo q =>
     obtain ⟨v1, v2, rfl, h1, h2⟩ := D.split hc
     exact ⟨[_], _, rfl, ⟨rfl, rfl⟩, [v1], _, rfl, ⟨v1, h1, rfl⟩, [_], _, rfl, ⟨rfl, rfl⟩, [v2], [], rfl, ⟨v2, h2, rfl⟩, rfl⟩
   | _ => exact ⟨c, [], (List.append_nil c).symm, hc, rfl⟩
def subX (l : List U) (off n : Nat) : Option (List U) :=
 match subU l off n with
 | some m => some m
 | none => subU (expL l) off n
def putX (l : List U) (off : Nat) (us : List U) : Option (List U) :=
 match putU l off us with
 | some m => some m
 | none => putU (expL l) off us
theorem subX_den {l : List U} {off n : Nat} {m : List U} {cs : List Value} (h : subX l off n = some m) (hd : denL D ρ w l cs) : denL D ρ w m ((cs.drop off).take n) ∧ ((cs.drop off).take n).length = n := by
 unfold subX at h
 split at h
 ·rename_i m' h'
  cases h
  exact subU_den h' hd
 ·exact subU_den h (expL_den hd)
theorem putX_den {l : List U} {off : Nat} {us m : List U} {cs ps : List Value} (h : putX l off us = some m) (hd : denL D ρ w l cs) (hp : denL D ρ w us ps) :
  denL D ρ w m (cs.take off ++ ps ++ cs.drop (off + ps.length)) ∧ off + ps.length ≤ cs.length := by
 unfold putX at h
 split at h
 ·rename_i m' h'
  cases h
  exact putU_den h' hd hp
 ·exact putU_den h (expL_den hd) hp
theorem denL_vals : ∀ (vs : List Value), (∀ v ∈ vs, v.oneCell' = true) → denL D ρ w (vs.map .val) vs
 | [], _ => rfl
 | v :: r, h => ⟨[v], r, rfl, ⟨rfl, h v (List.mem_cons_self ..)⟩, denL_vals r fun u hu => h u (List.mem_cons_of_mem _ hu)⟩
def realU : U → Option (List Value)
 | .val v => some [v]
 | .raw _ cs => some cs
 | .sym z => some [.int .i64 z]
 | .tst b => some [.bool b]
 | _ => none
def realL : List U → Option (List Value)
 | [] => some []
 | u :: l => (realU u).bind fun a => (realL l).map (a ++ ·)
def realA : SA → Option Value
 | .one (.val v) => some v
 | .one (.sym z) => some (.int .i64 z)
 | .one (.tst b) => some (.bool b)
 | .one _ => none
 | .agg l => (realL l).map fun cs => .agg cs.toArray
def realAs : List SA → Option (List Value)
 | [] => some []
 | x :: l => (realA x).bind fun a => (realAs l).map (a :: ·)
def realV : SV → Option Value
 | .a x => realA x
 | .tup l => (realAs l).map fun vs => .tuple vs.toArray
 | .no => none
theorem realU_den : ∀ {u : U} {a cs : List Value}, realU u = some a → denU D ρ w u cs → cs = a
 | .val v, a, cs, h, ⟨e, _⟩ => by cases h; exact e
 | .raw _ _, a, cs, h, ⟨e, _⟩ => by cases h; exact e
 | .sym _, a, cs, h, e => by cases h; exact e
 | .tst _, a, cs, h, e => by cases h; exact e
theorem realL_den : ∀ {l : List U} {a cs : List Value}, realL l = some a → denL D ρ w l cs → cs = a
 | [], a, cs, h, e => by cases h; exact e
 | u :: l, a, cs, h, ⟨c, d, e, hc, hd⟩ => by
   unfold realL at h
   obtain ⟨x, hx, h2⟩ := Option.bind_eq_some_iff.1 h
   obtain ⟨y, hy, rfl⟩ := Option.map_eq_some_iff.1 h2
   rw [e, realU_den hx hc, realL_den hy hd]
theorem realA_den : ∀ {x : SA} {a v : Value}, realA x = some a → denA D ρ w x v → v = a
 | .one (.val u), a, v, h, e => by
   cases h
   have := e.1
   simpa using this
 | .one (.sym z), a, v, h, e => by
   cases h
   simpa [denA, denU] using e
 | .one (.tst z), a, v, h, e => by
   cases h
   simpa [denA, denU] using e
 | .agg l, a, v, h, ⟨cs, e, hl⟩ => by
   unfold realA at h
   obtain ⟨y, hy, rfl⟩ := Option.map_eq_some_iff.1 h
   rw [e, realL_den hy hl]
theorem realAs_den : ∀ {l : List SA} {a vs : List Value}, realAs l = some a → denAs D ρ w l vs → vs = a
 | [], a, cs, h, e => by cases h; exact e
 | x :: l, a, cs, h, ⟨v, r, e, hv, hr⟩ => by
   unfold realAs at h
   obtain ⟨y, hy, h2⟩ := Option.bind_eq_some_iff.1 h
   obtain ⟨z, hz, rfl⟩ := Option.map_eq_some_iff.1 h2
   rw [e, realA_den hy hv, realAs_den hz hr]
theorem realV_den : ∀ {x : SV} {a v : Value}, realV x = some a → denV D ρ w x v → v = a
 | .a x, a, v, h, e => realA_den h e
 | .tup l, a, v, h, ⟨vs, e, hl⟩ => by
   unfold realV at h
   obtain ⟨y, hy, rfl⟩ := Option.map_eq_some_iff.1 h
   rw [e, realAs_den hy hl]
def ncase {α : Type} (n : Nat) (f : Nat → α) : α :=
 match n with
 | 0 => f 0
 | k + 1 => f (k + 1)
theorem ncase_eq {α : Type} (n : Nat) (f : Nat → α) : ncase n f = f n := by cases n <;> rfl
def icase {α : Type} (z : Int) (f : Int → α) : α :=
 match z with
 | .ofNat n => ncase n fun m => f (.ofNat m)
 | .negSucc n => ncase n fun m => f (.negSucc m)
theorem icase_eq {α : Type} (z : Int) (f : Int → α) : icase z f = f z := by cases z <;> simp only [icase, ncase_eq]
def qcase {α : Type} (q : Rat) (f : Rat → α) : α := icase q.num fun n => ncase q.den fun d => f (mkRat n d)
theorem qcase_eq {α : Type} (q : Rat) (f : Rat → α) : qcase q f = f q := by
 unfold qcase
 rw [icase_eq, ncase_eq, Rat.mkRat_self]
def ofValA : Value → Option SA
 | .int k z => icase z fun z => some (.one (.val (.int k z)))
 | .bool true => some (.one (.val (.bool true)))
 | .bool false => some (.one (.val (.bool false)))
 | .agg cs => if cs.toList.all (·.oneCell') then some (.agg (cs.toList.map .val)) else none
 | v => if v.oneCell' then some (.one (.val v)) else none
def ofVals : List Value → Option (List SA)
 | [] => some []
 | v :: r => (ofValA v).bind fun a => (ofVals r).map (a :: ·)
def ofVal : Value → Option SV
 | .tuple vs => (ofVals vs.toList).map .tup
 | v => (ofValA v).map .a
theorem ofValA_den {v : Value} {x : SA} (h : ofValA v = some x) : denA D ρ w x v := by
 unfold ofValA at h
 split at h
 ·rw [icase_eq] at h
  cases h
  exact ⟨rfl, rfl⟩
 ·cases h
  exact ⟨rfl, rfl⟩
 ·cases h
  exact ⟨rfl, rfl⟩
 ·rename_i cs
  split at h
  ·rename_i hc
   cases h
   exact ⟨cs.toList, rfl, denL_vals _ fun v hv => List.all_eq_true.1 hc v hv⟩
  ·cases h
 ·split at h
  ·rename_i hc
   cases h
   exact ⟨rfl, hc⟩
  ·cases h
theorem ofVals_den : ∀ {vs : List Value} {l : List SA}, ofVals vs = some l → denAs D ρ w l vs
 | [], l, h => by cases h; rfl
 | v :: r, l, h => by
   unfold ofVals at h
   obtain ⟨a, ha, h2⟩ := Option.bind_eq_some_iff.1 h
   obtain ⟨m, hm, rfl⟩ := Option.map_eq_some_iff.1 h2
   exact ⟨v, r, rfl, ofValA_den ha, ofVals_den hm⟩
theorem ofVal_den {v : Value} {x : SV} (h : ofVal v = some x) : denV D ρ w x v := by
 unfold ofVal at h
 split at h
 ·rename_i vs
  obtain ⟨l, hl, rfl⟩ := Option.map_eq_some_iff.1 h
  exact ⟨vs.toList, by simp, ofVals_den hl⟩
 ·obtain ⟨l, hl, rfl⟩ := Option.map_eq_some_iff.1 h
  exact ofValA_den hl
end
end Go.Ex
