/- Contracts of the program's fractions, lenses and rays, and a verified evaluator of the model. Part 1 of 30. No condition beside the row. -/
import Derived.Test.YtcgfdibagldafaaGreatDoorChecked
import Derived.WalkKit
import Derived.WalkSpells
import Derived.WalkLawsBesides
import Derived.Deep.QuietTactic
import Derived.BigQuiet
import Derived.Lib.Hide
import Derived.Deep.RegionHeld3
import Derived.Laws.CopyOwn
import Derived.Laws.AppendOwnNone
set_option linter.unusedVariables false
set_option linter.unusedSimpArgs false
set_option maxRecDepth 100000
set_option maxHeartbeats 4000000
namespace Go.Mono
abbrev B : Int := 1000000000
def pw : Nat → Int
 | 0 => 1
 | k + 1 => pw k * 1000000000
theorem pw_succ (k : Nat) : pw (k + 1) = pw k * 1000000000 := rfl
theorem pw_pos (k : Nat) : 0 < pw k := by induction k with
 | zero => decide
 | succ k ih => rw [pw_succ]; omega
theorem pw_add (i k : Nat) : pw (i + k) = pw i * pw k := by induction k with
 | zero => simp [pw]
 | succ k ih => rw [← Nat.add_assoc, pw_succ, ih, pw_succ]; grind
theorem pw_mono {i k : Nat} (h : i ≤ k) : pw i ≤ pw k := by
 obtain ⟨d, rfl⟩ := Nat.exists_eq_add_of_le h
 rw [pw_add]
 have h1 := pw_pos i
 have h2 := pw_pos d
 have h3 : pw i * 1 ≤ pw i * pw d := Int.mul_le_mul_of_nonneg_left (by omega) (by omega)
 omega
def vf (f : Nat → Int) : Nat → Int
 | 0 => 0
 | k + 1 => vf f k + f k * pw k
theorem vf_succ (f : Nat → Int) (k : Nat) : vf f (k + 1) = vf f k + f k * pw k := rfl
theorem vf_congr {f g : Nat → Int} {k : Nat} (h : ∀ i, i < k → f i = g i) : vf f k = vf g k := by
 induction k with
 | zero => rfl
 | succ k ih => rw [vf_succ, vf_succ, ih fun i hi => h i (by omega), h k (by omega)]
theorem vf_zero {f : Nat → Int} {k : Nat} (h : ∀ i, i < k → f i = 0) : vf f k = 0 := by
 induction k with
 | zero => rfl
 | succ k ih => rw [vf_succ, ih fun i hi => h i (by omega), h k (by omega)]; simp
theorem vf_nonneg {f : Nat → Int} {k : Nat} (h : ∀ i, i < k → 0 ≤ f i) : 0 ≤ vf f k := by
 induction k with
 | zero => exact Int.le_refl _
 | succ k ih =>
   rw [vf_succ]
   have := ih fun i hi => h i (by omega)
   have := Int.mul_nonneg (h k (by omega)) (Int.le_of_lt (pw_pos k))
   omega
theorem vf_lt {f : Nat → Int} {k : Nat} (h : ∀ i, i < k → f i < 1000000000) : vf f k < pw k := by
 induction k with
 | zero => exact Int.zero_lt_one
 | succ k ih =>
   rw [vf_succ, pw_succ]
   have h1 := ih fun i hi => h i (by omega)
   have h2 := h k (by omega)
   have h3 : f k * pw k ≤ 999999999 * pw k := Int.mul_le_mul_of_nonneg_right (by omega) (Int.le_of_lt (pw_pos k))
   omega
theorem vf_set (f : Nat → Int) (i : Nat) (x : Int) (k : Nat) : vf (fun j => if j = i then x else f j) k = vf f k + (if i < k then (x - f i) * pw i else 0) := by
 induction k with
 | zero => simp [vf]
 | succ k ih =>
   rw [vf_succ, vf_succ, ih]
   by_cases h : i < k
   ·have h2 : ¬ k = i := by omega
    have h3 : i < k + 1 := by omega
    simp only [h, h2, h3, if_true, if_false]; omega
   ·by_cases h2 : k = i
    ·subst h2
     have h3 : k < k + 1 := by omega
     simp only [h, h3, if_true, if_false]; grind
    ·have h3 : ¬ i < k + 1 := by omega
     simp only [h, h2, h3, if_false]; omega
theorem vf_split (f : Nat → Int) (i k : Nat) : vf f (i + k) = vf f i + pw i * vf (fun j => f (i + j)) k := by
 induction k with
 | zero => simp [vf]
 | succ k ih => rw [← Nat.add_assoc, vf_succ, ih, vf_succ, pw_add]; grind
structure Digs (f : Nat → Int) (n : Nat) : Prop where
 lo : ∀ i, i < n → 0 ≤ f i
 hi : ∀ i, i < n → f i < 1000000000
 top : 0 < n → f (n - 1) ≠ 0
theorem Digs.ge {f : Nat → Int} {n : Nat} (h : Digs f n) (hn : 0 < n) : pw (n - 1) ≤ vf f n := by
 obtain ⟨k, rfl⟩ : ∃ k, n = k + 1 := ⟨n - 1, by omega⟩
 have h1 := h.top hn
 have h2 := h.lo k (by omega)
 simp only [Nat.add_sub_cancel] at h1 ⊢
 rw [vf_succ]
 have h3 := vf_nonneg (f := f) (k := k) fun i hi => h.lo i (by omega)
 have h4 : 1 * pw k ≤ f k * pw k := Int.mul_le_mul_of_nonneg_right (by omega) (Int.le_of_lt (pw_pos k))
 omega
theorem Digs.lt {f : Nat → Int} {n : Nat} (h : Digs f n) : vf f n < pw n := vf_lt h.hi
theorem Digs.nonneg {f : Nat → Int} {n : Nat} (h : Digs f n) : 0 ≤ vf f n := vf_nonneg h.lo
theorem Digs.len_le {f g : Nat → Int} {n m : Nat} (hf : Digs f n) (hg : Digs g m) (h : vf f n ≤ vf g m) : n ≤ m := by
 by_cases hn : 0 < n
 ·have h1 := hf.ge hn
  have h2 := hg.lt
  rcases Nat.lt_or_ge m n with h3 | h3
  ·have := pw_mono (i := m) (k := n - 1) (by omega); omega
  ·exact h3
 ·omega
theorem Digs.pos {f : Nat → Int} {n : Nat} (h : Digs f n) : 0 < vf f n ↔ 0 < n := by
 constructor
 ·intro hv
  rcases Nat.eq_zero_or_pos n with rfl | h0
  ·simp [vf] at hv
  ·exact h0
 ·intro hn; have := h.ge hn; have := pw_pos (n - 1); omega
theorem dig_unique {f g : Nat → Int} {n : Nat} (hf0 : ∀ i, i < n → 0 ≤ f i) (hf1 : ∀ i, i < n → f i < 1000000000) (hg0 : ∀ i, i < n → 0 ≤ g i) (hg1 : ∀ i, i < n → g i < 1000000000) (h : vf f n = vf g n) : ∀ i, i < n → f i = g i := by
 induction n with
 | zero => intro i hi; omega
 | succ n ih =>
   rw [vf_succ, vf_succ] at h
   have a1 := vf_nonneg (f := f) (k := n) fun i hi => hf0 i (by omega)
   have a2 := vf_nonneg (f := g) (k := n) fun i hi => hg0 i (by omega)
   have b1 := vf_lt (f := f) (k := n) fun i hi => hf1 i (by omega)
   have b2 := vf_lt (f := g) (k := n) fun i hi => hg1 i (by omega)
   have e : f n = g n := by
    rcases Int.lt_trichotomy (f n) (g n) with h1 | h1 | h1
    ·have : (f n + 1) * pw n ≤ g n * pw n := Int.mul_le_mul_of_nonneg_right (by omega) (Int.le_of_lt (pw_pos n))
     rw [Int.add_mul] at this; omega
    ·exact h1
    ·have : (g n + 1) * pw n ≤ f n * pw n := Int.mul_le_mul_of_nonneg_right (by omega) (Int.le_of_lt (pw_pos n))
     rw [Int.add_mul] at this; omega
   rw [e] at h
   intro i hi
   rcases Nat.lt_or_ge i n with h1 | h1
   ·exact ih (fun i hi => hf0 i (by omega)) (fun i hi => hf1 i (by omega)) (fun i hi => hg0 i (by omega)) (fun i hi => hg1 i (by omega)) (by omega) i h1
   ·obtain rfl : i = n := by omega
    exact e
theorem Digs.unique {f g : Nat → Int} {n m : Nat} (hf : Digs f n) (hg : Digs g m) (h : vf f n = vf g m) : n = m ∧ ∀ i, i < n → f i = g i := by
 have h1 := hf.len_le hg (Int.le_of_eq h)
 have h2 := hg.len_le hf (Int.le_of_eq h.symm)
 obtain rfl : n = m := by omega
 exact ⟨rfl, dig_unique hf.lo hf.hi hg.lo hg.hi h⟩
def trimN (f : Nat → Int) : Nat → Nat
 | 0 => 0
 | k + 1 => if f k = 0 then trimN f k else k + 1
theorem trimN_le (f : Nat → Int) (k : Nat) : trimN f k ≤ k := by
 induction k with
 | zero => exact Nat.le_refl _
 | succ k ih => rw [trimN]; split <;> omega
theorem trimN_zero (f : Nat → Int) (k : Nat) (hk : 0 < k) (h : f (k - 1) = 0) : trimN f k = trimN f (k - 1) := by
 obtain ⟨k, rfl⟩ : ∃ j, k = j + 1 := ⟨k - 1, by omega⟩
 simp only [Nat.add_sub_cancel] at h ⊢
 rw [trimN, if_pos h]
theorem trimN_ne (f : Nat → Int) (k : Nat) (hk : 0 < k) (h : ¬ f (k - 1) = 0) : trimN f k = k := by
 obtain ⟨k, rfl⟩ : ∃ j, k = j + 1 := ⟨k - 1, by omega⟩
 simp only [Nat.add_sub_cancel] at h ⊢
 rw [trimN, if_neg h]
theorem trimN_can {f : Nat → Int} {k : Nat} (h0 : ∀ i, i < k → 0 ≤ f i) (h1 : ∀ i, i < k → f i < 1000000000) : Digs f (trimN f k) ∧ vf f (trimN f k) = vf f k := by
 induction k with
 | zero => exact ⟨⟨fun i hi => by simp [trimN] at hi, fun i hi => by simp [trimN] at hi, fun h => by simp [trimN] at h⟩, rfl⟩
 | succ k ih =>
   rw [trimN]
   split
   ·rename_i hz
    obtain ⟨a, b⟩ := ih (fun i hi => h0 i (by omega)) (fun i hi => h1 i (by omega))
    exact ⟨a, by rw [b, vf_succ, hz]; simp⟩
   ·rename_i hz
    exact ⟨⟨h0, h1, fun _ => by simpa using hz⟩, rfl⟩
section
open Go.RowKit
theorem lt_of_some {w : World} {k : Nat} {o : Obj} (h : w.heap[k]? = some o) : k < w.heap.size := (Array.getElem?_eq_some_iff.1 h).1
structure Ext (w w' : World) : Prop where
 size : w.heap.size ≤ w'.heap.size
 kept : ∀ (k : Nat) cs fr, w.heap[k]? = some (.cells cs 3 fr) → w'.heap[k]? = some (.cells cs 3 fr)
theorem Ext.refl (w : World) : Ext w w := ⟨Nat.le_refl _, fun _ _ _ h => h⟩
theorem Ext.trans {a b c : World} (h : Ext a b) (k : Ext b c) : Ext a c := ⟨Nat.le_trans h.size k.size, fun i cs fr hi => k.kept i cs fr (h.kept i cs fr hi)⟩
theorem Ext.of_below {w w' : World} (h : Below w.heap.size w w') : Ext w w' := ⟨h.size, fun k _ _ hk => (h.block k (lt_of_some hk)).trans hk⟩
theorem Ext.below {a w w' : World} (h : Ext a w) (hb : Below w.heap.size w w') : Ext a w' := h.trans (.of_below hb)
theorem Ext.drew {a w : World} (h : Ext a w) : Ext a w.drew := ⟨h.size, h.kept⟩
theorem Ext.alloc {a w : World} (h : Ext a w) (o : Obj) : Ext a (w.alloc o) := h.below ((Below.refl _ _).alloc (Nat.le_refl _) o)
def SlF (w : World) (v : Value) (n : Nat) (f : Nat → Int) : Prop :=
 (v = .slice none 0 0 ∧ n = 0) ∨ ∃ b off cap cs fr, v = .slice (some ⟨b, off, none⟩) n cap ∧ n ≤ cap ∧ n ≤ 140737488351232 ∧ w.heap[b]? = some (.cells cs 3 fr) ∧ ∀ i, i < n → cs[off + i]? = some (.int .i64 (f i))
theorem SlF.ext {w w' : World} {v : Value} {n : Nat} {f : Nat → Int} (h : SlF w v n f) (hx : Ext w w') : SlF w' v n f := by
 rcases h with h | ⟨b, off, cap, cs, fr, hv, hc, hc2, hh, hi⟩
 ·exact .inl h
 ·exact .inr ⟨b, off, cap, cs, fr, hv, hc, hc2, hx.kept _ _ _ hh, hi⟩
theorem SlF.open {w : World} {v : Value} {n : Nat} {f : Nat → Int} (h : SlF w v n f) : ∃ p cap, v = .slice p n cap ∧ n ≤ cap ∧ n ≤ 140737488351232 ∧
  (0 < n → ∃ b off, p = some ⟨b, off, none⟩ ∧ b < w.heap.size ∧ (∀ i, i < n → w.cell? ⟨b, off + i, none⟩ = some (.int .i64 (f i)))) := by
 rcases h with ⟨rfl, rfl⟩ | ⟨b, off, cap, cs, fr, rfl, hc, hc2, hh, hi⟩
 ·exact ⟨none, 0, rfl, Nat.le_refl _, by omega, fun h => by omega⟩
 ·exact ⟨_, cap, rfl, hc, by omega, fun _ => ⟨b, off, rfl, lt_of_some hh, fun i hn => by simp [World.cell?, hh, hi i hn]⟩⟩
theorem SlF.take {w : World} {p : Option Addr} {n cap : Nat} {f : Nat → Int} (h : SlF w (.slice p n cap) n f) (k : Nat) (hk : k ≤ n) : SlF w (.slice p k cap) k f := by
 rcases h with ⟨h, rfl⟩ | ⟨b, off, cap', cs, fr, hv, hc, hc2, hh, hi⟩
 ·obtain rfl : k = 0 := by omega
  exact .inl ⟨h, rfl⟩
 ·simp only [Value.slice.injEq] at hv
  obtain ⟨rfl, _, rfl⟩ := hv
  exact .inr ⟨b, off, cap, cs, fr, rfl, by omega, by omega, hh, fun i hi' => hi i (by omega)⟩
def Sz (m : Nat) (w : World) (v : Value) (N : Int) : Prop := ∃ n f, SlF w v n f ∧ Digs f n ∧ vf f n = N ∧ n ≤ m
theorem Sz.ext {m : Nat} {w w' : World} {v : Value} {N : Int} (h : Sz m w v N) (hx : Ext w w') : Sz m w' v N := by
 obtain ⟨n, f, h1, h2⟩ := h
 exact ⟨n, f, h1.ext hx, h2⟩
theorem Sz.mono {m m' : Nat} {w : World} {v : Value} {N : Int} (h : Sz m w v N) (hm : m ≤ m') : Sz m' w v N := by
 obtain ⟨n, f, h1, h2, h3, h4⟩ := h
 exact ⟨n, f, h1, h2, h3, by omega⟩
theorem Sz.nonneg {m : Nat} {w : World} {v : Value} {N : Int} (h : Sz m w v N) : 0 ≤ N := by
 obtain ⟨n, f, h1, h2, rfl, h4⟩ := h
 exact h2.nonneg
theorem Sz.slice {m : Nat} {w : World} {v : Value} {N : Int} (h : Sz m w v N) : ∃ p n c, v = .slice p n c ∧ n ≤ m := by
 obtain ⟨n, f, h1, h2, rfl, h4⟩ := h
 obtain ⟨p, cap, rfl, _⟩ := h1.open
 exact ⟨p, n, cap, rfl, h4⟩
end
section
open Go.RowKit
theorem SlF.opens {w : World} {p : Option Addr} {n cap : Nat} {f : Nat → Int} (h : SlF w (.slice p n cap) n f) : n ≤ cap ∧ n ≤ 140737488351232 ∧
  (0 < n → ∃ b off, p = some ⟨b, off, none⟩ ∧ b < w.heap.size ∧ (∀ i, i < n → w.cell? ⟨b, off + i, none⟩ = some (.int .i64 (f i)))) := by
 obtain ⟨p', cap', hv, h1, h2, h3⟩ := h.open
 simp only [Value.slice.injEq] at hv
 obtain ⟨rfl, _, rfl⟩ := hv
 exact ⟨h1, h2, h3⟩
end
theorem Sz.sl {m : Nat} {w : World} {p : Option Addr} {n c : Nat} {N : Int} (h : Sz m w (.slice p n c) N) : ∃ n' f, SlF w (.slice p n c) n' f ∧ Digs f n' ∧ vf f n' = N ∧ n' ≤ m ∧ n' = n := by
 obtain ⟨n', f, h1, h2, h3, h4⟩ := h
 obtain ⟨p', cap, hv, _⟩ := h1.open
 simp only [Value.slice.injEq] at hv
 exact ⟨n', f, h1, h2, h3, h4, hv.2.1.symm⟩
theorem rat_add_parts (a b : Rat) : 
  let g := a.den.gcd b.den
  let n := a.num * ((b.den / g : Nat) : Int) + b.num * ((a.den / g : Nat) : Int)
  let h := n.natAbs.gcd g
  (a + b).num = n / (h : Int) ∧ (a + b).den = (a.den / g) * (b.den / h) := by
 intro g n h
 have e : a + b = Rat.add a b := rfl
 rw [e]
 unfold Rat.add
 by_cases hg : a.den.gcd b.den = 1
 ·have hg' : g = 1 := hg
  simp only [hg, dif_pos]
  have hh : h = 1 := by show n.natAbs.gcd g = 1; rw [hg']; exact Nat.gcd_one_right _
  simp only [hh, n, hg', Nat.div_one]
  simp
 ·simp only [hg, dif_neg, not_false_eq_true]
  unfold Rat.maybeNormalize
  split
  ·rename_i h1
   have hh : h = 1 := h1
   simp only [hh, Nat.div_one]
   constructor
   ·show n = n / ((1 : Nat) : Int)
    simp
   ·rfl
  ·have hd : h ∣ b.den := Nat.dvd_trans (Nat.gcd_dvd_right _ _) (Nat.gcd_dvd_right _ _)
   constructor
   ·exact Int.divExact_eq_ediv (Int.ofNat_dvd_left.2 (Nat.gcd_dvd_left _ _))
   ·exact (Nat.divExact_eq_div (Nat.dvd_mul_left_of_dvd hd _)).trans (Nat.mul_div_assoc _ hd)
theorem rat_mul_parts (a b : Rat) :
  let g1 := a.num.natAbs.gcd b.den
  let g2 := b.num.natAbs.gcd a.den
  (a * b).num = (a.num / (g1 : Int)) * (b.num / (g2 : Int)) ∧ (a * b).den = (a.den / g2) * (b.den / g1) := by
 intro g1 g2
 have e : a * b = Rat.mul a b := rfl
 rw [e]
 unfold Rat.mul
 constructor
 ·simp only [Int.divExact_eq_ediv]; rfl
 ·simp only [Nat.divExact_eq_div]; rfl
theorem rat_inv_parts (a : Rat) (h : a.num ≠ 0) : (a⁻¹).den = a.num.natAbs ∧ (a⁻¹).num = if a.num < 0 then -(a.den : Int) else (a.den : Int) := by
 have e : a⁻¹ = Rat.inv a := rfl
 rw [e]
 unfold Rat.inv
 by_cases h1 : a.num < 0
 ·simp [h1]
 ·have h2 : 0 < a.num := by omega
  simp [h1, h2]
theorem rat_neg_parts (a : Rat) : (-a).num = -a.num ∧ (-a).den = a.den := ⟨rfl, rfl⟩
theorem natAbs_div {n : Int} {h : Nat} (hd : h ∣ n.natAbs) : ((n / (h : Int)).natAbs : Int) = (n.natAbs : Int) / (h : Int) := by
 obtain ⟨k, hk⟩ := hd
 rcases Nat.eq_zero_or_pos h with rfl | h0
 ·simp
 ·have e : n = (h : Int) * k ∨ n = (h : Int) * (-k) := by
   rcases Int.natAbs_eq n with h1 | h1
   ·left; rw [h1, hk]; simp
   ·right; rw [h1, hk, Int.natCast_mul, Int.mul_neg]
  have hne : (h : Int) ≠ 0 := by omega
  have e2 : (n.natAbs : Int) / (h : Int) = k := by rw [hk, Int.natCast_mul, Int.mul_ediv_cancel_left _ hne]
  rw [e2]
  rcases e with e | e
  ·rw [e, Int.mul_ediv_cancel_left _ hne]; simp
  ·rw [e, Int.mul_ediv_cancel_left _ hne]; simp
theorem rat_sum (a b : Rat) (n : Int) (hn : a.num * (((b.den : Int) / (a.den.gcd b.den : Nat))) + b.num * ((a.den : Int) / (a.den.gcd b.den : Nat)) = n) :
  (a + b).num = n / ((n.natAbs.gcd (a.den.gcd b.den) : Nat) : Int) ∧ ((a + b).num.natAbs : Int) = (n.natAbs : Int) / ((n.natAbs.gcd (a.den.gcd b.den) : Nat) : Int) ∧
   ((a + b).den : Int) = ((a.den : Int) / (a.den.gcd b.den : Nat)) * ((b.den : Int) / ((n.natAbs.gcd (a.den.gcd b.den) : Nat) : Int)) ∧ 0 < ((n.natAbs.gcd (a.den.gcd b.den) : Nat) : Int) := by
 have hg : 0 < a.den.gcd b.den := Nat.gcd_pos_of_pos_left _ (Nat.pos_of_ne_zero a.den_nz)
 have hh : 0 < n.natAbs.gcd (a.den.gcd b.den) := Nat.gcd_pos_of_pos_right _ hg
 have := rat_add_parts a b
 simp only [Int.natCast_ediv, hn] at this
 obtain ⟨h1, h2⟩ := this
 refine ⟨h1, ?_, ?_, by omega⟩
 ·rw [h1]; exact natAbs_div (Nat.gcd_dvd_left _ _)
 ·rw [h2]; simp
theorem plus_round {n i : Nat} {S : Int} {h : Nat → Int} (hi : i < n) (hv : vf h (n + 1) = S) (hlo : ∀ j, j < i → 0 ≤ h j ∧ h j < 1000000000)
  (hmid : ∀ j, i ≤ j → j < n → 0 ≤ h j ∧ h j ≤ (if j = i then 1999999999 else 1999999998)) (hn : h n = 0) (hc : 1000000000 ≤ h i) :
  let h' := fun j => if j = i + 1 then h (i + 1) + 1 else if j = i then h i - 1000000000 else h j
  vf h' (n + 1) = S ∧ (∀ j, j < i + 1 → 0 ≤ h' j ∧ h' j < 1000000000) ∧
  (∀ j, i + 1 ≤ j → j < n → 0 ≤ h' j ∧ h' j ≤ (if j = i + 1 then 1999999999 else 1999999998)) ∧ (i + 1 < n → h' n = 0) ∧ (i + 1 = n → 0 ≤ h' n ∧ h' n < 1000000000) := by
 intro h'
 have hm := hmid i (Nat.le_refl _) hi
 rw [if_pos rfl] at hm
 refine ⟨?_, fun j hj => ?_, fun j hj hjn => ?_, fun hin => ?_, fun hin => ?_⟩
 ·have e1 : h' = fun j => if j = i + 1 then h (i + 1) + 1 else (fun j => if j = i then h i - 1000000000 else h j) j := rfl
  rw [e1, vf_set, vf_set, hv, if_pos (by omega), if_pos (by omega)]
  simp only [show ¬ i + 1 = i by omega, if_false, pw_succ]
  grind
 ·simp only [h']
  rw [if_neg (by omega)]
  split
  ·omega
  ·exact hlo j (by omega)
 ·simp only [h']
  have := hmid j (by omega) hjn
  rw [if_neg (by omega)] at this
  by_cases e : j = i + 1
  ·subst e; rw [if_pos rfl, if_pos rfl]; omega
  ·rw [if_neg e, if_neg e, if_neg (by omega)]; exact this
 ·simp only [h']
  rw [if_neg (by omega), if_neg (by omega)]; exact hn
 ·subst hin
  simp only [h', if_true]; omega
theorem vf_add (f g : Nat → Int) (k : Nat) : vf (fun j => f j + g j) k = vf f k + vf g k := by
 induction k with
 | zero => rfl
 | succ k ih => rw [vf_succ, vf_succ, vf_succ, ih]; grind
theorem vf_ext {f : Nat → Int} {n k : Nat} (hk : n ≤ k) : vf (fun j => if j < n then f j else 0) k = vf f n := by
 induction k with
 | zero => obtain rfl : n = 0 := by omega
           rfl
 | succ k ih =>
   rw [vf_succ]
   by_cases h : n ≤ k
   ·rw [ih h, if_neg (by omega)]; simp
   ·obtain rfl : n = k + 1 := by omega
    rw [if_pos (by omega), vf_succ]
    congr 1
    exact vf_congr fun i hi => by rw [if_pos (by omega)]
def PlusInv (n : Nat) (S : Int) (i : Nat) (h : Nat → Int) : Prop :=
 vf h (n + 1) = S ∧ (∀ j, j < i → 0 ≤ h j ∧ h j < 1000000000) ∧ (∀ j, i ≤ j → j < n → 0 ≤ h j ∧ h j ≤ (if j = i then 1999999999 else 1999999998)) ∧ (i < n → h n = 0) ∧ (i = n → 0 ≤ h n ∧ h n < 1000000000)
theorem PlusInv.start {n m : Nat} {f g : Nat → Int} (hmn : m ≤ n) (f0 : ∀ i, i < n → 0 ≤ f i) (f1 : ∀ i, i < n → f i < 1000000000) (g0 : ∀ i, i < m → 0 ≤ g i) (g1 : ∀ i, i < m → g i < 1000000000) :
  PlusInv n (vf f n + vf g m) 0 (fun j => (if j < n then f j else 0) + (if j < m then g j else 0)) := by
 refine ⟨?_, fun j hj => by omega, fun j _ hj => ?_, fun h => ?_, fun h => ?_⟩
 ·rw [vf_add, vf_ext (by omega), vf_ext (by omega)]
 ·have a := f0 j hj
  have b := f1 j hj
  simp only [hj, if_true]
  by_cases hm : j < m
  ·have c := g0 j hm
   have d := g1 j hm
   simp only [hm, if_true]; split <;> omega
  ·simp only [hm, if_false]; split <;> omega
 ·simp; omega
 ·subst h; simp; omega
theorem PlusInv.carry {n i : Nat} {S : Int} {h : Nat → Int} (H : PlusInv n S i h) (hi : i < n) (hc : 1000000000 ≤ h i) :
  PlusInv n S (i + 1) (fun j => if j = i + 1 then h (i + 1) + 1 else if j = i then h i - 1000000000 else h j) := by
 obtain ⟨a, b, c, d, e⟩ := H
 have := plus_round hi a b c (d hi) hc
 exact this
theorem PlusInv.plain {n i : Nat} {S : Int} {h : Nat → Int} (H : PlusInv n S i h) (hi : i < n) (hc : h i < 1000000000) : PlusInv n S (i + 1) h := by
 obtain ⟨a, b, c, d, e⟩ := H
 have h0 := c i (Nat.le_refl _) hi
 refine ⟨a, fun j hj => ?_, fun j hj hjn => ?_, fun _ => d hi, fun he => by rw [d hi]; omega⟩
 ·rcases Nat.lt_or_ge j i with h | h
  ·exact b j h
  ·obtain rfl : j = i := by omega
   omega
 ·have := c j (by omega) hjn
  rw [if_neg (by omega)] at this
  split <;> omega
theorem PlusInv.bd {n i : Nat} {S : Int} {h : Nat → Int} (H : PlusInv n S i h) (hi : i < n) : 0 ≤ h i ∧ h i ≤ 1999999999 ∧ 0 ≤ h (i + 1) ∧ h (i + 1) ≤ 1999999998 := by
 obtain ⟨a, b, c, d, e⟩ := H
 have h0 := c i (Nat.le_refl _) hi
 rw [if_pos rfl] at h0
 by_cases hn : i + 1 < n
 ·have := c (i + 1) (by omega) hn
  rw [if_neg (by omega)] at this
  omega
 ·have := d hi
  obtain rfl : n = i + 1 := by omega
  omega
theorem PlusInv.done {n : Nat} {S : Int} {h : Nat → Int} (H : PlusInv n S n h) : Digs h (trimN h (n + 1)) ∧ vf h (trimN h (n + 1)) = S := by
 obtain ⟨a, b, c, d, e⟩ := H
 have := trimN_can (f := h) (k := n + 1) (fun i hi => by
  rcases Nat.lt_or_ge i n with h | h
  ·exact (b i h).1
  ·obtain rfl : i = n := by omega
   exact (e rfl).1) (fun i hi => by
  rcases Nat.lt_or_ge i n with h | h
  ·exact (b i h).2
  ·obtain rfl : i = n := by omega
   exact (e rfl).2)
 rw [a] at this
 exact this
section
open Go.RowKit
def RowF (w : World) (g n : Nat) (f : Nat → Int) : Prop := ∃ cs, w.heap[g]? = some (.cells cs 3 (0, 0)) ∧ n ≤ cs.size ∧ ∀ i, i < n → cs[i]? = some (.int .i64 (f i))
theorem RowF.lt {w : World} {g n : Nat} {f : Nat → Int} (h : RowF w g n f) : g < w.heap.size := by obtain ⟨cs, h, _⟩ := h; exact lt_of_some h
theorem RowF.cell {w : World} {g n : Nat} {f : Nat → Int} (h : RowF w g n f) (i : Nat) (hi : i < n) : w.cell? ⟨g, i, none⟩ = some (.int .i64 (f i)) := by
 obtain ⟨cs, h1, h2, h3⟩ := h
 simp [World.cell?, h1, h3 i hi]
theorem RowF.frozen {w : World} {g n : Nat} {f : Nat → Int} (h : RowF w g n f) (i : Nat) : w.frozen? ⟨g, i, none⟩ = false := by
 obtain ⟨cs, h1, h2, h3⟩ := h
 simp [World.frozen?, h1]
theorem RowF.set {w : World} {g n : Nat} {f : Nat → Int} (h : RowF w g n f) (i : Nat) (x : Int) : RowF (w.setCell ⟨g, i, none⟩ (.int .i64 x)) g n (fun j => if j = i then x else f j) := by
 obtain ⟨cs, h1, h2, h3⟩ := h
 refine ⟨cs.setIfInBounds i (.int .i64 x), ?_, by simpa using h2, fun j hj => ?_⟩
 ·show (w.heap.modify g _)[g]? = _
  simp [Array.getElem?_modify, h1]
 ·rw [Array.getElem?_setIfInBounds]
  by_cases e : i = j
  ·subst e; simp [show i < cs.size by omega]
  ·have e2 : ¬ j = i := fun h => e h.symm
   simp only [e2, if_false]; rw [if_neg e]; exact h3 j hj
theorem RowF.other {w : World} {g n : Nat} {f : Nat → Int} (h : RowF w g n f) (a : Addr) (u : Value) (hne : g ≠ a.block) : RowF (w.setCell a u) g n f := by
 obtain ⟨cs, h1, h2⟩ := h
 exact ⟨cs, (Below.heap_setCell w a u g hne).trans h1, h2⟩
theorem RowF.below {w w' : World} {g n : Nat} {f : Nat → Int} (h : RowF w g n f) (hb : Below w.heap.size w w') : RowF w' g n f := by
 have hl := h.lt
 obtain ⟨cs, h1, h2⟩ := h
 exact ⟨cs, (hb.block g hl).trans h1, h2⟩
theorem RowF.drewN {w : World} {g n : Nat} {f : Nat → Int} (h : RowF w g n f) (k : Nat) : RowF (w.drewN k) g n f := h
theorem RowF.congr {w : World} {g n : Nat} {f f' : Nat → Int} (h : RowF w g n f) (he : ∀ i, i < n → f i = f' i) : RowF w g n f' := by
 obtain ⟨cs, h1, h2, h3⟩ := h
 exact ⟨cs, h1, h2, fun i hi => by rw [h3 i hi, he i hi]⟩
theorem RowF.slice {w : World} {g n : Nat} {f : Nat → Int} (h : RowF w g n f) (hn : n ≤ 140737488351232) (k : Nat) (hk : k ≤ n) (cap : Nat) (hc : k ≤ cap) : SlF w (.slice (some ⟨g, 0, none⟩) k cap) k f := by
 obtain ⟨cs, h1, h2, h3⟩ := h
 exact .inr ⟨g, 0, cap, cs, _, rfl, hc, by omega, h1, fun i hi => by rw [Nat.zero_add]; exact h3 i (by omega)⟩
theorem RowF.le {w : World} {g n : Nat} {f : Nat → Int} (h : RowF w g n f) (k : Nat) (hk : k ≤ n) : RowF w g k f := by
 obtain ⟨cs, h1, h2, h3⟩ := h
 exact ⟨cs, h1, by omega, fun i hi => h3 i (by omega)⟩
def OwnF (w : World) (base : Nat) (v : Value) (n : Nat) (f : Nat → Int) : Prop := w.ownsRow base 3 1 v n ((List.range n).map fun i => .int .i64 (f i))
theorem OwnF.nil (w : World) (base : Nat) (f : Nat → Int) : OwnF w base (.slice none 0 0) 0 f := World.ownsRow_nil _ _ _ _
theorem OwnF.congr {w : World} {base : Nat} {v : Value} {n : Nat} {f f' : Nat → Int} (h : OwnF w base v n f) (he : ∀ i, i < n → f i = f' i) : OwnF w base v n f' := by
 unfold OwnF at h ⊢
 rwa [List.map_congr_left (g := fun i => Value.int .i64 (f' i)) (fun i hi => by rw [he i (List.mem_range.1 hi)])] at h
theorem OwnF.open {w : World} {base : Nat} {v : Value} {n : Nat} {f : Nat → Int} (h : OwnF w base v n f) :
  (v = .slice none 0 0 ∧ n = 0) ∨ ∃ g cap, v = .slice (some ⟨g, 0, none⟩) n cap ∧ base ≤ g ∧ n ≤ cap ∧ RowF w g n f := by
 obtain ⟨hl, h | ⟨g, cap, cur, hv, hb, hh, hn, hm, hs, ht⟩⟩ := h
 ·exact .inl h
 ·refine .inr ⟨g, cap, hv, hb, hn, cur, hh, by omega, fun i hi => ?_⟩
  have e : (cur.toList.take (n * 1))[i]? = ((List.range n).map fun i => Value.int .i64 (f i))[i]? := by rw [ht]
  rw [List.getElem?_take_of_lt (by omega)] at e
  simpa [hi] using e
theorem OwnF.sl {w : World} {base : Nat} {v : Value} {n : Nat} {f : Nat → Int} (h : OwnF w base v n f) (hn : n ≤ 140737488351232) : SlF w v n f := by
 rcases h.open with h | ⟨g, cap, rfl, _, hc, hr⟩
 ·exact .inl h
 ·exact hr.slice hn n (Nat.le_refl _) cap hc
theorem OwnF.shape {w : World} {base : Nat} {v : Value} {n : Nat} {f : Nat → Int} (h : OwnF w base v n f) : ∃ p c, v = .slice p n c := by
 rcases h.open with ⟨rfl, rfl⟩ | ⟨g, cap, rfl, _⟩
 ·exact ⟨_, _, rfl⟩
 ·exact ⟨_, _, rfl⟩
theorem SlF.congr {w : World} {v : Value} {n : Nat} {f f' : Nat → Int} (h : SlF w v n f) (he : ∀ i, i < n → f i = f' i) : SlF w v n f' := by
 rcases h with h | ⟨b, off, cap, cs, fr, h1, h2, h3, h4, h5⟩
 ·exact .inl h
 ·exact .inr ⟨b, off, cap, cs, fr, h1, h2, h3, h4, fun i hi => by rw [h5 i hi, he i hi]⟩
structure OnlyRow (r : Nat) (w w' : World) : Prop where
 os : w'.os = w.os
 tape : w'.tape = w.tape
 output : w'.output = w.output
 size : w'.heap.size = w.heap.size
 block : ∀ k, k ≠ r → w'.heap[k]? = w.heap[k]?
theorem OnlyRow.refl (r : Nat) (w : World) : OnlyRow r w w := ⟨rfl, rfl, rfl, rfl, fun _ _ => rfl⟩
theorem OnlyRow.trans {r : Nat} {a b c : World} (h : OnlyRow r a b) (k : OnlyRow r b c) : OnlyRow r a c := ⟨k.os.trans h.os, k.tape.trans h.tape, k.output.trans h.output, k.size.trans h.size, fun i hi => (k.block i hi).trans (h.block i hi)⟩
theorem OnlyRow.set {r : Nat} {a w : World} (h : OnlyRow r a w) (i : Nat) (u : Value) : OnlyRow r a (w.setCell ⟨r, i, none⟩ u) :=
 h.trans ⟨rfl, rfl, rfl, by show (w.heap.modify _ _).size = _; simp, fun k hk => Below.heap_setCell w _ u k hk⟩
theorem OnlyRow.drewN {r : Nat} {a w : World} (h : OnlyRow r a w) (n : Nat) : OnlyRow r a (w.drewN n) := ⟨h.os, h.tape, h.output, h.size, h.block⟩
theorem OnlyRow.row {r : Nat} {a w : World} (h : OnlyRow r a w) {s n : Nat} {f : Nat → Int} (hs : RowF a s n f) (hne : s ≠ r) : RowF w s n f := by
 obtain ⟨cs, h1, h2⟩ := hs
 exact ⟨cs, (h.block s hne).trans h1, h2⟩
theorem OnlyRow.below {r B : Nat} {w0 a w : World} (h : OnlyRow r a w) (hb : Below B w0 a) (hB : B ≤ r) : Below B w0 w :=
 hb.trans ⟨h.os, h.tape, h.output, Nat.le_of_eq h.size.symm, fun k hk => h.block k (by omega)⟩
section
variable {P : Program} {ops : Array Oper} {rest : List Oper} {o : Oper} {a : Act} {Q : Exit → Act → World → Prop}
theorem wpList_make_ints (w : World) (hg : o.guard = none) (l c : Operand) (t : TypeId) (hop : o.op = Op.makeSlice t l c)
  (h1 : P.underlying t = some (.slice 3)) (h2 : (P.info? 3).map (fun i => (i.zero, i.size, i.bytes)) = some (some (.int .i64 0), 1, 8))
  (L C : Int) (n : Nat) (hl : a.eval l = .int .i64 L) (hc : a.eval c = .int .i64 C) (hL : L = (n : Int)) (hC : C = (n : Int)) (hn : n ≤ 17592186044416)
  (hK : ∀ w', RowF w' w.heap.size n (fun _ => 0) → Below w.heap.size w w' → wpList P ops Q rest (a.put o.dst (.slice (some ⟨w.heap.size, 0, none⟩) n n)) w') :
  wpList P ops Q (o :: rest) a w := by
 obtain ⟨i, hi, hz, hs, hb⟩ := info_parts h2
 refine wpList_plain hg fun K hK' => ?_
 subst hL hC
 have hr := run_make (P := P) w t 3 i (.int .i64 0) h1 hi hz .i64 .i64 n n (by omega) (Int.le_refl _) (by rw [hb]; omega) (by omega)
 simp only [Int.toNat_natCast, hs] at hr
 unfold Oper.wp
 simp [execOp, hop, hl, hc, hr, Result.andThen]
 refine hK' _ _ (hK _ ⟨madeCells #[.int .i64 0] n, ?_, by simp [madeCells], fun j hj => ?_⟩ ((Below.refl _ _).alloc (Nat.le_refl _) _))
 ·show (w.heap.push _)[w.heap.size]? = _
  simp [Value.cells]
 ·simp [madeCells, hj, Nat.mod_one]
theorem wpList_copy_ints (w : World) (hg : o.guard = none) (d s : Operand) (dT sT : TypeId) (ho : o.op = .call { callee := .builtin .copy, args := #[d, s], argTypes := #[dT, sT] })
  (hu : P.underlying dT = some (.slice 3)) (hsz : (P.info? 3).map (·.size) = some 1)
  (g N cap R : Nat) (h : Nat → Int) (p : Option Addr) (n c : Nat) (f : Nat → Int) (hd : a.eval d = .slice (some ⟨g, 0, none⟩) N cap) (hs : a.eval s = .slice p n c)
  (hrow : RowF w g R h) (hsrc : SlF w (.slice p n c) n f) (hnN : n ≤ N) (hNR : N ≤ R) (B : Nat) (w0 : World) (hb : Below B w0 w) (hBg : B ≤ g)
  (hK : ∀ w', RowF w' g R (fun j => if j < n then f j else h j) → Below B w0 w' → wpList P ops Q rest (a.put o.dst (goInt n)) w') :
  wpList P ops Q (o :: rest) a w := by
 obtain ⟨cs, h1, h2, h3⟩ := hrow
 have hlen : ((List.range n).map fun i => Value.int .i64 (f i)).length = n := by simp
 refine wpList_copy_splice (w := w) hg d s dT sT ho 3 hu hsz _ _ N cap n c hd hs g 0 cs.toList 3 (by simpa using h1) ((List.range n).map fun i => Value.int .i64 (f i)) (by rw [hlen]; exact (Nat.min_eq_left hnN).symm) ?_ (by rw [hlen]; simp; omega) ?_ B w0 hb hBg ?_
 ·intro hp
  rw [hlen] at hp
  obtain ⟨_, _, hx⟩ := hsrc.opens
  obtain ⟨b, off, rfl, _, hcell⟩ := hx hp
  refine ⟨rfl, _, rfl, fun j v hj => ?_⟩
  simp only [List.getElem?_map, Option.map_eq_some_iff] at hj
  obtain ⟨i, hi, rfl⟩ := hj
  obtain ⟨hlt, he⟩ := List.getElem?_eq_some_iff.1 hi
  simp at hlt he
  subst he
  have := hcell j hlt
  by_cases h0 : j = 0
  ·subst h0; simpa [Addr.add] using this
  ·simpa [Addr.add, h0] using this
 ·intro v hv
  simp at hv
  obtain ⟨i, _, rfl⟩ := hv
  rfl
 ·intro w' hw' hb'
  rw [hlen]
  refine hK w' ⟨_, hw'.out, ?_, fun j hj => ?_⟩ hb'
  ·simp [splice]; omega
  ·simp only [splice, List.take_zero, List.nil_append, Nat.zero_add, hlen]
   simp only [List.getElem?_toArray, List.getElem?_append, List.length_map, List.length_range, List.getElem?_drop]
   by_cases hjn : j < n
   ·simp [hjn]
   ·simp only [hjn, if_false]
    rw [show n + (j - n) = j by omega]
    simpa using h3 j hj
theorem wpList_append_ints (w : World) (hg : o.guard = none) (s x : Operand) (t : TypeId) (ho : o.op = .call { callee := .builtin .append, args := #[s, x], argTypes := #[t, t] })
  (h1 : P.underlying t = some (.slice 3)) (h2 : (P.info? 3).map (fun i => (i.zero, i.size, i.bytes)) = some (some (.int .i64 0), 1, 8))
  (base : Nat) (v : Value) (n : Nat) (f : Nat → Int) (hs : a.eval s = v) (hown : OwnF w base v n f)
  (p : Option Addr) (m c : Nat) (g : Nat → Int) (hx : a.eval x = .slice p m c) (hsl : SlF w (.slice p m c) m g) (hb : n + m ≤ 17592186044416) (hbase : base ≤ w.heap.size)
  (hK : ∀ v' w', OwnF w' base v' (n + m) (fun i => if i < n then f i else g (i - n)) → w.grownBy w' v.ownBlock → wpList P ops Q rest (a.put o.dst v') w') :
  wpList P ops Q (o :: rest) a w := by
 obtain ⟨i, hi, hz, hs1, hb1⟩ := info_parts h2
 have key : ∀ (k l : Nat) (f g : Nat → Int), ((List.range k).map fun i => Value.int .i64 (f i)) ++ ((List.range l).map fun i => Value.int .i64 (g i)) = (List.range (k + l)).map fun i => Value.int .i64 (if i < k then f i else g (i - k)) := by
  intro k l f g
  rw [List.range_add, List.map_append]
  congr 1
  ·refine List.map_congr_left fun i hi => ?_
   rw [if_pos (List.mem_range.1 hi)]
  ·rw [List.map_map]
   refine List.map_congr_left fun i _ => ?_
   simp only [Function.comp]
   rw [if_neg (by omega), show k + i - k = i by omega]
 rcases hsl with ⟨hv, rfl⟩ | ⟨b, off, cap, cs, fr, hv, hc, hc2, hh, hcs⟩
 ·refine wpList_append_own_none hg s x t ho base 3 i 1 h1 hi v n _ hs hown (hx.trans hv) ?_
  exact hK v w (hown.congr fun i hi => by rw [if_pos hi]) ⟨rfl, rfl, rfl, Nat.le_refl _, fun _ _ _ => rfl⟩
 ·simp only [Value.slice.injEq] at hv
  obtain ⟨rfl, _, rfl⟩ := hv
  refine wpList_append_own w hg s x t ho base 3 i (.int .i64 0) 1 8 h1 hi hz hs1 hb1 rfl (by decide) v n _ hs hown ⟨b, off, none⟩ m c ((List.range m).map fun i => Value.int .i64 (g i)) hx (by simp) ?_ ?_ (by simp [maxLen]; omega) (by omega) hbase ?_
  ·intro j u hj
   simp only [List.getElem?_map, Option.map_eq_some_iff] at hj
   obtain ⟨i, hi, rfl⟩ := hj
   obtain ⟨hlt, he⟩ := List.getElem?_eq_some_iff.1 hi
   simp at hlt he
   subst he
   have : w.cell? ⟨b, off + j, none⟩ = some (.int .i64 (g j)) := by simp [World.cell?, hh, hcs j hlt]
   by_cases h0 : j = 0
   ·subst h0; simpa [Addr.add] using this
   ·simpa [Addr.add, h0] using this
  ·intro u hu
   simp at hu
   obtain ⟨i, _, rfl⟩ := hu
   rfl
  ·intro v' w' h3 h4 _
   rw [key] at h3
   exact hK v' w' h3 h4
end
end
def cmpDown (f g : Nat → Int) : Nat → Int
 | 0 => 0
 | k + 1 => if f k = g k then cmpDown f g k else f k - g k
def cmpV (f : Nat → Int) (n : Nat) (g : Nat → Int) (m : Nat) : Int := if n = m then cmpDown f g n else (n : Int) - m
theorem cmpDown_eq (f g : Nat → Int) (k : Nat) (hk : 0 < k) (h : f (k - 1) = g (k - 1)) : cmpDown f g k = cmpDown f g (k - 1) := by
 obtain ⟨k, rfl⟩ : ∃ j, k = j + 1 := ⟨k - 1, by omega⟩
 simp only [Nat.add_sub_cancel] at h ⊢
 rw [cmpDown, if_pos h]
theorem cmpDown_ne (f g : Nat → Int) (k : Nat) (hk : 0 < k) (h : ¬ f (k - 1) = g (k - 1)) : cmpDown f g k = f (k - 1) - g (k - 1) := by
 obtain ⟨k, rfl⟩ : ∃ j, k = j + 1 := ⟨k - 1, by omega⟩
 simp only [Nat.add_sub_cancel] at h ⊢
 rw [cmpDown, if_neg h]
end Go.Mono
namespace Go.Proofs.YtcgfdibagldafaaGreatDoor
open Go.RowKit Go.Mono
theorem cmp_any (p q : Option Addr) (n m c1 c2 : Nat) (f g : Nat → Int) (w : World) (h1 : SlF w (.slice p n c1) n f) (h2 : SlF w (.slice q m c2) m g)
  (f0 : ∀ i, i < n → 0 ≤ f i) (f1 : ∀ i, i < n → f i < 1000000000) (g0 : ∀ i, i < m → 0 ≤ g i) (g1 : ∀ i, i < m → g i < 1000000000) :
  Calls Tryz.prog 124 #[.slice p n c1, .slice q m c2] w fun e w' => e = .returned (.int .i64 (cmpV f n g m)) ∧ ∃ k, w' = w.drewN k := by
 obtain ⟨hc1, hn1, hx1⟩ := h1.opens
 obtain ⟨hc2, hn2, hx2⟩ := h2.opens
 clear h1 h2
 by_cases hnm : n = m
 ·subst hnm
  go_enter Tryz.func124, Tryz.ntmps124
  go_wp2
  go_loopw [5] (fun a wr => ∃ k : Nat, k ≤ n ∧ a = .int .i64 ((k : Int) - 1) ∧ cmpDown f g k = cmpDown f g n ∧ ∃ j, wr = w.drewN j) (fun a _ => (intOf a + 1).toNat)
  case atStart => exact ⟨n, Nat.le_refl _, rfl, rfl, 0, rfl⟩
  case round =>
   obtain ⟨k, hk, rfl, ht, j, rfl⟩ := hrel
   have HT := Lib.hid ht; clear ht
   by_cases h0 : 0 < k
   ·obtain ⟨b, off, rfl, hb, hcell⟩ := hx1 (by omega)
    obtain ⟨b2, off2, rfl, hb2, hcell2⟩ := hx2 (by omega)
    have a1 := hcell (k-1) (by omega)
    have a2 := hcell2 (k-1) (by omega)
    have b1 := f0 (k-1) (by omega)
    have b2 := f1 (k-1) (by omega)
    have b3 := g0 (k-1) (by omega)
    have b4 := g1 (k-1) (by omega)
    clear hcell hcell2 hx1 hx2 f0 f1 g0 g1
    obtain ⟨k, rfl⟩ : ∃ j, k = j + 1 := ⟨k-1, by omega⟩
    simp only [Nat.add_sub_cancel] at a1 a2 b1 b2 b3 b4
    rw [show ((k + 1 : Nat) : Int) - 1 = (k : Int) by omega]
    have HE := cmpDown_eq f g (k + 1) (by omega)
    have HN := cmpDown_ne f g (k + 1) (by omega)
    simp only [Nat.add_sub_cancel] at HE HN
    replace HE := Lib.hid HE
    replace HN := Lib.hid HN
    by_cases hfg : f k = g k
    ·have hq : (f k != g k) = false := by simpa using hfg
     have HF := Lib.hid hfg; clear hfg
     go_wp2
     go_quiet (fail)
     go_wp2
     go_roundw
     case rel => exact ⟨k, by omega, rfl, by rw [← HT.out, HE.out HF.out], _, rfl⟩
     case measure => simp [intOf]
    ·have hq : (f k != g k) = true := by simpa using hfg
     have HF := Lib.hid hfg; clear hfg
     go_wp2
     go_quiet (fail)
     go_wp2
     go_quiet (fail)
     go_wp2
     go_ret
     exact ⟨by rw [cmpV, if_pos rfl, ← HT.out, HN.out HF.out]; rfl, _, by rw [World.drewN_drewN, World.drewN_drewN]⟩
   ·obtain rfl : k = 0 := by omega
    go_wp2
    go_ret
    exact ⟨by rw [cmpV, if_pos rfl, ← HT.out]; rfl, _, rfl⟩
 ·have hnm' : ((n : Int) != (m : Int)) = true := by simp; omega
  go_enter Tryz.func124, Tryz.ntmps124
  go_wp2
  go_ret
  refine ⟨by rw [cmpV, if_neg hnm]; rfl, 0, rfl⟩
end Go.Proofs.YtcgfdibagldafaaGreatDoor
namespace Go.Mono
theorem cmpDown_spec {f g : Nat → Int} {n : Nat} (f0 : ∀ i, i < n → 0 ≤ f i) (f1 : ∀ i, i < n → f i < 1000000000) (g0 : ∀ i, i < n → 0 ≤ g i) (g1 : ∀ i, i < n → g i < 1000000000) (cd : Nat → Int)
  (h0 : cd 0 = 0) (hs : ∀ k, cd (k + 1) = if f k = g k then cd k else f k - g k) : (cd n < 0 ↔ vf f n < vf g n) ∧ (cd n = 0 ↔ vf f n = vf g n) := by
 induction n with
 | zero => rw [h0]; simp [vf]
 | succ n ih =>
   have h1 := ih (fun i hi => f0 i (by omega)) (fun i hi => f1 i (by omega)) (fun i hi => g0 i (by omega)) (fun i hi => g1 i (by omega))
   rw [hs, vf_succ, vf_succ]
   by_cases e : f n = g n
   ·rw [if_pos e, e]; omega
   ·rw [if_neg e]
    have a1 := vf_nonneg (f := f) (k := n) fun i hi => f0 i (by omega)
    have a2 := vf_nonneg (f := g) (k := n) fun i hi => g0 i (by omega)
    have b1 := vf_lt (f := f) (k := n) fun i hi => f1 i (by omega)
    have b2 := vf_lt (f := g) (k := n) fun i hi => g1 i (by omega)
    rcases Int.lt_or_gt_of_ne e with h | h
    ·have : (f n + 1) * pw n ≤ g n * pw n := Int.mul_le_mul_of_nonneg_right (by omega) (Int.le_of_lt (pw_pos n))
     rw [Int.add_mul] at this; omega
    ·have : (g n + 1) * pw n ≤ f n * pw n := Int.mul_le_mul_of_nonneg_right (by omega) (Int.le_of_lt (pw_pos n))
     rw [Int.add_mul] at this; omega
def MinusInv (n : Nat) (S : Int) (i : Nat) (h : Nat → Int) : Prop :=
 vf h n = S ∧ (∀ j, j < i → 0 ≤ h j ∧ h j < 1000000000) ∧ (∀ j, i ≤ j → j < n → (if j = i then -1000000000 else -999999999) ≤ h j ∧ h j < 1000000000)
theorem vf_sub (f g : Nat → Int) (k : Nat) : vf (fun j => f j - g j) k = vf f k - vf g k := by
 induction k with
 | zero => rfl
 | succ k ih => rw [vf_succ, vf_succ, vf_succ, ih]; grind
theorem MinusInv.start {n m : Nat} {f g : Nat → Int} (hmn : m ≤ n) (f0 : ∀ i, i < n → 0 ≤ f i) (f1 : ∀ i, i < n → f i < 1000000000) (g0 : ∀ i, i < m → 0 ≤ g i) (g1 : ∀ i, i < m → g i < 1000000000) :
  MinusInv n (vf f n - vf g m) 0 (fun j => f j - (if j < m then g j else 0)) := by
 refine ⟨?_, fun j hj => by omega, fun j _ hj => ?_⟩
 ·rw [vf_sub, vf_ext (by omega)]
 ·have a := f0 j hj
  have b := f1 j hj
  by_cases hm : j < m
  ·have c := g0 j hm
   have d := g1 j hm
   simp only [hm, if_true]; split <;> omega
  ·simp only [hm, if_false]; split <;> omega
theorem MinusInv.last {n i : Nat} {S : Int} {h : Nat → Int} (H : MinusInv n S i h) (hS : 0 ≤ S) (hi : i < n) (hc : h i < 0) : i + 1 < n := by
 obtain ⟨a, b, c⟩ := H
 rcases Nat.lt_or_ge (i + 1) n with h1 | h1
 ·exact h1
 ·obtain rfl : n = i + 1 := by omega
  rw [vf_succ] at a
  have h2 := vf_lt (f := h) (k := i) fun j hj => (b j hj).2
  have h3 : h i * pw i ≤ (-1) * pw i := Int.mul_le_mul_of_nonneg_right (by omega) (Int.le_of_lt (pw_pos i))
  omega
theorem MinusInv.bd {n i : Nat} {S : Int} {h : Nat → Int} (H : MinusInv n S i h) (hi : i < n) : -1000000000 ≤ h i ∧ h i < 1000000000 ∧ (i + 1 < n → -999999999 ≤ h (i + 1) ∧ h (i + 1) < 1000000000) := by
 obtain ⟨a, b, c⟩ := H
 have h0 := c i (Nat.le_refl _) hi
 rw [if_pos rfl] at h0
 refine ⟨h0.1, h0.2, fun h2 => ?_⟩
 have := c (i + 1) (by omega) h2
 rwa [if_neg (by omega)] at this
theorem MinusInv.carry {n i : Nat} {S : Int} {h : Nat → Int} (H : MinusInv n S i h) (hi : i + 1 < n) (hc : h i < 0) :
  MinusInv n S (i + 1) (fun j => if j = i + 1 then h (i + 1) - 1 else if j = i then h i + 1000000000 else h j) := by
 have hb := H.bd (by omega)
 obtain ⟨a, b, c⟩ := H
 refine ⟨?_, fun j hj => ?_, fun j hj hjn => ?_⟩
 ·have e1 : (fun j => if j = i + 1 then h (i + 1) - 1 else if j = i then h i + 1000000000 else h j) = fun j => if j = i + 1 then h (i + 1) - 1 else (fun j => if j = i then h i + 1000000000 else h j) j := rfl
  rw [e1, vf_set, vf_set, a, if_pos (by omega), if_pos (by omega)]
  simp only [show ¬ i + 1 = i by omega, if_false, pw_succ]
  grind
 ·show 0 ≤ (if j = i + 1 then _ else _) ∧ (if j = i + 1 then _ else _) < _
  rw [if_neg (by omega)]
  split
  ·omega
  ·exact b j (by omega)
 ·show _ ≤ (if j = i + 1 then _ else _) ∧ (if j = i + 1 then _ else _) < _
  have := c j (by omega) hjn
  rw [if_neg (by omega)] at this
  by_cases e : j = i + 1
  ·subst e; rw [if_pos rfl, if_pos rfl]; omega
  ·rw [if_neg e, if_neg e, if_neg (by omega)]; exact this
theorem MinusInv.plain {n i : Nat} {S : Int} {h : Nat → Int} (H : MinusInv n S i h) (hi : i < n) (hc : 0 ≤ h i) : MinusInv n S (i + 1) h := by
 have hb := H.bd hi
 obtain ⟨a, b, c⟩ := H
 refine ⟨a, fun j hj => ?_, fun j hj hjn => ?_⟩
 ·rcases Nat.lt_or_ge j i with h | h
  ·exact b j h
  ·obtain rfl : j = i := by omega
   omega
 ·have := c j (by omega) hjn
  rw [if_neg (by omega)] at this
  split <;> omega
theorem MinusInv.done {n : Nat} {S : Int} {h : Nat → Int} (H : MinusInv n S n h) : Digs h (trimN h n) ∧ vf h (trimN h n) = S := by
 obtain ⟨a, b, c⟩ := H
 have := trimN_can (f := h) (k := n) (fun i hi => (b i hi).1) (fun i hi => (b i hi).2)
 rwa [a] at this
structure TimesInv (n m : Nat) (f g : Nat → Int) (i k : Nat) (h : Nat → Int) (c : Int) : Prop where
 lo : ∀ j, j < n + m → 0 ≤ h j
 hi : ∀ j, j < n + m → h j < 1000000000
 above : ∀ j, i + m ≤ j → j < n + m → h j = 0
 c0 : 0 ≤ c
 c1 : c < 1000000000
 val : vf h (n + m) + c * pw (i + k) = vf f i * vf g m + f i * pw i * vf g k
theorem mul_bd {x y : Int} (x0 : 0 ≤ x) (x1 : x < 1000000000) (y0 : 0 ≤ y) (y1 : y < 1000000000) : 0 ≤ x * y ∧ x * y ≤ 999999998000000001 := by
 refine ⟨Int.mul_nonneg x0 y0, ?_⟩
 have h1 : x * y ≤ 999999999 * y := Int.mul_le_mul_of_nonneg_right (by omega) y0
 omega
theorem TimesInv.step {n m : Nat} {f g : Nat → Int} {i k : Nat} {h : Nat → Int} {c : Int} (H : TimesInv n m f g i k h c) (hi : i < n) (hk : k < m)
  (f0 : 0 ≤ f i) (f1 : f i < 1000000000) (g0 : 0 ≤ g k) (g1 : g k < 1000000000) :
  TimesInv n m f g i (k + 1) (fun j => if j = i + k then (h (i + k) + f i * g k + c) % 1000000000 else h j) ((h (i + k) + f i * g k + c) / 1000000000) := by
 have hb := mul_bd f0 f1 g0 g1
 have a1 := H.lo (i + k) (by omega)
 have a2 := H.hi (i + k) (by omega)
 have a3 := H.c0
 have a4 := H.c1
 have hv := H.val
 generalize hx : h (i + k) + f i * g k + c = x
 have hq : x = 1000000000 * (x / 1000000000) + x % 1000000000 := (Int.mul_ediv_add_emod x 1000000000).symm
 refine ⟨fun j hj => ?_, fun j hj => ?_, fun j hj hjn => ?_, by omega, by omega, ?_⟩
 ·show 0 ≤ if j = i + k then _ else _
  split
  ·omega
  ·exact H.lo j hj
 ·show (if j = i + k then _ else _) < _
  split
  ·omega
  ·exact H.hi j hj
 ·show (if j = i + k then _ else _) = _
  rw [if_neg (by omega)]; exact H.above j hj hjn
 ·rw [vf_set, if_pos (by omega), vf_succ, ← Nat.add_assoc, pw_succ]
  have hp := pw_add i k
  generalize x / 1000000000 = q at hq ⊢
  generalize x % 1000000000 = r at hq ⊢
  generalize vf h (n + m) = V at hv ⊢
  generalize vf f i * vf g m = W at hv ⊢
  rw [hp] at hv ⊢
  subst hq
  grind
theorem TimesInv.outer {n m : Nat} {f g : Nat → Int} {i : Nat} {h : Nat → Int} {c : Int} (H : TimesInv n m f g i m h c) (hi : i < n) :
  TimesInv n m f g (i + 1) 0 (fun j => if j = i + m then c else h j) 0 := by
 have a3 := H.c0
 have a4 := H.c1
 have hv := H.val
 have hz := H.above (i + m) (Nat.le_refl _) (by omega)
 refine ⟨fun j hj => ?_, fun j hj => ?_, fun j hj hjn => ?_, by omega, by omega, ?_⟩
 ·show 0 ≤ if j = i + m then _ else _
  split
  ·omega
  ·exact H.lo j hj
 ·show (if j = i + m then _ else _) < _
  split
  ·omega
  ·exact H.hi j hj
 ·show (if j = i + m then _ else _) = _
  rw [if_neg (by omega)]; exact H.above j (by omega) hjn
 ·rw [vf_set, if_pos (by omega), hz, vf_succ]
  simp only [vf]
  generalize vf h (n + m) = V at hv ⊢
  grind
theorem TimesInv.start {n m : Nat} {f g : Nat → Int} : TimesInv n m f g 0 0 (fun _ => 0) 0 :=
 ⟨fun _ _ => by simp, fun _ _ => by simp, fun _ _ _ => rfl, by simp, by simp, by rw [vf_zero fun _ _ => rfl]; simp [vf]⟩
theorem TimesInv.done {n m : Nat} {f g : Nat → Int} {h : Nat → Int} (H : TimesInv n m f g n 0 h 0) : Digs h (trimN h (n + m)) ∧ vf h (trimN h (n + m)) = vf f n * vf g m := by
 have := trimN_can (f := h) (k := n + m) H.lo H.hi
 have hv := H.val
 simp [vf] at hv
 rwa [hv] at this
structure ByInv (n : Nat) (f : Nat → Int) (d : Int) (i : Nat) (h : Nat → Int) (c : Int) : Prop where
 lo : ∀ j, j < n + 1 → 0 ≤ h j
 hi : ∀ j, j < n + 1 → h j < 1000000000
 above : ∀ j, i ≤ j → j < n + 1 → h j = 0
 c0 : 0 ≤ c
 c1 : c < 1000000000
 val : vf h (n + 1) + c * pw i = vf f i * d
theorem ByInv.start {n : Nat} {f : Nat → Int} {d : Int} : ByInv n f d 0 (fun _ => 0) 0 :=
 ⟨fun _ _ => by simp, fun _ _ => by simp, fun _ _ _ => rfl, by simp, by simp, by rw [vf_zero fun _ _ => rfl]; simp [vf]⟩
theorem ByInv.step {n : Nat} {f : Nat → Int} {d : Int} {i : Nat} {h : Nat → Int} {c : Int} (H : ByInv n f d i h c) (hi : i < n)
  (f0 : 0 ≤ f i) (f1 : f i < 1000000000) (g0 : 0 ≤ d) (g1 : d < 1000000000) :
  ByInv n f d (i + 1) (fun j => if j = i then (f i * d + c) % 1000000000 else h j) ((f i * d + c) / 1000000000) := by
 have hb := mul_bd f0 f1 g0 g1
 have a3 := H.c0
 have a4 := H.c1
 have hv := H.val
 have hz := H.above i (Nat.le_refl _) (by omega)
 generalize hx : f i * d + c = x
 have hq : x = 1000000000 * (x / 1000000000) + x % 1000000000 := (Int.mul_ediv_add_emod x 1000000000).symm
 refine ⟨fun j hj => ?_, fun j hj => ?_, fun j hj hjn => ?_, by omega, by omega, ?_⟩
 ·show 0 ≤ if j = i then _ else _
  split
  ·omega
  ·exact H.lo j hj
 ·show (if j = i then _ else _) < _
  split
  ·omega
  ·exact H.hi j hj
 ·show (if j = i then _ else _) = _
  rw [if_neg (by omega)]; exact H.above j (by omega) hjn
 ·rw [vf_set, if_pos (by omega), hz, vf_succ f i, pw_succ]
  generalize x / 1000000000 = q at hq ⊢
  generalize x % 1000000000 = r at hq ⊢
  generalize vf h (n + 1) = V at hv ⊢
  subst hq
  grind
theorem ByInv.done {n : Nat} {f : Nat → Int} {d : Int} {h : Nat → Int} {c : Int} (H : ByInv n f d n h c) :
  (∀ j, j < n + 1 → 0 ≤ (if j = n then c else h j)) ∧ (∀ j, j < n + 1 → (if j = n then c else h j) < 1000000000) ∧ vf (fun j => if j = n then c else h j) (n + 1) = vf f n * d := by
 have a3 := H.c0
 have a4 := H.c1
 have hv := H.val
 have hz := H.above n (Nat.le_refl _) (by omega)
 refine ⟨fun j hj => ?_, fun j hj => ?_, ?_⟩
 ·split
  ·omega
  ·exact H.lo j hj
 ·split
  ·omega
  ·exact H.hi j hj
 ·rw [vf_set, if_pos (by omega), hz]; grind
structure PartInv (n : Nat) (f : Nat → Int) (d : Int) (i : Nat) (h : Nat → Int) (r : Int) : Prop where
 lo : ∀ j, j < n → 0 ≤ h j
 hi : ∀ j, j < n → h j < 1000000000
 below : ∀ j, j < i → h j = 0
 r0 : 0 ≤ r
 r1 : r < d
 val : vf f n = vf f i + r * pw i + d * vf h n
theorem PartInv.start {n : Nat} {f : Nat → Int} {d : Int} (hd : 0 < d) : PartInv n f d n (fun _ => 0) 0 :=
 ⟨fun _ _ => by simp, fun _ _ => by simp, fun _ _ => rfl, by simp, hd, by rw [vf_zero (f := fun _ => 0) fun _ _ => rfl]; simp⟩
theorem PartInv.step {n : Nat} {f : Nat → Int} {d : Int} {i : Nat} {h : Nat → Int} {r : Int} (H : PartInv n f d (i + 1) h r) (hi : i < n)
  (f0 : 0 ≤ f i) (f1 : f i < 1000000000) :
  PartInv n f d i (fun j => if j = i then (r * 1000000000 + f i) / d else h j) ((r * 1000000000 + f i) % d) := by
 have a3 := H.r0
 have a4 := H.r1
 have hv := H.val
 have hz := H.below i (by omega)
 have hd : 0 < d := by omega
 generalize hx : r * 1000000000 + f i = x
 have hq : x = d * (x / d) + x % d := (Int.mul_ediv_add_emod x d).symm
 have q0 : 0 ≤ x / d := Int.ediv_nonneg (by omega) (by omega)
 have q1 : x / d < 1000000000 := Int.ediv_lt_of_lt_mul hd (by omega)
 have r0 := Int.emod_nonneg x (show d ≠ 0 by omega)
 have r1 := Int.emod_lt_of_pos x hd
 refine ⟨fun j hj => ?_, fun j hj => ?_, fun j hj => ?_, r0, r1, ?_⟩
 ·show 0 ≤ if j = i then _ else _
  split
  ·omega
  ·exact H.lo j hj
 ·show (if j = i then _ else _) < _
  split
  ·omega
  ·exact H.hi j hj
 ·show (if j = i then _ else _) = _
  rw [if_neg (by omega)]; exact H.below j (by omega)
 ·rw [vf_set, if_pos hi, hz]
  rw [vf_succ, pw_succ] at hv
  generalize x / d = q at hq ⊢
  generalize x % d = s at hq ⊢
  generalize vf h n = V at hv ⊢
  generalize vf f n = W at hv ⊢
  grind
theorem PartInv.done {n : Nat} {f : Nat → Int} {d : Int} {h : Nat → Int} {r : Int} (H : PartInv n f d 0 h r) : Digs h (trimN h n) ∧ vf f n = d * vf h (trimN h n) + r := by
 have := trimN_can (f := h) (k := n) H.lo H.hi
 have hv := H.val
 simp [vf, pw] at hv
 rw [this.2]
 exact ⟨this.1, by omega⟩
end Go.Mono
namespace Go.Proofs.YtcgfdibagldafaaGreatDoor
open Go.RowKit Go.Mono
theorem trim_any (p : Option Addr) (n cap : Nat) (f : Nat → Int) (w : World) (h : SlF w (.slice p n cap) n f) :
  Calls Tryz.prog 163 #[.slice p n cap] w fun e w' => e = .returned (.slice p (trimN f n) cap) ∧ w = w' := by
 obtain ⟨hc, hn, hx⟩ := h.opens
 clear h
 go_enter Tryz.func163, Tryz.ntmps163
 go_wp2
 go_loop [0] (fun a => ∃ k : Nat, k ≤ n ∧ a = .slice p k cap ∧ trimN f k = trimN f n) (fun a => match a with | .slice _ k _ => k | _ => 0)
 case atStart => exact ⟨_, Nat.le_refl _, rfl, rfl⟩
 case round =>
  obtain ⟨k, hk, rfl, ht⟩ := hrel
  have HT := Lib.hid ht; clear ht
  by_cases h0 : 0 < k
  ·obtain ⟨b, off, rfl, hb, hcell⟩ := hx (by omega)
   have hc := hcell (k-1) (by omega)
   clear hcell hx
   by_cases hz : f (k-1) = 0
   ·have hz' : (f (k-1) == 0) = true := by simpa using hz
    have HZ := Lib.hid hz; clear hz
    go_wp2
    refine ⟨⟨k-1, by omega, rfl, ?_⟩, by simp; omega⟩
    rw [← HT.out, trimN_zero f k h0 HZ.out]
   ·have hz' : (f (k-1) == 0) = false := by simpa using hz
    have HZ := Lib.hid hz; clear hz
    go_wp2
    go_ret
    exact ⟨by rw [show trimN f n = k by rw [← HT.out, trimN_ne f k h0 HZ.out]]; rfl, rfl⟩
  ·obtain rfl : k = 0 := by omega
   go_wp2
   go_ret
   exact ⟨by rw [← HT.out]; rfl, rfl⟩
end Go.Proofs.YtcgfdibagldafaaGreatDoor
namespace Go.Mono
open Go.RowKit
section
structure Box (w : World) (B : Nat) (T : TypeId) (cs : Array Value) : Prop where
 blk : w.heap[B]? = some (.cells cs T (0, 0))
section
variable {w w' : World} {B : Nat} {T : TypeId} {cs : Array Value}
theorem Box.lt (h : Box w B T cs) : B < w.heap.size := lt_of_some h.blk
theorem Box.cell (h : Box w B T cs) : ∀ i, w.cell? ⟨B, i, none⟩ = cs[i]? := fun i => by simp [World.cell?, h.blk]
theorem Box.frozen (h : Box w B T cs) : ∀ i, w.frozen? ⟨B, i, none⟩ = false := fun i => by simp [World.frozen?, h.blk]
theorem Box.below (h : Box w B T cs) (hb : Below w.heap.size w w') : Box w' B T cs := ⟨(hb.block B h.lt).trans h.blk⟩
theorem Box.drew (h : Box w B T cs) : Box w.drew B T cs := ⟨h.blk⟩
theorem Box.new (w : World) (T : TypeId) (cs : Array Value) : Box (w.alloc (.cells cs T)) w.heap.size T cs := ⟨by show (w.heap.push _)[w.heap.size]? = _; simp⟩
theorem Box.alloc (h : Box w B T cs) (o : Obj) : Box (w.alloc o) B T cs := h.below ((Below.refl _ _).alloc (Nat.le_refl _) o)
theorem Box.set (h : Box w B T cs) (i : Nat) (u : Value) : Box (w.setCell ⟨B, i, none⟩ u) B T (cs.setIfInBounds i u) :=
 ⟨by show (w.heap.modify B _)[B]? = _; simp [Array.getElem?_modify, h.blk]⟩
theorem Box.other (h : Box w B T cs) (a : Addr) (u : Value) (hne : B ≠ a.block) : Box (w.setCell a u) B T cs := ⟨(Below.heap_setCell w a u B hne).trans h.blk⟩
theorem Ext.set {a : World} (h : Ext a w) (hb : Box w B T cs) (hT : T ≠ 3) (i : Nat) (u : Value) : Ext a (w.setCell ⟨B, i, none⟩ u) := by
 refine h.trans ⟨by show _ ≤ (w.heap.modify _ _).size; simp, fun k cs' fr hk => ?_⟩
 refine (Below.heap_setCell w _ u k ?_).trans hk
 rintro rfl
 have e := hb.blk
 rw [hk] at e
 simp at e
 exact hT e.2.1.symm
end
structure KeepBut (R N : Nat) (W w : World) : Prop where
 os : w.os = W.os
 tape : w.tape = W.tape
 output : w.output = W.output
 size : N ≤ w.heap.size
 block : ∀ k, k < N → k ≠ R → w.heap[k]? = W.heap[k]?
section
variable {R N : Nat} {W w w' : World}
theorem KeepBut.refl (R : Nat) (W : World) : KeepBut R W.heap.size W W := ⟨rfl, rfl, rfl, Nat.le_refl _, fun _ _ _ => rfl⟩
theorem KeepBut.drew (h : KeepBut R N W w) : KeepBut R N W w.drew := ⟨h.os, h.tape, h.output, h.size, h.block⟩
theorem KeepBut.drewN (h : KeepBut R N W w) (k : Nat) : KeepBut R N W (w.drewN k) := ⟨h.os, h.tape, h.output, h.size, h.block⟩
theorem KeepBut.call (h : KeepBut R N W w) (hb : Below w.heap.size w w') : KeepBut R N W w' :=
 ⟨hb.os.trans h.os, hb.tape.trans h.tape, hb.output.trans h.output, Nat.le_trans h.size hb.size, fun k hk hR => (hb.block k (Nat.lt_of_lt_of_le hk h.size)).trans (h.block k hk hR)⟩
theorem KeepBut.alloc (h : KeepBut R N W w) (o : Obj) : KeepBut R N W (w.alloc o) := h.call ((Below.refl _ _).alloc (Nat.le_refl _) o)
theorem KeepBut.set (h : KeepBut R N W w) (i : Nat) (u : Value) : KeepBut R N W (w.setCell ⟨R, i, none⟩ u) :=
 ⟨h.os, h.tape, h.output, by show N ≤ (w.heap.modify _ _).size; simpa using h.size, fun k hk hR => (Below.heap_setCell w _ u k hR).trans (h.block k hk hR)⟩
theorem KeepBut.cell (h : KeepBut R N W w) : ∀ b o, b < N → b ≠ R → w.cell? ⟨b, o, none⟩ = W.cell? ⟨b, o, none⟩ :=
 fun b o hb hR => World.cell?_of_block (a := ⟨b, o, none⟩) (h.block b hb hR)
theorem KeepBut.S (h : KeepBut R N W w) : (∀ b o, b < N → b ≠ R → w.cell? ⟨b, o, none⟩ = W.cell? ⟨b, o, none⟩) ∧ KeepBut R N W w := ⟨h.cell, h⟩
theorem KeepBut.ext (h : KeepBut R W.heap.size W w) {T : TypeId} {cs : Array Value} (hb : Box W R T cs) (hT : T ≠ 3) : Ext W w := by
 refine ⟨h.size, fun k cs' fr hk => (h.block k (lt_of_some hk) ?_).trans hk⟩
 rintro rfl
 have e := hb.blk
 rw [hk] at e
 simp at e
 exact hT e.2.1.symm
theorem KeepBut.below (h : KeepBut R N W w) {w0 : World} (hB : Below w0.heap.size w0 W) (hR : w0.heap.size ≤ R) (hN : w0.heap.size ≤ N) : Below w0.heap.size w0 w :=
 ⟨h.os.trans hB.os, h.tape.trans hB.tape, h.output.trans hB.output, Nat.le_trans hN h.size, fun k hk => (h.block k (by omega) (by omega)).trans (hB.block k hk)⟩
theorem KeepBut.box (h : KeepBut R N W w) {B : Nat} {T : TypeId} {cs : Array Value} (hb : Box W B T cs) (hN : B < N) (hR : B ≠ R) : Box w B T cs := ⟨(h.block B hN hR).trans hb.blk⟩
end
theorem boxes1 {P : Program} {c : Code} {Q : Exit → Act → World → Prop} {a : Act} {w : World} {T0 : TypeId} {c0 : Array Value}
  (h : ∀ W, Below w.heap.size w W → w.heap.size + 1 ≤ W.heap.size → Box W w.heap.size T0 c0 → c.wp P Q a W) : c.wp P Q a (w.alloc (.cells c0 T0)) :=
 h _ ((Below.refl _ _).alloc (Nat.le_refl _) _) (by simp) (Box.new _ _ _)
theorem boxes2 {P : Program} {c : Code} {Q : Exit → Act → World → Prop} {a : Act} {w : World} {T0 T1 : TypeId} {c0 c1 : Array Value}
  (h : ∀ W, Below w.heap.size w W → w.heap.size + 2 ≤ W.heap.size → Box W w.heap.size T0 c0 → Box W (w.heap.size + 1) T1 c1 → c.wp P Q a W) : c.wp P Q a ((w.alloc (.cells c0 T0)).alloc (.cells c1 T1)) := by
 refine h _ (((Below.refl _ _).alloc (Nat.le_refl _) _).alloc (by simp) _) (by simp) ((Box.new _ _ _).alloc _) ?_
 have := Box.new (w.alloc (.cells c0 T0)) T1 c1
 rwa [World.size_alloc] at this
theorem boxes3 {P : Program} {c : Code} {Q : Exit → Act → World → Prop} {a : Act} {w : World} {T0 T1 T2 : TypeId} {c0 c1 c2 : Array Value}
  (h : ∀ W, Below w.heap.size w W → w.heap.size + 3 ≤ W.heap.size → Box W w.heap.size T0 c0 → Box W (w.heap.size + 1) T1 c1 → Box W (w.heap.size + 1 + 1) T2 c2 → c.wp P Q a W) :
  c.wp P Q a (((w.alloc (.cells c0 T0)).alloc (.cells c1 T1)).alloc (.cells c2 T2)) := by
 have b1 := Box.new (w.alloc (.cells c0 T0)) T1 c1
 have b2 := Box.new ((w.alloc (.cells c0 T0)).alloc (.cells c1 T1)) T2 c2
 simp only [World.size_alloc] at b1 b2
 exact h _ ((((Below.refl _ _).alloc (Nat.le_refl _) _).alloc (by simp) _).alloc (by simp; omega) _) (by simp) (((Box.new _ _ _).alloc _).alloc _) (b1.alloc _) b2
section
variable {P : Program} {f : FuncId} {args : Array Value} {R : Ending → World → Prop} {w : World} {T0 T1 T2 : TypeId} {c0 c1 c2 : Array Value}
theorem boxes1c (h : ∀ W, Below w.heap.size w W → w.heap.size + 1 ≤ W.heap.size → Box W w.heap.size T0 c0 → Calls P f args W R) : Calls P f args (w.alloc (.cells c0 T0)) R :=
 h _ ((Below.refl _ _).alloc (Nat.le_refl _) _) (by simp) (Box.new _ _ _)
theorem boxes2c (h : ∀ W, Below w.heap.size w W → w.heap.size + 2 ≤ W.heap.size → Box W w.heap.size T0 c0 → Box W (w.heap.size + 1) T1 c1 → Calls P f args W R) : Calls P f args ((w.alloc (.cells c0 T0)).alloc (.cells c1 T1)) R := by
 refine h _ (((Below.refl _ _).alloc (Nat.le_refl _) _).alloc (by simp) _) (by simp) ((Box.new _ _ _).alloc _) ?_
 have := Box.new (w.alloc (.cells c0 T0)) T1 c1
 rwa [World.size_alloc] at this
theorem boxes3c (h : ∀ W, Below w.heap.size w W → w.heap.size + 3 ≤ W.heap.size → Box W w.heap.size T0 c0 → Box W (w.heap.size + 1) T1 c1 → Box W (w.heap.size + 1 + 1) T2 c2 → Calls P f args W R) :
  Calls P f args (((w.alloc (.cells c0 T0)).alloc (.cells c1 T1)).alloc (.cells c2 T2)) R := by
 have b1 := Box.new (w.alloc (.cells c0 T0)) T1 c1
 have b2 := Box.new ((w.alloc (.cells c0 T0)).alloc (.cells c1 T1)) T2 c2
 simp only [World.size_alloc] at b1 b2
 exact h _ ((((Below.refl _ _).alloc (Nat.le_refl _) _).alloc (by simp) _).alloc (by simp; omega) _) (by simp) (((Box.new _ _ _).alloc _).alloc _) (b1.alloc _) b2
end
theorem belowS {W w : World} (h : Below W.heap.size W w) : (∀ b o, b < W.heap.size → w.cell? ⟨b, o, none⟩ = W.cell? ⟨b, o, none⟩) ∧ Below W.heap.size W w := ⟨fun _ _ hb => h.cell hb, h⟩
theorem belowCall {w w1 w2 : World} (h : Below w.heap.size w w1) (k : Below w1.heap.size w1 w2) : Below w.heap.size w w2 := h.trans (k.mono h.size)
theorem belowAlloc {w w1 : World} (h : Below w.heap.size w w1) (o : Obj) : Below w.heap.size w (w1.alloc o) := h.alloc h.size o
theorem belowSet {w w1 : World} (h : Below w.heap.size w w1) {B : Nat} (hB : w.heap.size ≤ B) (i : Nat) (u : Value) : Below w.heap.size w (w1.setCell ⟨B, i, none⟩ u) := h.setCell (p := ⟨B, i, none⟩) hB u
def Sg (s : Bool) (z : Int) : Prop := (s = true → z ≤ 0) ∧ (s = false → 0 ≤ z)
theorem Sg.mul {s : Bool} {z y : Int} (h : Sg s z) (hy : 0 ≤ y) : Sg s (z * y) :=
 ⟨fun e => by have := Int.mul_le_mul_of_nonneg_right (h.1 e) hy; simpa using this, fun e => Int.mul_nonneg (h.2 e) hy⟩
theorem natAbs_mul_pos {z y : Int} (hy : 0 ≤ y) : ((z * y).natAbs : Int) = z.natAbs * y := by
 rw [Int.natAbs_mul, Int.natCast_mul]
 congr 1
 omega
theorem Sg.div {s : Bool} {z y : Int} (h : Sg s z) (hy : 0 < y) : Sg s (z / y) :=
 ⟨fun e => by have := Int.ediv_le_ediv hy (h.1 e); simpa using this, fun e => Int.ediv_nonneg (h.2 e) (Int.le_of_lt hy)⟩
end
section
theorem mle {a b c : Int} (h : a ≤ b) (hc : 0 ≤ c) : a * c ≤ b * c := Int.mul_le_mul_of_nonneg_right h hc
structure Est (p vl v2 v1 ul u0 u1 u2 V U : Int) : Prop where
 p0 : 0 < p
 vl0 : 0 ≤ vl
 vl1 : vl < p
 v20 : 0 ≤ v2
 v21 : v2 < 1000000000
 v10 : 0 < v1
 v11 : v1 < 1000000000
 ul0 : 0 ≤ ul
 ul1 : ul < p
 u00 : 0 ≤ u0
 u01 : u0 < 1000000000
 u10 : 0 ≤ u1
 u11 : u1 < 1000000000
 u20 : 0 ≤ u2
 hV : V = vl + v2 * p + v1 * (1000000000 * p)
 hU : U = ul + u0 * p + u1 * (1000000000 * p) + u2 * (1000000000 * (1000000000 * p))
 lt : U < V * 1000000000
section
variable {p vl v2 v1 ul u0 u1 u2 V U : Int}
theorem Est.U_lt (E : Est p vl v2 v1 ul u0 u1 u2 V U) : U < ((u2 * 1000000000 + u1) * 1000000000 + u0 + 1) * p := by
 rw [E.hU]
 have := E.ul1
 grind
theorem Est.U_ge (E : Est p vl v2 v1 ul u0 u1 u2 V U) : ((u2 * 1000000000 + u1) * 1000000000 + u0) * p ≤ U := by
 rw [E.hU]
 have := E.ul0
 grind
theorem Est.V_ge (E : Est p vl v2 v1 ul u0 u1 u2 V U) : (v1 * 1000000000 + v2) * p ≤ V := by
 rw [E.hV]
 have := E.vl0
 grind
theorem Est.V_lt (E : Est p vl v2 v1 ul u0 u1 u2 V U) : V < (v1 * 1000000000 + v2 + 1) * p := by
 rw [E.hV]
 have := E.vl1
 grind
theorem Est.V_pos (E : Est p vl v2 v1 ul u0 u1 u2 V U) : 0 < V := by
 have h1 := E.V_ge
 have h2 := mle (show 1 ≤ v1 * 1000000000 + v2 by have := E.v10; have := E.v20; omega) (Int.le_of_lt E.p0)
 have := E.p0
 omega
theorem Est.u2_le (E : Est p vl v2 v1 ul u0 u1 u2 V U) : u2 ≤ v1 := by
 rcases Int.lt_or_le v1 u2 with h | h
 ·have h1 := E.U_ge
  have h2 := E.V_lt
  have h3 := E.lt
  have h4 := mle (show (v1 * 1000000000 + v2 + 1) * 1000000000 ≤ (u2 * 1000000000 + u1) * 1000000000 + u0 by have := E.v21; have := E.u10; have := E.u00; omega) (Int.le_of_lt E.p0)
  have h5 : (v1 * 1000000000 + v2 + 1) * 1000000000 * p = (v1 * 1000000000 + v2 + 1) * p * 1000000000 := by grind
  omega
 ·exact h
structure EstInv (V U v1 top d rest : Int) : Prop where
 top : top = d * v1 + rest
 r0 : 0 ≤ rest
 d0 : 0 ≤ d
 d1 : d < 2000000000
 big : U < (d + 1) * V
theorem Est.d_lt (E : Est p vl v2 v1 ul u0 u1 u2 V U) {d rest : Int} (h : u2 * 1000000000 + u1 = d * v1 + rest) (hr : 0 ≤ rest) : d < 2000000000 := by
 rcases Int.lt_or_le d 2000000000 with h1 | h1
 ·exact h1
 ·have h2 := mle h1 (Int.le_of_lt E.v10)
  have := E.u2_le
  have := E.u11
  have := E.v10
  omega
theorem Est.init (E : Est p vl v2 v1 ul u0 u1 u2 V U) : EstInv V U v1 (u2 * 1000000000 + u1) ((u2 * 1000000000 + u1) / v1) ((u2 * 1000000000 + u1) % v1) := by
 generalize ht : u2 * 1000000000 + u1 = t
 have t0 : 0 ≤ t := by have := E.u20; have := E.u10; omega
 have h1 : t = t / v1 * v1 + t % v1 := by rw [Int.mul_comm]; exact (Int.mul_ediv_add_emod t v1).symm
 have h2 := Int.emod_nonneg t (show v1 ≠ 0 by have := E.v10; omega)
 have h3 := Int.emod_lt_of_pos t E.v10
 have h4 : 0 ≤ t / v1 := Int.ediv_nonneg t0 (Int.le_of_lt E.v10)
 refine ⟨h1, h2, h4, E.d_lt (ht.trans h1) h2, ?_⟩
 generalize t / v1 = d at h1 h4 ⊢
 generalize t % v1 = r at h1 h2 h3
 have a1 := E.U_lt
 rw [ht] at a1
 have a2 : (t + 1) * (1000000000 * p) ≤ ((d + 1) * v1) * (1000000000 * p) := mle (by grind) (by have := E.p0; omega)
 have a3 : (t * 1000000000 + u0 + 1) * p ≤ ((t + 1) * 1000000000) * p := mle (by have := E.u01; omega) (Int.le_of_lt E.p0)
 have a4 : (v1 * (1000000000 * p)) * (d + 1) ≤ V * (d + 1) := mle (by have := E.hV; have := E.vl0; have := mle E.v20 (Int.le_of_lt E.p0); omega) (by omega)
 have a5 : ((t + 1) * 1000000000) * p = (t + 1) * (1000000000 * p) := by grind
 have a6 : ((d + 1) * v1) * (1000000000 * p) = (v1 * (1000000000 * p)) * (d + 1) := by grind
 have a7 : V * (d + 1) = (d + 1) * V := by grind
 omega
theorem Est.step (E : Est p vl v2 v1 ul u0 u1 u2 V U) {d rest : Int} (I : EstInv V U v1 (u2 * 1000000000 + u1) d rest) (h : 1000000000 ≤ d ∨ rest * 1000000000 + u0 < d * v2) :
  EstInv V U v1 (u2 * 1000000000 + u1) (d - 1) (rest + v1) := by
 have hV := E.V_pos
 have hbig : U < d * V := by
  rcases h with h | h
  ·have := E.lt
   have := mle h (Int.le_of_lt hV)
   have : V * 1000000000 = 1000000000 * V := by grind
   omega
  ·have a1 := E.U_lt
   have a2 : ((v1 * 1000000000 + v2) * p) * d ≤ V * d := mle E.V_ge I.d0
   have a3 : ((u2 * 1000000000 + u1) * 1000000000 + u0 + 1) * p ≤ (d * v1 * 1000000000 + d * v2) * p := mle (by have := I.top; omega) (Int.le_of_lt E.p0)
   have a4 : (d * v1 * 1000000000 + d * v2) * p = ((v1 * 1000000000 + v2) * p) * d := by grind
   have a5 : V * d = d * V := by grind
   omega
 have hd : 1 ≤ d := by
  rcases Int.lt_or_le 0 d with h1 | h1
  ·omega
  ·obtain rfl : d = 0 := by have := I.d0; omega
   have := I.r0
   have := E.u00
   simp at h; omega
 refine ⟨by have := I.top; grind, by have := I.r0; have := E.v10; omega, by omega, by have := I.d1; omega, ?_⟩
 rw [show d - 1 + 1 = d by omega]; exact hbig
theorem Est.done (E : Est p vl v2 v1 ul u0 u1 u2 V U) {d rest : Int} (I : EstInv V U v1 (u2 * 1000000000 + u1) d rest) (h1 : d < 1000000000) (h2 : d * v2 ≤ rest * 1000000000 + u0) : d * V < U + V := by
 have a1 := E.U_ge
 have a2 : V * d ≤ ((v1 * 1000000000 + v2 + 1) * p) * d := mle (Int.le_of_lt E.V_lt) I.d0
 have a3 : (d * v1 * 1000000000 + d * v2) * p ≤ ((u2 * 1000000000 + u1) * 1000000000 + u0) * p := mle (by have := I.top; omega) (Int.le_of_lt E.p0)
 have a4 : ((v1 * 1000000000 + v2 + 1) * p) * d = (d * v1 * 1000000000 + d * v2) * p + d * p := by grind
 have a5 : d * p ≤ 999999999 * p := mle (by omega) (Int.le_of_lt E.p0)
 have a6 : (1000000000 * 1) * p ≤ (v1 * 1000000000 + v2) * p := mle (by have := E.v10; have := E.v20; omega) (Int.le_of_lt E.p0)
 have a7 := E.V_ge
 have a8 : V * d = d * V := by grind
 have := E.p0
 omega
theorem Est.brk (E : Est p vl v2 v1 ul u0 u1 u2 V U) {d rest : Int} (I : EstInv V U v1 (u2 * 1000000000 + u1) d rest) (h : 1000000000 ≤ rest) : d < 1000000000 ∧ d * v2 ≤ rest * 1000000000 + u0 := by
 have hd : d < 1000000000 := by
  rcases Int.lt_or_le d 1000000000 with h1 | h1
  ·exact h1
  ·have := mle h1 (Int.le_of_lt E.v10)
   have := E.u2_le
   have := E.u11
   have := I.top
   omega
 have := mul_bd I.d0 hd E.v20 E.v21
 have := E.u00
 exact ⟨hd, by omega⟩
end
theorem Est.mk' {m : Nat} {g u : Nat → Int} (g0 : ∀ i, i < m + 2 → 0 ≤ g i) (g1 : ∀ i, i < m + 2 → g i < 1000000000) (u0 : ∀ i, i < m + 3 → 0 ≤ u i) (u1 : ∀ i, i < m + 3 → u i < 1000000000)
  (htop : g (m + 1) ≠ 0) (hlt : vf u (m + 3) < vf g (m + 2) * 1000000000) :
  Est (pw m) (vf g m) (g m) (g (m + 1)) (vf u m) (u m) (u (m + 1)) (u (m + 2)) (vf g (m + 2)) (vf u (m + 3)) := by
 have h1 := g0 (m + 1) (by omega)
 exact ⟨pw_pos m, vf_nonneg fun i hi => g0 i (by omega), vf_lt fun i hi => g1 i (by omega), g0 m (by omega), g1 m (by omega), by omega, g1 _ (by omega), vf_nonneg fun i hi => u0 i (by omega), vf_lt fun i hi => u1 i (by omega),
  u0 _ (by omega), u1 _ (by omega), u0 _ (by omega), u1 _ (by omega), u0 _ (by omega), by simp only [vf_succ, pw_succ]; grind, by simp only [vf_succ, pw_succ]; grind, hlt⟩
end
end Go.Mono
namespace Go.Proofs.YtcgfdibagldafaaGreatDoor
open Go.RowKit Go.Mono
theorem infoInt : (Tryz.prog.info? 3).map (fun i => (i.zero, i.size, i.bytes)) = some (some (.int .i64 0), 1, 8) := by kernel_rfl
theorem sizeInt : (Tryz.prog.info? 3).map (·.size) = some 1 := by kernel_rfl
theorem times_any (p q : Option Addr) (n m c1 c2 : Nat) (f g : Nat → Int) (w : World) (h1 : SlF w (.slice p n c1) n f) (h2 : SlF w (.slice q m c2) m g)
  (f0 : ∀ i, i < n → 0 ≤ f i) (f1 : ∀ i, i < n → f i < 1000000000) (g0 : ∀ i, i < m → 0 ≤ g i) (g1 : ∀ i, i < m → g i < 1000000000) (hn : n ≤ 1000000) (hm : m ≤ 1000000) :
  Calls Tryz.prog 102 #[.slice p n c1, .slice q m c2] w fun e w' => ∃ b k h, e = .returned (.slice (some ⟨b, 0, none⟩) k (n + m)) ∧ SlF w' (.slice (some ⟨b, 0, none⟩) k (n + m)) k h ∧ Digs h k ∧ vf h k = vf f n * vf g m ∧ k ≤ n + m ∧ Below w.heap.size w w' := by
 obtain ⟨hc1, hn1, hx1⟩ := h1.opens
 obtain ⟨hc2, hn2, hx2⟩ := h2.opens
 clear h1 h2
 go_enter Tryz.func102, Tryz.ntmps102
 go_wp2_with (at_make; refine wpList_make_ints _ rfl _ _ 123 rfl Tryz.underlying123 infoInt _ _ (n + m) rfl rfl (by simp) (by simp) (by omega) ?_; intro w1 r1 b1; have s1 := b1.size; have L1 := r1.lt)
 go_loopw [20] (fun a wr => ∃ i : Nat, i ≤ n ∧ a = .int .i64 i ∧ Below w.heap.size w wr ∧ ∃ h, RowF wr w.heap.size (n + m) h ∧ TimesInv n m f g i 0 h 0) (fun a _ => n - (intOf a).toNat)
 case atStart => exact ⟨0, Nat.zero_le _, rfl, b1, _, r1, TimesInv.start⟩
 case round =>
  clear b1 s1 L1 r1
  obtain ⟨i, hi, rfl, hb, h, hr, HT⟩ := hrel
  by_cases hlt : i < n
  ·obtain ⟨b, off, rfl, hbs, hcell⟩ := hx1 (by omega)
   have a1 := (hb.cell (p := ⟨b, off + i, none⟩) hbs).trans (hcell i hlt)
   have fi0 := f0 i hlt
   have fi1 := f1 i hlt
   clear hcell hx1
   go_wp2
   go_loopw [8, 27] (fun c a wr => ∃ k : Nat, k ≤ m ∧ a = .int .i64 k ∧ Below w.heap.size w wr ∧ ∃ h cc, c = .int .i64 cc ∧ RowF wr w.heap.size (n + m) h ∧ TimesInv n m f g i k h cc) (fun _ a _ => m - (intOf a).toNat)
   case atStart => exact ⟨0, Nat.zero_le _, rfl, hb, _, _, rfl, hr, HT⟩
   case round =>
    clear hb hr HT a1
    obtain ⟨k, hk, rfl, hb, h, cc, rfl, hr, HT⟩ := hrel
    by_cases hlk : k < m
    ·obtain ⟨b2, off2, rfl, hbs2, hcell2⟩ := hx2 (by omega)
     have a1 := (hb.cell (p := ⟨b2, off2 + k, none⟩) hbs2).trans (hcell2 k hlk)
     have gk0 := g0 k hlk
     have gk1 := g1 k hlk
     have a2 := hr.cell (i + k) (by omega)
     have a3 := hr.frozen (i + k)
     have d1 := HT.lo (i + k) (by omega)
     have d2 := HT.hi (i + k) (by omega)
     have d3 := HT.c0
     have d4 := HT.c1
     obtain ⟨d5, d6⟩ := mul_bd fi0 fi1 gk0 gk1
     clear hcell2 hx2 f0 f1 g0 g1
     go_wp2
     go_roundw
     case rel => exact ⟨k + 1, by omega, by go_num, hb.setCell (p := ⟨w.heap.size, i + k, none⟩) (Nat.le_refl _) _, _, _, rfl, hr.set (i + k) _, HT.step hlt hlk fi0 fi1 gk0 gk1⟩
     case measure => simp [intOf]; omega
    ·obtain rfl : k = m := by omega
     have d3 := HT.c0
     have d4 := HT.c1
     have a2 := hr.cell (i + k) (by omega)
     have a3 := hr.frozen (i + k)
     clear hlk hk hx2 f0 f1 g0 g1
     go_wp2
     go_roundw
     case rel => exact ⟨i + 1, by omega, by go_num, hb.setCell (p := ⟨w.heap.size, i + k, none⟩) (Nat.le_refl _) _, _, hr.set (i + k) _, HT.outer hlt⟩
     case measure => simp [intOf]; omega
  ·obtain rfl : i = n := by omega
   clear hlt hi hx1 hx2
   have hs := hr.slice (by omega) (i + m) (Nat.le_refl _) (i + m) (Nat.le_refl _)
   obtain ⟨c1', c2'⟩ := HT.done
   have hle := trimN_le h (i + m)
   replace c2' := Lib.hid c2'
   go_wp2_with (go_at_call 163; refine (trim_any _ _ _ h _ hs).mono ?_; rintro e w' ⟨rfl, rfl⟩)
   go_ret
   exact ⟨_, _, h, rfl, hs.take _ hle, c1', c2'.out, hle, hb⟩
theorem times_sz (m1 m2 : Nat) (w wf : World) (hx : Ext wf w) (p q : Option Addr) (n m c1 c2 : Nat) (N M : Int) (h1 : Sz m1 wf (.slice p n c1) N) (h2 : Sz m2 wf (.slice q m c2) M) (hm1 : m1 ≤ 1000000) (hm2 : m2 ≤ 1000000) :
  Calls Tryz.prog 102 #[.slice p n c1, .slice q m c2] w fun e w' => ∃ p k c, e = .returned (.slice p k c) ∧ Sz (m1 + m2) w' (.slice p k c) (N * M) ∧ Below w.heap.size w w' := by
 obtain ⟨n, f, s1, d1, rfl, l1, rfl⟩ := (h1.ext hx).sl
 obtain ⟨m, g, s2, d2, rfl, l2, rfl⟩ := (h2.ext hx).sl
 refine (times_any p q n m c1 c2 f g w s1 s2 d1.lo d1.hi d2.lo d2.hi (by omega) (by omega)).mono ?_
 rintro e w' ⟨b, k, h, rfl, hs, hd, hv, hk, hb⟩
 exact ⟨_, _, _, rfl, ⟨k, h, hs, hd, hv, by omega⟩, hb⟩
theorem infoInt4 : (Tryz.prog.info? 3).map (fun i => (i.zero, i.size, i.bytes)) = some (some (.int .i64 0), 1, 8) := by kernel_rfl
theorem sizeInt4 : (Tryz.prog.info? 3).map (·.size) = some 1 := by kernel_rfl
theorem plus_ge (p q : Option Addr) (n m c1 c2 : Nat) (f g : Nat → Int) (w : World) (h1 : SlF w (.slice p n c1) n f) (h2 : SlF w (.slice q m c2) m g)
  (f0 : ∀ i, i < n → 0 ≤ f i) (f1 : ∀ i, i < n → f i < 1000000000) (g0 : ∀ i, i < m → 0 ≤ g i) (g1 : ∀ i, i < m → g i < 1000000000) (hmn : m ≤ n) (hn : n ≤ 1000000) :
  Calls Tryz.prog 165 #[.slice p n c1, .slice q m c2] w fun e w' => ∃ b k h, e = .returned (.slice (some ⟨b, 0, none⟩) k (n + 1)) ∧ SlF w' (.slice (some ⟨b, 0, none⟩) k (n + 1)) k h ∧ Digs h k ∧ vf h k = vf f n + vf g m ∧ k ≤ n + 1 ∧ Below w.heap.size w w' := by
 obtain ⟨hc1, hn1, hx1⟩ := h1.opens
 obtain ⟨hc2, hn2, hx2⟩ := h2.opens
 go_enter Tryz.func165, Tryz.ntmps165
 go_wp2_with (first
  | (at_make; refine wpList_make_ints _ rfl _ _ 123 rfl Tryz.underlying123 infoInt4 _ _ (n + 1) rfl rfl (by simp) (by simp) (by omega) ?_; intro w1 r1 b1; have s1 := b1.size; have L1 := r1.lt)
  | (with_reducible refine wpList_copy_ints _ rfl (.tmp 20) (.tmp 21) 123 123 rfl Tryz.underlying123 sizeInt4 w.heap.size (n + 1) _ (n + 1) _ _ n c1 f rfl rfl r1 (h1.ext (.of_below b1)) (by omega) (by omega) w.heap.size w b1 (Nat.le_refl _) ?_; intro w2 r2 b2))
 clear h1 h2 hx1
 go_loopw [25] (fun a wr => ∃ k : Nat, k ≤ m ∧ a = .int .i64 k ∧ Below w.heap.size w wr ∧ RowF wr w.heap.size (n + 1) (fun j => (if j < n then f j else 0) + (if j < k then g j else 0))) (fun a _ => m - (intOf a).toNat)
 case atStart => exact ⟨0, Nat.zero_le _, rfl, b2, r2.congr fun i _ => by simp⟩
 case round =>
  obtain ⟨k, hk, rfl, hb, hr⟩ := hrel
  by_cases hlt : k < m
  ·obtain ⟨b, off, rfl, hbs, hcell⟩ := hx2 (by omega)
   have a1 := (hb.cell (p := ⟨b, off + k, none⟩) hbs).trans (hcell k hlt)
   have a2 := hr.cell k (by omega)
   rw [if_pos (by omega), if_neg (by omega), Int.add_zero] at a2
   have a3 := hr.frozen k
   have d1 := f0 k (by omega)
   have d2 := f1 k (by omega)
   have d3 := g0 k hlt
   have d4 := g1 k hlt
   clear hcell hx2 f0 f1 g0 g1
   go_wp2
   go_roundw
   case rel =>
    refine ⟨k + 1, by omega, by go_num, hb.setCell (p := ⟨w.heap.size, k, none⟩) (Nat.le_refl _) _, (hr.set k _).congr fun i hi => ?_⟩
    by_cases e : i = k
    ·subst e; simp; omega
    ·rw [if_neg e]; simp only [show i < k + 1 ↔ i < k by omega]
   case measure => simp [intOf]; omega
  ·obtain rfl : k = m := by omega
   clear hlt hk hx2
   go_wp2
   have HP : PlusInv n (vf f n + vf g k) 0 (fun j => (if j < n then f j else 0) + (if j < k then g j else 0)) := PlusInv.start hmn f0 f1 g0 g1
   clear f0 f1 g0 g1
   go_loopw [40] (fun a wr => ∃ i : Nat, i ≤ n ∧ a = .int .i64 i ∧ Below w.heap.size w wr ∧ ∃ h, RowF wr w.heap.size (n + 1) h ∧ PlusInv n (vf f n + vf g k) i h) (fun a _ => n - (intOf a).toNat)
   case atStart => exact ⟨0, Nat.zero_le _, rfl, hb, _, hr, HP⟩
   case round =>
    clear hb hr HP
    obtain ⟨i, hi, rfl, hb, h, hr, HP⟩ := hrel
    by_cases hlt : i < n
    ·obtain ⟨q1, q2, q3, q4⟩ := HP.bd hlt
     have a2 := hr.cell i (by omega)
     have a3 := hr.frozen i
     have a4 := hr.cell (i + 1) (by omega)
     have a5 := hr.frozen (i + 1)
     by_cases hge : 1000000000 ≤ h i
     ·have r1 := hr.set i (h i - 1000000000)
      have a6 := r1.cell (i + 1) (by omega)
      have a7 := r1.frozen (i + 1)
      simp only [show ¬ i + 1 = i by omega, if_false] at a6
      go_wp2
      go_roundw
      case rel => exact ⟨i + 1, by omega, by go_num, (hb.setCell (p := ⟨w.heap.size, i, none⟩) (Nat.le_refl _) _).setCell (p := ⟨w.heap.size, i + 1, none⟩) (Nat.le_refl _) _, _, r1.set (i + 1) (h (i + 1) + 1), HP.carry hlt hge⟩
      case measure => simp [intOf]; omega
     ·have hge' : h i < 1000000000 := by omega
      go_wp2
      go_roundw
      case rel => exact ⟨i + 1, by omega, by go_num, hb, _, hr, HP.plain hlt hge'⟩
      case measure => simp [intOf]; omega
    ·obtain rfl : i = n := by omega
     clear hlt hi
     have hs := hr.slice (by omega) (i + 1) (Nat.le_refl _) (i + 1) (Nat.le_refl _)
     obtain ⟨c1', c2'⟩ := HP.done
     have hle := trimN_le h (i + 1)
     replace c2' := Lib.hid c2'
     go_wp2_with (go_at_call 163; refine (trim_any _ _ _ h _ hs).mono ?_; rintro e w' ⟨rfl, rfl⟩)
     go_ret
     exact ⟨_, _, h, rfl, hs.take _ hle, c1', c2'.out, hle, hb⟩
theorem plus_lt (p q : Option Addr) (n m c1 c2 : Nat) (f g : Nat → Int) (w : World) (h1 : SlF w (.slice p n c1) n f) (h2 : SlF w (.slice q m c2) m g)
  (f0 : ∀ i, i < n → 0 ≤ f i) (f1 : ∀ i, i < n → f i < 1000000000) (g0 : ∀ i, i < m → 0 ≤ g i) (g1 : ∀ i, i < m → g i < 1000000000) (hlt' : m < n) (hn : n ≤ 1000000) :
  Calls Tryz.prog 165 #[.slice q m c2, .slice p n c1] w fun e w' => ∃ b k h, e = .returned (.slice (some ⟨b, 0, none⟩) k (n + 1)) ∧ SlF w' (.slice (some ⟨b, 0, none⟩) k (n + 1)) k h ∧ Digs h k ∧ vf h k = vf f n + vf g m ∧ k ≤ n + 1 ∧ Below w.heap.size w w' := by
 have hmn : m ≤ n := by omega
 obtain ⟨hc1, hn1, hx1⟩ := h1.opens
 obtain ⟨hc2, hn2, hx2⟩ := h2.opens
 go_enter Tryz.func165, Tryz.ntmps165
 go_wp2_with (first
  | (at_make; refine wpList_make_ints _ rfl _ _ 123 rfl Tryz.underlying123 infoInt4 _ _ (n + 1) rfl rfl (by simp) (by simp) (by omega) ?_; intro w1 r1 b1; have s1 := b1.size; have L1 := r1.lt)
  | (with_reducible refine wpList_copy_ints _ rfl (.tmp 20) (.tmp 21) 123 123 rfl Tryz.underlying123 sizeInt4 w.heap.size (n + 1) _ (n + 1) _ _ n c1 f rfl rfl r1 (h1.ext (.of_below b1)) (by omega) (by omega) w.heap.size w b1 (Nat.le_refl _) ?_; intro w2 r2 b2))
 clear h1 h2 hx1
 go_loopw [25] (fun a wr => ∃ k : Nat, k ≤ m ∧ a = .int .i64 k ∧ Below w.heap.size w wr ∧ RowF wr w.heap.size (n + 1) (fun j => (if j < n then f j else 0) + (if j < k then g j else 0))) (fun a _ => m - (intOf a).toNat)
 case atStart => exact ⟨0, Nat.zero_le _, rfl, b2, r2.congr fun i _ => by simp⟩
 case round =>
  obtain ⟨k, hk, rfl, hb, hr⟩ := hrel
  by_cases hlt : k < m
  ·obtain ⟨b, off, rfl, hbs, hcell⟩ := hx2 (by omega)
   have a1 := (hb.cell (p := ⟨b, off + k, none⟩) hbs).trans (hcell k hlt)
   have a2 := hr.cell k (by omega)
   rw [if_pos (by omega), if_neg (by omega), Int.add_zero] at a2
   have a3 := hr.frozen k
   have d1 := f0 k (by omega)
   have d2 := f1 k (by omega)
   have d3 := g0 k hlt
   have d4 := g1 k hlt
   clear hcell hx2 f0 f1 g0 g1
   go_wp2
   go_roundw
   case rel =>
    refine ⟨k + 1, by omega, by go_num, hb.setCell (p := ⟨w.heap.size, k, none⟩) (Nat.le_refl _) _, (hr.set k _).congr fun i hi => ?_⟩
    by_cases e : i = k
    ·subst e; simp; omega
    ·rw [if_neg e]; simp only [show i < k + 1 ↔ i < k by omega]
   case measure => simp [intOf]; omega
  ·obtain rfl : k = m := by omega
   clear hlt hk hx2
   go_wp2
   have HP : PlusInv n (vf f n + vf g k) 0 (fun j => (if j < n then f j else 0) + (if j < k then g j else 0)) := PlusInv.start hmn f0 f1 g0 g1
   clear f0 f1 g0 g1
   go_loopw [40] (fun a wr => ∃ i : Nat, i ≤ n ∧ a = .int .i64 i ∧ Below w.heap.size w wr ∧ ∃ h, RowF wr w.heap.size (n + 1) h ∧ PlusInv n (vf f n + vf g k) i h) (fun a _ => n - (intOf a).toNat)
   case atStart => exact ⟨0, Nat.zero_le _, rfl, hb, _, hr, HP⟩
   case round =>
    clear hb hr HP
    obtain ⟨i, hi, rfl, hb, h, hr, HP⟩ := hrel
    by_cases hlt : i < n
    ·obtain ⟨q1, q2, q3, q4⟩ := HP.bd hlt
     have a2 := hr.cell i (by omega)
     have a3 := hr.frozen i
     have a4 := hr.cell (i + 1) (by omega)
     have a5 := hr.frozen (i + 1)
     by_cases hge : 1000000000 ≤ h i
     ·have r1 := hr.set i (h i - 1000000000)
      have a6 := r1.cell (i + 1) (by omega)
      have a7 := r1.frozen (i + 1)
      simp only [show ¬ i + 1 = i by omega, if_false] at a6
      go_wp2
      go_roundw
      case rel => exact ⟨i + 1, by omega, by go_num, (hb.setCell (p := ⟨w.heap.size, i, none⟩) (Nat.le_refl _) _).setCell (p := ⟨w.heap.size, i + 1, none⟩) (Nat.le_refl _) _, _, r1.set (i + 1) (h (i + 1) + 1), HP.carry hlt hge⟩
      case measure => simp [intOf]; omega
     ·have hge' : h i < 1000000000 := by omega
      go_wp2
      go_roundw
      case rel => exact ⟨i + 1, by omega, by go_num, hb, _, hr, HP.plain hlt hge'⟩
      case measure => simp [intOf]; omega
    ·obtain rfl : i = n := by omega
     clear hlt hi
     have hs := hr.slice (by omega) (i + 1) (Nat.le_refl _) (i + 1) (Nat.le_refl _)
     obtain ⟨c1', c2'⟩ := HP.done
     have hle := trimN_le h (i + 1)
     replace c2' := Lib.hid c2'
     go_wp2_with (go_at_call 163; refine (trim_any _ _ _ h _ hs).mono ?_; rintro e w' ⟨rfl, rfl⟩)
     go_ret
     exact ⟨_, _, h, rfl, hs.take _ hle, c1', c2'.out, hle, hb⟩
theorem plus_sz (m1 m2 : Nat) (w wf : World) (hx : Ext wf w) (p q : Option Addr) (n m c1 c2 : Nat) (N M : Int) (h1 : Sz m1 wf (.slice p n c1) N) (h2 : Sz m2 wf (.slice q m c2) M) (hm1 : m1 ≤ 1000000) (hm2 : m2 ≤ 1000000) :
  Calls Tryz.prog 165 #[.slice p n c1, .slice q m c2] w fun e w' => ∃ p k c, e = .returned (.slice p k c) ∧ Sz (max m1 m2 + 1) w' (.slice p k c) (N + M) ∧ Below w.heap.size w w' := by
 obtain ⟨n, f, s1, d1, rfl, l1, rfl⟩ := (h1.ext hx).sl
 obtain ⟨m, g, s2, d2, rfl, l2, rfl⟩ := (h2.ext hx).sl
 by_cases hmn : m ≤ n
 ·refine (plus_ge p q n m c1 c2 f g w s1 s2 d1.lo d1.hi d2.lo d2.hi hmn (by omega)).mono ?_
  rintro e w' ⟨b, k, h, rfl, hs, hd, hv, hk, hb⟩
  exact ⟨_, _, _, rfl, ⟨k, h, hs, hd, hv, by omega⟩, hb⟩
 ·refine (plus_lt q p m n c2 c1 g f w s2 s1 d2.lo d2.hi d1.lo d1.hi (by omega) (by omega)).mono ?_
  rintro e w' ⟨b, k, h, rfl, hs, hd, hv, hk, hb⟩
  exact ⟨_, _, _, rfl, ⟨k, h, hs, hd, by rw [hv]; omega, by omega⟩, hb⟩
end Go.Proofs.YtcgfdibagldafaaGreatDoor
