/- Part 1 of 52 of the proof that the law ParaxialKnown returns true, whatever stands in memory, if the two listed variables hold what the text lays: contracts of the functions that it reaches. No condition beside the row. -/
import Derived.Test.YtepodcocemmejaaGreatDoorChecked
import Derived.WalkKit
import Derived.WalkSpells
import Derived.WalkLawsBesides
import Derived.Deep.QuietTactic
import Derived.BigQuiet
import Derived.Lib.Hide
import Derived.Deep.RegionHeld3
set_option linter.unusedVariables false
set_option linter.unusedSimpArgs false
namespace Go.Mono
/-- the base of long integers -/
abbrev B : Int := 1000000000
/-- its powers -/
def pw : Nat → Int
  | 0 => 1
  | k + 1 => pw k * 1000000000
theorem pw_succ (k : Nat) : pw (k + 1) = pw k * 1000000000 := rfl
theorem pw_pos (k : Nat) : 0 < pw k := by induction k with
  | zero => decide
  | succ k ih => rw [pw_succ]; omega
theorem pw_add (i k : Nat) : pw (i + k) = pw i * pw k := by induction k with
  | zero => simp [pw]
  | succ k ih => rw [← Nat.add_assoc, pw_succ, ih, pw_succ]; grind
theorem pw_mono {i k : Nat} (h : i ≤ k) : pw i ≤ pw k := by
  obtain ⟨d, rfl⟩ := Nat.exists_eq_add_of_le h
  rw [pw_add]
  have h1 := pw_pos i
  have h2 := pw_pos d
  have h3 : pw i * 1 ≤ pw i * pw d := Int.mul_le_mul_of_nonneg_left (by omega) (by omega)
  omega
/-- the number of the first k digits -/
def vf (f : Nat → Int) : Nat → Int
  | 0 => 0
  | k + 1 => vf f k + f k * pw k
theorem vf_succ (f : Nat → Int) (k : Nat) : vf f (k + 1) = vf f k + f k * pw k := rfl
theorem vf_congr {f g : Nat → Int} {k : Nat} (h : ∀ i, i < k → f i = g i) : vf f k = vf g k := by
  induction k with
  | zero => rfl
  | succ k ih => rw [vf_succ, vf_succ, ih fun i hi => h i (by omega), h k (by omega)]
theorem vf_zero {f : Nat → Int} {k : Nat} (h : ∀ i, i < k → f i = 0) : vf f k = 0 := by
  induction k with
  | zero => rfl
  | succ k ih => rw [vf_succ, ih fun i hi => h i (by omega), h k (by omega)]; simp
theorem vf_nonneg {f : Nat → Int} {k : Nat} (h : ∀ i, i < k → 0 ≤ f i) : 0 ≤ vf f k := by
  induction k with
  | zero => exact Int.le_refl _
  | succ k ih =>
    rw [vf_succ]
    have := ih fun i hi => h i (by omega)
    have := Int.mul_nonneg (h k (by omega)) (Int.le_of_lt (pw_pos k))
    omega
theorem vf_lt {f : Nat → Int} {k : Nat} (h : ∀ i, i < k → f i < 1000000000) : vf f k < pw k := by
  induction k with
  | zero => exact Int.zero_lt_one
  | succ k ih =>
    rw [vf_succ, pw_succ]
    have h1 := ih fun i hi => h i (by omega)
    have h2 := h k (by omega)
    have h3 : f k * pw k ≤ 999999999 * pw k := Int.mul_le_mul_of_nonneg_right (by omega) (Int.le_of_lt (pw_pos k))
    omega
/-- a change of one digit -/
theorem vf_set (f : Nat → Int) (i : Nat) (x : Int) (k : Nat) : vf (fun j => if j = i then x else f j) k = vf f k + (if i < k then (x - f i) * pw i else 0) := by
  induction k with
  | zero => simp [vf]
  | succ k ih =>
    rw [vf_succ, vf_succ, ih]
    by_cases h : i < k
    · have h2 : ¬ k = i := by omega
      have h3 : i < k + 1 := by omega
      simp only [h, h2, h3, if_true, if_false]; omega
    · by_cases h2 : k = i
      · subst h2
        have h3 : k < k + 1 := by omega
        simp only [h, h3, if_true, if_false]; grind
      · have h3 : ¬ i < k + 1 := by omega
        simp only [h, h2, h3, if_false]; omega
theorem vf_split (f : Nat → Int) (i k : Nat) : vf f (i + k) = vf f i + pw i * vf (fun j => f (i + j)) k := by
  induction k with
  | zero => simp [vf]
  | succ k ih => rw [← Nat.add_assoc, vf_succ, ih, vf_succ, pw_add]; grind
/-- digits without a highest 0 -/
structure Digs (f : Nat → Int) (n : Nat) : Prop where
  lo : ∀ i, i < n → 0 ≤ f i
  hi : ∀ i, i < n → f i < 1000000000
  top : 0 < n → f (n - 1) ≠ 0
theorem Digs.ge {f : Nat → Int} {n : Nat} (h : Digs f n) (hn : 0 < n) : pw (n - 1) ≤ vf f n := by
  obtain ⟨k, rfl⟩ : ∃ k, n = k + 1 := ⟨n - 1, by omega⟩
  have h1 := h.top hn
  have h2 := h.lo k (by omega)
  simp only [Nat.add_sub_cancel] at h1 ⊢
  rw [vf_succ]
  have h3 := vf_nonneg (f := f) (k := k) fun i hi => h.lo i (by omega)
  have h4 : 1 * pw k ≤ f k * pw k := Int.mul_le_mul_of_nonneg_right (by omega) (Int.le_of_lt (pw_pos k))
  omega
theorem Digs.lt {f : Nat → Int} {n : Nat} (h : Digs f n) : vf f n < pw n := vf_lt h.hi
theorem Digs.nonneg {f : Nat → Int} {n : Nat} (h : Digs f n) : 0 ≤ vf f n := vf_nonneg h.lo
theorem Digs.len_le {f g : Nat → Int} {n m : Nat} (hf : Digs f n) (hg : Digs g m) (h : vf f n ≤ vf g m) : n ≤ m := by
  by_cases hn : 0 < n
  · have h1 := hf.ge hn
    have h2 := hg.lt
    rcases Nat.lt_or_ge m n with h3 | h3
    · have := pw_mono (i := m) (k := n - 1) (by omega); omega
    · exact h3
  · omega
theorem Digs.pos {f : Nat → Int} {n : Nat} (h : Digs f n) : 0 < vf f n ↔ 0 < n := by
  constructor
  · intro hv
    rcases Nat.eq_zero_or_pos n with rfl | h0
    · simp [vf] at hv
    · exact h0
  · intro hn; have := h.ge hn; have := pw_pos (n - 1); omega
/-- digits are determined by their number -/
theorem dig_unique {f g : Nat → Int} {n : Nat} (hf0 : ∀ i, i < n → 0 ≤ f i) (hf1 : ∀ i, i < n → f i < 1000000000) (hg0 : ∀ i, i < n → 0 ≤ g i) (hg1 : ∀ i, i < n → g i < 1000000000) (h : vf f n = vf g n) : ∀ i, i < n → f i = g i := by
  induction n with
  | zero => intro i hi; omega
  | succ n ih =>
    rw [vf_succ, vf_succ] at h
    have a1 := vf_nonneg (f := f) (k := n) fun i hi => hf0 i (by omega)
    have a2 := vf_nonneg (f := g) (k := n) fun i hi => hg0 i (by omega)
    have b1 := vf_lt (f := f) (k := n) fun i hi => hf1 i (by omega)
    have b2 := vf_lt (f := g) (k := n) fun i hi => hg1 i (by omega)
    have e : f n = g n := by
      rcases Int.lt_trichotomy (f n) (g n) with h1 | h1 | h1
      · have : (f n + 1) * pw n ≤ g n * pw n := Int.mul_le_mul_of_nonneg_right (by omega) (Int.le_of_lt (pw_pos n))
        rw [Int.add_mul] at this; omega
      · exact h1
      · have : (g n + 1) * pw n ≤ f n * pw n := Int.mul_le_mul_of_nonneg_right (by omega) (Int.le_of_lt (pw_pos n))
        rw [Int.add_mul] at this; omega
    rw [e] at h
    intro i hi
    rcases Nat.lt_or_ge i n with h1 | h1
    · exact ih (fun i hi => hf0 i (by omega)) (fun i hi => hf1 i (by omega)) (fun i hi => hg0 i (by omega)) (fun i hi => hg1 i (by omega)) (by omega) i h1
    · obtain rfl : i = n := by omega
      exact e
theorem Digs.unique {f g : Nat → Int} {n m : Nat} (hf : Digs f n) (hg : Digs g m) (h : vf f n = vf g m) : n = m ∧ ∀ i, i < n → f i = g i := by
  have h1 := hf.len_le hg (Int.le_of_eq h)
  have h2 := hg.len_le hf (Int.le_of_eq h.symm)
  obtain rfl : n = m := by omega
  exact ⟨rfl, dig_unique hf.lo hf.hi hg.lo hg.hi h⟩
/-- how many digits are left without the highest zeros -/
def trimN (f : Nat → Int) : Nat → Nat
  | 0 => 0
  | k + 1 => if f k = 0 then trimN f k else k + 1
theorem trimN_le (f : Nat → Int) (k : Nat) : trimN f k ≤ k := by
  induction k with
  | zero => exact Nat.le_refl _
  | succ k ih => rw [trimN]; split <;> omega
theorem trimN_zero (f : Nat → Int) (k : Nat) (hk : 0 < k) (h : f (k - 1) = 0) : trimN f k = trimN f (k - 1) := by
  obtain ⟨k, rfl⟩ : ∃ j, k = j + 1 := ⟨k - 1, by omega⟩
  simp only [Nat.add_sub_cancel] at h ⊢
  rw [trimN, if_pos h]
theorem trimN_ne (f : Nat → Int) (k : Nat) (hk : 0 < k) (h : ¬ f (k - 1) = 0) : trimN f k = k := by
  obtain ⟨k, rfl⟩ : ∃ j, k = j + 1 := ⟨k - 1, by omega⟩
  simp only [Nat.add_sub_cancel] at h ⊢
  rw [trimN, if_neg h]
theorem trimN_can {f : Nat → Int} {k : Nat} (h0 : ∀ i, i < k → 0 ≤ f i) (h1 : ∀ i, i < k → f i < 1000000000) : Digs f (trimN f k) ∧ vf f (trimN f k) = vf f k := by
  induction k with
  | zero => exact ⟨⟨fun i hi => by simp [trimN] at hi, fun i hi => by simp [trimN] at hi, fun h => by simp [trimN] at h⟩, rfl⟩
  | succ k ih =>
    rw [trimN]
    split
    · rename_i hz
      obtain ⟨a, b⟩ := ih (fun i hi => h0 i (by omega)) (fun i hi => h1 i (by omega))
      exact ⟨a, by rw [b, vf_succ, hz]; simp⟩
    · rename_i hz
      exact ⟨⟨h0, h1, fun _ => by simpa using hz⟩, rfl⟩
end Go.Mono
namespace Go.Mono
open Go.RowKit
theorem lt_of_some {w : World} {k : Nat} {o : Obj} (h : w.heap[k]? = some o) : k < w.heap.size := (Array.getElem?_eq_some_iff.1 h).1
/-- every row of ints that is there stays as it is -/
structure Ext (w w' : World) : Prop where
  size : w.heap.size ≤ w'.heap.size
  kept : ∀ (k : Nat) cs fr, w.heap[k]? = some (.cells cs 3 fr) → w'.heap[k]? = some (.cells cs 3 fr)
theorem Ext.refl (w : World) : Ext w w := ⟨Nat.le_refl _, fun _ _ _ h => h⟩
theorem Ext.trans {a b c : World} (h : Ext a b) (k : Ext b c) : Ext a c := ⟨Nat.le_trans h.size k.size, fun i cs fr hi => k.kept i cs fr (h.kept i cs fr hi)⟩
theorem Ext.of_below {w w' : World} (h : Below w.heap.size w w') : Ext w w' := ⟨h.size, fun k _ _ hk => (h.block k (lt_of_some hk)).trans hk⟩
theorem Ext.below {a w w' : World} (h : Ext a w) (hb : Below w.heap.size w w') : Ext a w' := h.trans (.of_below hb)
theorem Ext.drew {a w : World} (h : Ext a w) : Ext a w.drew := ⟨h.size, h.kept⟩
theorem Ext.alloc {a w : World} (h : Ext a w) (o : Obj) : Ext a (w.alloc o) := h.below ((Below.refl _ _).alloc (Nat.le_refl _) o)
/-- the slice value v has n elements, the ints f -/
def SlF (w : World) (v : Value) (n : Nat) (f : Nat → Int) : Prop :=
  (v = .slice none 0 0 ∧ n = 0) ∨ ∃ b off cap cs fr, v = .slice (some ⟨b, off, none⟩) n cap ∧ n ≤ cap ∧ n ≤ 140737488351232 ∧ w.heap[b]? = some (.cells cs 3 fr) ∧ ∀ i, i < n → cs[off + i]? = some (.int .i64 (f i))
theorem SlF.ext {w w' : World} {v : Value} {n : Nat} {f : Nat → Int} (h : SlF w v n f) (hx : Ext w w') : SlF w' v n f := by
  rcases h with h | ⟨b, off, cap, cs, fr, hv, hc, hc2, hh, hi⟩
  · exact .inl h
  · exact .inr ⟨b, off, cap, cs, fr, hv, hc, hc2, hx.kept _ _ _ hh, hi⟩
/-- what a walk wants of it -/
theorem SlF.open {w : World} {v : Value} {n : Nat} {f : Nat → Int} (h : SlF w v n f) : ∃ p cap, v = .slice p n cap ∧ n ≤ cap ∧ n ≤ 140737488351232 ∧
    (0 < n → ∃ b off, p = some ⟨b, off, none⟩ ∧ b < w.heap.size ∧ (∀ i, i < n → w.cell? ⟨b, off + i, none⟩ = some (.int .i64 (f i)))) := by
  rcases h with ⟨rfl, rfl⟩ | ⟨b, off, cap, cs, fr, rfl, hc, hc2, hh, hi⟩
  · exact ⟨none, 0, rfl, Nat.le_refl _, by omega, fun h => by omega⟩
  · exact ⟨_, cap, rfl, hc, by omega, fun _ => ⟨b, off, rfl, lt_of_some hh, fun i hn => by simp [World.cell?, hh, hi i hn]⟩⟩
theorem SlF.take {w : World} {p : Option Addr} {n cap : Nat} {f : Nat → Int} (h : SlF w (.slice p n cap) n f) (k : Nat) (hk : k ≤ n) : SlF w (.slice p k cap) k f := by
  rcases h with ⟨h, rfl⟩ | ⟨b, off, cap', cs, fr, hv, hc, hc2, hh, hi⟩
  · obtain rfl : k = 0 := by omega
    exact .inl ⟨h, rfl⟩
  · simp only [Value.slice.injEq] at hv
    obtain ⟨rfl, _, rfl⟩ := hv
    exact .inr ⟨b, off, cap, cs, fr, rfl, by omega, by omega, hh, fun i hi' => hi i (by omega)⟩
/-- the slice value v is the integer N, of at most m digits -/
def Sz (m : Nat) (w : World) (v : Value) (N : Int) : Prop := ∃ n f, SlF w v n f ∧ Digs f n ∧ vf f n = N ∧ n ≤ m
theorem Sz.ext {m : Nat} {w w' : World} {v : Value} {N : Int} (h : Sz m w v N) (hx : Ext w w') : Sz m w' v N := by
  obtain ⟨n, f, h1, h2⟩ := h
  exact ⟨n, f, h1.ext hx, h2⟩
theorem Sz.mono {m m' : Nat} {w : World} {v : Value} {N : Int} (h : Sz m w v N) (hm : m ≤ m') : Sz m' w v N := by
  obtain ⟨n, f, h1, h2, h3, h4⟩ := h
  exact ⟨n, f, h1, h2, h3, by omega⟩
theorem Sz.nonneg {m : Nat} {w : World} {v : Value} {N : Int} (h : Sz m w v N) : 0 ≤ N := by
  obtain ⟨n, f, h1, h2, rfl, h4⟩ := h
  exact h2.nonneg
theorem Sz.slice {m : Nat} {w : World} {v : Value} {N : Int} (h : Sz m w v N) : ∃ p n c, v = .slice p n c ∧ n ≤ m := by
  obtain ⟨n, f, h1, h2, rfl, h4⟩ := h
  obtain ⟨p, cap, rfl, _⟩ := h1.open
  exact ⟨p, n, cap, rfl, h4⟩
end Go.Mono
namespace Go.Mono
open Go.RowKit
theorem SlF.opens {w : World} {p : Option Addr} {n cap : Nat} {f : Nat → Int} (h : SlF w (.slice p n cap) n f) : n ≤ cap ∧ n ≤ 140737488351232 ∧
    (0 < n → ∃ b off, p = some ⟨b, off, none⟩ ∧ b < w.heap.size ∧ (∀ i, i < n → w.cell? ⟨b, off + i, none⟩ = some (.int .i64 (f i)))) := by
  obtain ⟨p', cap', hv, h1, h2, h3⟩ := h.open
  simp only [Value.slice.injEq] at hv
  obtain ⟨rfl, _, rfl⟩ := hv
  exact ⟨h1, h2, h3⟩
end Go.Mono
namespace Go.Mono
theorem Sz.sl {m : Nat} {w : World} {p : Option Addr} {n c : Nat} {N : Int} (h : Sz m w (.slice p n c) N) : ∃ n' f, SlF w (.slice p n c) n' f ∧ Digs f n' ∧ vf f n' = N ∧ n' ≤ m ∧ n' = n := by
  obtain ⟨n', f, h1, h2, h3, h4⟩ := h
  obtain ⟨p', cap, hv, _⟩ := h1.open
  simp only [Value.slice.injEq] at hv
  exact ⟨n', f, h1, h2, h3, h4, hv.2.1.symm⟩
end Go.Mono
namespace Go.Mono
theorem rat_add_parts (a b : Rat) : 
    let g := a.den.gcd b.den
    let n := a.num * ((b.den / g : Nat) : Int) + b.num * ((a.den / g : Nat) : Int)
    let h := n.natAbs.gcd g
    (a + b).num = n / (h : Int) ∧ (a + b).den = (a.den / g) * (b.den / h) := by
  intro g n h
  have e : a + b = Rat.add a b := rfl
  rw [e]
  unfold Rat.add
  by_cases hg : a.den.gcd b.den = 1
  · have hg' : g = 1 := hg
    simp only [hg, dif_pos]
    have hh : h = 1 := by show n.natAbs.gcd g = 1; rw [hg']; exact Nat.gcd_one_right _
    simp only [hh, n, hg', Nat.div_one]
    simp
  · simp only [hg, dif_neg, not_false_eq_true]
    unfold Rat.maybeNormalize
    split
    · rename_i h1
      have hh : h = 1 := h1
      simp only [hh, Nat.div_one]
      constructor
      · show n = n / ((1 : Nat) : Int)
        simp
      · rfl
    · have hd : h ∣ b.den := Nat.dvd_trans (Nat.gcd_dvd_right _ _) (Nat.gcd_dvd_right _ _)
      constructor
      · exact Int.divExact_eq_ediv (Int.ofNat_dvd_left.2 (Nat.gcd_dvd_left _ _))
      · exact (Nat.divExact_eq_div (Nat.dvd_mul_left_of_dvd hd _)).trans (Nat.mul_div_assoc _ hd)
theorem rat_mul_parts (a b : Rat) :
    let g1 := a.num.natAbs.gcd b.den
    let g2 := b.num.natAbs.gcd a.den
    (a * b).num = (a.num / (g1 : Int)) * (b.num / (g2 : Int)) ∧ (a * b).den = (a.den / g2) * (b.den / g1) := by
  intro g1 g2
  have e : a * b = Rat.mul a b := rfl
  rw [e]
  unfold Rat.mul
  constructor
  · simp only [Int.divExact_eq_ediv]; rfl
  · simp only [Nat.divExact_eq_div]; rfl
theorem rat_inv_parts (a : Rat) (h : a.num ≠ 0) : (a⁻¹).den = a.num.natAbs ∧ (a⁻¹).num = if a.num < 0 then -(a.den : Int) else (a.den : Int) := by
  have e : a⁻¹ = Rat.inv a := rfl
  rw [e]
  unfold Rat.inv
  by_cases h1 : a.num < 0
  · simp [h1]
  · have h2 : 0 < a.num := by omega
    simp [h1, h2]
theorem rat_neg_parts (a : Rat) : (-a).num = -a.num ∧ (-a).den = a.den := ⟨rfl, rfl⟩
theorem natAbs_div {n : Int} {h : Nat} (hd : h ∣ n.natAbs) : ((n / (h : Int)).natAbs : Int) = (n.natAbs : Int) / (h : Int) := by
  obtain ⟨k, hk⟩ := hd
  rcases Nat.eq_zero_or_pos h with rfl | h0
  · simp
  · have e : n = (h : Int) * k ∨ n = (h : Int) * (-k) := by
      rcases Int.natAbs_eq n with h1 | h1
      · left; rw [h1, hk]; simp
      · right; rw [h1, hk, Int.natCast_mul, Int.mul_neg]
    have hne : (h : Int) ≠ 0 := by omega
    have e2 : (n.natAbs : Int) / (h : Int) = k := by rw [hk, Int.natCast_mul, Int.mul_ediv_cancel_left _ hne]
    rw [e2]
    rcases e with e | e
    · rw [e, Int.mul_ediv_cancel_left _ hne]; simp
    · rw [e, Int.mul_ediv_cancel_left _ hne]; simp
theorem rat_sum (a b : Rat) (n : Int) (hn : a.num * (((b.den : Int) / (a.den.gcd b.den : Nat))) + b.num * ((a.den : Int) / (a.den.gcd b.den : Nat)) = n) :
    (a + b).num = n / ((n.natAbs.gcd (a.den.gcd b.den) : Nat) : Int) ∧ ((a + b).num.natAbs : Int) = (n.natAbs : Int) / ((n.natAbs.gcd (a.den.gcd b.den) : Nat) : Int) ∧
      ((a + b).den : Int) = ((a.den : Int) / (a.den.gcd b.den : Nat)) * ((b.den : Int) / ((n.natAbs.gcd (a.den.gcd b.den) : Nat) : Int)) ∧ 0 < ((n.natAbs.gcd (a.den.gcd b.den) : Nat) : Int) := by
  have hg : 0 < a.den.gcd b.den := Nat.gcd_pos_of_pos_left _ (Nat.pos_of_ne_zero a.den_nz)
  have hh : 0 < n.natAbs.gcd (a.den.gcd b.den) := Nat.gcd_pos_of_pos_right _ hg
  have := rat_add_parts a b
  simp only [Int.natCast_ediv, hn] at this
  obtain ⟨h1, h2⟩ := this
  refine ⟨h1, ?_, ?_, by omega⟩
  · rw [h1]; exact natAbs_div (Nat.gcd_dvd_left _ _)
  · rw [h2]; simp
end Go.Mono
namespace Go.Mono
/-- a round of the carrying loop of a sum -/
theorem plus_round {n i : Nat} {S : Int} {h : Nat → Int} (hi : i < n) (hv : vf h (n + 1) = S) (hlo : ∀ j, j < i → 0 ≤ h j ∧ h j < 1000000000)
    (hmid : ∀ j, i ≤ j → j < n → 0 ≤ h j ∧ h j ≤ (if j = i then 1999999999 else 1999999998)) (hn : h n = 0) (hc : 1000000000 ≤ h i) :
    let h' := fun j => if j = i + 1 then h (i + 1) + 1 else if j = i then h i - 1000000000 else h j
    vf h' (n + 1) = S ∧ (∀ j, j < i + 1 → 0 ≤ h' j ∧ h' j < 1000000000) ∧
    (∀ j, i + 1 ≤ j → j < n → 0 ≤ h' j ∧ h' j ≤ (if j = i + 1 then 1999999999 else 1999999998)) ∧ (i + 1 < n → h' n = 0) ∧ (i + 1 = n → 0 ≤ h' n ∧ h' n < 1000000000) := by
  intro h'
  have hm := hmid i (Nat.le_refl _) hi
  rw [if_pos rfl] at hm
  refine ⟨?_, fun j hj => ?_, fun j hj hjn => ?_, fun hin => ?_, fun hin => ?_⟩
  · have e1 : h' = fun j => if j = i + 1 then h (i + 1) + 1 else (fun j => if j = i then h i - 1000000000 else h j) j := rfl
    rw [e1, vf_set, vf_set, hv, if_pos (by omega), if_pos (by omega)]
    simp only [show ¬ i + 1 = i by omega, if_false, pw_succ]
    grind
  · simp only [h']
    rw [if_neg (by omega)]
    split
    · omega
    · exact hlo j (by omega)
  · simp only [h']
    have := hmid j (by omega) hjn
    rw [if_neg (by omega)] at this
    by_cases e : j = i + 1
    · subst e; rw [if_pos rfl, if_pos rfl]; omega
    · rw [if_neg e, if_neg e, if_neg (by omega)]; exact this
  · simp only [h']
    rw [if_neg (by omega), if_neg (by omega)]; exact hn
  · subst hin
    simp only [h', if_true]; omega
theorem vf_add (f g : Nat → Int) (k : Nat) : vf (fun j => f j + g j) k = vf f k + vf g k := by
  induction k with
  | zero => rfl
  | succ k ih => rw [vf_succ, vf_succ, vf_succ, ih]; grind
/-- a number with zeros above -/
theorem vf_ext {f : Nat → Int} {n k : Nat} (hk : n ≤ k) : vf (fun j => if j < n then f j else 0) k = vf f n := by
  induction k with
  | zero => obtain rfl : n = 0 := by omega
            rfl
  | succ k ih =>
    rw [vf_succ]
    by_cases h : n ≤ k
    · rw [ih h, if_neg (by omega)]; simp
    · obtain rfl : n = k + 1 := by omega
      rw [if_pos (by omega), vf_succ]
      congr 1
      exact vf_congr fun i hi => by rw [if_pos (by omega)]
end Go.Mono
namespace Go.Mono
/-- the carrying loop of a sum, before place i -/
def PlusInv (n : Nat) (S : Int) (i : Nat) (h : Nat → Int) : Prop :=
  vf h (n + 1) = S ∧ (∀ j, j < i → 0 ≤ h j ∧ h j < 1000000000) ∧ (∀ j, i ≤ j → j < n → 0 ≤ h j ∧ h j ≤ (if j = i then 1999999999 else 1999999998)) ∧ (i < n → h n = 0) ∧ (i = n → 0 ≤ h n ∧ h n < 1000000000)
theorem PlusInv.start {n m : Nat} {f g : Nat → Int} (hmn : m ≤ n) (f0 : ∀ i, i < n → 0 ≤ f i) (f1 : ∀ i, i < n → f i < 1000000000) (g0 : ∀ i, i < m → 0 ≤ g i) (g1 : ∀ i, i < m → g i < 1000000000) :
    PlusInv n (vf f n + vf g m) 0 (fun j => (if j < n then f j else 0) + (if j < m then g j else 0)) := by
  refine ⟨?_, fun j hj => by omega, fun j _ hj => ?_, fun h => ?_, fun h => ?_⟩
  · rw [vf_add, vf_ext (by omega), vf_ext (by omega)]
  · have a := f0 j hj
    have b := f1 j hj
    simp only [hj, if_true]
    by_cases hm : j < m
    · have c := g0 j hm
      have d := g1 j hm
      simp only [hm, if_true]; split <;> omega
    · simp only [hm, if_false]; split <;> omega
  · simp; omega
  · subst h; simp; omega
theorem PlusInv.carry {n i : Nat} {S : Int} {h : Nat → Int} (H : PlusInv n S i h) (hi : i < n) (hc : 1000000000 ≤ h i) :
    PlusInv n S (i + 1) (fun j => if j = i + 1 then h (i + 1) + 1 else if j = i then h i - 1000000000 else h j) := by
  obtain ⟨a, b, c, d, e⟩ := H
  have := plus_round hi a b c (d hi) hc
  exact this
theorem PlusInv.plain {n i : Nat} {S : Int} {h : Nat → Int} (H : PlusInv n S i h) (hi : i < n) (hc : h i < 1000000000) : PlusInv n S (i + 1) h := by
  obtain ⟨a, b, c, d, e⟩ := H
  have h0 := c i (Nat.le_refl _) hi
  refine ⟨a, fun j hj => ?_, fun j hj hjn => ?_, fun _ => d hi, fun he => by rw [d hi]; omega⟩
  · rcases Nat.lt_or_ge j i with h | h
    · exact b j h
    · obtain rfl : j = i := by omega
      omega
  · have := c j (by omega) hjn
    rw [if_neg (by omega)] at this
    split <;> omega
theorem PlusInv.bd {n i : Nat} {S : Int} {h : Nat → Int} (H : PlusInv n S i h) (hi : i < n) : 0 ≤ h i ∧ h i ≤ 1999999999 ∧ 0 ≤ h (i + 1) ∧ h (i + 1) ≤ 1999999998 := by
  obtain ⟨a, b, c, d, e⟩ := H
  have h0 := c i (Nat.le_refl _) hi
  rw [if_pos rfl] at h0
  by_cases hn : i + 1 < n
  · have := c (i + 1) (by omega) hn
    rw [if_neg (by omega)] at this
    omega
  · have := d hi
    obtain rfl : n = i + 1 := by omega
    omega
theorem PlusInv.done {n : Nat} {S : Int} {h : Nat → Int} (H : PlusInv n S n h) : Digs h (trimN h (n + 1)) ∧ vf h (trimN h (n + 1)) = S := by
  obtain ⟨a, b, c, d, e⟩ := H
  have := trimN_can (f := h) (k := n + 1) (fun i hi => by
    rcases Nat.lt_or_ge i n with h | h
    · exact (b i h).1
    · obtain rfl : i = n := by omega
      exact (e rfl).1) (fun i hi => by
    rcases Nat.lt_or_ge i n with h | h
    · exact (b i h).2
    · obtain rfl : i = n := by omega
      exact (e rfl).2)
  rw [a] at this
  exact this
end Go.Mono
