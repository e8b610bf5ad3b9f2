/- Drafted fractions, and the opening of a law's arguments. Part 3 of 6. No condition beside the row. -/
import Derived.Test.YtcgfdibagldafaaGreatDoorA02
import Derived.Test.YtcgfdibagldafaaGreatDoorA08
import Derived.Test.YtcgfdibagldafaaGreatDoorA27
import Derived.Test.YtcgfdibagldafaaGreatDoorG01
import Derived.Test.YtcgfdibagldafaaGreatDoorG02
set_option linter.unusedVariables false
set_option linter.unusedSimpArgs false
set_option maxRecDepth 100000
set_option maxHeartbeats 4000000
namespace Go.Proofs.YtcgfdibagldafaaGreatDoor
open Go.RowKit Go.Mono
theorem r3less_any (p q : Option Addr) (n m c1 c2 : Nat) (f g : Nat → Int) (w : World) (h1 : SlF w (.slice p n c1) n f) (h2 : SlF w (.slice q m c2) m g) :
  Calls Tryz.prog 266 #[.slice p n c1, .slice q m c2] w fun e w' => e = .returned (.bool (decide (cmpV f n g m < 0))) ∧ ∃ k, w' = w.drewN k := by
 obtain ⟨hc1, hn1, hx1⟩ := h1.opens
 obtain ⟨hc2, hn2, hx2⟩ := h2.opens
 clear h1 h2
 by_cases hnm : n = m
 ·subst hnm
  go_enter Tryz.func266, Tryz.ntmps266
  go_wp2
  go_loopw [5] (fun a wr => ∃ k : Nat, k ≤ n ∧ a = .int .i64 ((k : Int) - 1) ∧ cmpDown f g k = cmpDown f g n ∧ ∃ j, wr = w.drewN j) (fun a _ => (intOf a + 1).toNat)
  case atStart => exact ⟨n, Nat.le_refl _, rfl, rfl, 0, rfl⟩
  case round =>
   obtain ⟨k, hk, rfl, ht, j, rfl⟩ := hrel
   have HT := Lib.hid ht; clear ht
   by_cases h0 : 0 < k
   ·obtain ⟨b, off, rfl, hb, hcell⟩ := hx1 (by omega)
    obtain ⟨b2, off2, rfl, hb2, hcell2⟩ := hx2 (by omega)
    have a1 := hcell (k-1) (by omega)
    have a2 := hcell2 (k-1) (by omega)
    clear hcell hcell2 hx1 hx2
    obtain ⟨k, rfl⟩ : ∃ j, k = j + 1 := ⟨k-1, by omega⟩
    simp only [Nat.add_sub_cancel] at a1 a2
    rw [show ((k + 1 : Nat) : Int) - 1 = (k : Int) by omega]
    have HE := cmpDown_eq f g (k + 1) (by omega)
    have HN := cmpDown_ne f g (k + 1) (by omega)
    simp only [Nat.add_sub_cancel] at HE HN
    replace HE := Lib.hid HE
    replace HN := Lib.hid HN
    by_cases hfg : f k = g k
    ·have hq : (f k != g k) = false := by simpa using hfg
     have HF := Lib.hid hfg; clear hfg
     go_wp2
     go_quiet (fail)
     go_wp2
     go_roundw
     case rel => exact ⟨k, by omega, rfl, by rw [← HT.out, HE.out HF.out], _, rfl⟩
     case measure => simp [intOf]
    ·have hq : (f k != g k) = true := by simpa using hfg
     have HF := Lib.hid hfg; clear hfg
     go_wp2
     go_quiet (fail)
     go_wp2
     go_quiet (fail)
     go_wp2
     go_ret
     exact ⟨by rw [cmpV, if_pos rfl, ← HT.out, HN.out HF.out, show decide (f k - g k < 0) = decide (f k < g k) from by rw [decide_eq_decide]; omega]; rfl, _, by rw [World.drewN_drewN, World.drewN_drewN]⟩
   ·obtain rfl : k = 0 := by omega
    go_wp2
    go_ret
    exact ⟨by rw [cmpV, if_pos rfl, ← HT.out]; rfl, _, rfl⟩
 ·have hnm' : ((n : Int) != (m : Int)) = true := by simp; omega
  go_enter Tryz.func266, Tryz.ntmps266
  go_wp2
  go_ret
  refine ⟨by rw [cmpV, if_neg hnm, show decide ((n : Int) - m < 0) = decide (n < m) from by rw [decide_eq_decide]; omega]; rfl, 0, rfl⟩
theorem r3less_ok (p q : Option Addr) (n m c1 c2 : Nat) (f g : Nat → Int) (w : World) (h1 : SlF w (.slice p n c1) n f) (h2 : SlF w (.slice q m c2) m g) (d1 : Digs f n) (d2 : Digs g m) :
  Calls Tryz.prog 266 #[.slice p n c1, .slice q m c2] w fun e w' => e = .returned (.bool (decide (vf f n < vf g m))) ∧ ∃ k, w' = w.drewN k := by
 refine (r3less_any p q n m c1 c2 f g w h1 h2).mono ?_
 rintro e w' ⟨rfl, hk⟩
 exact ⟨by simp only [(cmpV_spec d1 d2).1], hk⟩
theorem r3at_ok (p : Option Addr) (n c i : Nat) (f : Nat → Int) (w : World) (h : SlF w (.slice p n c) n f) :
  Calls Tryz.prog 259 #[.slice p n c, .int .i64 (i : Int)] w fun e w' => e = .returned (.int .i64 (xt f n i)) ∧ w' = w := by
 obtain ⟨hc, hn, hx⟩ := h.opens
 clear h
 by_cases hin : i < n
 ·obtain ⟨b, off, rfl, hb, hcell⟩ := hx (by omega)
  have a1 := hcell i hin
  have hi' : (i : Int) < n := by omega
  rw [xt_lt hin]
  clear hcell hx
  go_enter Tryz.func259, Tryz.ntmps259
  go_wp2
  go_ret
  exact ⟨rfl, rfl⟩
 ·have hi' : ¬ (i : Int) < n := by omega
  rw [xt_ge (by omega)]
  clear hx
  go_enter Tryz.func259, Tryz.ntmps259
  go_wp2
  go_ret
  exact ⟨rfl, rfl⟩
end Go.Proofs.YtcgfdibagldafaaGreatDoor
namespace Go.Mono
def Mov (N D : Nat) (x : Mat) : Prop := ∃ d, d ≤ D ∧ Ov N d x.a ∧ Ov N d x.b ∧ Ov N d x.c ∧ Ov N d x.d
def bnd : Nat := 4000000000000000000000
theorem mul_in {a b : Int} {A B : Nat} (h1 : a.natAbs ≤ A) (h2 : b.natAbs ≤ B) : (a * b).natAbs ≤ A * B := by
 rw [Int.natAbs_mul]; exact Nat.mul_le_mul h1 h2
theorem Flm.ok.mov {f : Flm} (h : f.ok) : Mov bnd bnd f.mat := by
 have hs := h.sq_pos
 have hn := h.ne
 obtain ⟨i1, i2, p1, p2, q1, q2⟩ := h
 have pq : (f.p * f.q).natAbs ≤ 1000 * 1000 := mul_in (by omega) (by omega)
 have pp : (f.p * f.p).natAbs ≤ 1000 * 1000 := mul_in (by omega) (by omega)
 have qq : (f.q * f.q).natAbs ≤ 1000 * 1000 := mul_in (by omega) (by omega)
 have ii : (f.ix * f.ix).natAbs ≤ 40000000 * 40000000 := mul_in (by omega) (by omega)
 have pp0 : 0 ≤ f.p * f.p := Int.mul_nonneg p1 p1
 have qq0 : 0 ≤ f.q * f.q := Int.mul_nonneg (by omega) (by omega)
 have pq0 : 0 ≤ f.p * f.q := Int.mul_nonneg p1 (by omega)
 obtain ⟨s, es⟩ : ∃ s : Nat, f.sq = (s : Int) := ⟨f.sq.toNat, by omega⟩
 obtain ⟨n, en⟩ : ∃ n : Nat, f.ix = (n : Int) := ⟨f.ix.toNat, by omega⟩
 have s2 : s ≤ 2000000 := by have : f.sq = f.q * f.q + f.p * f.p := rfl; omega
 have n2 : n ≤ 40000000 := by omega
 have s0 : 0 < s := by omega
 have n0 : 0 < n := by omega
 have hc : Ov 1000000 s f.cos := by
  unfold Flm.cos; rw [es]; exact Ov.of _ s s0 _ (by omega)
 have hi : Ov 2000000 s f.sin := by
  unfold Flm.sin; rw [es]; refine Ov.of _ s s0 _ ?_
  rw [show 2 * f.p * f.q = 2 * (f.p * f.q) from by grind]; omega
 have hd : Ov (2000000 * 10000000) (s * n) (f.sin / idx f.ix) := by
  have : f.sin / idx f.ix = f.sin * Rat.divInt 10000000 n := by
   rw [Rat.div_def]; unfold idx; rw [Rat.inv_divInt, en]
  rw [this]
  exact hi.mul (Ov.of 10000000 n n0 10000000 (by decide))
 have hm : Ov (40000000 * 2000000) (10000000 * s) (idx f.ix * f.sin) := by
  have : Ov 40000000 10000000 (idx f.ix) := by unfold idx; exact Ov.of f.ix 10000000 (by decide) _ (by omega)
  exact this.mul hi
 have hc' : Ov bnd (s * (n * 10000000)) f.cos := (hc.scale (n * 10000000) (by omega)).mono (by
  have : 1000000 * (n * 10000000) ≤ 1000000 * (40000000 * 10000000) := Nat.mul_le_mul_left _ (Nat.mul_le_mul_right _ n2)
  unfold bnd; omega)
 refine ⟨s * (n * 10000000), ?_, hc', ?_, ?_, hc'⟩
 ·have : s * (n * 10000000) ≤ 2000000 * (40000000 * 10000000) := Nat.mul_le_mul s2 (Nat.mul_le_mul_right _ n2)
  unfold bnd; omega
 ·have := hd.scale 10000000 (by decide)
  rw [Nat.mul_assoc s n] at this
  exact Ov.mono (M := bnd) this (by decide)
 ·have := hm.scale n n0
  rw [show 10000000 * s * n = s * (n * 10000000) from by rw [Nat.mul_comm 10000000, Nat.mul_assoc, Nat.mul_comm 10000000]] at this
  refine Ov.mono (M := bnd) this ?_
  have : 40000000 * 2000000 * n ≤ 40000000 * 2000000 * 40000000 := Nat.mul_le_mul_left _ n2
  unfold bnd; omega
theorem Mov.parts {N D N' D' : Nat} {x y : Mat} (h : Mov N D x) (g : Mov N' D' y) : ∃ d, d ≤ D * D' ∧
  (∀ u v, (u = x.a ∨ u = x.b ∨ u = x.c ∨ u = x.d) → (v = y.a ∨ v = y.b ∨ v = y.c ∨ v = y.d) → Ov (N * N') d (u * v)) := by
 obtain ⟨d, hd, a, b, c, e⟩ := h
 obtain ⟨d', hd', a', b', c', e'⟩ := g
 refine ⟨d * d', Nat.mul_le_mul hd hd', ?_⟩
 intro u v hu hv
 rcases hu with rfl | rfl | rfl | rfl <;> rcases hv with rfl | rfl | rfl | rfl <;> exact Ov.mul (by assumption) (by assumption)
theorem Mov.mul {N D N' D' : Nat} {x y : Mat} (h : Mov N D x) (g : Mov N' D' y) : Mov (2 * (N * N')) (D * D') (x.mul y) := by
 obtain ⟨d, hd, hp⟩ := h.parts g
 rw [Nat.two_mul]
 exact ⟨d, hd, (hp _ _ (by simp) (by simp)).sub_same (hp _ _ (by simp) (by simp)), (hp _ _ (by simp) (by simp)).add_same (hp _ _ (by simp) (by simp)), (hp _ _ (by simp) (by simp)).add_same (hp _ _ (by simp) (by simp)), (hp _ _ (by simp) (by simp)).sub_same (hp _ _ (by simp) (by simp))⟩
theorem Mov.one : Mov 1 1 Mat.one := by
 have h0 : Ov 1 1 (0 : Rat) := Ov.of 0 1 (by decide) 1 (by decide)
 have h1 : Ov 1 1 (1 : Rat) := Ov.of 1 1 (by decide) 1 (by decide)
 exact ⟨1, Nat.le_refl _, h1, h0, h0, h1⟩
theorem stack_mov (l : List Flm) (h : ∀ f ∈ l, f.ok) : Mov ((2 * bnd) ^ l.length) (bnd ^ l.length) (stackM l) := by
 suffices H : ∀ (l m : List Flm), (∀ f ∈ m, f.ok) → Mov ((2 * bnd) ^ l.length) (bnd ^ l.length) (stackM l) → Mov ((2 * bnd) ^ (l ++ m).length) (bnd ^ (l ++ m).length) (stackM (l ++ m)) by
  have := H [] l h Mov.one
  simpa using this
 intro l m hm hl
 induction m generalizing l with
 | nil => simpa using hl
 | cons f m ih =>
   have e : l ++ f :: m = (l ++ [f]) ++ m := by simp
   rw [e]
   refine ih (l ++ [f]) (fun g hg => hm g (by simp [hg])) ?_
   rw [stackM_snoc]
   have := hl.mul (hm f (by simp)).mov
   rw [show 2 * ((2 * bnd) ^ l.length * bnd) = (2 * bnd) ^ (l ++ [f]).length from by rw [List.length_append, List.length_singleton, Nat.pow_succ, Nat.mul_left_comm], show bnd ^ l.length * bnd = bnd ^ (l ++ [f]).length from by rw [List.length_append, List.length_singleton, Nat.pow_succ]] at this
   exact this
def Mhs (k : Nat) (x : Mat) : Prop := Hs k x.a ∧ Hs k x.b ∧ Hs k x.c ∧ Hs k x.d
theorem Mov.mhs {N D k : Nat} {x : Mat} (h : Mov N D x) (hN : N ≤ 10 ^ k) (hD : D ≤ 10 ^ k) : Mhs k x := by
 obtain ⟨d, hd, a, b, c, e⟩ := h
 exact ⟨.of_ov a hN (by omega), .of_ov b hN (by omega), .of_ov c hN (by omega), .of_ov e hN (by omega)⟩
theorem pow_bnd (k : Nat) (hk : k ≤ 9) : (2 * bnd) ^ k ≤ 10 ^ 198 ∧ bnd ^ k ≤ 10 ^ 198 := by
 have h1 : (2 * bnd) ^ k ≤ (2 * bnd) ^ 9 := Nat.pow_le_pow_right (by decide) hk
 have h2 : bnd ^ k ≤ (2 * bnd) ^ k := Nat.pow_le_pow_left (by decide) _
 have h3 : (2 * bnd) ^ 9 ≤ 10 ^ 198 := by decide +kernel
 omega
theorem stack_step (l : List Flm) (f : Flm) (h : ∀ g ∈ l, g.ok) (hf : f.ok) (hl : l.length ≤ 8) :
  ∀ u v u' v', (u = (stackM l).a ∨ u = (stackM l).b ∨ u = (stackM l).c ∨ u = (stackM l).d) → (v = f.mat.a ∨ v = f.mat.b ∨ v = f.mat.c ∨ v = f.mat.d) →
    (u' = (stackM l).a ∨ u' = (stackM l).b ∨ u' = (stackM l).c ∨ u' = (stackM l).d) → (v' = f.mat.a ∨ v' = f.mat.b ∨ v' = f.mat.c ∨ v' = f.mat.d) → Hs 221 (u * v) ∧ Hs 221 (u * v + u' * v') ∧ Hs 221 (u * v - u' * v') := by
 intro u v u' v' hu hv hu' hv'
 obtain ⟨d, hd, hp⟩ := (stack_mov l h).parts hf.mov
 have b := pow_bnd l.length (by omega)
 have e1 : (2 * bnd) ^ l.length * bnd ≤ 10 ^ 198 * bnd := Nat.mul_le_mul_right _ b.1
 have e2 : bnd ^ l.length * bnd ≤ 10 ^ 198 * bnd := Nat.mul_le_mul_right _ b.2
 have e3 : 10 ^ 198 * bnd + 10 ^ 198 * bnd ≤ 10 ^ 221 := by decide +kernel
 have e4 : 10 ^ 198 * bnd ≤ 10 ^ 221 := by omega
 have x := hp u v hu hv
 have y := hp u' v' hu' hv'
 exact ⟨.of_ov x (by omega) (by omega), .of_ov (x.add_same y) (by omega) (by omega), .of_ov (x.sub_same y) (by omega) (by omega)⟩
theorem stack_hs (l : List Flm) (h : ∀ g ∈ l, g.ok) (hl : l.length ≤ 9) : Mhs 198 (stackM l) :=
 (stack_mov l h).mhs (pow_bnd _ hl).1 (pow_bnd _ hl).2
theorem film_hs {f : Flm} (h : f.ok) : Mhs 22 f.mat ∧ Hs 22 f.sin ∧ Hs 22 f.cos ∧ Hs 22 (idx f.ix) := by
 have hm := h.mov.mhs (k := 22) (by decide +kernel) (by decide +kernel)
 refine ⟨hm, ?_, hm.1, ?_⟩
 ·have hs := h.sq_pos
  obtain ⟨i1, i2, p1, p2, q1, q2⟩ := h
  have pq : (f.p * f.q).natAbs ≤ 1000 * 1000 := mul_in (by omega) (by omega)
  have pp : (f.p * f.p).natAbs ≤ 1000 * 1000 := mul_in (by omega) (by omega)
  have qq : (f.q * f.q).natAbs ≤ 1000 * 1000 := mul_in (by omega) (by omega)
  have e : f.sq = f.q * f.q + f.p * f.p := rfl
  refine Hs.divInt _ _ (by omega) ?_ (by omega)
  rw [show 2 * f.p * f.q = 2 * (f.p * f.q) from by grind]; omega
 ·obtain ⟨i1, i2, _⟩ := h
  exact Hs.divInt _ _ (by decide) (by omega) (by omega)
theorem idx_hs {n : Int} (h1 : 10000000 ≤ n) (h2 : n ≤ 40000000) : Hs 8 (idx n) := Hs.divInt _ _ (by decide) (by omega) (by omega)
section
open Go.RowKit
def LgV (m : Nat) (w : World) (v : Value) (z : Int) : Prop := ∃ p n c f, v = .agg #[.bool (decide (z < 0)), .slice p n c] ∧ SlF w (.slice p n c) n f ∧ Digs f n ∧ vf f n = z.natAbs ∧ n ≤ m
theorem LgV.ext {m : Nat} {w w' : World} {v : Value} {z : Int} (h : LgV m w v z) (hx : Ext w w') : LgV m w' v z := by
 obtain ⟨p, n, c, f, hv, h1, h2⟩ := h
 exact ⟨p, n, c, f, hv, h1.ext hx, h2⟩
theorem LgV.below {m : Nat} {w w' : World} {v : Value} {z : Int} (h : LgV m w v z) (hb : Below w.heap.size w w') : LgV m w' v z := h.ext (.of_below hb)
theorem LgV.mono {m m' : Nat} {w : World} {v : Value} {z : Int} (h : LgV m w v z) (hm : m ≤ m') : LgV m' w v z := by
 obtain ⟨p, n, c, f, hv, h1, h2, h3, h4⟩ := h
 exact ⟨p, n, c, f, hv, h1, h2, h3, by omega⟩
theorem LgV.tight {m k : Nat} {w : World} {v : Value} {z : Int} (h : LgV m w v z) (hz : (z.natAbs : Int) < pw k) : LgV k w v z := by
 obtain ⟨p, n, c, f, hv, h1, h2, h3, h4⟩ := h
 refine ⟨p, n, c, f, hv, h1, h2, h3, ?_⟩
 by_cases hn : n = 0
 ·omega
 have := h2.ge (by omega)
 by_cases hk : n ≤ k
 ·exact hk
 ·have := pw_mono (i := k) (k := n - 1) (by omega)
  omega
theorem LgV.lt {m : Nat} {w : World} {v : Value} {z : Int} (h : LgV m w v z) : (z.natAbs : Int) < pw m := by
 obtain ⟨p, n, c, f, hv, h1, h2, h3, h4⟩ := h
 have := h2.lt
 have := pw_mono h4
 omega
theorem long_eq {z y : Int} {n m : Nat} {f g : Nat → Int} (d1 : Digs f n) (v1 : vf f n = z.natAbs) (d2 : Digs g m) (v2 : vf g m = y.natAbs) :
  z = y ↔ (decide (z < 0) = decide (y < 0) ∧ n = m ∧ ∀ i, i < n → f i = g i) := by
 constructor
 ·rintro rfl
  obtain ⟨rfl, h⟩ := d1.unique d2 (by omega)
  exact ⟨rfl, rfl, h⟩
 ·rintro ⟨h1, rfl, h2⟩
  have e := vf_congr h2
  have h3 : (z < 0 ↔ y < 0) := by simpa using h1
  omega
end
end Go.Mono
namespace Go.Proofs.YtcgfdibagldafaaGreatDoor
open Go.RowKit Go.Mono
theorem r3same_any (s t : Bool) (p q : Option Addr) (n m c1 c2 : Nat) (f g : Nat → Int) (r : Bool) (w : World) (h1 : SlF w (.slice p n c1) n f) (h2 : SlF w (.slice q m c2) m g) (hr : Hid (r = true ↔ (s = t ∧ n = m ∧ ∀ i, i < n → f i = g i))) :
  Calls Tryz.prog 178 #[.agg #[.bool s, .slice p n c1], .agg #[.bool t, .slice q m c2]] w fun e w' => e = .returned (.bool r) ∧ Below w.heap.size w w' := by
 obtain ⟨hc1, hn1, hx1⟩ := h1.opens
 obtain ⟨hc2, hn2, hx2⟩ := h2.opens
 clear h1 h2
 by_cases hst : s = t
 ·subst hst
  by_cases hnm : n = m
  ·subst hnm
   go_enter Tryz.func178, Tryz.ntmps178
   go_wp2
   refine boxes2 fun W hB hs b0 b1 => ?_
   have cb0 := b0.cell
   have lb0 := b0.lt
   have fb0 := b0.frozen
   have cb1 := b1.cell
   have lb1 := b1.lt
   have fb1 := b1.frozen
   go_loopw [5] (fun a wr => ∃ i : Nat, i ≤ n ∧ a = .int .i64 (i : Int) ∧ (∀ j, j < i → f j = g j) ∧ ∃ k, wr = W.drewN k) (fun a _ => (n - intOf a).toNat)
   case atStart => exact ⟨0, Nat.zero_le _, rfl, fun j hj => absurd hj (Nat.not_lt_zero _), 0, rfl⟩
   case round =>
    obtain ⟨i, hi, rfl, heq, k, rfl⟩ := hrel
    replace heq := Lib.hid heq
    by_cases hin : i < n
    ·obtain ⟨b, off, rfl, hb, hcell⟩ := hx1 (by omega)
     obtain ⟨b2, off2, rfl, hb2, hcell2⟩ := hx2 (by omega)
     have a1 := (hB.cell (p := ⟨b, off + i, none⟩) hb).trans (hcell i hin)
     have a2 := (hB.cell (p := ⟨b2, off2 + i, none⟩) hb2).trans (hcell2 i hin)
     have hin' : (i : Int) < n := by omega
     clear hcell hcell2 hx1 hx2
     by_cases hfg : f i = g i
     ·have hq : (f i != g i) = false := by simpa using hfg
      replace hfg := Lib.hid hfg
      go_wp2
      go_quiet (fail)
      go_wp2
      go_roundw
      case rel =>
       refine ⟨i + 1, by omega, by simp, fun j hj => ?_, _, rfl⟩
       by_cases hji : j = i
       ·subst hji; exact hfg.out
       ·exact heq.out j (by omega)
      case measure => simp [intOf]; omega
     ·have hq : (f i != g i) = true := by simpa using hfg
      obtain rfl : r = false := by
       rw [Bool.eq_false_iff]
       intro e
       exact hfg ((hr.out.1 e).2.2 i hin)
      replace hfg := Lib.hid hfg
      go_wp2
      go_quiet (fail)
      go_wp2
      go_ret
      exact ⟨rfl, below_drewN (below_drewN hB _) _⟩
    ·obtain rfl : i = n := by omega
     obtain rfl : r = true := hr.out.2 ⟨by trivial, by trivial, heq.out⟩
     clear hx1 hx2
     go_wp2
     go_ret
     exact ⟨rfl, below_drewN hB _⟩
  ·obtain rfl : r = false := by
    rw [Bool.eq_false_iff]
    intro e
    exact hnm (hr.out.1 e).2.1
   have hnm' : ((n : Int) != (m : Int)) = true := by simp; omega
   clear hx1 hx2
   go_enter Tryz.func178, Tryz.ntmps178
   go_wp2
   go_ret
   exact ⟨rfl, belowAlloc (belowAlloc (Below.refl _ _) _) _⟩
 ·obtain rfl : r = false := by
   rw [Bool.eq_false_iff]
   intro e
   exact hst (hr.out.1 e).1
  have hst' : (s != t) = true := by simpa using hst
  clear hx1 hx2
  go_enter Tryz.func178, Tryz.ntmps178
  go_wp2
  go_ret
  exact ⟨rfl, belowAlloc (belowAlloc (Below.refl _ _) _) _⟩
theorem r3same_ok {m1 m2 : Nat} {v1 v2 : Value} {z y : Int} (w : World) (h1 : LgV m1 w v1 z) (h2 : LgV m2 w v2 y) :
  Calls Tryz.prog 178 #[v1, v2] w fun e w' => e = .returned (.bool (decide (z = y))) ∧ Below w.heap.size w w' := by
 obtain ⟨p, n, c, f, rfl, s1, d1, e1, _⟩ := h1
 obtain ⟨q, m, c', g, rfl, s2, d2, e2, _⟩ := h2
 refine r3same_any _ _ p q n m c c' f g _ w s1 s2 (Lib.hid ?_)
 rw [decide_eq_true_eq]
 exact long_eq d1 e1 d2 e2
end Go.Proofs.YtcgfdibagldafaaGreatDoor
namespace Go.Mono
open Go.RowKit
section
section
variable {P : Program} {o : Oper} {a : Act} {w : World} {K : Act → World → Prop} {Q : Exit → Act → World → Prop}
theorem wp_fresh (T : TypeId) (ho : o.op = .alloc T) (zs : Array Value)
  (hrun : ∀ w, (Instr.alloc T true (.tuple #[])).run P w = .ok (.pointer (some ⟨w.heap.size, 0, none⟩)) (w.alloc (.cells zs T)))
  (h : ∀ V B, w.heap.size ≤ B → Below w.heap.size w V → Box V B T zs → K (a.put o.dst (.pointer (some ⟨B, 0, none⟩))) V) : o.wp P a w K Q := by
 unfold Oper.wp execOp
 simp only [ho, Sem.run_bind, hrun, Result.andThen_ok, Sem.run_pure]
 exact h _ _ (Nat.le_refl _) ((Below.refl _ _).alloc (Nat.le_refl _) _) (Box.new _ _ _)
end
section
variable {P : Program} {ops : Array Oper} {Q : Exit → Act → World → Prop} {md : Region.Mode} {S : World → Prop}
theorem wpAnyH_storeB (B : Nat) (T : TypeId) (i : Nat) {o : Oper} (hi : ops[i]? = some o) (hg : o.guard = none) (hd : o.dst = none) {ty : TypeId} {x y : Operand} (ho : o.op = .store ty x y) (off : Nat) (cells cs new : Array Value) {a : Act} {fuel : Nat} {listed : Array Bool} {w : World}
  (hr : Region.ready md ops listed = [i]) (hS : ∀ w i u, S w → S (w.setCell ⟨B, i, none⟩ u)) (hx : a.eval x = .pointer (some ⟨B, off, none⟩)) (hy : a.eval y = .agg cells)
  (hb : Box w B T cs) (hs : S w) (hi2 : (P.info? ty).map (·.size) = some cells.size) (hoff : off + cells.size ≤ cs.size) (h1 : cells.all (·.oneCell') = true)
  (hn : cs.toList.take off ++ cells.toList ++ cs.toList.drop (off + cells.size) = new.toList)
  (h : ∀ w', KeepBut B w.heap.size w w' → Box w' B T new → S w' → wpAnyH P md ops Q S fuel (listed.setIfInBounds i true) a w') : wpAnyH P md ops Q S (fuel + 1) listed a w := by
 refine wpAnyH_all hr (by simp) fun j hj => ?_
 obtain rfl : j = i := by simpa using hj
 unfold wpOp
 rw [hi]
 have hw : Region.wanted o (yielded ops a.tmps) = true := by simp [Region.wanted, hg]
 simp only [hw, if_true]
 left
 have hb2 := Box.setCells cells.toList off w cs hb (by simpa using hoff)
 have hb3 : Box (w.setCells B off cells.toList) B T new := by simpa [hn] using hb2
 have hs2 := setCells_keeps hS cells.toList off w hs
 refine wp_store_mid ty x y ho B off cells hx hy (hb.there off cells.size hoff) hi2 h1 ?_
 rw [hd]
 exact ⟨hs2, h _ ((KeepBut.refl _ _).setCells _ _ _) hb3 hs2⟩
end
end
section
section
variable {P : Program} {ops : Array Oper} {rest : List Oper} {a : Act} {w : World} {Q : Exit → Act → World → Prop} {T0 T1 T2 T3 : TypeId} {c0 c1 c2 c3 : Array Value}
theorem boxes3l (h : ∀ W, Below w.heap.size w W → w.heap.size + 3 ≤ W.heap.size → Box W w.heap.size T0 c0 → Box W (w.heap.size + 1) T1 c1 → Box W (w.heap.size + 1 + 1) T2 c2 → wpList P ops Q rest a W) :
  wpList P ops Q rest a (((w.alloc (.cells c0 T0)).alloc (.cells c1 T1)).alloc (.cells c2 T2)) := by
 have b1 := Box.new (w.alloc (.cells c0 T0)) T1 c1
 have b2 := Box.new ((w.alloc (.cells c0 T0)).alloc (.cells c1 T1)) T2 c2
 simp only [World.size_alloc] at b1 b2
 exact h _ ((((Below.refl _ _).alloc (Nat.le_refl _) _).alloc (by simp) _).alloc (by simp; omega) _) (by simp) (((Box.new _ _ _).alloc _).alloc _) (b1.alloc _) b2
end
end
theorem QV.four {w : World} {C : Array Value} {q : Rat} (h : QV w (.agg C) q) : ∃ x0 x1 x2 x3 : Value, C = #[x0, x1, x2, x3] ∧ x0.oneCell' = true ∧ x1.oneCell' = true ∧ x2.oneCell' = true ∧ x3.oneCell' = true := by
 obtain ⟨p, k, c, p', k', c', e, _, _⟩ := h
 cases e
 exact ⟨_, _, _, _, rfl, rfl, rfl, rfl, rfl⟩
theorem exec_build {P : Program} {S : World → Prop} {oi : Oper} {a : Act} (t : TypeId) (parts : Array (Nat × Operand)) (ho : oi.op = .build t parts) (cells : Array Value)
  (hc : P.built t (parts.map fun (i, x) => (i, a.eval x)).toList = some cells) : ∀ w, S w → (execOp a.eval oi).run P w = .ok (.value (.agg cells)) w := fun w _ => by
 unfold execOp
 have := run_build w t (parts.map fun (i, x) => (i, a.eval x)) cells hc
 simp only [ho, Sem.run_bind]
 first
  | (simp only [this, Result.andThen_ok, Sem.run_pure]; done)
  | (simp [this, Result.andThen_ok, Sem.run_pure])
def Flm.vals (f : Flm) : Array Value := #[.int .i64 f.ix, .int .i64 f.p, .int .i64 f.q]
structure MV (w : World) (C : Array Value) (m : Mat) : Prop where
 parts : ∃ a0 a1 a2 a3 b0 b1 b2 b3 c0 c1 c2 c3 d0 d1 d2 d3 : Value, C = #[a0, a1, a2, a3, b0, b1, b2, b3, c0, c1, c2, c3, d0, d1, d2, d3] ∧
  QV w (.agg #[a0, a1, a2, a3]) m.a ∧ QV w (.agg #[b0, b1, b2, b3]) m.b ∧ QV w (.agg #[c0, c1, c2, c3]) m.c ∧ QV w (.agg #[d0, d1, d2, d3]) m.d
theorem MV.ext {w w' : World} {C : Array Value} {m : Mat} (h : MV w C m) (hx : Ext w w') : MV w' C m := by
 obtain ⟨a0, a1, a2, a3, b0, b1, b2, b3, c0, c1, c2, c3, d0, d1, d2, d3, rfl, h1, h2, h3, h4⟩ := h.parts
 exact ⟨⟨_, _, _, _, _, _, _, _, _, _, _, _, _, _, _, _, rfl, h1.ext hx, h2.ext hx, h3.ext hx, h4.ext hx⟩⟩
theorem MV.size {w : World} {C : Array Value} {m : Mat} (h : MV w C m) : C.size = 16 := by
 obtain ⟨a0, a1, a2, a3, b0, b1, b2, b3, c0, c1, c2, c3, d0, d1, d2, d3, rfl, h1, h2, h3, h4⟩ := h.parts
 rfl
theorem QV.ones {w : World} {x0 x1 x2 x3 : Value} {q : Rat} (h : QV w (.agg #[x0, x1, x2, x3]) q) : x0.oneCell' = true ∧ x1.oneCell' = true ∧ x2.oneCell' = true ∧ x3.oneCell' = true := by
 obtain ⟨y0, y1, y2, y3, e, h0, h1, h2, h3⟩ := h.four
 cases e
 exact ⟨h0, h1, h2, h3⟩
theorem MV.ones {w : World} {C : Array Value} {m : Mat} (h : MV w C m) : C.all (·.oneCell') = true := by
 obtain ⟨a0, a1, a2, a3, b0, b1, b2, b3, c0, c1, c2, c3, d0, d1, d2, d3, rfl, h1, h2, h3, h4⟩ := h.parts
 obtain ⟨x0, x1, x2, x3⟩ := h1.ones
 obtain ⟨y0, y1, y2, y3⟩ := h2.ones
 obtain ⟨z0, z1, z2, z3⟩ := h3.ones
 obtain ⟨u0, u1, u2, u3⟩ := h4.ones
 simp [*]
theorem pw_ten (k : Nat) : pw k = ((10 ^ (9 * k) : Nat) : Int) := by
 induction k with
 | zero => rfl
 | succ k ih =>
   rw [pw_succ, ih, show 9 * (k + 1) = 9 * k + 9 from by omega, Nat.pow_add, Int.natCast_mul]
   rfl
theorem Hs.fits_of {k n : Nat} {x : Rat} (h : Hs k x) (hn : n = 9 * 600) (hk : k < n) : (x.num.natAbs : Int) < pw 600 ∧ (x.den : Int) < pw 600 := by
 have e : pw 600 = ((10 ^ n : Nat) : Int) := by rw [hn]; exact pw_ten 600
 have hlt : 10 ^ k < 10 ^ n := Nat.pow_lt_pow_right (by decide) hk
 rw [e]
 exact ⟨Int.ofNat_lt.2 (Nat.lt_of_le_of_lt h.1 hlt), Int.ofNat_lt.2 (Nat.lt_of_le_of_lt h.2 hlt)⟩
theorem Hs.fits {k : Nat} {x : Rat} (h : Hs k x) (hk : k ≤ 5399) : Fits x := by
 obtain ⟨n, hn⟩ : ∃ n, n = 9 * 600 := ⟨_, rfl⟩
 exact h.fits_of hn (by omega)
theorem Box.part {w : World} {B : Nat} {T : TypeId} {cs : Array Value} (b : Box w B T cs) (off : Nat) (part : Array Value) (h : (cs.toList.drop off).take part.size = part.toList) : w.rangeAt B off part.toList := fun j v hv => by
 rw [b.cell, ← Array.getElem?_toList]
 rw [← h, List.getElem?_take] at hv
 split at hv
 ·rw [List.getElem?_drop] at hv
  exact hv
 ·cases hv
structure MFits (x y : Mat) : Prop where
 pr : ∀ u v, (u = x.a ∨ u = x.b ∨ u = x.c ∨ u = x.d) → (v = y.a ∨ v = y.b ∨ v = y.c ∨ v = y.d) → Fits (u * v)
 a : Fits (x.mul y).a
 b : Fits (x.mul y).b
 c : Fits (x.mul y).c
 d : Fits (x.mul y).d
theorem LgV.cells {m : Nat} {w : World} {v : Value} {z : Int} (h : LgV m w v z) : ∃ C : Array Value, v = .agg C ∧ C.size = 2 ∧ C.all (·.oneCell') = true := by
 obtain ⟨p, n, c, f, rfl, _⟩ := h
 exact ⟨_, rfl, rfl, by simp [Value.oneCell']⟩
theorem OwnF.lg {w : World} {base : Nat} {v : Value} {n m : Nat} {f : Nat → Int} {z : Int} (h : OwnF w base v n f) (hd : Digs f n) (hv : vf f n = z.natAbs) (hm : n ≤ m) (hm6 : m ≤ 1000000) : LgV m w (.agg #[.bool (decide (z < 0)), v]) z := by
 obtain ⟨p, c, rfl⟩ := h.shape
 exact ⟨p, n, c, f, rfl, h.sl (by omega), hd, hv, hm⟩
theorem wrapId {z : Int} (h1 : -9223372036854775808 ≤ z) (h2 : z ≤ 9223372036854775807) : IntKind.i64.wrap z = z := by
 simp [IntKind.wrap, IntKind.signed, IntKind.bits]
 omega
theorem long_ones (b : Bool) (p : Option Addr) (n c : Nat) : (#[.bool b, .slice p n c] : Array Value).all (·.oneCell') = true := by simp [Value.oneCell']
end Go.Mono
namespace Go.Proofs.YtcgfdibagldafaaGreatDoor
open Go.RowKit Go.Mono
theorem r3minus_ok {m : Nat} {v : Value} {z : Int} (w : World) (h : LgV m w v z) (hm : m ≤ 100000) :
  Calls Tryz.prog 249 #[v] w fun e w' => ∃ v', e = .returned v' ∧ LgV m w' v' (-z) ∧ Below w.heap.size w w' := by
 obtain ⟨p, n, c, f, rfl, s1, d1, e1, l1⟩ := h
 have hb1 : (!decide (z < 0)) = decide (0 ≤ z) := by
  rw [Bool.eq_iff_iff]; simp
 have hsg : (decide (0 ≤ z) && decide (0 < vf f n)) = decide (-z < 0) := by
  rw [Bool.eq_iff_iff]; simp; omega
 rw [e1] at hsg
 generalize decide (z < 0) = sz at *
 go_enter Tryz.func249, Tryz.ntmps249
 go_wp2_with fail
 refine boxes2c fun W hB hs b0 b1 => ?_
 refine (r3made_ok _ p n c f W (s1.ext (.of_below hB)) (by omega) d1.lo d1.hi).mono ?_
 rintro e W1 ⟨v', rfl, ho, d2, e2, hb⟩
 replace b1 := b1.below hb
 replace hB := belowCall hB hb
 rw [e1, hsg]
 have hlg := ho.lg (z := -z) (m := m) d2 (by rw [e2, e1, Int.natAbs_neg]) (by have := trimN_le f n; omega) (by omega)
 generalize decide (-z < 0) = ng at *
 obtain ⟨p', c', rfl⟩ := ho.shape
 clear ho hb b0 hsg
 go_wp2_with first | (refine wpList_store_box rfl 50 _ _ rfl (w.heap.size + 1) 0 50 _ #[.bool ng, .slice p' (trimN f n) c'] #[.bool ng, .slice p' (trimN f n) c'] rfl rfl b1 sizeLong (Nat.le_of_ble_eq_true rfl) (long_ones _ _ _ _) (whole_new rfl) ?_; intro W2 hk b2)
 have hb2 := hk.below hB (by omega) hB.size
 refine bodyPost_ret (b2.results rfl _ _ rfl Tryz.underlying50 rfl sizeLong) rfl ⟨_, rfl, hlg.ext (hk.ext b1 (by decide)), hb2⟩
theorem r3of_ok (z : Int) (w : World) (h1 : -9223372036854775808 ≤ z) (h2 : z ≤ 9223372036854775807) :
  Calls Tryz.prog 159 #[.int .i64 z] w fun e w' => ∃ v, e = .returned v ∧ LgV 3 w' v z ∧ Below w.heap.size w w' := by
 obtain ⟨sz, hsz⟩ : ∃ sz, decide (z < 0) = sz := ⟨_, rfl⟩
 go_enter Tryz.func159, Tryz.ntmps159
 go_wp2_with fail
 refine boxes1 fun W hB hs b0 => ?_
 replace hsz := Lib.hid hsz
 go_loopw [0, 3] (fun a v wr => ∃ (k : Nat) (f : Nat → Int) (r : Int), a = .int .i64 r ∧ OwnF wr (w.heap.size + 1) v k f ∧ Box wr w.heap.size 50 #[.bool false, .slice none 0 0] ∧ OfInv z r k f ∧ Below w.heap.size w wr ∧ w.heap.size + 1 ≤ wr.heap.size) (fun a _ _ => (intOf a).natAbs)
 case atStart => exact ⟨0, _, z, rfl, OwnF.nil _ _ _, b0, OfInv.start z, hB, hs⟩
 case round =>
  clear b0 hB hs
  obtain ⟨k, f, r, rfl, ho, b0, hI, hB, hs⟩ := hrel
  have hr := hI.bound h1 h2
  obtain ⟨p, c, rfl⟩ := ho.shape
  by_cases h0 : r = 0
  ·subst h0
   have hv := hI.val
   have hd : Digs f k := ⟨hI.lo, hI.hi, hI.top rfl⟩
   have hk3 : k ≤ 3 := by
    by_cases h : k ≤ 3
    ·exact h
    ·have := hd.ge (by omega)
     have h3 := pw_mono (i := 3) (k := k - 1) (by omega)
     have e3 : pw 3 = 1000000000000000000000000000 := by decide
     simp at hv
     omega
   have hv' : vf f k = z.natAbs := by simpa using hv
   go_wp2_with fail
   refine (r3made_ok sz p k c f wr (ho.sl (by omega)) (by omega) hI.lo hI.hi).mono ?_
   rintro e W1 ⟨v', rfl, ho2, d2, e2, hb⟩
   replace b0 := b0.below hb
   have hB1 := belowCall hB hb
   have hneg : (sz && decide (0 < vf f k)) = decide (z < 0) := by
    rw [← hsz.out, hv', Bool.eq_iff_iff]; simp; omega
   rw [hneg]
   have hlg := ho2.lg (z := z) (m := 3) d2 (by rw [e2, hv']) (by have := trimN_le f k; omega) (by omega)
   rw [hsz.out] at hlg ⊢
   obtain ⟨p', c', rfl⟩ := ho2.shape
   have hw1 := hb.size
   clear ho ho2 hb hneg hI hv hv' d2 e2 hB
   go_wp2_with first | (refine wpList_store_box rfl 50 _ _ rfl w.heap.size 0 50 _ #[.bool sz, .slice p' (trimN f k) c'] #[.bool sz, .slice p' (trimN f k) c'] rfl rfl b0 sizeLong (Nat.le_of_ble_eq_true rfl) (long_ones _ _ _ _) (whole_new rfl) ?_; intro W2 hk b2)
   have hb2 := hk.below hB1 (by omega) hB1.size
   refine bodyPost_ret (b2.results rfl _ _ rfl Tryz.underlying50 rfl sizeLong) rfl ⟨_, rfl, hlg.ext (hk.ext b0 (by decide)), hb2⟩
  ·have hk := hI.small h1 h2 h0
   have hst := hI.step h0
   have h0' : (r != 0) = true := by simpa using h0
   have hmm : (r.tmod 1000000000).natAbs < 1000000000 := by rw [Int.natAbs_tmod]; exact Nat.mod_lt _ (by decide)
   have hm1 : -1000000000 < r.tmod 1000000000 := by omega
   have hm2 : r.tmod 1000000000 < 1000000000 := by omega
   have hdd : (r.tdiv 1000000000).natAbs = r.natAbs / 1000000000 := by rw [Int.natAbs_tdiv]; rfl
   have hw : wrap64 (r.tdiv 1000000000) = r.tdiv 1000000000 := by unfold wrap64; omega
   replace h0 := Lib.hid h0
   by_cases hneg : r.tmod 1000000000 < 0
   all_goals
    go_wp2_with (at_builtin; (refine wpList_append_ints _ rfl _ _ 48 rfl Tryz.underlying48 infoInt (w.heap.size + 1) (.slice p k c) k f rfl ?_ (some ⟨wr.heap.size, 0, none⟩) 1 1 (fun _ => ((r.tmod 1000000000).natAbs : Int)) rfl ?_ ?_ ?_ ?_); (exact (ho.below ((Below.refl _ _).alloc (Nat.le_refl _) _))); (exact (slF_lit wr _ _ (by omega))); omega; (simp; omega); (intro v' w1 ho' hg))
    obtain ⟨p', c', rfl⟩ := ho'.shape
    have hz := ((Below.refl (w.heap.size + 1) wr).alloc hs (.cells _ 3)).grown hg (by simp; omega) (fun k hk => ho.low k hk)
    replace b0 := b0.low hz (by omega)
    go_wp2
    go_roundw
    case rel =>
     refine ⟨k + 1, _, r.tdiv 1000000000, rfl, ho', b0, hst, hB.trans (hz.mono (by omega)), ?_⟩
     have := hz.size
     omega
    case measure =>
     have := h0.out
     show (r.tdiv 1000000000).natAbs < r.natAbs
     rw [hdd]; exact Nat.div_lt_self (by omega) (by decide)
theorem r3sum_digits (s : Bool) (p q : Option Addr) (n m c1 c2 : Nat) (f g : Nat → Int) (w : World) (h1 : SlF w (.slice p n c1) n f) (h2 : SlF w (.slice q m c2) m g) (d1 : Digs f n) (d2 : Digs g m) (hn0 : 0 < n) (hm0 : 0 < m) (hn6 : n ≤ 100000) (hm6 : m ≤ 100000) :
  Calls Tryz.prog 223 #[.agg #[.bool s, .slice p n c1], .agg #[.bool s, .slice q m c2]] w fun e w' => ∃ p k c h, e = .returned (.agg #[.bool s, .slice p k c]) ∧ SlF w' (.slice p k c) k h ∧ Digs h k ∧ vf h k = vf f n + vf g m ∧ k ≤ max n m + 1 ∧ Below w.heap.size w w' := by
 obtain ⟨hc1, hn1, _⟩ := h1.opens
 obtain ⟨hc2, hn2, _⟩ := h2.opens
 have hn0' : ((n : Int) == 0) = false := by simp; omega
 have hm0' : ((m : Int) == 0) = false := by simp; omega
 go_enter Tryz.func223, Tryz.ntmps223
 go_wp2
 refine boxes3 fun W hB hs b0 b1 b2 => ?_
 go_loopw [5, 6, 7] (fun v x y wr => ∃ (i : Nat) (c : Int) (h : Nat → Int), i ≤ max n m + 1 ∧ x = .int .i64 c ∧ y = .int .i64 (i : Int) ∧ OwnF wr (w.heap.size + 1 + 1 + 1) v i h ∧ SumI (xt f n) (xt g m) i h c ∧ Box wr w.heap.size 50 #[.bool s, .slice p n c1] ∧ Box wr (w.heap.size + 1) 50 #[.bool s, .slice q m c2] ∧ Box wr (w.heap.size + 1 + 1) 50 #[.bool false, .slice none 0 0] ∧ Below w.heap.size w wr ∧ w.heap.size + 1 + 1 + 1 ≤ wr.heap.size) (fun _ _ y _ => (max n m + 1 - intOf y).toNat)
 case atStart => exact ⟨0, 0, _, Nat.zero_le _, rfl, rfl, OwnF.nil _ _ _, SumI.start _ _ (fun _ => 0), b0, b1, b2, hB, hs⟩
 case round =>
  clear b0 b1 b2 hB hs
  obtain ⟨i, c, h, hi, rfl, rfl, ho, hI, b0, b1, b2, hB, hs⟩ := hrel
  obtain ⟨pv, cv, rfl⟩ := ho.shape
  by_cases hgo : i < n ∨ i < m ∨ 0 < c
  ·have hlt : i < max n m + 1 := by
    rcases hgo with h | h | h
    ·omega
    ·omega
    ·by_cases hin : i < n
     ·omega
     ·by_cases him : i < m
      ·omega
      ·have := hI.len d1.hi d2.hi (by omega) (by omega) h
       omega
   have x0 := xt_lo d1.lo i
   have x1 := xt_hi d1.hi i
   have y0 := xt_lo d2.lo i
   have y1 := xt_hi d2.hi i
   have hat1 := fun X (hX : Below w.heap.size w X) => r3at_ok p n c1 i f X (h1.ext (.of_below hX))
   have hat2 := fun X (hX : Below w.heap.size w X) => r3at_ok q m c2 i g X (h2.ext (.of_below hX))
   have hnx := hI.next x0 x1 y0 y1
   have k0 := hI.c0
   have k1 := hI.c1
   generalize hX : xt f n = Xf at *
   generalize hY : xt g m = Yf at *
   generalize Xf i = x at *
   generalize Yf i = y at *
   have hways : ((i : Int) < n) ∨ (¬ (i : Int) < n ∧ (i : Int) < m) ∨ (¬ (i : Int) < n ∧ ¬ (i : Int) < m ∧ 0 < c) := by omega
   have cb0 := b0.cell
   have lb0 := b0.lt
   have fb0 := b0.frozen
   have cb1 := b1.cell
   have lb1 := b1.lt
   have fb1 := b1.frozen
   clear hgo
   rcases hways with hw1 | ⟨hw1, hw2⟩ | ⟨hw1, hw2, hw3⟩
   all_goals
    go_wp2
    refine wp_region_held_drew (S := fun w' => (∀ i, w'.cell? ⟨w.heap.size, i, none⟩ = (#[.bool s, .slice p n c1] : Array Value)[i]?) ∧ (∀ i, w'.cell? ⟨w.heap.size + 1, i, none⟩ = (#[.bool s, .slice q m c2] : Array Value)[i]?) ∧ Below w.heap.size w w') (by as_aux_lemma => kernel_rfl) ⟨cb0, cb1, hB.drew⟩ (fun hHeld => ?_)
    have hoX := ho.below (Below.refl wr.heap.size wr).drew
    have bX0 := b0.drew
    have bX1 := b1.drew
    have bX2 := b2.drew
    have hsX : w.heap.size + 1 + 1 + 1 ≤ wr.drew.heap.size := hs
    generalize wr.drew = X0 at *
    refine tk 0 (some 46) ?_
    refine tk 1 (some 47) ?_
    refine tk 2 (some 48) ?_
    refine tk 4 (some 50) ?_
    refine tk 5 (some 51) ?_
    refine tk 6 (some 52) ?_
    refine tk 9 (some 55) ?_
    refine Mono.stc 3 (some 49) (hat1 X0 hHeld.2.2) (fun e X1 hR => ?_)
    obtain ⟨rfl, rfl⟩ := hR
    refine ⟨(hHeld), fun hHeld => Mono.pt ?_⟩
    refine Mono.stc 7 (some 53) (hat2 X1 hHeld.2.2) (fun e X2 hR => ?_)
    obtain ⟨rfl, rfl⟩ := hR
    refine ⟨(hHeld), fun hHeld => Mono.pt ?_⟩
    refine tk 8 (some 54) ?_
    refine tk 10 (some 56) ?_
    refine tk 11 (some 8) ?_
    refine wpAnyH_done (by as_aux_lemma => kernel_rfl) ?_ _
    have hB2 := hHeld.2.2
    clear hHeld hat1 hat2 cb0 cb1 fb0 fb1 lb0 lb1 b0 b1 b2 ho hI
    have e1 : (x + y + c).tmod 1000000000 = (x + y + c) % 1000000000 := Int.tmod_eq_emod_of_nonneg (by omega)
    have e2 : (x + y + c).tdiv 1000000000 = (x + y + c) / 1000000000 := Int.tdiv_eq_ediv_of_nonneg (by omega)
    rw [wrapId (z := x + y) (by omega) (by omega), wrapId (z := x + y + c) (by omega) (by omega)]
    go_wp2_with (at_builtin; (refine wpList_append_ints _ rfl _ _ 48 rfl Tryz.underlying48 infoInt (w.heap.size + 1 + 1 + 1) (.slice pv i cv) i h rfl ?_ (some ⟨X2.heap.size, 0, none⟩) 1 1 (fun _ => (x + y + c) % 1000000000) rfl ?_ ?_ ?_ ?_); (exact (hoX.below (belowAlloc (Below.refl _ _) _))); (exact (slF_lit X2 _ _ rfl)); omega; (simp; omega); (intro v' w1 ho' hg))
    obtain ⟨p', c', rfl⟩ := ho'.shape
    have hz := ((Below.refl (w.heap.size + 1 + 1 + 1) X2).alloc hsX (.cells _ 3)).grown hg (by simp; omega) (fun k hk => hoX.low k hk)
    replace bX0 := bX0.low hz (by omega)
    replace bX1 := bX1.low hz (by omega)
    replace bX2 := bX2.low hz (by omega)
    have hB3 := hB2.trans (hz.mono (by omega))
    have hs3 := hz.size
    clear hoX hB2 hg hz hB hs
    go_wp2
    go_roundw
    case rel =>
     refine ⟨i + 1, _, _, hlt, rfl, by simp, ho'.congr (f' := fun j => if j = i then (x + y + c) % 1000000000 else h j) (fun j hj => ?_), ?_, bX0, bX1, bX2, hB3, by omega⟩
     ·by_cases hji : j = i
      ·subst hji; simp
      ·rw [if_pos (by omega), if_neg hji]
     ·exact hnx
    case measure => simp [intOf]; omega
  ·have hI0 : SumI (xt f n) (xt g m) i h 0 := by
    have h0 := hI.c0
    obtain rfl : c = 0 := by omega
    exact hI
   have hval := hI0.done (by omega) (by omega)
   have hc0 : ¬ (0 < c) := by omega
   have hw1 : ¬ (i : Int) < n := by omega
   have hw2 : ¬ (i : Int) < m := by omega
   have cb0 := b0.cell
   have lb0 := b0.lt
   have fb0 := b0.frozen
   have cb1 := b1.cell
   have lb1 := b1.lt
   have fb1 := b1.frozen
   have hmm := fun W1 hW1 => r3made_ok s pv i cv h W1 ((ho.sl (by omega)).ext hW1) (by omega) hI.lo hI.hi
   have hpos : decide (0 < vf h i) = true := decide_eq_true (by rw [hval]; have := d1.pos.2 hn0; have := d2.nonneg; omega)
   rw [hpos, Bool.and_true] at hmm
   have hli : i ≤ max n m + 1 := hi
   replace hval := Lib.hid hval
   clear hgo hI hI0 ho
   go_wp2_with fail
   refine (hmm wr (Ext.refl _)).mono ?_
   rintro e W1 ⟨v', rfl, ho2, d3, e3, hb⟩
   replace b2 := b2.below hb
   have hB1 := belowCall hB hb
   obtain ⟨p', c', rfl⟩ := ho2.shape
   have hsl := ho2.sl (by have := trimN_le h i; omega)
   clear hmm ho2 b0 b1 cb0 cb1 fb0 fb1 lb0 lb1 hB
   go_wp2_with first | (refine wpList_store_box rfl 50 _ _ rfl (w.heap.size + 1 + 1) 0 50 _ #[.bool s, .slice p' (trimN h i) c'] #[.bool s, .slice p' (trimN h i) c'] rfl rfl b2 sizeLong (Nat.le_of_ble_eq_true rfl) (long_ones _ _ _ _) (whole_new rfl) ?_; intro W2 hk b4)
   have hb2 := hk.below hB1 (by omega) hB1.size
   refine bodyPost_ret (b4.results rfl _ _ rfl Tryz.underlying50 rfl sizeLong) rfl ⟨p', _, c', h, rfl, hsl.ext (hk.ext b2 (by decide)), d3, by rw [e3]; exact hval.out, by have := trimN_le h i; omega, hb2⟩
end Go.Proofs.YtcgfdibagldafaaGreatDoor
