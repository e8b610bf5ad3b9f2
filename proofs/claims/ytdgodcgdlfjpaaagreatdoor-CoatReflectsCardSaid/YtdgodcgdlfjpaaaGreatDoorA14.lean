/- Contracts of package coat and of the examples of its law, for the laws of layer 40. Part 14 of 40. No condition beside the row. -/
import Derived.Shelf.Abstract
import Derived.Test.YtdgodcgdlfjpaaaGreatDoorA13
set_option linter.unusedVariables false
set_option linter.unusedSimpArgs false
set_option maxRecDepth 100000
set_option maxHeartbeats 4000000
namespace Go.Mono
structure Flm where
 ix : Int
 p : Int
 q : Int
deriving DecidableEq
def Flm.ok (f : Flm) : Prop := 10000000 ≤ f.ix ∧ f.ix ≤ 40000000 ∧ 0 ≤ f.p ∧ f.p ≤ 1000 ∧ 1 ≤ f.q ∧ f.q ≤ 1000
instance (f : Flm) : Decidable f.ok := by unfold Flm.ok; infer_instance
structure Mat where
 a : Rat
 b : Rat
 c : Rat
 d : Rat
theorem Mat.ext {x y : Mat} (h1 : x.a = y.a) (h2 : x.b = y.b) (h3 : x.c = y.c) (h4 : x.d = y.d) : x = y := by
 cases x; cases y; simp_all
def Mat.one : Mat := ⟨1, 0, 0, 1⟩
def Mat.mul (x y : Mat) : Mat := ⟨x.a * y.a - x.b * y.c, x.a * y.b + x.b * y.d, x.c * y.a + x.d * y.c, x.d * y.d - x.c * y.b⟩
theorem Mat.mul_assoc (x y z : Mat) : (x.mul y).mul z = x.mul (y.mul z) := by
 apply Mat.ext <;> simp only [Mat.mul] <;> grind
theorem Mat.one_mul (x : Mat) : Mat.one.mul x = x := by
 apply Mat.ext <;> simp only [Mat.mul, Mat.one] <;> grind
theorem Mat.mul_one (x : Mat) : x.mul Mat.one = x := by
 apply Mat.ext <;> simp only [Mat.mul, Mat.one] <;> grind
def Mat.det (x : Mat) : Rat := x.a * x.d + x.b * x.c
theorem Mat.det_mul (x y : Mat) : (x.mul y).det = x.det * y.det := by
 simp only [Mat.mul, Mat.det]; grind
def Flm.sq (f : Flm) : Int := f.q * f.q + f.p * f.p
def Flm.cos (f : Flm) : Rat := Rat.divInt (f.q * f.q - f.p * f.p) f.sq
def Flm.sin (f : Flm) : Rat := Rat.divInt (2 * f.p * f.q) f.sq
def idx (n : Int) : Rat := Rat.divInt n 10000000
def Flm.mat (f : Flm) : Mat := ⟨f.cos, f.sin / idx f.ix, idx f.ix * f.sin, f.cos⟩
theorem Flm.ok.sq_pos {f : Flm} (h : f.ok) : 1 ≤ f.sq := by
 obtain ⟨_, _, h1, _, h2, _⟩ := h
 have a := Int.mul_le_mul h2 h2 (by omega) (by omega)
 have b := Int.mul_nonneg h1 h1
 unfold Flm.sq; omega
theorem ratcast_ne {n : Int} (h : n ≠ 0) : (n : Rat) ≠ 0 := by
 intro e
 apply h
 exact Rat.intCast_inj.1 (by simpa using e)
theorem idx_ne {n : Int} (h : n ≠ 0) : idx n ≠ 0 := by
 unfold idx
 rw [Rat.divInt_eq_div]
 have := ratcast_ne h
 grind
theorem Flm.cs (f : Flm) (h : f.sq ≠ 0) : f.cos * f.cos + f.sin * f.sin = 1 := by
 unfold Flm.cos Flm.sin
 rw [Rat.divInt_eq_div, Rat.divInt_eq_div]
 have h0 := ratcast_ne h
 have e : ((f.sq : Int) : Rat) = (f.q : Rat) * f.q + f.p * f.p := by
  unfold Flm.sq; rw [Rat.intCast_add, Rat.intCast_mul, Rat.intCast_mul]
 have e1 : ((f.q * f.q - f.p * f.p : Int) : Rat) = (f.q : Rat) * f.q - f.p * f.p := by
  rw [Rat.intCast_sub, Rat.intCast_mul, Rat.intCast_mul]
 have e2 : ((2 * f.p * f.q : Int) : Rat) = 2 * (f.p : Rat) * f.q := by
  rw [Rat.intCast_mul, Rat.intCast_mul]; rfl
 rw [e1, e2]
 generalize ((f.sq : Int) : Rat) = s at *
 generalize (f.p : Rat) = p at *
 generalize (f.q : Rat) = q at *
 have : ((q * q - p * p) * (q * q - p * p) + (2 * p * q) * (2 * p * q)) = s * s := by rw [e]; grind
 grind
theorem Flm.ok.ne {f : Flm} (h : f.ok) : f.sq ≠ 0 ∧ f.ix ≠ 0 := by
 have := h.sq_pos
 have := h.1
 omega
theorem Flm.det {f : Flm} (h : f.ok) : f.mat.det = 1 := by
 have h1 := f.cs h.ne.1
 have h2 := idx_ne h.ne.2
 simp only [Flm.mat, Mat.det]
 generalize f.cos = c at *
 generalize f.sin = s at *
 generalize idx f.ix = n at *
 grind
def stackM (l : List Flm) : Mat := l.foldl (fun a f => a.mul f.mat) Mat.one
theorem fold_mul (l : List Flm) (x : Mat) : l.foldl (fun a f => a.mul f.mat) x = x.mul (stackM l) := by
 unfold stackM
 induction l generalizing x with
 | nil => simp [Mat.mul_one]
 | cons f l ih =>
   simp only [List.foldl_cons]
   rw [ih, ih (Mat.one.mul f.mat), Mat.one_mul, Mat.mul_assoc]
theorem stackM_nil : stackM [] = Mat.one := rfl
theorem stackM_cons (f : Flm) (l : List Flm) : stackM (f :: l) = f.mat.mul (stackM l) := by
 show l.foldl _ (Mat.one.mul f.mat) = _
 rw [fold_mul, Mat.one_mul]
theorem stackM_snoc (l : List Flm) (f : Flm) : stackM (l ++ [f]) = (stackM l).mul f.mat := by
 show (l ++ [f]).foldl _ Mat.one = _
 rw [List.foldl_append]; rfl
theorem stack_det {l : List Flm} (h : ∀ f ∈ l, f.ok) : (stackM l).det = 1 := by
 induction l with
 | nil => rw [stackM_nil]; simp only [Mat.one, Mat.det]; grind
 | cons f l ih =>
   rw [stackM_cons, Mat.det_mul, Flm.det (h f (by simp)), ih fun g hg => h g (by simp [hg])]
   grind
def big (n m : Rat) (x : Mat) : Rat := (n * x.a + m * x.d) * (n * x.a + m * x.d) + (n * m * x.b + x.c) * (n * m * x.b + x.c)
def low (n m : Rat) (x : Mat) : Rat := (n * x.a - m * x.d) * (n * x.a - m * x.d) + (n * m * x.b - x.c) * (n * m * x.b - x.c)
def back (n m : Rat) (x : Mat) : Rat := low n m x / big n m x
def through (n m : Rat) (x : Mat) : Rat := 4 * (n * m) / big n m x
theorem rat_sq_nonneg (x : Rat) : 0 ≤ x * x := by
 rcases Rat.le_total (a := 0) (b := x) with h | h
 ·exact Rat.mul_nonneg h h
 ·have : 0 ≤ (-x) * (-x) := Rat.mul_nonneg (by grind) (by grind)
  grind
theorem low_nonneg (n m : Rat) (x : Mat) : 0 ≤ low n m x := by
 have h1 := rat_sq_nonneg (n * x.a - m * x.d)
 have h2 := rat_sq_nonneg (n * m * x.b - x.c)
 unfold low; grind
theorem big_low (n m : Rat) (x : Mat) (h : x.det = 1) : big n m x = low n m x + 4 * (n * m) := by
 unfold Mat.det at h
 have : 4 * (n * m) = 4 * (n * m) * (x.a * x.d + x.b * x.c) := by rw [h]; grind
 rw [this]
 unfold big low
 grind
theorem big_pos (n m : Rat) (x : Mat) (h : x.det = 1) (hn : 0 < n) (hm : 0 < m) : 0 < big n m x := by
 rw [big_low n m x h]
 have := low_nonneg n m x
 have := Rat.mul_pos hn hm
 grind
def Flm.join (f g : Flm) : Flm := ⟨f.ix, f.p * g.q + g.p * f.q, f.q * g.q - f.p * g.p⟩
def Mov (N D : Nat) (x : Mat) : Prop := ∃ d, d ≤ D ∧ Ov N d x.a ∧ Ov N d x.b ∧ Ov N d x.c ∧ Ov N d x.d
def bnd : Nat := 4000000000000000000000
theorem mul_in {a b : Int} {A B : Nat} (h1 : a.natAbs ≤ A) (h2 : b.natAbs ≤ B) : (a * b).natAbs ≤ A * B := by
 rw [Int.natAbs_mul]; exact Nat.mul_le_mul h1 h2
theorem Flm.ok.mov {f : Flm} (h : f.ok) : Mov bnd bnd f.mat := by
 have hs := h.sq_pos
 have hn := h.ne
 obtain ⟨i1, i2, p1, p2, q1, q2⟩ := h
 have pq : (f.p * f.q).natAbs ≤ 1000 * 1000 := mul_in (by omega) (by omega)
 have pp : (f.p * f.p).natAbs ≤ 1000 * 1000 := mul_in (by omega) (by omega)
 have qq : (f.q * f.q).natAbs ≤ 1000 * 1000 := mul_in (by omega) (by omega)
 have ii : (f.ix * f.ix).natAbs ≤ 40000000 * 40000000 := mul_in (by omega) (by omega)
 have pp0 : 0 ≤ f.p * f.p := Int.mul_nonneg p1 p1
 have qq0 : 0 ≤ f.q * f.q := Int.mul_nonneg (by omega) (by omega)
 have pq0 : 0 ≤ f.p * f.q := Int.mul_nonneg p1 (by omega)
 obtain ⟨s, es⟩ : ∃ s : Nat, f.sq = (s : Int) := ⟨f.sq.toNat, by omega⟩
 obtain ⟨n, en⟩ : ∃ n : Nat, f.ix = (n : Int) := ⟨f.ix.toNat, by omega⟩
 have s2 : s ≤ 2000000 := by have : f.sq = f.q * f.q + f.p * f.p := rfl; omega
 have n2 : n ≤ 40000000 := by omega
 have s0 : 0 < s := by omega
 have n0 : 0 < n := by omega
 have hc : Ov 1000000 s f.cos := by
  unfold Flm.cos; rw [es]; exact Ov.of _ s s0 _ (by omega)
 have hi : Ov 2000000 s f.sin := by
  unfold Flm.sin; rw [es]; refine Ov.of _ s s0 _ ?_
  rw [show 2 * f.p * f.q = 2 * (f.p * f.q) from by grind]; omega
 have hd : Ov (2000000 * 10000000) (s * n) (f.sin / idx f.ix) := by
  have : f.sin / idx f.ix = f.sin * Rat.divInt 10000000 n := by
   rw [Rat.div_def]; unfold idx; rw [Rat.inv_divInt, en]
  rw [this]
  exact hi.mul (Ov.of 10000000 n n0 10000000 (by decide))
 have hm : Ov (40000000 * 2000000) (10000000 * s) (idx f.ix * f.sin) := by
  have : Ov 40000000 10000000 (idx f.ix) := by unfold idx; exact Ov.of f.ix 10000000 (by decide) _ (by omega)
  exact this.mul hi
 have hc' : Ov bnd (s * (n * 10000000)) f.cos := (hc.scale (n * 10000000) (by omega)).mono (by
  have : 1000000 * (n * 10000000) ≤ 1000000 * (40000000 * 10000000) := Nat.mul_le_mul_left _ (Nat.mul_le_mul_right _ n2)
  unfold bnd; omega)
 refine ⟨s * (n * 10000000), ?_, hc', ?_, ?_, hc'⟩
 ·have : s * (n * 10000000) ≤ 2000000 * (40000000 * 10000000) := Nat.mul_le_mul s2 (Nat.mul_le_mul_right _ n2)
  unfold bnd; omega
 ·have := hd.scale 10000000 (by decide)
  rw [Nat.mul_assoc s n] at this
  exact Ov.mono (M := bnd) this (by decide)
 ·have := hm.scale n n0
  rw [show 10000000 * s * n = s * (n * 10000000) from by rw [Nat.mul_comm 10000000, Nat.mul_assoc, Nat.mul_comm 10000000]] at this
  refine Ov.mono (M := bnd) this ?_
  have : 40000000 * 2000000 * n ≤ 40000000 * 2000000 * 40000000 := Nat.mul_le_mul_left _ n2
  unfold bnd; omega
theorem Mov.parts {N D N' D' : Nat} {x y : Mat} (h : Mov N D x) (g : Mov N' D' y) : ∃ d, d ≤ D * D' ∧
  (∀ u v, (u = x.a ∨ u = x.b ∨ u = x.c ∨ u = x.d) → (v = y.a ∨ v = y.b ∨ v = y.c ∨ v = y.d) → Ov (N * N') d (u * v)) := by
 obtain ⟨d, hd, a, b, c, e⟩ := h
 obtain ⟨d', hd', a', b', c', e'⟩ := g
 refine ⟨d * d', Nat.mul_le_mul hd hd', ?_⟩
 intro u v hu hv
 rcases hu with rfl | rfl | rfl | rfl <;> rcases hv with rfl | rfl | rfl | rfl <;> exact Ov.mul (by assumption) (by assumption)
theorem Mov.mul {N D N' D' : Nat} {x y : Mat} (h : Mov N D x) (g : Mov N' D' y) : Mov (2 * (N * N')) (D * D') (x.mul y) := by
 obtain ⟨d, hd, hp⟩ := h.parts g
 rw [Nat.two_mul]
 exact ⟨d, hd, (hp _ _ (by simp) (by simp)).sub_same (hp _ _ (by simp) (by simp)), (hp _ _ (by simp) (by simp)).add_same (hp _ _ (by simp) (by simp)), (hp _ _ (by simp) (by simp)).add_same (hp _ _ (by simp) (by simp)), (hp _ _ (by simp) (by simp)).sub_same (hp _ _ (by simp) (by simp))⟩
theorem Mov.one : Mov 1 1 Mat.one := by
 have h0 : Ov 1 1 (0 : Rat) := Ov.of 0 1 (by decide) 1 (by decide)
 have h1 : Ov 1 1 (1 : Rat) := Ov.of 1 1 (by decide) 1 (by decide)
 exact ⟨1, Nat.le_refl _, h1, h0, h0, h1⟩
theorem stack_mov (l : List Flm) (h : ∀ f ∈ l, f.ok) : Mov ((2 * bnd) ^ l.length) (bnd ^ l.length) (stackM l) := by
 suffices H : ∀ (l m : List Flm), (∀ f ∈ m, f.ok) → Mov ((2 * bnd) ^ l.length) (bnd ^ l.length) (stackM l) → Mov ((2 * bnd) ^ (l ++ m).length) (bnd ^ (l ++ m).length) (stackM (l ++ m)) by
  have := H [] l h Mov.one
  simpa using this
 intro l m hm hl
 induction m generalizing l with
 | nil => simpa using hl
 | cons f m ih =>
   have e : l ++ f :: m = (l ++ [f]) ++ m := by simp
   rw [e]
   refine ih (l ++ [f]) (fun g hg => hm g (by simp [hg])) ?_
   rw [stackM_snoc]
   have := hl.mul (hm f (by simp)).mov
   rw [show 2 * ((2 * bnd) ^ l.length * bnd) = (2 * bnd) ^ (l ++ [f]).length from by rw [List.length_append, List.length_singleton, Nat.pow_succ, Nat.mul_left_comm], show bnd ^ l.length * bnd = bnd ^ (l ++ [f]).length from by rw [List.length_append, List.length_singleton, Nat.pow_succ]] at this
   exact this
def Mhs (k : Nat) (x : Mat) : Prop := Hs k x.a ∧ Hs k x.b ∧ Hs k x.c ∧ Hs k x.d
theorem Mov.mhs {N D k : Nat} {x : Mat} (h : Mov N D x) (hN : N ≤ 10 ^ k) (hD : D ≤ 10 ^ k) : Mhs k x := by
 obtain ⟨d, hd, a, b, c, e⟩ := h
 exact ⟨.of_ov a hN (by omega), .of_ov b hN (by omega), .of_ov c hN (by omega), .of_ov e hN (by omega)⟩
theorem pow_bnd (k : Nat) (hk : k ≤ 9) : (2 * bnd) ^ k ≤ 10 ^ 198 ∧ bnd ^ k ≤ 10 ^ 198 := by
 have h1 : (2 * bnd) ^ k ≤ (2 * bnd) ^ 9 := Nat.pow_le_pow_right (by decide) hk
 have h2 : bnd ^ k ≤ (2 * bnd) ^ k := Nat.pow_le_pow_left (by decide) _
 have h3 : (2 * bnd) ^ 9 ≤ 10 ^ 198 := by decide +kernel
 omega
theorem stack_step (l : List Flm) (f : Flm) (h : ∀ g ∈ l, g.ok) (hf : f.ok) (hl : l.length ≤ 8) :
  ∀ u v u' v', (u = (stackM l).a ∨ u = (stackM l).b ∨ u = (stackM l).c ∨ u = (stackM l).d) → (v = f.mat.a ∨ v = f.mat.b ∨ v = f.mat.c ∨ v = f.mat.d) →
    (u' = (stackM l).a ∨ u' = (stackM l).b ∨ u' = (stackM l).c ∨ u' = (stackM l).d) → (v' = f.mat.a ∨ v' = f.mat.b ∨ v' = f.mat.c ∨ v' = f.mat.d) → Hs 221 (u * v) ∧ Hs 221 (u * v + u' * v') ∧ Hs 221 (u * v - u' * v') := by
 intro u v u' v' hu hv hu' hv'
 obtain ⟨d, hd, hp⟩ := (stack_mov l h).parts hf.mov
 have b := pow_bnd l.length (by omega)
 have e1 : (2 * bnd) ^ l.length * bnd ≤ 10 ^ 198 * bnd := Nat.mul_le_mul_right _ b.1
 have e2 : bnd ^ l.length * bnd ≤ 10 ^ 198 * bnd := Nat.mul_le_mul_right _ b.2
 have e3 : 10 ^ 198 * bnd + 10 ^ 198 * bnd ≤ 10 ^ 221 := by decide +kernel
 have e4 : 10 ^ 198 * bnd ≤ 10 ^ 221 := by omega
 have x := hp u v hu hv
 have y := hp u' v' hu' hv'
 exact ⟨.of_ov x (by omega) (by omega), .of_ov (x.add_same y) (by omega) (by omega), .of_ov (x.sub_same y) (by omega) (by omega)⟩
theorem stack_hs (l : List Flm) (h : ∀ g ∈ l, g.ok) (hl : l.length ≤ 9) : Mhs 198 (stackM l) :=
 (stack_mov l h).mhs (pow_bnd _ hl).1 (pow_bnd _ hl).2
theorem film_hs {f : Flm} (h : f.ok) : Mhs 22 f.mat ∧ Hs 22 f.sin ∧ Hs 22 f.cos ∧ Hs 22 (idx f.ix) := by
 have hm := h.mov.mhs (k := 22) (by decide +kernel) (by decide +kernel)
 refine ⟨hm, ?_, hm.1, ?_⟩
 ·have hs := h.sq_pos
  obtain ⟨i1, i2, p1, p2, q1, q2⟩ := h
  have pq : (f.p * f.q).natAbs ≤ 1000 * 1000 := mul_in (by omega) (by omega)
  have pp : (f.p * f.p).natAbs ≤ 1000 * 1000 := mul_in (by omega) (by omega)
  have qq : (f.q * f.q).natAbs ≤ 1000 * 1000 := mul_in (by omega) (by omega)
  have e : f.sq = f.q * f.q + f.p * f.p := rfl
  refine Hs.divInt _ _ (by omega) ?_ (by omega)
  rw [show 2 * f.p * f.q = 2 * (f.p * f.q) from by grind]; omega
 ·obtain ⟨i1, i2, _⟩ := h
  exact Hs.divInt _ _ (by decide) (by omega) (by omega)
theorem idx_hs {n : Int} (h1 : 10000000 ≤ n) (h2 : n ≤ 40000000) : Hs 8 (idx n) := Hs.divInt _ _ (by decide) (by omega) (by omega)
end Go.Mono
namespace Go.Proofs.YtdgodcgdlfjpaaaGreatDoor
open Go.RowKit Go.Mono
theorem qof_ok (a b : Int) (h0 : b ≠ 0) (w : World) (a1 : -9223372036854775808 ≤ a) (a2 : a ≤ 9223372036854775807) (b1 : -9223372036854775808 ≤ b) (b2 : b ≤ 9223372036854775807) :
  Calls Tryz.prog 93 #[.int .i64 a, .int .i64 b] w fun e w' => ∃ r, e = .returned (.tuple #[r, .int .i64 0]) ∧ QV w' r (Rat.divInt a b) ∧ Below w.heap.size w w' := by
 go_enter Tryz.func93, Tryz.ntmps93
 go_wp2_with fail
 refine boxes1c fun W hB hs bb => ?_
 refine (lof_ok a W a1 a2).mono ?_
 rintro e W1 ⟨p, k, c, rfl, z1, hb1⟩
 replace hB := belowCall hB hb1
 replace bb := bb.below hb1
 have cbb := bb.cell
 have lbb := bb.lt
 have fbb := bb.frozen
 go_wp2_with fail
 refine (lof_ok b W1 b1 b2).mono ?_
 rintro e W2 ⟨q, l, d, rfl, z2, hb2⟩
 replace hB := belowCall hB hb2
 replace z1 := z1.ext (.of_below hb2)
 replace bb := bb.below hb2
 try clear cbb lbb fbb
 have cbb := bb.cell
 have lbb := bb.lt
 have fbb := bb.frozen
 go_wp2_with fail
 refine (make_ok a b h0 p q k c l d W2 W2 (Ext.refl _) z1 z2).mono ?_
 rintro e W3 ⟨r, rfl, ⟨p7, k7, c7, q7, l7, d7, rfl, z7, y7⟩, hb7⟩
 replace hB := belowCall hB hb7
 replace z1 := z1.ext (.of_below hb7)
 replace bb := bb.below hb7
 try clear cbb lbb fbb
 have cbb := bb.cell
 have lbb := bb.lt
 have fbb := bb.frozen
 go_wp2
 have b3' := ((((bb.set 0 (.bool (decide ((Rat.divInt a b).num < 0)))).set 1 (.slice p7 k7 c7)).set 2 (.bool false)).set 3 (.slice q7 l7 d7)).cell
 have xE : Ext W3 _ := (((((Ext.refl W3).set bb (by decide) 0 (.bool (decide ((Rat.divInt a b).num < 0)))).set (bb.set 0 (.bool (decide ((Rat.divInt a b).num < 0)))) (by decide) 1 (.slice p7 k7 c7))).set ((bb.set 0 (.bool (decide ((Rat.divInt a b).num < 0)))).set 1 (.slice p7 k7 c7)) (by decide) 2 (.bool false)).set (((bb.set 0 (.bool (decide ((Rat.divInt a b).num < 0)))).set 1 (.slice p7 k7 c7)).set 2 (.bool false)) (by decide) 3 (.slice q7 l7 d7)
 refine bodyPost_ret (v := .tuple #[.agg #[.bool (decide ((Rat.divInt a b).num < 0)), .slice p7 k7 c7, .bool false, .slice q7 l7 d7], .int .i64 0]) (by simp [results, Tryz.results93, go_sem, b3']) rfl ⟨_, rfl, ⟨_, _, _, _, _, _, rfl, z7.ext xE, y7.ext xE⟩, ?_⟩
 exact belowSet (belowSet (belowSet (belowSet hB (by omega) _ _) (by omega) _ _) (by omega) _ _) (by omega) _ _
end Go.Proofs.YtdgodcgdlfjpaaaGreatDoor
namespace Go.Mono
open Go.RowKit
def RdF (w : World) (p : Option Addr) (n c : Nat) (f : Nat → Int) : Prop :=
 n ≤ c ∧ n ≤ 140737488351232 ∧ (0 < n → ∃ b off, p = some ⟨b, off, none⟩ ∧ b < w.heap.size ∧ (∀ i, i < n → w.cell? ⟨b, off + i, none⟩ = some (.int .i64 (f i))))
theorem RdF.below {w w' : World} {p : Option Addr} {n c : Nat} {f : Nat → Int} (h : RdF w p n c f) (hB : Below w.heap.size w w') : RdF w' p n c f := by
 obtain ⟨h1, h2, h3⟩ := h
 refine ⟨h1, h2, fun hn => ?_⟩
 obtain ⟨b, off, hp, hb, hc⟩ := h3 hn
 exact ⟨b, off, hp, Nat.lt_of_lt_of_le hb hB.size, fun i hi => (hB.cell hb).trans (hc i hi)⟩
end Go.Mono
namespace Go.Proofs.YtdgodcgdlfjpaaaGreatDoor
open Go.RowKit Go.Mono
theorem between1_ok (z lo hi : Int) (B0 B1 : Nat) (w : World) (b0 : Box w B0 3 #[.int .i64 lo]) (b1 : Box w B1 3 #[.int .i64 hi]) (h1 : lo ≤ z) (h2 : z ≤ hi) :
  Calls Tryz.prog 250 #[.int .i64 z, .pointer (some ⟨B0, 0, none⟩), .pointer (some ⟨B1, 0, none⟩)] w fun e w' => e = .returned (.bool false) ∧ w' = w := by
 have c0 := b0.cell
 have c1 := b1.cell
 have e1 : ¬ (z < lo) := by omega
 have e2 : ¬ (hi < z) := by omega
 go_enter Tryz.func250, Tryz.ntmps250
 go_wp2
 go_ret
 exact ⟨rfl, rfl⟩
theorem index_none (n : Nat) (p : Option Addr) (c : Nat) (f : Nat → Int) (g : Nat) (eg : ∀ args w, (callFunc g args).run Tryz.prog w = .ok (.enter g args) w) (cap : Array Value) (w : World) (h : RdF w p n c f)
  (hf : ∀ i, i < n → Calls Tryz.prog g (#[.int .i64 (f i)] ++ cap) w fun e w' => e = .returned (.bool false) ∧ w' = w) :
  Calls Tryz.prog 277 #[.slice p n c, .func (.func g) #[] cap] w fun e w' => e = .returned (.int .i64 (-1)) ∧ w' = w := by
 obtain ⟨hc1, hn1, hx1⟩ := h
 go_enter Tryz.func277, Tryz.ntmps277
 go_wp2
 go_loopw [8] (fun a wr => ∃ k : Nat, k ≤ n ∧ a = .int .i64 (k : Int) ∧ wr = w) (fun a _ => (n - intOf a).toNat)
 case atStart => exact ⟨0, Nat.zero_le _, rfl, rfl⟩
 case round =>
  obtain ⟨k, hk, rfl, rfl⟩ := hrel
  by_cases h0 : k < n
  ·obtain ⟨b, off, rfl, hb, hcell⟩ := hx1 (by omega)
   have a1 := hcell k (by omega)
   have hfk := hf k h0
   clear hcell hx1 hf
   have h0' : (k : Int) < n := by omega
   go_wp2
   refine hfk.mono ?_
   rintro e w' ⟨rfl, rfl⟩
   go_wp2
   go_roundw
   case rel => refine ⟨k + 1, by omega, ?_⟩; simp
   case measure => simp [intOf]; omega
  ·obtain rfl : k = n := by omega
   go_wp2
   go_ret
   exact ⟨rfl, rfl⟩
theorem contains_none (n : Nat) (p : Option Addr) (c : Nat) (f : Nat → Int) (g : Nat) (eg : ∀ args w, (callFunc g args).run Tryz.prog w = .ok (.enter g args) w) (cap : Array Value) (w : World) (h : RdF w p n c f)
  (hf : ∀ i, i < n → Calls Tryz.prog g (#[.int .i64 (f i)] ++ cap) w fun e w' => e = .returned (.bool false) ∧ w' = w) :
  Calls Tryz.prog 249 #[.slice p n c, .func (.func g) #[] cap] w fun e w' => e = .returned (.bool false) ∧ w' = w := by
 have hi := index_none n p c f g eg cap w h hf
 clear h hf
 go_enter Tryz.func249, Tryz.ntmps249
 go_wp2_with (go_at_call 277; refine hi.mono ?_; rintro e w' ⟨rfl, rfl⟩)
 go_ret
 exact ⟨rfl, rfl⟩
theorem enters_between1 : ∀ args w, (callFunc 250 args).run Tryz.prog w = .ok (.enter 250 args) w := Go.Proofs.enters_of Tryz.func250 (by kernel_rfl) rfl
theorem between_ok (lo hi : Int) (n : Nat) (p : Option Addr) (c : Nat) (f : Nat → Int) (w : World) (h : RdF w p n c f) (h1 : ∀ i, i < n → lo ≤ f i ∧ f i ≤ hi) :
  Calls Tryz.prog 208 #[.int .i64 lo, .int .i64 hi, .slice p n c] w fun e w' => e = .returned (.bool true) ∧ Below w.heap.size w w' := by
 have hmf : ∀ (fn : Fn) (first cap : Array Value) (w : World), (Instr.makeFunc fn first cap).run Tryz.prog w = .ok (.func fn first cap) w := fun _ _ _ _ => rfl
 go_enter Tryz.func208, Tryz.ntmps208
 go_wp2_with fail
 refine boxes2c fun W hB hs b0 b1 => ?_
 replace h := h.below hB
 refine (contains_none n p c f _ enters_between1 _ W h fun i hi => ?_).mono ?_
 ·exact between1_ok _ _ _ _ _ W b0 b1 (h1 i hi).1 (h1 i hi).2
 rintro e W1 ⟨rfl, rfl⟩
 go_wp2
 go_ret
 exact ⟨rfl, hB⟩
theorem about_ok (m : Int) (n : Nat) (p : Option Addr) (c : Nat) (f : Nat → Int) (w : World) (h : RdF w p n c f) (hm0 : 0 ≤ m) (hm1 : m ≤ 1000000000) (h1 : ∀ i, i < n → -m ≤ f i ∧ f i ≤ m) :
  Calls Tryz.prog 212 #[.int .i64 m, .slice p n c] w fun e w' => e = .returned (.bool true) ∧ Below w.heap.size w w' := by
 have hb := between_ok (-m) m n p c f w h h1
 clear h h1
 go_enter Tryz.func212, Tryz.ntmps212
 go_wp2_with (go_at_call 208; refine hb.mono ?_; rintro e w' ⟨rfl, hb⟩)
 go_ret
 exact ⟨rfl, hb⟩
end Go.Proofs.YtdgodcgdlfjpaaaGreatDoor
namespace Go.Mono
def isLetter (z : Int) : Prop := (65 ≤ z ∧ z ≤ 90) ∨ (97 ≤ z ∧ z ≤ 122) ∨ (48 ≤ z ∧ z ≤ 57) ∨ z = 45 ∨ z = 95
end Go.Mono
namespace Go.Proofs.YtdgodcgdlfjpaaaGreatDoor
open Go.RowKit Go.Mono
theorem letter_ok (z : Int) (h : isLetter z) (w : World) :
  Calls Tryz.prog 252 #[.int .u8 z] w fun e w' => e = .returned (.bool true) ∧ w' = w := by
 rcases h with ⟨h1, h2⟩ | ⟨h1, h2⟩ | ⟨h1, h2⟩ | rfl | rfl
 ·go_enter Tryz.func252, Tryz.ntmps252
  go_wp2
  go_ret
  exact ⟨rfl, rfl⟩
 ·have h3 : 65 ≤ z := by omega
  have h4 : ¬ (z ≤ 90) := by omega
  go_enter Tryz.func252, Tryz.ntmps252
  go_wp2
  go_ret
  exact ⟨rfl, rfl⟩
 ·have h3 : ¬ (65 ≤ z) := by omega
  have h4 : ¬ (97 ≤ z) := by omega
  go_enter Tryz.func252, Tryz.ntmps252
  go_wp2
  go_ret
  exact ⟨rfl, rfl⟩
 ·go_enter Tryz.func252, Tryz.ntmps252
  go_wp2
  go_ret
  exact ⟨rfl, rfl⟩
 ·go_enter Tryz.func252, Tryz.ntmps252
  go_wp2
  go_ret
  exact ⟨rfl, rfl⟩
theorem name_ok (s : ByteArray) (h0 : 1 ≤ s.size) (h1 : s.size ≤ 16) (hl : ∀ i (hi : i < s.size), isLetter (s[i].toNat : Int)) (w : World) :
  Calls Tryz.prog 217 #[.string s] w fun e w' => e = .returned (.bool true) ∧ w' = w := by
 go_enter Tryz.func217, Tryz.ntmps217
 go_wp2
 go_loopw [6] (fun a wr => ∃ k : Nat, k ≤ s.size ∧ a = .int .i64 (k : Int) ∧ wr = w) (fun a _ => (s.size - intOf a).toNat)
 case atStart => exact ⟨0, Nat.zero_le _, rfl, rfl⟩
 case round =>
  obtain ⟨k, hk, rfl, rfl⟩ := hrel
  by_cases hks : k < s.size
  ·have hlk := letter_ok _ (hl k hks) wr
   have h0' : (k : Int) < s.size := by omega
   have hg : s.data[k]? = some s[k] := by
    rw [Array.getElem?_eq_getElem (by exact hks)]; rfl
   clear hl
   go_wp2_with (go_at_call 252; refine hlk.mono ?_; rintro e w' ⟨rfl, rfl⟩)
   go_roundw
   case rel => refine ⟨k + 1, by omega, ?_⟩; simp
   case measure => simp [intOf]; omega
  ·obtain rfl : k = s.size := by omega
   have h0' : (1 : Int) ≤ s.size := by omega
   have h1' : (s.size : Int) ≤ 16 := by omega
   go_wp2
   go_ret
   exact ⟨rfl, rfl⟩
end Go.Proofs.YtdgodcgdlfjpaaaGreatDoor
namespace Go.Mono
open Go.RowKit
structure Srf where
 kind : Int
 curv : Int
 conic : Int
 curvx : Int
 conicx : Int
 a0 : Int
 a1 : Int
 a2 : Int
 a3 : Int
 p0 : Int
 p1 : Int
 order : Int
 thick : Int
 glass : ByteArray
 semi : Int
 hole : Int
 dx : Int
 dy : Int
 ax : Int
 ay : Int
 az : Int
def Srf.cs (s : Srf) (p : Option Addr) (c : Nat) : Array Value :=
 #[.int .i64 s.kind, .int .i64 s.curv, .int .i64 s.conic, .int .i64 s.curvx, .int .i64 s.conicx, .int .i64 s.a0, .int .i64 s.a1, .int .i64 s.a2, .int .i64 s.a3, .int .i64 s.p0, .int .i64 s.p1, .int .i64 s.order, .int .i64 s.thick, .string s.glass, .int .i64 s.semi, .int .i64 s.hole, .int .i64 s.dx, .int .i64 s.dy, .int .i64 s.ax, .int .i64 s.ay, .int .i64 s.az, .slice p 0 c]
def NameOk (s : ByteArray) : Prop := 1 ≤ s.size ∧ s.size ≤ 16 ∧ ∀ i (hi : i < s.size), isLetter (s[i].toNat : Int)
def mirror : ByteArray := { data := #[77, 73, 82, 82, 79, 82] }
def Srf.kept (s : Srf) : Srf :=
 let z : Srf := { kind := s.kind, curv := 0, conic := 0, curvx := 0, conicx := 0, a0 := 0, a1 := 0, a2 := 0, a3 := 0, p0 := 0, p1 := 0, order := 0, thick := s.thick, glass := { data := #[] }, semi := 0, hole := 0, dx := 0, dy := 0, ax := 0, ay := 0, az := 0 }
 let all : Srf → Srf := fun z => { z with curv := s.curv, conic := s.conic, glass := s.glass, semi := s.semi, hole := s.hole }
 if s.kind = 1 then
  let z := { z with a0 := s.a0, a1 := s.a1, a2 := s.a2, a3 := s.a3 }
  all (if s.order ≠ 0 ∧ s.glass ≠ mirror then { z with order := s.order, p0 := s.p0, p1 := s.p1 } else z)
 else if s.kind = 2 then all { z with curvx := s.curvx, conicx := s.conicx }
 else if s.kind = 3 then { z with dx := s.dx, dy := s.dy, ax := s.ax, ay := s.ay, az := s.az }
 else if s.kind = 4 then { z with curv := s.curv, semi := s.semi, hole := s.hole }
 else all z
def In (m z : Int) : Prop := -m ≤ z ∧ z ≤ m
structure Srf.ok (s : Srf) : Prop where
 k1 : 1 ≤ s.kind
 k2 : s.kind ≤ 4
 kept : s.kept = s
 curv : In 1000000000 s.curv
 curvx : In 1000000000 s.curvx
 thick : In 1000000000 s.thick
 dx : In 1000000000 s.dx
 dy : In 1000000000 s.dy
 a0 : In 1000000000 s.a0
 a1 : In 1000000000 s.a1
 a2 : In 1000000000 s.a2
 a3 : In 1000000000 s.a3
 p0 : In 1000000000 s.p0
 p1 : In 1000000000 s.p1
 conic : In 100000000 s.conic
 conicx : In 100000000 s.conicx
 ax : In 90000000 s.ax
 ay : In 90000000 s.ay
 az : In 90000000 s.az
 order : In 3 s.order
 semi0 : 0 ≤ s.semi
 semi1 : s.semi ≤ 1000000000
 hole0 : 0 ≤ s.hole
 hole1 : s.hole ≤ 1000000000
 ring : s.semi = 0 ∨ s.hole < s.semi
 glass : s.glass = { data := #[] } ∨ NameOk s.glass
theorem rdF_new (w : World) (T : TypeId) (cs : Array Value) (n : Nat) (f : Nat → Int) (h : ∀ i, i < n → cs[i]? = some (.int .i64 (f i))) (hn : n ≤ 1000) : RdF (w.alloc (.cells cs T)) (some ⟨w.heap.size, 0, none⟩) n n f := by
 refine ⟨Nat.le_refl _, by omega, fun _ => ⟨_, _, rfl, by simp, fun i hi => ?_⟩⟩
 rw [(Box.new w T cs).cell, Nat.zero_add]
 exact h i hi
theorem RdF.box {w : World} {B : Nat} {T : TypeId} {cs : Array Value} (b : Box w B T cs) (off n : Nat) (f : Nat → Int) (h : ∀ i, i < n → cs[off + i]? = some (.int .i64 (f i))) (hn : n ≤ 1000) : RdF w (some ⟨B, off, none⟩) n n f := by
 refine ⟨Nat.le_refl _, by omega, fun _ => ⟨_, _, rfl, b.lt, fun i hi => ?_⟩⟩
 rw [b.cell]
 exact h i hi
end Go.Mono
namespace Go.Proofs.YtdgodcgdlfjpaaaGreatDoor
open Go.RowKit Go.Mono
theorem scheck7_ok (s : Srf) (_ : s.ok) (p : Option Addr) (c B : Nat) (w : World) (b0 : Box w B 104 (s.cs p c)) :
  Calls Tryz.prog 218 #[.pointer (some ⟨B, 0, none⟩)] w fun e w' => e = .returned (.bool true) ∧ Below w.heap.size w w' := by
 have cb0 := b0.cell
 simp only [Srf.cs] at cb0
 go_enter Tryz.func218, Tryz.ntmps218
 go_wp2
 go_ret
 exact ⟨rfl, Below.refl _ _⟩
theorem scheck6_ok (s : Srf) (hs : s.ok) (p : Option Addr) (c B : Nat) (w : World) (b0 : Box w B 104 (s.cs p c)) :
  Calls Tryz.prog 216 #[.pointer (some ⟨B, 0, none⟩)] w fun e w' => e = .returned (.bool true) ∧ Below w.heap.size w w' := by
 have cb0 := b0.cell
 simp only [Srf.cs] at cb0
 rcases hs.glass with h | h
 ·rw [h] at cb0
  go_enter Tryz.func216, Tryz.ntmps216
  go_wp2
  go_ret
  exact ⟨rfl, Below.refl _ _⟩
 ·have hn := name_ok s.glass h.1 h.2.1 h.2.2 w
  clear h hs b0
  go_enter Tryz.func216, Tryz.ntmps216
  go_wp2_with (go_at_call 217; refine hn.mono ?_; rintro e w' ⟨rfl, rfl⟩)
  all_goals
   go_ret
   exact ⟨rfl, Below.refl _ _⟩
theorem scheck5_ok (s : Srf) (hs : s.ok) (p : Option Addr) (c B : Nat) (w : World) (b0 : Box w B 104 (s.cs p c)) :
  Calls Tryz.prog 215 #[.pointer (some ⟨B, 0, none⟩)] w fun e w' => e = .returned (.bool true) ∧ Below w.heap.size w w' := by
 have cb0 := b0.cell
 simp only [Srf.cs] at cb0
 have h := hs.ring
 by_cases h0 : s.semi = 0
 ·rw [h0] at cb0
  go_enter Tryz.func215, Tryz.ntmps215
  go_wp2
  go_ret
  exact ⟨rfl, Below.refl _ _⟩
 ·have h1 : s.hole < s.semi := by omega
  have h2 : (s.semi == 0) = false := by simpa using h0
  clear h h0
  go_enter Tryz.func215, Tryz.ntmps215
  go_wp2
  go_ret
  exact ⟨rfl, Below.refl _ _⟩
end Go.Proofs.YtdgodcgdlfjpaaaGreatDoor
namespace Go.Mono
open Go.RowKit
theorem rdF_list (w : World) (T : TypeId) (l : List Int) (hn : l.length ≤ 1000) : RdF (w.alloc (.cells (l.map (Value.int .i64)).toArray T)) (some ⟨w.heap.size, 0, none⟩) l.length l.length (fun i => l.getD i 0) := by
 refine rdF_new w T _ _ _ (fun i hi => ?_) hn
 simp [hi]
theorem getD_in {m : Int} {l : List Int} (h : ∀ x ∈ l, In m x) : ∀ i, i < l.length → -m ≤ l.getD i 0 ∧ l.getD i 0 ≤ m := by
 intro i hi
 have := h l[i] (List.getElem_mem hi)
 simpa [hi, In] using this
end Go.Mono
namespace Go.Proofs.YtdgodcgdlfjpaaaGreatDoor
open Go.RowKit Go.Mono
theorem scheck2_ok (s : Srf) (hs : s.ok) (p : Option Addr) (c B : Nat) (w : World) (b0 : Box w B 104 (s.cs p c)) :
  Calls Tryz.prog 211 #[.pointer (some ⟨B, 0, none⟩)] w fun e w' => e = .returned (.bool true) ∧ Below w.heap.size w w' := by
 have cb0 := b0.cell
 have bx := fun W (h : Below w.heap.size w W) => (b0.below h).cell
 simp only [Srf.cs] at cb0 bx
 have h5 : ∀ x ∈ [s.curv, s.curvx, s.thick, s.dx, s.dy], In 1000000000 x := by
  intro x hx
  have := hs.curv; have := hs.curvx; have := hs.thick; have := hs.dx; have := hs.dy
  simp at hx
  rcases hx with rfl | rfl | rfl | rfl | rfl <;> assumption
 have h4 : ∀ x ∈ [s.a0, s.a1, s.a2, s.a3], In 1000000000 x := by
  intro x hx
  have := hs.a0; have := hs.a1; have := hs.a2; have := hs.a3
  simp at hx
  rcases hx with rfl | rfl | rfl | rfl <;> assumption
 have h2 : ∀ x ∈ [s.p0, s.p1], In 1000000000 x := by
  intro x hx
  have := hs.p0; have := hs.p1
  simp at hx
  rcases hx with rfl | rfl <;> assumption
 go_enter Tryz.func211, Tryz.ntmps211
 go_wp2_with fail
 refine (about_ok 1000000000 5 _ 5 (fun i => [s.curv, s.curvx, s.thick, s.dx, s.dy].getD i 0) _ (rdF_list w 3 [s.curv, s.curvx, s.thick, s.dx, s.dy] (by simp)) (by omega) (by omega) (getD_in h5)).mono ?_
 rintro e W1 ⟨rfl, hb1⟩
 have hB1 := belowCall (belowAlloc (Below.refl _ _) _) hb1
 have b1 := b0.below hB1
 have cb1 := bx W1 hB1
 go_wp2_with fail
 refine (about_ok 1000000000 4 _ 4 (fun i => [s.a0, s.a1, s.a2, s.a3].getD i 0) _ (RdF.box b1 5 4 _ ?_ (by decide)) (by omega) (by omega) (getD_in h4)).mono ?_
 ·intro i hi
  rcases (by omega : i = 0 ∨ i = 1 ∨ i = 2 ∨ i = 3) with rfl | rfl | rfl | rfl <;> rfl
 rintro e W2 ⟨rfl, hb2⟩
 have hB2 := belowCall hB1 hb2
 have b2 := b0.below hB2
 have cb2 := bx W2 hB2
 go_wp2_with fail
 refine (about_ok 1000000000 2 _ 2 (fun i => [s.p0, s.p1].getD i 0) _ (RdF.box b2 9 2 _ ?_ (by decide)) (by omega) (by omega) (getD_in h2)).mono ?_
 ·intro i hi
  rcases (by omega : i = 0 ∨ i = 1) with rfl | rfl <;> rfl
 rintro e W3 ⟨rfl, hb3⟩
 go_wp2
 go_ret
 exact ⟨rfl, belowCall hB2 hb3⟩
theorem scheck3_ok (s : Srf) (hs : s.ok) (p : Option Addr) (c B : Nat) (w : World) (b0 : Box w B 104 (s.cs p c)) :
  Calls Tryz.prog 213 #[.pointer (some ⟨B, 0, none⟩)] w fun e w' => e = .returned (.bool true) ∧ Below w.heap.size w w' := by
 have cb0 := b0.cell
 have bx := fun W (h : Below w.heap.size w W) => (b0.below h).cell
 simp only [Srf.cs] at cb0 bx
 have h2 : ∀ x ∈ [s.conic, s.conicx], In 100000000 x := by
  intro x hx
  have := hs.conic; have := hs.conicx
  simp at hx
  rcases hx with rfl | rfl <;> assumption
 have h3 : ∀ x ∈ [s.ax, s.ay, s.az], In 90000000 x := by
  intro x hx
  have := hs.ax; have := hs.ay; have := hs.az
  simp at hx
  rcases hx with rfl | rfl | rfl <;> assumption
 go_enter Tryz.func213, Tryz.ntmps213
 go_wp2_with fail
 refine (about_ok 100000000 2 _ 2 (fun i => [s.conic, s.conicx].getD i 0) _ (rdF_list w 3 [s.conic, s.conicx] (by simp)) (by omega) (by omega) (getD_in h2)).mono ?_
 rintro e W1 ⟨rfl, hb1⟩
 have hB1 := belowCall (belowAlloc (Below.refl _ _) _) hb1
 have cb1 := bx W1 hB1
 go_wp2_with fail
 refine (about_ok 90000000 3 _ 3 (fun i => [s.ax, s.ay, s.az].getD i 0) _ (rdF_list W1 3 [s.ax, s.ay, s.az] (by simp)) (by omega) (by omega) (getD_in h3)).mono ?_
 rintro e W2 ⟨rfl, hb2⟩
 go_wp2
 go_ret
 exact ⟨rfl, belowCall (belowAlloc hB1 _) hb2⟩
theorem scheck4_ok (s : Srf) (hs : s.ok) (p : Option Addr) (c B : Nat) (w : World) (b0 : Box w B 104 (s.cs p c)) :
  Calls Tryz.prog 214 #[.pointer (some ⟨B, 0, none⟩)] w fun e w' => e = .returned (.bool true) ∧ Below w.heap.size w w' := by
 have cb0 := b0.cell
 have bx := fun W (h : Below w.heap.size w W) => (b0.below h).cell
 simp only [Srf.cs] at cb0 bx
 have h1 : ∀ x ∈ [s.order], In 3 x := by
  intro x hx
  have := hs.order
  simp at hx
  subst hx
  assumption
 have h2 : ∀ i, i < 2 → 0 ≤ [s.semi, s.hole].getD i 0 ∧ [s.semi, s.hole].getD i 0 ≤ 1000000000 := by
  intro i hi
  have := hs.semi0; have := hs.semi1; have := hs.hole0; have := hs.hole1
  rcases (by omega : i = 0 ∨ i = 1) with rfl | rfl <;> constructor <;> assumption
 go_enter Tryz.func214, Tryz.ntmps214
 go_wp2_with fail
 refine (about_ok 3 1 _ 1 (fun i => [s.order].getD i 0) _ (rdF_list w 3 [s.order] (by simp)) (by omega) (by omega) (getD_in h1)).mono ?_
 rintro e W1 ⟨rfl, hb1⟩
 have hB1 := belowCall (belowAlloc (Below.refl _ _) _) hb1
 have cb1 := bx W1 hB1
 go_wp2_with fail
 refine (between_ok 0 1000000000 2 _ 2 (fun i => [s.semi, s.hole].getD i 0) _ (rdF_list W1 3 [s.semi, s.hole] (by simp)) h2).mono ?_
 rintro e W2 ⟨rfl, hb2⟩
 go_wp2
 go_ret
 exact ⟨rfl, belowCall (belowAlloc hB1 _) hb2⟩
end Go.Proofs.YtdgodcgdlfjpaaaGreatDoor
