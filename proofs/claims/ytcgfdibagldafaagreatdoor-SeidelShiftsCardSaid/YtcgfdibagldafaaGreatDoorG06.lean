/- Drafted fractions, and the opening of a law's arguments. Part 6 of 6. No condition beside the row. -/
import Derived.LaidOnce
import Derived.LaidMore
import Derived.ProofKit
import Derived.Stop.Joined
import Derived.Deep.Slices
import Derived.Deep.Strs
import Derived.OpenShut
import Derived.Carry
import Derived.SizedLaws
import Derived.Test.YtcgfdibagldafaaGreatDoorA21
import Derived.Test.YtcgfdibagldafaaGreatDoorA29
import Derived.Test.YtcgfdibagldafaaGreatDoorG02
import Derived.Test.YtcgfdibagldafaaGreatDoorG05
set_option linter.unusedVariables false
set_option linter.unusedSimpArgs false
set_option maxRecDepth 100000
set_option maxHeartbeats 4000000
namespace Go.Proofs.YtcgfdibagldafaaGreatDoor
open Go.RowKit Go.Mono
theorem r4add_ok {v1 v2 : Value} {a b : Rat} (w : World) (h1 : QtV 600 w v1 a) (h2 : QtV 600 w v2 b) (hf : Fits (a + b)) :
  Calls Tryz.prog 128 #[v1, v2] w fun e w' => ∃ C, e = .returned (.tuple #[.agg C, .int .i64 0]) ∧ QtV 600 w' (.agg C) (a + b) ∧ Below w.heap.size w w' := by
 have hr1 := fun (X : World) (hX : Ext w X) => r4right_ok X (h1.ext hX)
 have hr2 := fun (X : World) (hX : Ext w X) => r4right_ok X (h2.ext hX)
 have hc := fun (X : World) (hX : Ext w X) => r4sum_ok X (h1.ext hX) (h2.ext hX) (by decide)
 obtain ⟨s1, p1, n1, c1, t1, q1, m1, d1, rfl, x1, x2⟩ := h1
 obtain ⟨s2, p2, n2, c2, t2, q2, m2, d2, rfl, y1, y2⟩ := h2
 clear x1 x2 y1 y2
 go_enter Tryz.func128, Tryz.ntmps128
 go_wp2_with fail
 refine boxes3c fun W hB hs b0 b1 bO => ?_
 refine (hr1 W (.of_below hB)).mono ?_
 rintro e W2 ⟨rfl, hb⟩
 replace b0 := b0.below hb
 replace b1 := b1.below hb
 replace bO := bO.below hb
 replace hB := belowCall hB hb
 have cb0 := b0.cell
 have lb0 := b0.lt
 have fb0 := b0.frozen
 have cb1 := b1.cell
 have lb1 := b1.lt
 have fb1 := b1.frozen
 clear hb hr1 hs
 go_wp2_with fail
 refine (hr2 W2 (.of_below hB)).mono ?_
 rintro e W3 ⟨rfl, hb⟩
 replace b0 := b0.below hb
 replace b1 := b1.below hb
 replace bO := bO.below hb
 replace hB := belowCall hB hb
 clear cb0 lb0 fb0 cb1 lb1 fb1
 have cb0 := b0.cell
 have lb0 := b0.lt
 have fb0 := b0.frozen
 have cb1 := b1.cell
 have lb1 := b1.lt
 have fb1 := b1.frozen
 clear hb hr2
 go_wp2_with fail
 refine (hc W3 (.of_below hB)).mono ?_
 rintro e W4 ⟨V, rfl, hV, hb4⟩
 replace bO := bO.below hb4
 replace hB := belowCall hB hb4
 go_wp2_with fail
 refine (r4told_ok W4 (hV.tight hf.1 hf.2)).mono ?_
 rintro e W5 ⟨rfl, hb9⟩
 have h9 := (hV.tight hf.1 hf.2).below hb9
 obtain ⟨C, rfl, zC, oC⟩ := h9.cells
 replace bO := bO.below hb9
 replace hB := belowCall hB hb9
 go_wp2_with first | (refine wpList_store_box rfl 52 (.tmp 4) (.tmp 19) rfl (w.heap.size + 1 + 1) 0 52 _ C C rfl rfl bO (by rw [zC]; exact sizeQuot) (Nat.le_of_eq (by rw [zC]; rfl)) oC (whole_new (by rw [zC]; rfl)) ?_; intro W6 hk b2)
 refine bodyPost_ret (b2.resultsT rfl _ _ rfl Tryz.underlying52 rfl (by rw [zC]; exact sizeQuot)) rfl ?_
 exact ⟨_, rfl, h9.ext (hk.ext bO (by decide)), hk.below hB (by omega) hB.size⟩
theorem r4mul_ok {v1 v2 : Value} {a b : Rat} (w : World) (h1 : QtV 600 w v1 a) (h2 : QtV 600 w v2 b) (hf : Fits (a * b)) :
  Calls Tryz.prog 130 #[v1, v2] w fun e w' => ∃ C, e = .returned (.tuple #[.agg C, .int .i64 0]) ∧ QtV 600 w' (.agg C) (a * b) ∧ Below w.heap.size w w' := by
 have hr1 := fun (X : World) (hX : Ext w X) => r4right_ok X (h1.ext hX)
 have hr2 := fun (X : World) (hX : Ext w X) => r4right_ok X (h2.ext hX)
 have hc := fun (X : World) (hX : Ext w X) => r4prod_ok X (h1.ext hX) (h2.ext hX) (by decide)
 obtain ⟨s1, p1, n1, c1, t1, q1, m1, d1, rfl, x1, x2⟩ := h1
 obtain ⟨s2, p2, n2, c2, t2, q2, m2, d2, rfl, y1, y2⟩ := h2
 clear x1 x2 y1 y2
 go_enter Tryz.func130, Tryz.ntmps130
 go_wp2_with fail
 refine boxes3c fun W hB hs b0 b1 bO => ?_
 refine (hr1 W (.of_below hB)).mono ?_
 rintro e W2 ⟨rfl, hb⟩
 replace b0 := b0.below hb
 replace b1 := b1.below hb
 replace bO := bO.below hb
 replace hB := belowCall hB hb
 have cb0 := b0.cell
 have lb0 := b0.lt
 have fb0 := b0.frozen
 have cb1 := b1.cell
 have lb1 := b1.lt
 have fb1 := b1.frozen
 clear hb hr1 hs
 go_wp2_with fail
 refine (hr2 W2 (.of_below hB)).mono ?_
 rintro e W3 ⟨rfl, hb⟩
 replace b0 := b0.below hb
 replace b1 := b1.below hb
 replace bO := bO.below hb
 replace hB := belowCall hB hb
 clear cb0 lb0 fb0 cb1 lb1 fb1
 have cb0 := b0.cell
 have lb0 := b0.lt
 have fb0 := b0.frozen
 have cb1 := b1.cell
 have lb1 := b1.lt
 have fb1 := b1.frozen
 clear hb hr2
 go_wp2_with fail
 refine (hc W3 (.of_below hB)).mono ?_
 rintro e W4 ⟨V, rfl, hV, hb4⟩
 replace bO := bO.below hb4
 replace hB := belowCall hB hb4
 go_wp2_with fail
 refine (r4told_ok W4 (hV.tight hf.1 hf.2)).mono ?_
 rintro e W5 ⟨rfl, hb9⟩
 have h9 := (hV.tight hf.1 hf.2).below hb9
 obtain ⟨C, rfl, zC, oC⟩ := h9.cells
 replace bO := bO.below hb9
 replace hB := belowCall hB hb9
 go_wp2_with first | (refine wpList_store_box rfl 52 (.tmp 4) (.tmp 19) rfl (w.heap.size + 1 + 1) 0 52 _ C C rfl rfl bO (by rw [zC]; exact sizeQuot) (Nat.le_of_eq (by rw [zC]; rfl)) oC (whole_new (by rw [zC]; rfl)) ?_; intro W6 hk b2)
 refine bodyPost_ret (b2.resultsT rfl _ _ rfl Tryz.underlying52 rfl (by rw [zC]; exact sizeQuot)) rfl ?_
 exact ⟨_, rfl, h9.ext (hk.ext bO (by decide)), hk.below hB (by omega) hB.size⟩
end Go.Proofs.YtcgfdibagldafaaGreatDoor
namespace Go.Mono
open Go.RowKit
theorem LgV.tail {m : Nat} {w : World} {v : Value} {z : Int} (h : LgV m w v z) : ∃ p n c, v = .agg #[.bool (decide (z < 0)), .slice p n c] ∧ (z ≠ 0 ↔ 0 < n) := by
 obtain ⟨p, n, c, f, rfl, h1, h2, h3, h4⟩ := h
 refine ⟨p, n, c, rfl, ?_⟩
 have := h2.pos
 rw [h3] at this
 omega
end Go.Mono
namespace Go.Proofs.YtcgfdibagldafaaGreatDoor
open Go.RowKit Go.Mono
theorem r4make_pos {v1 v2 : Value} {n d : Int} (w : World) (h1 : LgV 3 w v1 n) (h2 : LgV 3 w v2 d) (hd : 0 < d) :
  Calls Tryz.prog 158 #[v1, v2] w fun e w' => ∃ C, e = .returned (.tuple #[.agg C, .int .i64 0]) ∧ QtV 3 w' (.agg C) (Rat.divInt n d) ∧ Below w.heap.size w w' := by
 have hr1 := fun (X : World) (hX : Ext w X) => r3right_ok X ((h1.ext hX).mono (by decide))
 have hr2 := fun (X : World) (hX : Ext w X) => r3right_ok X ((h2.ext hX).mono (by decide))
 have hc := fun (X : World) (hX : Ext w X) => r4lowest_pos X (h1.ext hX) (h2.ext hX) hd (by decide)
 obtain ⟨p1, n1, c1, rfl, _⟩ := h1.tail
 obtain ⟨p2, n2, c2, rfl, hn2⟩ := h2.tail
 have hn2' : ((n2 : Int) == 0) = false := by have := hn2.1 (by omega); simp; omega
 generalize decide (n < 0) = s1 at *
 generalize decide (d < 0) = s2 at *
 clear h1 h2 hn2
 go_enter Tryz.func158, Tryz.ntmps158
 go_wp2_with fail
 refine boxes3c fun W hB hs b0 b1 bO => ?_
 refine (hr1 W (.of_below hB)).mono ?_
 rintro e W2 ⟨rfl, hb⟩
 replace b0 := b0.below hb
 replace b1 := b1.below hb
 replace bO := bO.below hb
 replace hB := belowCall hB hb
 have cb0 := b0.cell
 have lb0 := b0.lt
 have fb0 := b0.frozen
 have cb1 := b1.cell
 have lb1 := b1.lt
 have fb1 := b1.frozen
 clear hb hr1 hs
 go_wp2_with fail
 refine (hr2 W2 (.of_below hB)).mono ?_
 rintro e W3 ⟨rfl, hb⟩
 replace b0 := b0.below hb
 replace b1 := b1.below hb
 replace bO := bO.below hb
 replace hB := belowCall hB hb
 clear cb0 lb0 fb0 cb1 lb1 fb1
 have cb0 := b0.cell
 have lb0 := b0.lt
 have fb0 := b0.frozen
 have cb1 := b1.cell
 have lb1 := b1.lt
 have fb1 := b1.frozen
 clear hb hr2
 go_wp2_with fail
 refine (hc W3 (.of_below hB)).mono ?_
 rintro e W4 ⟨V, rfl, hV, hb4⟩
 obtain ⟨C, rfl, zC, oC⟩ := hV.cells
 replace bO := bO.below hb4
 replace hB := belowCall hB hb4
 go_wp2_with first | (refine wpList_store_box rfl 52 (.tmp 4) (.tmp 22) rfl (w.heap.size + 1 + 1) 0 52 _ C C rfl rfl bO (by rw [zC]; exact sizeQuot) (Nat.le_of_eq (by rw [zC]; rfl)) oC (whole_new (by rw [zC]; rfl)) ?_; intro W6 hk b2)
 refine bodyPost_ret (b2.resultsT rfl _ _ rfl Tryz.underlying52 rfl (by rw [zC]; exact sizeQuot)) rfl ?_
 exact ⟨_, rfl, hV.ext (hk.ext bO (by decide)), hk.below hB (by omega) hB.size⟩
theorem r4of_ok (n d : Int) (w : World) (hd : 0 < d) (a1 : -9223372036854775808 ≤ n) (a2 : n ≤ 9223372036854775807) (b2 : d ≤ 9223372036854775807) :
  Calls Tryz.prog 95 #[.int .i64 n, .int .i64 d] w fun e w' => ∃ C, e = .returned (.tuple #[.agg C, .int .i64 0]) ∧ QtV 3 w' (.agg C) (Rat.divInt n d) ∧ Below w.heap.size w w' := by
 go_enter Tryz.func95, Tryz.ntmps95
 go_wp2_with fail
 refine boxes1c fun W hB hs bO => ?_
 refine (r3of_ok n W a1 a2).mono ?_
 rintro e W2 ⟨v1, rfl, h1, hb⟩
 replace bO := bO.below hb
 replace hB := belowCall hB hb
 clear hb
 go_wp2_with fail
 refine (r3of_ok d W2 (by omega) b2).mono ?_
 rintro e W3 ⟨v2, rfl, h2, hb⟩
 replace bO := bO.below hb
 replace hB := belowCall hB hb
 replace h1 := h1.below hb
 clear hb
 go_wp2_with fail
 refine (r4make_pos W3 h1 h2 hd).mono ?_
 rintro e W4 ⟨C, rfl, hV, hb⟩
 obtain ⟨_, e, zC, oC⟩ := hV.cells
 cases e
 replace bO := bO.below hb
 replace hB := belowCall hB hb
 clear hb h1 h2
 go_wp2_with first | (refine wpList_store_box rfl 52 (.tmp 4) (.tmp 11) rfl w.heap.size 0 52 _ C C rfl rfl bO (by rw [zC]; exact sizeQuot) (Nat.le_of_eq (by rw [zC]; rfl)) oC (whole_new (by rw [zC]; rfl)) ?_; intro W6 hk b2)
 refine bodyPost_ret (b2.resultsT rfl _ _ rfl Tryz.underlying52 rfl (by rw [zC]; exact sizeQuot)) rfl ?_
 exact ⟨_, rfl, hV.ext (hk.ext bO (by decide)), hk.below hB (by omega) hB.size⟩
theorem r17of_ok (n d : Int) (w : World) (hd : 0 < d) (a1 : -9223372036854775808 ≤ n) (a2 : n ≤ 9223372036854775807) (b2 : d ≤ 9223372036854775807) :
  Calls Tryz.prog 45 #[.int .i64 n, .int .i64 d] w fun e w' => ∃ C, e = .returned (.agg C) ∧ QtV 3 w' (.agg C) (Rat.divInt n d) ∧ Below w.heap.size w w' := by
 go_enter Tryz.func45, Tryz.ntmps45
 go_wp2_with fail
 refine boxes1c fun W hB hs bO => ?_
 refine (r4of_ok n d W hd a1 a2 b2).mono ?_
 rintro e W2 ⟨C, rfl, hV, hb⟩
 obtain ⟨_, e, zC, oC⟩ := hV.cells
 cases e
 replace bO := bO.below hb
 replace hB := belowCall hB hb
 clear hb
 go_wp2_with first | (refine wpList_put1 52 5 _ C _ rfl rfl rfl rfl rfl rfl alloc_quot (by as_aux_lemma => (intro _; kernel_rfl)) (by as_aux_lemma => (intro _; kernel_rfl)) (by rw [zC]; exact sizeQuot) (by rw [zC]; rfl) oC ?_; intro W3 B5 _ hB3 b5; replace bO := bO.below hB3) | (refine wpList_load_box rfl 52 (.tmp 5) rfl B5 (by as_aux_lemma => kernel_rfl) 52 C b5 _ Tryz.underlying52 rfl (by rw [zC]; exact sizeQuot) ?_) | (refine wpList_store_box rfl 52 (.tmp 4) (.tmp 13) rfl w.heap.size 0 52 _ C C rfl rfl bO (by rw [zC]; exact sizeQuot) (Nat.le_of_eq (by rw [zC]; rfl)) oC (whole_new (by rw [zC]; rfl)) ?_; intro W6 hk b2)
 refine bodyPost_ret (b2.results rfl _ _ rfl Tryz.underlying52 rfl (by rw [zC]; exact sizeQuot)) rfl ?_
 exact ⟨_, rfl, (hV.below hB3).ext (hk.ext bO (by decide)), hk.below (belowCall hB hB3) (by omega) (belowCall hB hB3).size⟩
section
open Go.Ex
variable {K : Nat → Value} {hK : ∀ i, (K i).oneCell' = true}
def cR4Add (S : Side) (w0 : World) (X : Nat → Prop) : Ctr (qDen K hK) Tryz.prog w0 X := binSpec S.cl w0 X 128 (fun a b => a + b) (fun a b => S.fit (a + b)) fun a b u v L w hs hL h1 h2 => (r4add_ok w h1.qt h2.qt (S.hfit _ _ hs hL)).mono fun e w' ⟨C, e1, hC, hb⟩ => ⟨_, e1, hC.qv, hb⟩
def cR4Mul (S : Side) (w0 : World) (X : Nat → Prop) : Ctr (qDen K hK) Tryz.prog w0 X := binSpec S.cl w0 X 130 (fun a b => a * b) (fun a b => S.fit (a * b)) fun a b u v L w hs hL h1 h2 => (r4mul_ok w h1.qt h2.qt (S.hfit _ _ hs hL)).mono fun e w' ⟨C, e1, hC, hb⟩ => ⟨_, e1, hC.qv, hb⟩
def ofR4 (args : List SA) (bk : List (Nat × Blk)) (orc : List (Option Bool)) : Option (SV × List Prop × List (Option Bool)) :=
 match args with
 | [x, y] => match intOf (some (.a x)), intOf (some (.a y)) with
   | some (.i64, n, _), some (.i64, d, _) => some (.tup [.agg [.quo (Rat.divInt n d)], okV], [inR n, inR d, 0 < d], orc)
   | _, _ => none
 | _ => none
def cR4Of (w0 : World) (X : Nat → Prop) : Ctr (qDen K hK) Tryz.prog w0 X := .plain 95 ofR4 <| by
    intro args bk orc v obl orc' hr hobl ρ w vals hfr hb hargs
    unfold ofR4 at hr
    split at hr
    ·rename_i x y
     split at hr
     ·rename_i n s d s' hx hy
      cases hr
      obtain ⟨v1, r1, rfl, h1, v2, r2, rfl, h2, h3⟩ := hargs
      obtain rfl : r2 = [] := h3
      obtain rfl := intOf_ok (D := qDen K hK) (ρ := ρ) (w := w) hx h1
      obtain rfl := intOf_ok (D := qDen K hK) (ρ := ρ) (w := w) hy h2
      obtain ⟨a1, a2⟩ := hobl (inR n) (by simp)
      obtain ⟨b1, b2⟩ := hobl (inR d) (by simp)
      refine (r4of_ok n d w (hobl (0 < d) (by simp)) a1 a2 b2).mono ?_
      rintro e w' ⟨C, rfl, hC, hbl⟩
      exact ⟨_, rfl, ⟨[_, .int .i64 0], rfl, _, _, rfl, den_quo.2 (hC.mono (by decide)).qv, _, _, rfl, ⟨rfl, rfl⟩, rfl⟩, hbl⟩
     ·cases hr
    ·cases hr
def cR4Same (w0 : World) (X : Nat → Prop) : Ctr (qDen K hK) Tryz.prog w0 X := .plain 131 sameRun <| by
    intro args bk orc v obl orc' hr hobl ρ w vals hfr hb hargs
    unfold sameRun at hr
    split at hr
    ·rename_i x y
     split at hr
     ·rename_i a b ha hb'
      cases hr
      obtain ⟨v1, r1, rfl, h1, v2, r2, rfl, h2, h3⟩ := hargs
      obtain rfl : r2 = [] := h3
      refine (r4same_ok w (asQ_ok ha h1).qt (asQ_ok hb' h2).qt).mono ?_
      rintro e w' ⟨rfl, hbl⟩
      exact ⟨_, rfl, rfl, hbl⟩
     ·cases hr
    ·cases hr
def cR4Right (w0 : World) (X : Nat → Prop) : Ctr (qDen K hK) Tryz.prog w0 X := .plain 174 (fun args _ orc => match args with
    | [.agg x] => (asQ x).map fun _ => (.a (.one (.val (.bool true))), [], orc)
    | _ => none) <| by
    intro args bk orc v obl orc' hr hobl ρ w vals hfr hb hargs
    split at hr
    ·rename_i x
     obtain ⟨a, ha, e⟩ := Option.map_eq_some_iff.1 hr
     cases e
     obtain ⟨v1, r1, rfl, h1, h3⟩ := hargs
     obtain rfl : r1 = [] := h3
     refine (r4right_ok w (asQ_ok ha h1).qt).mono ?_
     rintro e w' ⟨rfl, hbl⟩
     exact ⟨_, rfl, ⟨rfl, rfl⟩, hbl⟩
    ·cases hr
def spR (S : Side) (w0 : World) (X : Nat → Prop) : List (Ctr (qDen K hK) Tryz.prog w0 X) := [cR4Add S w0 X, cR4Mul S w0 X, cR4Of w0 X, cR4Same w0 X, cR4Right w0 X]
end
section
open Go.Ex
section
variable {K : Nat → Value} {hK : ∀ i, (K i).oneCell' = true}
inductive QB where
 | q (x : Rat)
 | bad
def QB.u : QB → U
 | .q x => .quo x
 | .bad => .bad
def QB.ok : QB → Prop
 | .q x => Hs 27 x
 | .bad => True
theorem vf_bound {f : Nat → Int} {n : Nat} (h : Digs f n) : vf f n < pw n := by
 by_cases hn : n = 0
 ·subst hn; show (0 : Int) < 1; omega
 ·exact h.lt
theorem pw3 {n : Nat} (h : n ≤ 3) : pw n ≤ 1000000000000000000000000000 := by
 rcases (by omega : n = 0 ∨ n = 1 ∨ n = 2 ∨ n = 3) with rfl | rfl | rfl | rfl <;> decide
theorem odd_qb (s : Bool) (n m : Nat) (f g : Nat → Int) (hn : n ≤ 3) (hm : m ≤ 3) :
  ∃ o : QB, o.ok ∧ ∀ (ρ : Nm) (w : World) (v1 v2 : Value), SlF w v1 n f → SlF w v2 m g → denA (qDen K hK) ρ w (.agg [o.u]) (.agg #[.bool s, v1, .bool false, v2]) := by
 by_cases hv : LongOk s n f ∧ LongOk false m g ∧ false = false ∧ 0 < m ∧ gcdZ (vf f n) (vf g m) = 1
 ·obtain ⟨h1, h2, _, h0, hg⟩ := hv
  obtain ⟨a0, a1⟩ := h1.nonneg
  have b0 : 0 < vf g m := by
   have := h2.1.ge h0
   have := pw_pos (m - 1)
   omega
  have l1 := vf_bound h1.1
  have l2 := vf_bound h2.1
  have p1 := pw3 hn
  have p2 := pw3 hm
  have hred : (lval s n f).natAbs.Coprime (vf g m).toNat := by
   have e : (lval s n f).natAbs = (vf f n).toNat := by cases s <;> simp [lval] <;> omega
   rw [e]
   unfold gcdZ at hg
   exact Int.ofNat_inj.1 hg
  refine ⟨.q ⟨lval s n f, (vf g m).toNat, by omega, hred⟩, ⟨?_, ?_⟩, fun ρ w v1 v2 s1 s2 => ?_⟩
  ·show (lval s n f).natAbs ≤ 10 ^ 27
   cases s <;> simp [lval] <;> omega
  ·show (vf g m).toNat ≤ 10 ^ 27
   omega
  ·obtain ⟨p, c, rfl, _⟩ := s1.open
   obtain ⟨q, e, rfl, _⟩ := s2.open
   refine den_quo.2 ⟨p, n, c, q, m, e, ?_, ?_, ?_⟩
   ·show Value.agg _ = Value.agg #[.bool (decide (lval s n f < 0)), _, _, _]
    have : decide (lval s n f < 0) = s := by
     cases s with
     | true => exact decide_eq_true (by have := a1 rfl; show -(vf f n) < 0; omega)
     | false => exact decide_eq_false (by show ¬ vf f n < 0; omega)
    rw [this]
   ·have e : ((lval s n f).natAbs : Int) = vf f n := by
     cases s with
     | true =>
       show ((-(vf f n)).natAbs : Int) = vf f n
       rw [Int.natAbs_neg]
       exact Int.natAbs_of_nonneg a0
     | false => exact Int.natAbs_of_nonneg a0
    rw [e]
    exact (h1.sz s1 (by omega)).1
   ·show Sz 600 w _ ((vf g m).toNat : Int)
    rw [Int.toNat_of_nonneg (by omega)]
    exact (h2.sz s2 (by omega)).1
 ·refine ⟨.bad, trivial, fun ρ w v1 v2 s1 s2 => ?_⟩
  obtain ⟨p, c, rfl, _⟩ := s1.open
  obtain ⟨q, e, rfl, _⟩ := s2.open
  exact ⟨_, rfl, _, [], rfl, ⟨s, false, p, q, n, m, c, e, f, g, rfl, s1, s2, by omega, by omega, hv⟩, rfl⟩
def cOdd (w0 : World) (X : Nat → Prop) (x y z : Value) (o : QB) (h : ∀ ρ w, Frm w0 X w → Calls Tryz.prog 24 #[.agg #[x, y, z]] w fun e w' => ∃ v, e = .returned v ∧ denA (qDen K hK) ρ w' (.agg [o.u]) v ∧ Below w.heap.size w w') : Ctr (qDen K hK) Tryz.prog w0 X := .plain 24 (fun args _ orc => match args with
    | [.agg [.raw 1 [a], .raw 1 [b], .raw 1 [c]]] => some (.a (.agg [o.u]), [a = x, b = y, c = z], orc)
    | _ => none) <| by
 intro args bk orc v obl orc' hr hobl ρ w vals hfr hb hargs
 split at hr
 ·rename_i a b c
  cases hr
  obtain rfl := hobl (a = x) (by simp)
  obtain rfl := hobl (b = y) (by simp)
  obtain rfl := hobl (c = z) (by simp)
  obtain ⟨v1, r1, rfl, ⟨cs, rfl, c1, d1, rfl, ⟨rfl, _⟩, c2, d2, rfl, ⟨rfl, _⟩, c3, d3, rfl, ⟨rfl, _⟩, hd⟩, h3⟩ := hargs
  obtain rfl : r1 = [] := h3
  obtain rfl : d3 = [] := hd
  exact h ρ w hfr
 ·cases hr
end
end
section
open Go.Ex
section
variable {K : Nat → Value} {hK : ∀ i, (K i).oneCell' = true}
def nq (n d : Int) : Rat := Rat.divInt n (1 + d)
theorem nq_hs {n d : Int} (h1 : -32768 ≤ n) (h2 : n ≤ 32767) (h3 : 0 ≤ d) (h4 : d ≤ 255) : Hs 27 (nq n d) := Hs.divInt _ _ (by omega) (by omega) (by omega)
def numL (n d : Int) : List Prop := [inR n, inR d, inR (1 + d), inR n, inR (1 + d), 0 < 1 + d]
theorem numL_ok {n d : Int} (h1 : -32768 ≤ n ∧ n ≤ 32767) (h2 : 0 ≤ d ∧ d ≤ 255) : AllP (numL n d) := by
 unfold numL
 refine ⟨?_, ?_, ?_, ?_, ?_, ?_, trivial⟩ <;> first | (unfold inR; omega) | omega
theorem allP_app : ∀ {l m : List Prop}, AllP l → AllP m → AllP (l ++ m)
 | [], _, _, h => h
 | _ :: _, _, ⟨h1, h2⟩, h => ⟨h1, allP_app h2 h⟩
theorem QB.den_us {ρ ρ' : Nm} {w : World} : ∀ {l : List QB} {cs : List Value}, denL (qDen K hK) ρ w (l.map QB.u) cs → denL (qDen K hK) ρ' w (l.map QB.u) cs
 | [], _, h => h
 | o :: l, _, ⟨c, d, e, hc, hd⟩ => ⟨c, d, e, by cases o <;> exact hc, QB.den_us hd⟩
end
end
section
open Go Go.ChangeShapes Go.WideShapes Go.ChangeAt
theorem laidOut18 : laidOutB Tryz.prog = true := by kernel_rfl
theorem trodAll_below18 {P : Program} (hl : laidOutB P = true) {H : Type} {enc : TypeId × Value → H} {W W' : World} (hb : Below W.heap.size W W') : ∀ (ts : List TypeId) (vs : List Value) (ds : List (DataW H)) (ps : List MemPlace),
  (ts.all fun t => P.readableRec t && decide (t < P.types.size)) = true → DataW.TrodAll enc P W 0 (fun _ => true) true ts vs ds ps → (∀ x ∈ ps, x.block < W.heap.size) → DataW.TrodAll enc P W' 0 (fun b => decide (b < W.heap.size)) true ts vs ds ps := by
 intro ts
 induction ts with
 | nil =>
   intro vs ds ps _ h _
   obtain ⟨rfl, rfl, rfl⟩ := trodAll_nil h
   exact rfl
 | cons t ts ih =>
   intro vs ds ps hr h hlt
   obtain ⟨v, vs1, d, ds1, a, b, rfl, rfl, rfl, h1, h2⟩ := trodAll_cons h
   rw [List.all_cons, Bool.and_eq_true, Bool.and_eq_true, decide_eq_true_eq] at hr
   exact ⟨a, b, Below.trod hl hr.1.1 hr.1.2 h1 hb (fun x hx => hlt x (List.mem_append_left _ hx)), ih _ _ _ hr.2 h2 (fun x hx => hlt x (List.mem_append_right _ hx)), rfl⟩
theorem cell_lt18 {w : World} {a : Addr} {u : Value} (h : w.cell? a = some u) : a.block < w.heap.size := by
 by_cases hb : a.block < w.heap.size
 ·exact hb
 ·rw [World.cell?, Array.getElem?_eq_none (by omega)] at h
  cases h
section
variable {H : Type} {enc : TypeId × Value → H} {W : World} {base : Nat} {r : Reach} {v : Value} {d : DataW H} {p : List MemPlace} {fuel : Nat} {cs : List Value} {x : DataW H × List MemPlace}
theorem num_cells (h : DataW.trod enc Tryz.prog W 0 (fun _ => true) true fuel 32 cs = some x) : ∃ n d : Int, (-32768 ≤ n ∧ n ≤ 32767) ∧ (0 ≤ d ∧ d ≤ 255) ∧ cs = [.int .i16 n, .int .u8 d] := by
 have hc : Tryz.prog.cellsOf 32 = 2 := by kernel_rfl
 have h1 : Tryz.prog.cellsOf 25 = 1 := by kernel_rfl
 have h2 : Tryz.prog.cellsOf 5 = 1 := by kernel_rfl
 obtain ⟨xs, m, rfl, _, hl, hx, hel⟩ := DataW.trod_struct Tryz.underlying32 h
 rw [hc] at hl
 match cs, hl, xs, hx with
 | [c0, c1], _, [x0, x1], _ =>
   have e0 := hel 0 _ rfl
   have e1 := hel 1 _ rfl
   simp [h1, h2] at e0 e1
   obtain ⟨s0, k0, _, w0⟩ := DataW.trod_int Tryz.underlying25 e0
   obtain ⟨s1, k1, _, w1⟩ := DataW.trod_int Tryz.underlying5 e1
   cases k0; cases k1
   exact ⟨s0, s1, bounds_i16 w0, bounds_u8 w1, rfl⟩
theorem ints_cells (h : DataW.trod enc Tryz.prog W 0 (fun _ => true) true fuel 48 cs = some x) (hsz : ∀ n ∈ x.1.weights Tryz.prog 48, n ≤ reachBytes) : ∃ (p : Option Addr) (n c : Nat) (f : Nat → Int), cs = [.slice p n c] ∧ OddL W p n c f := by
 have hc : Tryz.prog.cellsOf 3 = 1 := by kernel_rfl
 have hby : Tryz.prog.bytesOf 3 = 8 := by kernel_rfl
 rcases Go.Deep.open_slice Tryz.underlying48 h with ⟨hcs, hx⟩ | ⟨a, len, cap, m, n, D, Pl, hcs, _, hl, hmx, hm, hx, hel⟩
 ·exact ⟨none, 0, 0, fun _ => 0, hcs, ⟨Nat.le_refl _, by omega, fun h => absurd h (Nat.not_lt_zero _)⟩, fun _ => rfl⟩
 ·simp only [if_true] at hm
  subst hx
  have hw := hsz _ (by rw [DataW.weights, Tryz.underlying48]; exact List.mem_cons_self ..)
  rw [List.length_map, List.length_map, List.length_range, List.length_range, hby] at hw
  have hr : reachBytes = 140737488351232 := rfl
  have hel' : ∀ i, i < len → ∃ o : Int, W.cell? (a.add i) = some (.int .i64 o) := fun i hi => by
   obtain ⟨cs', h1, h2⟩ := hel i (by omega)
   obtain ⟨o, rfl, _, wo⟩ := DataW.trod_int Tryz.underlying3 h2
   rw [hc, Nat.mul_one] at h1
   exact ⟨o, cell_of_cells?_one h1⟩
  obtain ⟨O, hO⟩ := Go.Deep.choose_lt hel'
  refine ⟨some a, len, cap, O, hcs, ⟨hl, by omega, fun h0 => ?_⟩, fun h => by cases h⟩
  obtain ⟨b, off, spot⟩ := a
  have hspot : spot = none := by simpa [Addr.add] using World.cell?_spot (hO 0 h0)
  subst hspot
  refine ⟨b, off, rfl, cell_lt18 (hO 0 h0), fun i hi => ?_⟩
  rw [← hO i hi, Addr.add_lit]
theorem odd_cells (h : DataW.trod enc Tryz.prog W 0 (fun _ => true) true fuel 74 cs = some x) (hsz : ∀ n ∈ x.1.weights Tryz.prog 74, n ≤ reachBytes) : ∃ (p q : Option Addr) (n m c e : Nat) (f g : Nat → Int) (s : Bool), OddL W p n c f ∧ OddL W q m e g ∧ cs = [.slice p n c, .slice q m e, .bool s] := by
 have hc : Tryz.prog.cellsOf 74 = 3 := by kernel_rfl
 have h1 : Tryz.prog.cellsOf 48 = 1 := by kernel_rfl
 have h2 : Tryz.prog.cellsOf 4 = 1 := by kernel_rfl
 obtain ⟨xs, m, rfl, hx0, hl, hx, hel⟩ := DataW.trod_struct Tryz.underlying74 h
 subst hx0
 rw [hc] at hl
 match cs, hl, xs, hx with
 | [c0, c1, c2], _, [x0, x1, x2], _ =>
   have e0 := hel 0 _ rfl
   have e1 := hel 1 _ rfl
   have e2 := hel 2 _ rfl
   simp [h1, h2] at e0 e1 e2
   obtain ⟨p, n, c, f, k0, hN⟩ := ints_cells e0 fun n hn => hsz n (by rw [DataW.weights, Tryz.underlying74]; exact DataW.weights_mem_each (j := 0) (t := 48) rfl rfl n hn)
   obtain ⟨q, m', e, g, k1, hD⟩ := ints_cells e1 fun n hn => hsz n (by rw [DataW.weights, Tryz.underlying74]; exact DataW.weights_mem_each (j := 1) (t := 48) rfl rfl n hn)
   obtain ⟨s, k2, _⟩ := DataW.trod_bool Tryz.underlying4 e2
   cases k0; cases k1; cases k2
   exact ⟨p, q, n, m', c, e, f, g, s, hN, hD, rfl⟩
end
end
end Go.Proofs.YtcgfdibagldafaaGreatDoor
