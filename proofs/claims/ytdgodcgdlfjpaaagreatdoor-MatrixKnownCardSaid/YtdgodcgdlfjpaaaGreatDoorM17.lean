/- The law MatrixKnown: the examples of the ray transfer matrices, afocal lenses, mirrors and the order of errors; its walk by a verified evaluator of the model, and its card. Part 17 of 36. No condition beside the row. -/
import Derived.Shelf.Abstract
import Derived.Test.YtdgodcgdlfjpaaaGreatDoorM09
import Derived.Test.YtdgodcgdlfjpaaaGreatDoorM12
import Derived.Test.YtdgodcgdlfjpaaaGreatDoorM14
import Derived.Test.YtdgodcgdlfjpaaaGreatDoorM16
set_option linter.unusedVariables false
set_option linter.unusedSimpArgs false
set_option maxRecDepth 100000
set_option maxHeartbeats 4000000
namespace Go.Proofs.YtdgodcgdlfjpaaaGreatDoor
open Go.RowKit Go.Mono
theorem make_ok (a b : Int) (h0 : b ≠ 0) (p q : Option Addr) (k c l d : Nat) (w wf : World) (hx : Ext wf w) (x : Sz 600 wf (.slice p k c) a.natAbs) (y : Sz 600 wf (.slice q l d) b.natAbs) :
  Calls Tryz.prog 162 #[.agg #[.bool (decide (a < 0)), .slice p k c], .agg #[.bool (decide (b < 0)), .slice q l d]] w fun e w' => ∃ r, e = .returned (.tuple #[r, .int .i64 0]) ∧ QV w' r (Rat.divInt a b) ∧ Below w.heap.size w w' := by
 replace x := x.ext hx
 replace y := y.ext hx
 clear hx
 obtain ⟨g1, g2, g3⟩ := rat_divInt a b h0
 have hi0 : ∀ w : World, (Instr.index 247 (.agg #[.bool (decide (a < 0)), .slice p k c, .bool (decide (b < 0)), .slice q l d]) (.int .i64 0)).run Tryz.prog w = .ok (.agg #[.bool (decide (a < 0)), .slice p k c]) w := fun _ => by kernel_rfl
 have hi1 : ∀ w : World, (Instr.index 247 (.agg #[.bool (decide (a < 0)), .slice p k c, .bool (decide (b < 0)), .slice q l d]) (.int .i64 1)).run Tryz.prog w = .ok (.agg #[.bool (decide (b < 0)), .slice q l d]) w := fun _ => by kernel_rfl
 have hl : ((l : Int) == 0) = false := by
  have := y.len_pos.1 (by omega)
  simp; omega
 have ha : decide (a < 0) = true → (0 : Int) < a.natAbs := by intro h; simp at h; omega
 have hb' : decide (b < 0) = true → (0 : Int) < b.natAbs := by intro h; simp at h; omega
 go_enter Tryz.func162, Tryz.ntmps162
 go_wp2_with fail
 refine boxes3 fun W hB hs b0 b1 b2 => ?_
 replace x := x.ext (.of_below hB)
 replace y := y.ext (.of_below hB)
 go_loopw [12] (fun a wr => ∃ i : Nat, i ≤ 2 ∧ a = .int .i64 (i : Int) ∧ Below W.heap.size W wr) (fun a _ => (2 - intOf a).toNat)
 case atStart => exact ⟨0, by omega, rfl, Below.refl _ _⟩
 case round =>
  obtain ⟨i, hi, rfl, hb⟩ := hrel
  rcases (by omega : i = 0 ∨ i = 1 ∨ i = 2) with rfl | rfl | rfl
  ·go_wp2_with (go_at_call 167; (with_reducible refine (lcheck_ok _ p k c _ _ W ((Ext.of_below hb).alloc _) x ha).mono ?_); rintro e W4 ⟨rfl, hb4⟩)
   go_roundw
   case rel => exact ⟨1, by omega, by simp, belowCall (belowAlloc hb _) hb4⟩
   case measure => simp [intOf]
  ·go_wp2_with (go_at_call 167; (with_reducible refine (lcheck_ok _ q l d _ _ W ((Ext.of_below hb).alloc _) y hb').mono ?_); rintro e W4 ⟨rfl, hb4⟩)
   go_roundw
   case rel => exact ⟨2, by omega, by simp, belowCall (belowAlloc hb _) hb4⟩
   case measure => simp [intOf]
  ·replace hB := belowCall hB hb
   replace x := x.ext (.of_below hb)
   replace y := y.ext (.of_below hb)
   replace b0 := b0.below hb
   try clear cb0 lb0 fb0
   have cb0 := b0.cell
   have lb0 := b0.lt
   have fb0 := b0.frozen
   replace b1 := b1.below hb
   try clear cb1 lb1 fb1
   have cb1 := b1.cell
   have lb1 := b1.lt
   have fb1 := b1.frozen
   replace b2 := b2.below hb
   try clear cb2 lb2 fb2
   have cb2 := b2.cell
   have lb2 := b2.lt
   have fb2 := b2.frozen
   clear hi0 hi1 hi ha hb'
   go_wp2_with fail
   refine (reduced_sz _ p q k c l d 600 _ _ wr wr (Ext.refl _) x y (by omega) (by omega)).mono ?_
   rintro e W1 ⟨p1, n1, c1, q1, l1, d1, rfl, z1, z2, hb1⟩
   rw [← g2] at z1
   rw [← g3] at z2
   replace hB := belowCall hB hb1
   replace b2 := b2.below hb1
   clear cb2 lb2 fb2
   have cb2 := b2.cell
   have lb2 := b2.lt
   have fb2 := b2.frozen
   go_wp2_with fail
   refine (told_ok 600 _ p1 q1 n1 c1 l1 d1 (Rat.divInt a b) _ W1 (Ext.refl _) g1 z1 z2 (by omega)).mono ?_
   rintro e W2 ⟨p7, k7, c7, q7, l7, d7, rfl, z7, y7, hb7⟩
   replace hB := belowCall hB hb7
   replace b2 := b2.below hb7
   clear cb2 lb2 fb2
   have cb2 := b2.cell
   have lb2 := b2.lt
   have fb2 := b2.frozen
   go_wp2
   have b3' := ((((b2.set 0 (.bool (decide ((Rat.divInt a b).num < 0)))).set 1 (.slice p7 k7 c7)).set 2 (.bool false)).set 3 (.slice q7 l7 d7)).cell
   have xE : Ext W2 _ := (((((Ext.refl W2).set b2 (by decide) 0 (.bool (decide ((Rat.divInt a b).num < 0)))).set (b2.set 0 (.bool (decide ((Rat.divInt a b).num < 0)))) (by decide) 1 (.slice p7 k7 c7))).set ((b2.set 0 (.bool (decide ((Rat.divInt a b).num < 0)))).set 1 (.slice p7 k7 c7)) (by decide) 2 (.bool false)).set (((b2.set 0 (.bool (decide ((Rat.divInt a b).num < 0)))).set 1 (.slice p7 k7 c7)).set 2 (.bool false)) (by decide) 3 (.slice q7 l7 d7)
   refine bodyPost_ret (v := .tuple #[.agg #[.bool (decide ((Rat.divInt a b).num < 0)), .slice p7 k7 c7, .bool false, .slice q7 l7 d7], .int .i64 0]) (by simp [results, Tryz.results162, go_sem, b3']) rfl ⟨_, rfl, ⟨_, _, _, _, _, _, rfl, z7.ext xE, y7.ext xE⟩, ?_⟩
   exact belowSet (belowSet (belowSet (belowSet hB (by omega) _ _) (by omega) _ _) (by omega) _ _) (by omega) _ _
theorem qof_ok (a b : Int) (h0 : b ≠ 0) (w : World) (a1 : -9223372036854775808 ≤ a) (a2 : a ≤ 9223372036854775807) (b1 : -9223372036854775808 ≤ b) (b2 : b ≤ 9223372036854775807) :
  Calls Tryz.prog 93 #[.int .i64 a, .int .i64 b] w fun e w' => ∃ r, e = .returned (.tuple #[r, .int .i64 0]) ∧ QV w' r (Rat.divInt a b) ∧ Below w.heap.size w w' := by
 go_enter Tryz.func93, Tryz.ntmps93
 go_wp2_with fail
 refine boxes1c fun W hB hs bb => ?_
 refine (lof_ok a W a1 a2).mono ?_
 rintro e W1 ⟨p, k, c, rfl, z1, hb1⟩
 replace hB := belowCall hB hb1
 replace bb := bb.below hb1
 have cbb := bb.cell
 have lbb := bb.lt
 have fbb := bb.frozen
 go_wp2_with fail
 refine (lof_ok b W1 b1 b2).mono ?_
 rintro e W2 ⟨q, l, d, rfl, z2, hb2⟩
 replace hB := belowCall hB hb2
 replace z1 := z1.ext (.of_below hb2)
 replace bb := bb.below hb2
 try clear cbb lbb fbb
 have cbb := bb.cell
 have lbb := bb.lt
 have fbb := bb.frozen
 go_wp2_with fail
 refine (make_ok a b h0 p q k c l d W2 W2 (Ext.refl _) z1 z2).mono ?_
 rintro e W3 ⟨r, rfl, ⟨p7, k7, c7, q7, l7, d7, rfl, z7, y7⟩, hb7⟩
 replace hB := belowCall hB hb7
 replace z1 := z1.ext (.of_below hb7)
 replace bb := bb.below hb7
 try clear cbb lbb fbb
 have cbb := bb.cell
 have lbb := bb.lt
 have fbb := bb.frozen
 go_wp2
 have b3' := ((((bb.set 0 (.bool (decide ((Rat.divInt a b).num < 0)))).set 1 (.slice p7 k7 c7)).set 2 (.bool false)).set 3 (.slice q7 l7 d7)).cell
 have xE : Ext W3 _ := (((((Ext.refl W3).set bb (by decide) 0 (.bool (decide ((Rat.divInt a b).num < 0)))).set (bb.set 0 (.bool (decide ((Rat.divInt a b).num < 0)))) (by decide) 1 (.slice p7 k7 c7))).set ((bb.set 0 (.bool (decide ((Rat.divInt a b).num < 0)))).set 1 (.slice p7 k7 c7)) (by decide) 2 (.bool false)).set (((bb.set 0 (.bool (decide ((Rat.divInt a b).num < 0)))).set 1 (.slice p7 k7 c7)).set 2 (.bool false)) (by decide) 3 (.slice q7 l7 d7)
 refine bodyPost_ret (v := .tuple #[.agg #[.bool (decide ((Rat.divInt a b).num < 0)), .slice p7 k7 c7, .bool false, .slice q7 l7 d7], .int .i64 0]) (by simp [results, Tryz.results93, go_sem, b3']) rfl ⟨_, rfl, ⟨_, _, _, _, _, _, rfl, z7.ext xE, y7.ext xE⟩, ?_⟩
 exact belowSet (belowSet (belowSet (belowSet hB (by omega) _ _) (by omega) _ _) (by omega) _ _) (by omega) _ _
end Go.Proofs.YtdgodcgdlfjpaaaGreatDoor
namespace Go.Mono
open Go.RowKit
def RdF (w : World) (p : Option Addr) (n c : Nat) (f : Nat → Int) : Prop :=
 n ≤ c ∧ n ≤ 140737488351232 ∧ (0 < n → ∃ b off, p = some ⟨b, off, none⟩ ∧ b < w.heap.size ∧ (∀ i, i < n → w.cell? ⟨b, off + i, none⟩ = some (.int .i64 (f i))))
theorem RdF.below {w w' : World} {p : Option Addr} {n c : Nat} {f : Nat → Int} (h : RdF w p n c f) (hB : Below w.heap.size w w') : RdF w' p n c f := by
 obtain ⟨h1, h2, h3⟩ := h
 refine ⟨h1, h2, fun hn => ?_⟩
 obtain ⟨b, off, hp, hb, hc⟩ := h3 hn
 exact ⟨b, off, hp, Nat.lt_of_lt_of_le hb hB.size, fun i hi => (hB.cell hb).trans (hc i hi)⟩
end Go.Mono
namespace Go.Proofs.YtdgodcgdlfjpaaaGreatDoor
open Go.RowKit Go.Mono
theorem between1_ok (z lo hi : Int) (B0 B1 : Nat) (w : World) (b0 : Box w B0 3 #[.int .i64 lo]) (b1 : Box w B1 3 #[.int .i64 hi]) (h1 : lo ≤ z) (h2 : z ≤ hi) :
  Calls Tryz.prog 250 #[.int .i64 z, .pointer (some ⟨B0, 0, none⟩), .pointer (some ⟨B1, 0, none⟩)] w fun e w' => e = .returned (.bool false) ∧ w' = w := by
 have c0 := b0.cell
 have c1 := b1.cell
 have e1 : ¬ (z < lo) := by omega
 have e2 : ¬ (hi < z) := by omega
 go_enter Tryz.func250, Tryz.ntmps250
 go_wp2
 go_ret
 exact ⟨rfl, rfl⟩
theorem index_none (n : Nat) (p : Option Addr) (c : Nat) (f : Nat → Int) (g : Nat) (eg : ∀ args w, (callFunc g args).run Tryz.prog w = .ok (.enter g args) w) (cap : Array Value) (w : World) (h : RdF w p n c f)
  (hf : ∀ i, i < n → Calls Tryz.prog g (#[.int .i64 (f i)] ++ cap) w fun e w' => e = .returned (.bool false) ∧ w' = w) :
  Calls Tryz.prog 277 #[.slice p n c, .func (.func g) #[] cap] w fun e w' => e = .returned (.int .i64 (-1)) ∧ w' = w := by
 obtain ⟨hc1, hn1, hx1⟩ := h
 go_enter Tryz.func277, Tryz.ntmps277
 go_wp2
 go_loopw [8] (fun a wr => ∃ k : Nat, k ≤ n ∧ a = .int .i64 (k : Int) ∧ wr = w) (fun a _ => (n - intOf a).toNat)
 case atStart => exact ⟨0, Nat.zero_le _, rfl, rfl⟩
 case round =>
  obtain ⟨k, hk, rfl, rfl⟩ := hrel
  by_cases h0 : k < n
  ·obtain ⟨b, off, rfl, hb, hcell⟩ := hx1 (by omega)
   have a1 := hcell k (by omega)
   have hfk := hf k h0
   clear hcell hx1 hf
   have h0' : (k : Int) < n := by omega
   go_wp2
   refine hfk.mono ?_
   rintro e w' ⟨rfl, rfl⟩
   go_wp2
   go_roundw
   case rel => refine ⟨k + 1, by omega, ?_⟩; simp
   case measure => simp [intOf]; omega
  ·obtain rfl : k = n := by omega
   go_wp2
   go_ret
   exact ⟨rfl, rfl⟩
theorem contains_none (n : Nat) (p : Option Addr) (c : Nat) (f : Nat → Int) (g : Nat) (eg : ∀ args w, (callFunc g args).run Tryz.prog w = .ok (.enter g args) w) (cap : Array Value) (w : World) (h : RdF w p n c f)
  (hf : ∀ i, i < n → Calls Tryz.prog g (#[.int .i64 (f i)] ++ cap) w fun e w' => e = .returned (.bool false) ∧ w' = w) :
  Calls Tryz.prog 249 #[.slice p n c, .func (.func g) #[] cap] w fun e w' => e = .returned (.bool false) ∧ w' = w := by
 have hi := index_none n p c f g eg cap w h hf
 clear h hf
 go_enter Tryz.func249, Tryz.ntmps249
 go_wp2_with (go_at_call 277; refine hi.mono ?_; rintro e w' ⟨rfl, rfl⟩)
 go_ret
 exact ⟨rfl, rfl⟩
theorem enters_between1 : ∀ args w, (callFunc 250 args).run Tryz.prog w = .ok (.enter 250 args) w := Go.Proofs.enters_of Tryz.func250 (by kernel_rfl) rfl
theorem between_ok (lo hi : Int) (n : Nat) (p : Option Addr) (c : Nat) (f : Nat → Int) (w : World) (h : RdF w p n c f) (h1 : ∀ i, i < n → lo ≤ f i ∧ f i ≤ hi) :
  Calls Tryz.prog 208 #[.int .i64 lo, .int .i64 hi, .slice p n c] w fun e w' => e = .returned (.bool true) ∧ Below w.heap.size w w' := by
 have hmf : ∀ (fn : Fn) (first cap : Array Value) (w : World), (Instr.makeFunc fn first cap).run Tryz.prog w = .ok (.func fn first cap) w := fun _ _ _ _ => rfl
 go_enter Tryz.func208, Tryz.ntmps208
 go_wp2_with fail
 refine boxes2c fun W hB hs b0 b1 => ?_
 replace h := h.below hB
 refine (contains_none n p c f _ enters_between1 _ W h fun i hi => ?_).mono ?_
 ·exact between1_ok _ _ _ _ _ W b0 b1 (h1 i hi).1 (h1 i hi).2
 rintro e W1 ⟨rfl, rfl⟩
 go_wp2
 go_ret
 exact ⟨rfl, hB⟩
theorem about_ok (m : Int) (n : Nat) (p : Option Addr) (c : Nat) (f : Nat → Int) (w : World) (h : RdF w p n c f) (hm0 : 0 ≤ m) (hm1 : m ≤ 1000000000) (h1 : ∀ i, i < n → -m ≤ f i ∧ f i ≤ m) :
  Calls Tryz.prog 212 #[.int .i64 m, .slice p n c] w fun e w' => e = .returned (.bool true) ∧ Below w.heap.size w w' := by
 have hb := between_ok (-m) m n p c f w h h1
 clear h h1
 go_enter Tryz.func212, Tryz.ntmps212
 go_wp2_with (go_at_call 208; refine hb.mono ?_; rintro e w' ⟨rfl, hb⟩)
 go_ret
 exact ⟨rfl, hb⟩
section
open Go.Ex
def qDen (K : Nat → Value) (hK : ∀ i, (K i).oneCell' = true) : Den where
 K := K
 kone := hK
 R := fun w q cs => QV w (.agg cs.toArray) q
 ext := fun h hx => h.ext hx
 len := fun h => by
  obtain ⟨p, k, c, p', k', c', e, _⟩ := h
  have := congrArg Value.cells e
  simp only [Value.cells] at this
  have := congrArg Array.size this
  simpa using this
 one := fun h => by
  obtain ⟨p, k, c, p', k', c', e, _⟩ := h
  have := congrArg Value.cells e
  simp only [Value.cells] at this
  have := congrArg Array.toList this
  simp only [List.toList_toArray] at this
  rw [this]
  simp [Value.oneCell']
 S := fun w n v => (∃ p k c, v = .slice p k c) ∧ Sz 600 w v (n : Int)
 sext := fun h hx => ⟨h.1, h.2.ext hx⟩
 sone := fun h => by
  obtain ⟨⟨p, k, c, rfl⟩, _⟩ := h
  simp [Value.oneCell']
 split := fun h => by
  obtain ⟨p, k, c, p', k', c', e, h2, h3⟩ := h
  have := congrArg Value.cells e
  simp only [Value.cells] at this
  have := congrArg Array.toList this
  simp only [List.toList_toArray] at this
  exact ⟨_, _, this, ⟨⟨_, _, _, rfl⟩, h2⟩, ⟨_, _, _, rfl⟩, h3⟩
variable {K : Nat → Value} {hK : ∀ i, (K i).oneCell' = true}
theorem den_quo {ρ : Nm} {w : World} {q : Rat} {v : Value} : denA (qDen K hK) ρ w (.agg [.quo q]) v ↔ QV w v q := by
 constructor
 ·rintro ⟨cs, e, c, d, e2, hc, hd⟩
  obtain rfl : d = [] := hd
  rw [List.append_nil] at e2
  subst e2
  rw [e]
  exact hc
 ·intro h
  obtain ⟨p, k, c, p', k', c', e, h2⟩ := h
  refine ⟨[.bool (decide (q.num < 0)), .slice p k c, .bool false, .slice p' k' c'], e, _, [], (List.append_nil _).symm, ?_, rfl⟩
  exact ⟨p, k, c, p', k', c', rfl, h2⟩
theorem QV.agg {w : World} {v : Value} {q : Rat} (h : QV w v q) : ∃ C : Array Value, v = .agg C := by
 obtain ⟨p, k, c, p', k', c', e, h2⟩ := h
 exact ⟨_, e⟩
def asQ (l : List U) : Option Rat :=
 match l with
 | [.quo q] => some q
 | [.val (.bool s), .dig n, .val (.bool false), .dig d] =>
   if hd : d ≠ 0 then if hg : Nat.Coprime n d then bif s && Nat.beq n 0 then none else some ⟨bif s then -(n : Int) else n, d, hd, by cases s <;> simpa using hg⟩ else none else none
 | _ => none
theorem asQ_ok {ρ : Nm} {w : World} {l : List U} {q : Rat} (h : asQ l = some q) {v : Value} (hv : denA (qDen K hK) ρ w (.agg l) v) : QV w v q := by
 unfold asQ at h
 split at h
 ·cases h
  exact den_quo.1 hv
 ·rename_i s n d
  split at h
  ·rename_i hd
   split at h
   ·rename_i hg
    cases hsn : (s && Nat.beq n 0) with
    | true => rw [hsn] at h; cases h
    | false =>
      rw [hsn] at h
      cases h
      obtain ⟨cs, rfl, c1, d1, rfl, ⟨rfl, _⟩, c2, d2, rfl, ⟨v2, ⟨⟨p, k, c, rfl⟩, hs2⟩, rfl⟩, c3, d3, rfl, ⟨rfl, _⟩, c4, d4, rfl, ⟨v4, ⟨⟨p', k', c', rfl⟩, hs4⟩, rfl⟩, hd4⟩ := hv
      obtain rfl : d4 = [] := hd4
      have hnum : decide ((bif s then -(n : Int) else (n : Int)) < 0) = s := by
       cases s with
       | false => simp
       | true =>
         have : n ≠ 0 := fun e => by subst e; simp at hsn
         simp; omega
      have habs : (bif s then -(n : Int) else (n : Int)).natAbs = n := by cases s <;> simp
      refine ⟨p, k, c, p', k', c', ?_, ?_, hs4⟩
      ·show Value.agg _ = _
       dsimp only
       rw [hnum]
       rfl
      ·dsimp only
       rw [habs]
       exact hs2
   ·cases h
  ·cases h
 ·cases h
def okV : SA := .one (.val (.int .i64 0))
def binRun (cl : Bool) (op : Rat → Rat → Rat) (side : Rat → Rat → Option (List Prop)) (args : List SA) (bk : List (Nat × Blk)) (orc : List (Option Bool)) : Option (SV × List Prop × List (Option Bool)) :=
 match args with
 | [.agg x, .agg y] => match asQ x, asQ y with
   | some a, some b => (side a b).bind fun L => bif cl then qcase (op a b) fun q => some (.tup [.agg [.quo q], okV], L, orc) else some (.tup [.agg [.quo (op a b)], okV], L, orc)
   | _, _ => none
 | _ => none
def binSpec (cl : Bool) (w0 : World) (X : Nat → Prop) (f : FuncId) (op : Rat → Rat → Rat) (side : Rat → Rat → Option (List Prop))
    (h : ∀ (a b : Rat) (u v : Value) (L : List Prop) (w : World), side a b = some L → (∀ p ∈ L, p) → QV w u a → QV w v b →
     Calls Tryz.prog f #[u, v] w fun e w' => ∃ r, e = .returned (.tuple #[r, .int .i64 0]) ∧ QV w' r (op a b) ∧ Below w.heap.size w w') : Ctr (qDen K hK) Tryz.prog w0 X := .plain f (binRun cl op side) <| by
    intro args bk orc v obl orc' hr hobl ρ w vals hfr hb hargs
    unfold binRun at hr
    split at hr
    ·rename_i x y
     split at hr
     ·rename_i a b ha hb'
      obtain ⟨L, hL, e⟩ := Option.bind_eq_some_iff.1 hr
      have e : some (SV.tup [SA.agg [U.quo (op a b)], okV], L, orc) = some (v, obl, orc') := by
       cases cl with
       | false => exact e
       | true => exact (qcase_eq (op a b) (fun q => some (SV.tup [SA.agg [U.quo q], okV], L, orc))).symm.trans e
      cases e
      obtain ⟨v1, r1, rfl, h1, v2, r2, rfl, h2, h3⟩ := hargs
      obtain rfl : r2 = [] := h3
      refine (h a b v1 v2 _ w hL hobl (asQ_ok ha h1) (asQ_ok hb' h2)).mono ?_
      rintro e w' ⟨r, rfl, hr, hbl⟩
      exact ⟨_, rfl, ⟨[r, .int .i64 0], rfl, _, _, rfl, den_quo.2 hr, _, _, rfl, ⟨rfl, rfl⟩, rfl⟩, hbl⟩
     ·cases hr
    ·cases hr
structure Side where
 cl : Bool
 fit : Rat → Option (List Prop)
 nz : Rat → Option (List Prop)
 hfit : ∀ q L, fit q = some L → (∀ p ∈ L, p) → Fits q
 hnz : ∀ q L, nz q = some L → (∀ p ∈ L, p) → q.num ≠ 0
def Side.two (S : Side) (a b : Rat) : Option (List Prop) :=
 match S.nz b, S.fit (a / b) with
 | some L, some M => some (L ++ M)
 | _, _ => none
def cAdd (S : Side) (w0 : World) (X : Nat → Prop) : Ctr (qDen K hK) Tryz.prog w0 X := binSpec S.cl w0 X 35 (fun a b => a + b) (fun a b => S.fit (a + b)) fun a b u v L w hs hL h1 h2 => add_ok a b u v w w (Ext.refl _) h1 h2 (S.hfit _ _ hs hL)
def cSub (S : Side) (w0 : World) (X : Nat → Prop) : Ctr (qDen K hK) Tryz.prog w0 X := binSpec S.cl w0 X 108 (fun a b => a - b) (fun a b => S.fit (a - b)) fun a b u v L w hs hL h1 h2 => sub_ok a b u v w w (Ext.refl _) h1 h2 (S.hfit _ _ hs hL)
def cMul (S : Side) (w0 : World) (X : Nat → Prop) : Ctr (qDen K hK) Tryz.prog w0 X := binSpec S.cl w0 X 37 (fun a b => a * b) (fun a b => S.fit (a * b)) fun a b u v L w hs hL h1 h2 => mul_ok a b u v w w (Ext.refl _) h1 h2 (S.hfit _ _ hs hL)
def cDiv (S : Side) (w0 : World) (X : Nat → Prop) : Ctr (qDen K hK) Tryz.prog w0 X := binSpec S.cl w0 X 125 (fun a b => a / b) S.two fun a b u v L w hs hL h1 h2 => by
 unfold Side.two at hs
 split at hs
 ·rename_i L1 L2 e1 e2
  cases hs
  exact div_ok a b u v w w (Ext.refl _) h1 h2 (S.hnz _ _ e1 fun p hp => hL p (List.mem_append_left _ hp)) (S.hfit _ _ e2 fun p hp => hL p (List.mem_append_right _ hp))
 ·cases hs
def ofRun (args : List SA) (bk : List (Nat × Blk)) (orc : List (Option Bool)) : Option (SV × List Prop × List (Option Bool)) :=
 match args with
 | [.one (.val (.int .i64 n)), .one (.val (.int .i64 d))] => if -9223372036854775808 ≤ n ∧ n ≤ 9223372036854775807 ∧ -9223372036854775808 ≤ d ∧ d ≤ 9223372036854775807 ∧ d ≠ 0 then qcase (Rat.divInt n d) fun q => some (.tup [.agg [.quo q], okV], [], orc) else none
 | _ => none
def cOf (w0 : World) (X : Nat → Prop) : Ctr (qDen K hK) Tryz.prog w0 X := .plain 93 ofRun <| by
    intro args bk orc v obl orc' hr hobl ρ w vals hfr hb hargs
    unfold ofRun at hr
    split at hr
    ·rename_i n d
     split at hr
     ·rename_i hc
      rw [qcase_eq] at hr
      cases hr
      obtain ⟨v1, r1, rfl, h1, v2, r2, rfl, h2, h3⟩ := hargs
      obtain rfl : r2 = [] := h3
      obtain rfl : v1 = .int .i64 n := by simpa using h1.1
      obtain rfl : v2 = .int .i64 d := by simpa using h2.1
      refine (qof_ok n d hc.2.2.2.2 w hc.1 hc.2.1 hc.2.2.1 hc.2.2.2.1).mono ?_
      rintro e w' ⟨r, rfl, hr, hbl⟩
      exact ⟨_, rfl, ⟨[r, .int .i64 0], rfl, _, _, rfl, den_quo.2 hr, _, _, rfl, ⟨rfl, rfl⟩, rfl⟩, hbl⟩
     ·cases hr
    ·cases hr
def sameRun (args : List SA) (bk : List (Nat × Blk)) (orc : List (Option Bool)) : Option (SV × List Prop × List (Option Bool)) :=
 match args with
 | [.agg x, .agg y] => match asQ x, asQ y with
   | some a, some b => some (.a (.one (.tst (decide (a = b)))), [], orc)
   | _, _ => none
 | _ => none
def cSame (w0 : World) (X : Nat → Prop) : Ctr (qDen K hK) Tryz.prog w0 X := .plain 21 sameRun <| by
    intro args bk orc v obl orc' hr hobl ρ w vals hfr hb hargs
    unfold sameRun at hr
    split at hr
    ·rename_i x y
     split at hr
     ·rename_i a b ha hb'
      cases hr
      obtain ⟨v1, r1, rfl, h1, v2, r2, rfl, h2, h3⟩ := hargs
      obtain rfl : r2 = [] := h3
      refine (qsame_ok v1 v2 a b w w (Ext.refl _) (asQ_ok ha h1) (asQ_ok hb' h2)).mono ?_
      rintro e w' ⟨rfl, hbl⟩
      exact ⟨_, rfl, rfl, hbl⟩
     ·cases hr
    ·cases hr
def isZ (l : List U) : Bool :=
 match l with
 | [.val (.bool false), .val (.slice none 0 0), .val (.bool false), .val (.slice none 0 0)] => true
 | _ => false
def checkRun (args : List SA) (bk : List (Nat × Blk)) (orc : List (Option Bool)) : Option (SV × List Prop × List (Option Bool)) :=
 match args with
 | [.agg x] => match asQ x with
   | some a => some (.a okV, [], orc)
   | none => if isZ x then some (.a (.one (.val (.int .i64 40))), [], orc) else none
 | _ => none
def cCheck (w0 : World) (X : Nat → Prop) : Ctr (qDen K hK) Tryz.prog w0 X := .plain 98 checkRun <| by
    intro args bk orc v obl orc' hr hobl ρ w vals hfr hb hargs
    unfold checkRun at hr
    split at hr
    ·rename_i x
     obtain ⟨v1, r1, rfl, h1, h3⟩ := hargs
     obtain rfl : r1 = [] := h3
     split at hr
     ·rename_i a ha
      cases hr
      refine (qcheck_ok v1 a w w (Ext.refl _) (asQ_ok ha h1)).mono ?_
      rintro e w' ⟨rfl, hbl⟩
      exact ⟨_, rfl, ⟨rfl, rfl⟩, hbl⟩
     ·split at hr
      ·rename_i hz
       cases hr
       unfold isZ at hz
       split at hz
       ·obtain ⟨cs, rfl, c1, d1, rfl, ⟨rfl, _⟩, c2, d2, rfl, ⟨rfl, _⟩, c3, d3, rfl, ⟨rfl, _⟩, c4, d4, rfl, ⟨rfl, _⟩, hd4⟩ := h1
        obtain rfl : d4 = [] := hd4
        refine (qcheck_z0 w).mono ?_
        rintro e w' ⟨rfl, hbl⟩
        exact ⟨_, rfl, ⟨rfl, rfl⟩, hbl⟩
       ·cases hz
      ·cases hr
    ·cases hr
def asR (l : List U) : Option Rat :=
 match l with
 | [.val (.bool s), .dig n, .dig d] =>
   if hd : d ≠ 0 then if hg : Nat.Coprime n d then some ⟨bif s then -(n : Int) else n, d, hd, by cases s <;> simpa using hg⟩ else none else none
 | _ => none
def toldRun (args : List SA) (bk : List (Nat × Blk)) (orc : List (Option Bool)) : Option (SV × List Prop × List (Option Bool)) :=
 match args with
 | [.agg x] => (asR x).bind fun q => qcase q fun q => some (.tup [.agg [.quo q], okV], [], orc)
 | _ => none
def cTold (w0 : World) (X : Nat → Prop) : Ctr (qDen K hK) Tryz.prog w0 X := .plain 164 toldRun <| by
    intro args bk orc v obl orc' hr hobl ρ w vals hfr hb hargs
    unfold toldRun at hr
    split at hr
    ·rename_i x
     obtain ⟨q, hq, e⟩ := Option.bind_eq_some_iff.1 hr
     rw [qcase_eq] at e
     cases e
     obtain ⟨v1, r1, rfl, h1, h3⟩ := hargs
     obtain rfl : r1 = [] := h3
     unfold asR at hq
     split at hq
     ·rename_i s n d
      split at hq
      ·rename_i hd
       split at hq
       ·rename_i hg
        cases hq
        obtain ⟨cs, rfl, c1, d1, rfl, ⟨rfl, _⟩, c2, d2, rfl, ⟨v2, ⟨⟨p, k, c, rfl⟩, hs2⟩, rfl⟩, c4, d4, rfl, ⟨v4, ⟨⟨p', k', c', rfl⟩, hs4⟩, rfl⟩, hd4⟩ := h1
        obtain rfl : d4 = [] := hd4
        have habs : (bif s then -(n : Int) else (n : Int)).natAbs = n := by cases s <;> simp
        refine (told_ok 600 s p p' k c k' c' ⟨bif s then -(n : Int) else n, d, hd, by cases s <;> simpa using hg⟩ w w (Ext.refl _) (by cases s <;> constructor <;> intro h <;> first | (cases h; done) | (show -(n : Int) ≤ 0; omega) | (show (0 : Int) ≤ n; omega)) (by dsimp only; rw [habs]; exact hs2) hs4 (by decide)).mono ?_
        rintro e w' ⟨p, n', c, q, l, d', rfl, z1, z2, hbl⟩
        exact ⟨_, rfl, ⟨[_, .int .i64 0], rfl, _, _, rfl, den_quo.2 ⟨_, _, _, _, _, _, rfl, z1, z2⟩, _, _, rfl, ⟨rfl, rfl⟩, rfl⟩, hbl⟩
       ·cases hq
      ·cases hq
     ·cases hq
    ·cases hr
def fitC (q : Rat) : Option (List Prop) := if Nat.blt q.num.natAbs (Nat.pow 10 90) && Nat.blt q.den (Nat.pow 10 90) then some [] else none
def sideC : Side where
 cl := true
 fit := fitC
 nz := fun q => match q.num with
  | .ofNat 0 => none
  | _ => some []
 hfit := fun q L h _ => by
  unfold fitC at h
  split at h
  ·rename_i hc
   rw [Bool.and_eq_true, Nat.blt_eq, Nat.blt_eq] at hc
   have : pw 10 = ((Nat.pow 10 90 : Nat) : Int) := by decide +kernel
   exact Fits.of 10 (by decide) (by rw [this]; exact Int.ofNat_lt.2 hc.1) (by rw [this]; exact Int.ofNat_lt.2 hc.2)
  ·cases h
 hnz := fun q L h _ => by
  intro hz
  rw [hz] at h
  cases h
def sideS : Side where
 cl := false
 fit := fun q => some [Fits q]
 nz := fun q => some [q.num ≠ 0]
 hfit := fun q L h hL => by cases h; exact hL _ (by simp)
 hnz := fun q L h hL => by cases h; exact hL _ (by simp)
def spS (w0 : World) (X : Nat → Prop) : List (Ctr (qDen K hK) Tryz.prog w0 X) := [cAdd sideS w0 X, cSub sideS w0 X, cMul sideS w0 X, cDiv sideS w0 X, cOf w0 X, cSame w0 X, cCheck w0 X, cTold w0 X]
def spC (w0 : World) (X : Nat → Prop) : List (Ctr (qDen K hK) Tryz.prog w0 X) := [cAdd sideC w0 X, cSub sideC w0 X, cMul sideC w0 X, cDiv sideC w0 X, cOf w0 X, cSame w0 X, cCheck w0 X, cTold w0 X]
theorem wide_ : Tryz.prog.follows .mixedOrders = true := by kernel_rfl
end
end Go.Proofs.YtdgodcgdlfjpaaaGreatDoor
namespace Go.Mono
def isLetter (z : Int) : Prop := (65 ≤ z ∧ z ≤ 90) ∨ (97 ≤ z ∧ z ≤ 122) ∨ (48 ≤ z ∧ z ≤ 57) ∨ z = 45 ∨ z = 95
end Go.Mono
namespace Go.Proofs.YtdgodcgdlfjpaaaGreatDoor
open Go.RowKit Go.Mono
theorem letter_ok (z : Int) (h : isLetter z) (w : World) :
  Calls Tryz.prog 252 #[.int .u8 z] w fun e w' => e = .returned (.bool true) ∧ w' = w := by
 rcases h with ⟨h1, h2⟩ | ⟨h1, h2⟩ | ⟨h1, h2⟩ | rfl | rfl
 ·go_enter Tryz.func252, Tryz.ntmps252
  go_wp2
  go_ret
  exact ⟨rfl, rfl⟩
 ·have h3 : 65 ≤ z := by omega
  have h4 : ¬ (z ≤ 90) := by omega
  go_enter Tryz.func252, Tryz.ntmps252
  go_wp2
  go_ret
  exact ⟨rfl, rfl⟩
 ·have h3 : ¬ (65 ≤ z) := by omega
  have h4 : ¬ (97 ≤ z) := by omega
  go_enter Tryz.func252, Tryz.ntmps252
  go_wp2
  go_ret
  exact ⟨rfl, rfl⟩
 ·go_enter Tryz.func252, Tryz.ntmps252
  go_wp2
  go_ret
  exact ⟨rfl, rfl⟩
 ·go_enter Tryz.func252, Tryz.ntmps252
  go_wp2
  go_ret
  exact ⟨rfl, rfl⟩
theorem name_ok (s : ByteArray) (h0 : 1 ≤ s.size) (h1 : s.size ≤ 16) (hl : ∀ i (hi : i < s.size), isLetter (s[i].toNat : Int)) (w : World) :
  Calls Tryz.prog 217 #[.string s] w fun e w' => e = .returned (.bool true) ∧ w' = w := by
 go_enter Tryz.func217, Tryz.ntmps217
 go_wp2
 go_loopw [6] (fun a wr => ∃ k : Nat, k ≤ s.size ∧ a = .int .i64 (k : Int) ∧ wr = w) (fun a _ => (s.size - intOf a).toNat)
 case atStart => exact ⟨0, Nat.zero_le _, rfl, rfl⟩
 case round =>
  obtain ⟨k, hk, rfl, rfl⟩ := hrel
  by_cases hks : k < s.size
  ·have hlk := letter_ok _ (hl k hks) wr
   have h0' : (k : Int) < s.size := by omega
   have hg : s.data[k]? = some s[k] := by
    rw [Array.getElem?_eq_getElem (by exact hks)]; rfl
   clear hl
   go_wp2_with (go_at_call 252; refine hlk.mono ?_; rintro e w' ⟨rfl, rfl⟩)
   go_roundw
   case rel => refine ⟨k + 1, by omega, ?_⟩; simp
   case measure => simp [intOf]; omega
  ·obtain rfl : k = s.size := by omega
   have h0' : (1 : Int) ≤ s.size := by omega
   have h1' : (s.size : Int) ≤ 16 := by omega
   go_wp2
   go_ret
   exact ⟨rfl, rfl⟩
end Go.Proofs.YtdgodcgdlfjpaaaGreatDoor
