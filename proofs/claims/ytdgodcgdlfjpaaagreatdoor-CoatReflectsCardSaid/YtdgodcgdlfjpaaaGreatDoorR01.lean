/- The law CoatReflects: Reflect equals the reference, its walk by a verified evaluator, and its card. Part 1 of 4. No condition beside the row. -/
import Derived.LaidOnce
import Derived.LaidMore
import Derived.ProofKit
import Derived.Stop.Joined
import Derived.Test.YtdgodcgdlfjpaaaGreatDoorRows
import Derived.Test.YtdgodcgdlfjpaaaGreatDoorTie
import Derived.Test.YtdgodcgdlfjpaaaGreatDoorCards
import Derived.SevenTiedAt
import Derived.Deep.Onto
import Derived.Test.YtdgodcgdlfjpaaaGreatDoorA25
import Derived.Test.YtdgodcgdlfjpaaaGreatDoorA37
import Derived.Test.YtdgodcgdlfjpaaaGreatDoorE08
set_option linter.unusedVariables false
set_option linter.unusedSimpArgs false
set_option maxRecDepth 100000
set_option maxHeartbeats 4000000
namespace Go.Proofs.YtdgodcgdlfjpaaaGreatDoor
open Go.RowKit Go.Mono
theorem creflect_arg (na nb : Int) (hbad : ¬ ((10000000 ≤ na ∧ na ≤ 40000000) ∧ (10000000 ≤ nb ∧ nb ≤ 40000000))) (p : Option Addr) (n c : Nat) (w : World) :
  Calls Tryz.prog 60 #[.int .i64 na, .int .i64 nb, .slice p n c] w fun e w' => e = .panicked [{ v := .iface 194 (.agg #[.int .i64 2]), recovered := false }] ∧ Below w.heap.size w w' := by
 have hi1 := fun W => cindex_ok na W
 have hi2 := fun W => cindex_ok nb W
 by_cases h1 : 10000000 ≤ na ∧ na ≤ 40000000
 ·have h2 : ¬ (10000000 ≤ nb ∧ nb ≤ 40000000) := fun h => hbad ⟨h1, h⟩
  rw [decide_eq_true h1] at hi1
  rw [decide_eq_false h2] at hi2
  clear h1 h2 hbad
  go_enter Tryz.func60, Tryz.ntmps60
  go_wp2_with first | (refine wpList_new rfl 124 rfl _ alloc_light ?_; intro W0 BO hleO hB0 bO) | (go_at_call 71; refine (hi1 _).mono ?_; rintro e w5 ⟨rfl, h5⟩; rw [h5]; clear h5 w5) | (go_at_call 71; refine (hi2 _).mono ?_; rintro e w5 ⟨rfl, h5⟩; rw [h5]; clear h5 w5) | (go_at_call 70; refine (crefuse_yes _ _).mono ?_; rintro e w5 ⟨rfl, h5⟩)
  first
   | exact ⟨rfl, rfl, belowCall hB0 h5⟩
   | exact ⟨rfl, belowCall hB0 h5⟩
 ·rw [decide_eq_false h1] at hi1
  clear h1 hbad
  go_enter Tryz.func60, Tryz.ntmps60
  go_wp2_with first | (refine wpList_new rfl 124 rfl _ alloc_light ?_; intro W0 BO hleO hB0 bO) | (go_at_call 71; refine (hi1 _).mono ?_; rintro e w5 ⟨rfl, h5⟩; rw [h5]; clear h5 w5) | (go_at_call 70; refine (crefuse_yes _ _).mono ?_; rintro e w5 ⟨rfl, h5⟩)
  first
   | exact ⟨rfl, rfl, belowCall hB0 h5⟩
   | exact ⟨rfl, belowCall hB0 h5⟩
theorem creflect_stack (na nb : Int) (a1 : 10000000 ≤ na ∧ na ≤ 40000000) (b1 : 10000000 ≤ nb ∧ nb ≤ 40000000) (p : Option Addr) (n c : Nat) (z : Int) (w : World) (hst : ∀ W, Below w.heap.size w W → Calls Tryz.prog 89 #[.slice p n c] W fun e w' => e = .panicked [{ v := .iface 194 (.agg #[.int .i64 z]), recovered := false }] ∧ Below W.heap.size W w') :
  Calls Tryz.prog 60 #[.int .i64 na, .int .i64 nb, .slice p n c] w fun e w' => e = .panicked [{ v := .iface 194 (.agg #[.int .i64 z]), recovered := false }] ∧ Below w.heap.size w w' := by
 have hi1 := fun W => cindex_ok na W
 have hi2 := fun W => cindex_ok nb W
 rw [decide_eq_true a1] at hi1
 rw [decide_eq_true b1] at hi2
 clear a1 b1
 go_enter Tryz.func60, Tryz.ntmps60
 go_wp2_with first | (refine wpList_new rfl 124 rfl _ alloc_light ?_; intro W0 BO hleO hB0 bO) | (go_at_call 71; refine (hi1 _).mono ?_; rintro e w5 ⟨rfl, h5⟩; rw [h5]; clear h5 w5) | (go_at_call 71; refine (hi2 _).mono ?_; rintro e w5 ⟨rfl, h5⟩; rw [h5]; clear h5 w5) | (go_at_call 70; refine (crefuse_no _ _).mono ?_; rintro e w5 ⟨rfl, h5⟩; rw [h5]; clear h5 w5)
 refine (hst W0 hB0).mono ?_
 rintro e W1 ⟨rfl, hb⟩
 first
  | exact ⟨rfl, rfl, belowCall hB0 hb⟩
  | exact ⟨rfl, belowCall hB0 hb⟩
theorem reflX_panic (na nb : Int) (p : Option Addr) (n c : Nat) (z : Int) (w : World) (hg : ∀ W, Below w.heap.size w W → Calls Tryz.prog 60 #[.int .i64 na, .int .i64 nb, .slice p n c] W fun e w' => e = .panicked [{ v := .iface 194 (.agg #[.int .i64 z]), recovered := false }] ∧ Below W.heap.size W w') :
  Calls Tryz.prog 15 #[.int .i64 na, .int .i64 nb, .slice p n c] w fun e w' => e = .returned (.tuple #[.agg quot0, .agg quot0, .int .i64 z]) ∧ Below w.heap.size w w' := by
 have hmf : ∀ (fn : Fn) (first cap : Array Value) (w : World), (Instr.makeFunc fn first cap).run Tryz.prog w = .ok (.func fn first cap) w := fun _ _ _ _ => rfl
 go_enter Tryz.func15, Tryz.ntmps15
 go_wp2_with fail
 refine boxes5k fun W hB hs b0 b1 b2 bR bT => ?_
 refine (caughtLi_panic 59 _ enters_reflX1 z W ?_).mono ?_
 ·intro W2 hW2 hs2
  exact reflX1_panic na nb p n c z W2 (fun V hV => hg V (belowCall hB (belowCall hW2 hV))) _ _ _ (b0.below hW2) (b1.below hW2) (b2.below hW2)
 rintro e W3 ⟨rfl, hb3⟩
 replace hB := belowCall hB hb3
 replace bR := bR.below hb3
 replace bT := bT.below hb3
 have ho : qq0.all (·.oneCell') = true := by simp [qq0, Value.oneCell']
 go_wp2_with first | (refine wpList_new rfl 124 rfl _ alloc_light ?_; intro W4 BL hleL hb4 bL) | (refine wpList_store_box rfl 124 _ _ rfl BL 0 124 _ qq0 qq0 rfl rfl bL sizeLight (Nat.le_of_eq rfl) ho (whole_new rfl) ?_; intro W5 hk5 bL5)
 have hb35 := hk5.below hb4 hleL hb4.size
 replace hB := belowCall hB hb35
 replace bR := bR.below hb35
 replace bT := bT.below hb35
 have hne : w.heap.size + 1 + 1 + 1 ≠ BL := by have := hb3.size; omega
 have hne2 : w.heap.size + 1 + 1 + 1 + 1 ≠ BL := by have := hb3.size; omega
 have hq0 : quot0.all (·.oneCell') = true := by simp [quot0, Value.oneCell']
 clear hb35 hk5 hb4 bL ho
 refine wp_region_held_drew (S := fun w' => Box w' BL 124 qq0 ∧ Below w.heap.size w w') (by as_aux_lemma => kernel_rfl) ⟨bL5.drew, hB.drew⟩ (fun hHeld => ?_)
 refine tk 0 (some 15) ?_
 refine tl 1 (some 16) rfl (.agg quot0) (exec_load 37 _ rfl BL 0 rfl quot0 (fun w h => h.1.part 0 quot0 rfl) _ Tryz.underlying37 rfl sizeQuot) ?_
 refine tk 2 (some 17) ?_
 refine tl 3 (some 18) rfl (.agg quot0) (exec_load 37 _ rfl BL 4 rfl quot0 (fun w h => h.1.part 4 quot0 rfl) _ Tryz.underlying37 rfl sizeQuot) ?_
 refine tk 4 (some 19) ?_
 refine wpAnyH_storeB (w.heap.size + 1 + 1 + 1) 37 5 rfl rfl rfl rfl 0 quot0 _ quot0 (by as_aux_lemma => kernel_rfl) (fun w' i u hS => ⟨hS.1.other _ _ (Ne.symm hne), hS.2.setCell (p := ⟨w.heap.size + 1 + 1 + 1, i, none⟩) (by simp; omega) u⟩) rfl rfl bR.drew hHeld sizeQuot (Nat.le_of_eq rfl) hq0 (whole_new rfl) (fun Ws hk0 bs hHeld => ?_)
 have bT1 := hk0.box bT.drew bT.drew.lt (by omega)
 refine wpAnyH_storeB (w.heap.size + 1 + 1 + 1 + 1) 37 6 rfl rfl rfl rfl 0 quot0 _ quot0 (by as_aux_lemma => kernel_rfl) (fun w' i u hS => ⟨hS.1.other _ _ (Ne.symm hne2), hS.2.setCell (p := ⟨w.heap.size + 1 + 1 + 1 + 1, i, none⟩) (by simp; omega) u⟩) rfl rfl bT1 hHeld sizeQuot (Nat.le_of_eq rfl) hq0 (whole_new rfl) (fun Wt hk1 bt hHeld => ?_)
 have bs1 := hk1.box bs bs.lt (by omega)
 refine tk 7 (some 8) ?_
 refine wpAnyH_done (by as_aux_lemma => kernel_rfl) ?_ _
 go_wp2
 refine bodyPost_ret (bs1.results3c bt rfl _ _ rfl rfl Tryz.underlying37 rfl sizeQuot sizeQuot) rfl ?_
 exact ⟨rfl, hHeld.2⟩
section
open Go Go.ChangeShapes Go.WideShapes Go.ChangeAt
theorem own40 : ownKnob Tryz.prog.godebug = none := by kernel_rfl
theorem keptBut40 {w w' : World} (h : Below w.heap.size w w') (may : MemPlace → Prop) : w.keptBut w' may :=
 (World.keptBut_refl w may).congr h.os h.output (fun i hi => h.block i hi)
end
section
open Go.Ev
def inIx (n : Int) : Prop := 10000000 ≤ n ∧ n ≤ 40000000
instance (n : Int) : Decidable (inIx n) := by unfold inIx; infer_instance
theorem runIx (n : Int) (w : World) (orc : List (Option Bool)) (b : Bool) (L : List Prop)
  (h : (evF Tryz.prog ([] : List (Ctr qDen Tryz.prog w fun _ => False)) 1 61 [.one (.sym n)] [] 0 orc).map (fun r => (r.v, r.obl)) = some (.a (.one (.val (.bool b))), L)) (hL : AllP L) :
  Calls Tryz.prog 61 #[.int .i64 n] w fun e w' => e = .returned (.bool b) ∧ Below w.heap.size w w' := by
 refine (evRun0 wide_ _ _ L h hL (vals := [.int .i64 n]) ⟨_, _, rfl, rfl, rfl⟩).mono ?_
 rintro e w' ⟨v, ρ', rfl, hv, hb⟩
 exact ⟨by rw [show v = .bool b by simpa using hv.1], hb⟩
theorem r40index_ok (n : Int) (w : World) : Calls Tryz.prog 61 #[.int .i64 n] w fun e w' => e = .returned (.bool (decide (inIx n))) ∧ Below w.heap.size w w' := by
 by_cases h1 : n ≥ 10000000
 ·by_cases h2 : n ≤ 40000000
  ·rw [decide_eq_true (show inIx n from ⟨h1, h2⟩)]
   exact runIx n w [some true, some true] true [decide (n ≥ 10000000) = true, decide (n ≤ 40000000) = true] (by kernel_rfl) ⟨decide_eq_true h1, decide_eq_true h2, trivial⟩
  ·rw [decide_eq_false (fun h : inIx n => h2 h.2)]
   exact runIx n w [some true, some false] false [decide (n ≥ 10000000) = true, decide (n ≤ 40000000) = false] (by kernel_rfl) ⟨decide_eq_true h1, decide_eq_false h2, trivial⟩
 ·rw [decide_eq_false (fun h : inIx n => h1 h.1)]
  exact runIx n w [some false] false [decide (n ≥ 10000000) = false] (by kernel_rfl) ⟨decide_eq_false h1, trivial⟩
def specIndex (w0 : World) (X : Nat → Prop) : Ctr qDen Tryz.prog w0 X := .plain 61 (fun args _ orc => match args with
 | [x] => match intOf (some (.a x)) with
   | some (n, _) => some (.a (.one (.tst (decide (inIx n)))), [], orc)
   | none => none
 | _ => none) <| by
 intro args bk orc v obl orc' hr hobl ρ w vals hfr hb hargs
 split at hr
 ·rename_i x
  split at hr
  ·rename_i n s hx
   cases hr
   obtain ⟨v1, r1, rfl, h1, h2⟩ := hargs
   obtain rfl : r1 = [] := h2
   obtain rfl := intOf_ok (D := qDen) (ρ := ρ) (w := w) hx h1
   refine (r40index_ok n w).mono ?_
   rintro e w' ⟨rfl, hbl⟩
   exact ⟨_, rfl, rfl, hbl⟩
  ·cases hr
 ·cases hr
def reflSp (w0 : World) (X : Nat → Prop) : List (Ctr qDen Tryz.prog w0 X) := [specIndex w0 X, stackSpec w0 X 28 r40stack_ok (fun F n m hn hm hF hb => r40stack_bad F n m hn hm hF hb) (fun n hn => r40stack_long (fun _ => zF) n hn), specAdd w0 X, specSub w0 X, specMul w0 X, specDiv w0 X, specOf17 w0 X]
def listA (n : Nat) : SA := if n = 0 then .one .emp else .one (.sli 0 0 n)
def lightSV (r t : Rat) : SV := .tup [.agg [.quo r], .agg [.quo t], .one (.val (.int .i64 0))]
def darkSV (z : Int) : SV := .tup [.agg (quot0.toList.map .val), .agg (quot0.toList.map .val), .one (.val (.int .i64 z))]
theorem den_tup3 {ρ : Nm} {w : World} {a b c : SA} {u v x : Value} (h1 : denA qDen ρ w a u) (h2 : denA qDen ρ w b v) (h3 : denA qDen ρ w c x) : denV qDen ρ w (.tup [a, b, c]) (.tuple #[u, v, x]) := ⟨[u, v, x], rfl, u, [v, x], rfl, h1, v, [x], rfl, h2, x, [], rfl, h3, rfl⟩
theorem dark_den {ρ : Nm} {w : World} {z : Int} : denV qDen ρ w (darkSV z) (.tuple #[.agg quot0, .agg quot0, .int .i64 z]) := by
 have h : denA qDen ρ w (.agg (quot0.toList.map .val)) (.agg quot0) := ⟨quot0.toList, by simp, denL_vals _ (by unfold quot0; simp [Value.oneCell'])⟩
 exact den_tup3 h h ⟨rfl, rfl⟩
theorem dark_eq {ρ : Nm} {w : World} {z : Int} {v : Value} (h : denV qDen ρ w (darkSV z) v) : v = .tuple #[.agg quot0, .agg quot0, .int .i64 z] := realV_den (x := darkSV z) rfl h
theorem light_den {ρ : Nm} {w : World} {r t : Rat} {C D : Array Value} (h1 : QV w (.agg C) r) (h2 : QV w (.agg D) t) : denV qDen ρ w (lightSV r t) (.tuple #[.agg C, .agg D, .int .i64 0]) := den_tup3 (den_quo.2 h1) (den_quo.2 h2) ⟨rfl, rfl⟩
def reflL (na nb : Int) (F : Nat → Flm) (n : Nat) : List Prop :=
 let M := stackM (filmsN F n)
 let a := idx na
 let b := idx nb
 [decide (inIx na) = true, decide (inIx nb) = true, okAll (filmsN F n), inR na, (0 : Int) < 10000000 ∧ (10000000 : Int) ≤ 9223372036854775807, inR nb, (0 : Int) < 10000000 ∧ (10000000 : Int) ≤ 9223372036854775807,
  Fits (a * b), Fits (a * M.a), Fits (b * M.d), Fits (a * b * M.b), Fits (a * M.a - b * M.d), Fits (a * M.a + b * M.d), Fits (a * b * M.b - M.c), Fits (a * b * M.b + M.c),
  Fits ((a * M.a + b * M.d) * (a * M.a + b * M.d)), Fits ((a * b * M.b + M.c) * (a * b * M.b + M.c)), Fits (big a b M),
  Fits ((a * M.a - b * M.d) * (a * M.a - b * M.d)), Fits ((a * b * M.b - M.c) * (a * b * M.b - M.c)), Fits (low a b M), 0 < big a b M, Fits (back a b M),
  inR 4, (0 : Int) < 1 ∧ (1 : Int) ≤ 9223372036854775807, Fits (4 * (a * b)), 0 < big a b M, Fits (through a b M)]
theorem refl_run (w : World) (na nb : Int) (F : Nat → Flm) (n : Nat) (h0 : 0 < n) (hn : n ≤ 8) : (evF Tryz.prog (reflSp w (fun _ => False)) 3 16 [.one (.sym na), .one (.sym nb), listA n] (filmBk F n) 1 (yes 3)).map (fun r => (r.v, r.obl, fin (filmBk F n) r.wr)) =
  some (lightSV (back (idx na) (idx nb) (stackM (filmsN F n))) (through (idx na) (idx nb) (stackM (filmsN F n))), reflL na nb F n, ini (filmBk F n)) := by
 rcases (show n = 1 ∨ n = 2 ∨ n = 3 ∨ n = 4 ∨ n = 5 ∨ n = 6 ∨ n = 7 ∨ n = 8 by omega) with rfl | rfl | rfl | rfl | rfl | rfl | rfl | rfl <;> kernel_rfl
theorem reflL_ok {na nb : Int} (ha : inIx na) (hb : inIx nb) {F : Nat → Flm} {n : Nat} (hn : n ≤ 8) (hF : ∀ i, i < n → (F i).ok) : AllP (reflL na nb F n) := by
 have hok := filmsN_ok hF
 have hx := stack_hs (filmsN F n) hok (by rw [filmsN_length]; omega)
 have hf := rfits (idx_hs ha.1 ha.2) (idx_hs hb.1 hb.2) hx
 have hbig : 0 < big (idx na) (idx nb) (stackM (filmsN F n)) := big_pos _ _ _ (stack_det hok) (idx_pos0 ha.1) (idx_pos0 hb.1)
 have i1 : inR na := ⟨by have := ha.1; omega, by have := ha.2; omega⟩
 have i2 : inR nb := ⟨by have := hb.1; omega, by have := hb.2; omega⟩
 exact ⟨decide_eq_true ha, decide_eq_true hb, hok, i1, by decide, i2, by decide, hf.nm, hf.r0, hf.r1, hf.o0, hf.rs, hf.ra, hf.os, hf.oa, hf.ra2, hf.oa2, hf.big, hf.rs2, hf.os2, hf.low, hbig, hf.back, by unfold inR; decide, by decide, hf.four, hbig, hf.through, trivial⟩
theorem listA_den {ρ : Nm} {w : World} {p : Option Addr} {n c : Nat} {F : Nat → Flm} (h : FilmsAt w p n c F) (h0 : 0 < n) (hρ : ∃ B, ρ 0 = some B ∧ p = some ⟨B.blk, B.base, none⟩) : denA qDen ρ w (listA n) (.slice p n c) := by
 obtain ⟨B, hB, rfl⟩ := hρ
 unfold listA
 rw [if_neg (by omega)]
 exact ⟨B, c, hB, h.1, rfl⟩
theorem refl40_run {w : World} {na nb : Int} {F : Nat → Flm} {n : Nat} {p : Option Addr} {c : Nat} (h : FilmsAt w p n c F) (hnil : p = none → c = 0) {orc : List (Option Bool)} {V : SV} {L : List Prop}
  (h1 : 0 < n → (evF Tryz.prog (reflSp w (fun _ => False)) 3 16 [.one (.sym na), .one (.sym nb), listA n] (filmBk F n) 1 orc).map (fun r => (r.v, r.obl, fin (filmBk F n) r.wr)) = some (V, L, ini (filmBk F n)))
  (h2 : n = 0 → (evF Tryz.prog (reflSp w (fun _ => False)) 3 16 [.one (.sym na), .one (.sym nb), .one .emp] [] 0 orc).map (fun r => (r.v, r.obl)) = some (V, L)) (hL : AllP L) :
  Calls Tryz.prog 16 #[.int .i64 na, .int .i64 nb, .slice p n c] w fun e w' => ∃ v ρ', e = .returned v ∧ denV qDen ρ' w' V v ∧ Below w.heap.size w w' := by
 by_cases h0 : 0 < n
 ·exact evRunF _ h0 h V L (h1 h0) hL (vals := [.int .i64 na, .int .i64 nb, .slice p n c]) fun ρ hρ => ⟨_, _, rfl, rfl, _, _, rfl, rfl, _, _, rfl, listA_den h h0 hρ, rfl⟩
 ·obtain rfl : n = 0 := by omega
  exact evRun0 wide_ _ V L (h2 rfl) hL (vals := [.int .i64 na, .int .i64 nb, .slice p 0 c]) ⟨_, _, rfl, rfl, _, _, rfl, rfl, _, _, rfl, ⟨p, c, hnil, rfl⟩, rfl⟩
theorem r40refl_ok (na nb : Int) (ha : inIx na) (hb : inIx nb) (F : Nat → Flm) (n : Nat) (hn : n ≤ 8) (hF : ∀ i, i < n → (F i).ok) (p : Option Addr) (c : Nat) (w : World) (h : FilmsAt w p n c F) (hnil : p = none → c = 0) :
  Calls Tryz.prog 16 #[.int .i64 na, .int .i64 nb, .slice p n c] w fun e w' => ∃ v ρ', e = .returned v ∧ denV qDen ρ' w' (lightSV (back (idx na) (idx nb) (stackN F n)) (through (idx na) (idx nb) (stackN F n))) v ∧ Below w.heap.size w w' :=
 refl40_run h hnil (fun h0 => refl_run w na nb F n h0 hn) (by rintro rfl; kernel_rfl) (reflL_ok ha hb hn hF)
theorem r40refl_arg (na nb : Int) (hbad : ¬ (inIx na ∧ inIx nb)) (F : Nat → Flm) (n : Nat) (hn : n ≤ 8) (p : Option Addr) (c : Nat) (w : World) :
  Calls Tryz.prog 16 #[.int .i64 na, .int .i64 nb, .slice p n c] w fun e w' => e = .returned (.tuple #[.agg quot0, .agg quot0, .int .i64 2]) ∧ Below w.heap.size w w' := by
 have fini : ∀ {e : Ending} {w' : World}, (∃ v ρ', e = .returned v ∧ denV qDen ρ' w' (darkSV 2) v ∧ Below w.heap.size w w') → e = .returned (.tuple #[.agg quot0, .agg quot0, .int .i64 2]) ∧ Below w.heap.size w w' := by
  rintro e w' ⟨v, ρ', rfl, hv, hb⟩
  exact ⟨by rw [dark_eq hv], hb⟩
 by_cases ha : inIx na
 ·have hb : ¬ inIx nb := fun h => hbad ⟨ha, h⟩
  refine (evRun0 (d := 3) (orc := [some true, some false]) (args := [.one (.sym na), .one (.sym nb), .one (.val (.slice p n c))]) wide_ (reflSp w _) (darkSV 2) [decide (inIx na) = true, decide (inIx nb) = false] (by kernel_rfl) ⟨decide_eq_true ha, decide_eq_false hb, trivial⟩
   (vals := [.int .i64 na, .int .i64 nb, .slice p n c]) ⟨_, _, rfl, rfl, _, _, rfl, rfl, _, _, rfl, ⟨rfl, rfl⟩, rfl⟩).mono fun e w' h => fini h
 ·refine (evRun0 (d := 3) (orc := [some false]) (args := [.one (.sym na), .one (.sym nb), .one (.val (.slice p n c))]) wide_ (reflSp w _) (darkSV 2) [decide (inIx na) = false] (by kernel_rfl) ⟨decide_eq_false ha, trivial⟩
   (vals := [.int .i64 na, .int .i64 nb, .slice p n c]) ⟨_, _, rfl, rfl, _, _, rfl, rfl, _, _, rfl, ⟨rfl, rfl⟩, rfl⟩).mono fun e w' h => fini h
theorem refl_bad (w : World) (na nb : Int) (F : Nat → Flm) (n : Nat) (h0 : 0 < n) (hn : n ≤ 8) : (evF Tryz.prog (reflSp w (fun _ => False)) 3 16 [.one (.sym na), .one (.sym nb), listA n] (filmBk F n) 1 [some true, some true, some false]).map (fun r => (r.v, r.obl, fin (filmBk F n) r.wr)) =
  some (darkSV 400, [decide (inIx na) = true, decide (inIx nb) = true, ¬ okAll (filmsN F n)], ini (filmBk F n)) := by
 rcases (show n = 1 ∨ n = 2 ∨ n = 3 ∨ n = 4 ∨ n = 5 ∨ n = 6 ∨ n = 7 ∨ n = 8 by omega) with rfl | rfl | rfl | rfl | rfl | rfl | rfl | rfl <;> kernel_rfl
theorem r40refl_no (na nb : Int) (ha : inIx na) (hb : inIx nb) (F : Nat → Flm) (n : Nat) (hn : n ≤ 8) (hF : ¬ okAll (filmsN F n)) (p : Option Addr) (c : Nat) (w : World) (h : FilmsAt w p n c F) :
  Calls Tryz.prog 16 #[.int .i64 na, .int .i64 nb, .slice p n c] w fun e w' => e = .returned (.tuple #[.agg quot0, .agg quot0, .int .i64 400]) ∧ Below w.heap.size w w' := by
 have h0 : 0 < n := by
  apply Nat.pos_of_ne_zero
  rintro rfl
  exact hF (fun f hf => by simp [filmsN] at hf)
 refine (evRunF _ h0 h _ _ (refl_bad w na nb F n h0 hn) ⟨decide_eq_true ha, decide_eq_true hb, hF, trivial⟩ (vals := [.int .i64 na, .int .i64 nb, .slice p n c]) fun ρ hρ => ⟨_, _, rfl, rfl, _, _, rfl, rfl, _, _, rfl, listA_den h h0 hρ, rfl⟩).mono ?_
 rintro e w' ⟨v, ρ', rfl, hv, hb⟩
 exact ⟨by rw [dark_eq hv], hb⟩
def reflRun (args : List SA) (bk : List (Nat × Blk)) (orc : List (Option Bool)) : Option (SV × List Prop × List (Option Bool)) :=
 match args with
 | [x, y, l] => match intOf (some (.a x)), intOf (some (.a y)), listOf l bk with
   | some (na, _), some (nb, _), some fs => if Nat.ble fs.length 8 then (match orc with
     | some false :: r => some (darkSV 2, [¬ (inIx na ∧ inIx nb)], r)
     | some true :: some true :: r => some (lightSV (back (idx na) (idx nb) (stackM fs)) (through (idx na) (idx nb) (stackM fs)), [inIx na ∧ inIx nb, okAll fs], r)
     | some true :: some false :: r => some (darkSV 400, [inIx na ∧ inIx nb, ¬ okAll fs], r)
     | _ => none) else none
   | _, _, _ => none
 | _ => none
def reflSpec (w0 : World) (X : Nat → Prop) (f : FuncId)
    (h1 : ∀ (na nb : Int) (_ : inIx na) (_ : inIx nb) (F : Nat → Flm) (n : Nat) (_ : n ≤ 8) (_ : ∀ i, i < n → (F i).ok) (p : Option Addr) (c : Nat) (w : World) (_ : FilmsAt w p n c F) (_ : p = none → c = 0),
     Calls Tryz.prog f #[.int .i64 na, .int .i64 nb, .slice p n c] w fun e w' => ∃ v ρ', e = .returned v ∧ denV qDen ρ' w' (lightSV (back (idx na) (idx nb) (stackN F n)) (through (idx na) (idx nb) (stackN F n))) v ∧ Below w.heap.size w w')
    (h2 : ∀ (na nb : Int) (_ : ¬ (inIx na ∧ inIx nb)) (F : Nat → Flm) (n : Nat) (_ : n ≤ 8) (p : Option Addr) (c : Nat) (w : World), Calls Tryz.prog f #[.int .i64 na, .int .i64 nb, .slice p n c] w fun e w' => e = .returned (.tuple #[.agg quot0, .agg quot0, .int .i64 2]) ∧ Below w.heap.size w w')
    (h3 : ∀ (na nb : Int) (_ : inIx na) (_ : inIx nb) (F : Nat → Flm) (n : Nat) (_ : n ≤ 8) (_ : ¬ okAll (filmsN F n)) (p : Option Addr) (c : Nat) (w : World) (_ : FilmsAt w p n c F), Calls Tryz.prog f #[.int .i64 na, .int .i64 nb, .slice p n c] w fun e w' => e = .returned (.tuple #[.agg quot0, .agg quot0, .int .i64 400]) ∧ Below w.heap.size w w') :
    Ctr qDen Tryz.prog w0 X := .plain f reflRun <| by
 intro args bk orc v obl orc' hr hobl ρ w vals hfr hb hargs
 unfold reflRun at hr
 split at hr
 ·rename_i x y l
  obtain ⟨v1, r1, rfl, k1, v2, r2, rfl, k2, v3, r3, rfl, k3, k4⟩ := hargs
  obtain rfl : r3 = [] := k4
  split at hr
  ·rename_i na s nb s' fs hx hy hl
   obtain rfl := intOf_ok (D := qDen) (ρ := ρ) (w := w) hx k1
   obtain rfl := intOf_ok (D := qDen) (ρ := ρ) (w := w) hy k2
   obtain ⟨p, c, rfl, hF, hnil⟩ := listOf_ok hl hb k3
   split at hr
   ·rename_i h8
    have h8 := Nat.le_of_ble_eq_true h8
    split at hr
    ·cases hr
     refine (h2 na nb (hobl _ (List.mem_singleton.2 rfl)) (asF fs) fs.length h8 p c w).mono ?_
     rintro e w' ⟨rfl, hbl⟩
     exact ⟨_, rfl, dark_den, hbl⟩
    ·cases hr
     obtain ⟨i1, i2⟩ := hobl (inIx na ∧ inIx nb) (by simp)
     refine (h1 na nb i1 i2 (asF fs) fs.length h8 (okAll_at (hobl (okAll fs) (by simp))) p c w hF (fun h => (hnil h).2)).mono ?_
     rintro e w' ⟨v, ρ', rfl, hv, hbl⟩
     refine ⟨_, rfl, ?_, hbl⟩
     unfold stackN at hv
     rw [filmsN_asF] at hv
     obtain ⟨vs, rfl, u1, q1, rfl, g1, u2, q2, rfl, g2, u3, q3, rfl, g3, g4⟩ := hv
     exact ⟨_, rfl, _, _, rfl, den_quo.2 (den_quo.1 g1), _, _, rfl, den_quo.2 (den_quo.1 g2), _, _, rfl, g3, g4⟩
    ·cases hr
     obtain ⟨i1, i2⟩ := hobl (inIx na ∧ inIx nb) (by simp)
     refine (h3 na nb i1 i2 (asF fs) fs.length h8 (by rw [filmsN_asF]; exact hobl (¬ okAll fs) (by simp)) p c w hF).mono ?_
     rintro e w' ⟨rfl, hbl⟩
     exact ⟨_, rfl, dark_den, hbl⟩
    ·cases hr
   ·cases hr
  ·cases hr
 ·cases hr
end
end Go.Proofs.YtdgodcgdlfjpaaaGreatDoor
