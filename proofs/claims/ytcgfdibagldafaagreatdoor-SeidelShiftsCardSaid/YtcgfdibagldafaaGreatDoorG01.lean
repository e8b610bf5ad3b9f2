/- Drafted fractions, and the opening of a law's arguments. Part 1 of 6. No condition beside the row. -/
import Derived.WalkMore
import Derived.Outline
import Derived.Laws.Pointers
import Derived.Test.YtcgfdibagldafaaGreatDoorA01
import Derived.Test.YtcgfdibagldafaaGreatDoorA02
import Derived.Test.YtcgfdibagldafaaGreatDoorA13
import Derived.Test.YtcgfdibagldafaaGreatDoorA21
set_option linter.unusedVariables false
set_option linter.unusedSimpArgs false
set_option maxRecDepth 100000
set_option maxHeartbeats 4000000
namespace Go.Proofs.YtcgfdibagldafaaGreatDoor
open Go.RowKit Go.Mono Go.Ex
section
theorem bad_digit (f : Nat → Int) : ∀ n, (¬ ∀ i, i < n → 0 ≤ f i ∧ f i < 1000000000) → ∃ k, k < n ∧ (∀ i, i < k → 0 ≤ f i ∧ f i < 1000000000) ∧ ¬ (0 ≤ f k ∧ f k < 1000000000)
 | 0, h => absurd (fun i hi => absurd hi (Nat.not_lt_zero i)) h
 | n + 1, h => by
   by_cases hn : ∀ i, i < n → 0 ≤ f i ∧ f i < 1000000000
   ·refine ⟨n, Nat.lt_succ_self n, hn, fun hk => h fun i hi => ?_⟩
    rcases Nat.lt_succ_iff_lt_or_eq.1 hi with h1 | rfl
    ·exact hn i h1
    ·exact hk
   ·obtain ⟨k, h1, h2⟩ := bad_digit f n hn
    exact ⟨k, by omega, h2⟩
theorem lcheckBad_ok (s : Bool) (p : Option Addr) (n c : Nat) (f : Nat → Int) (w wf : World) (hx : Ext wf w) (h1 : SlF wf (.slice p n c) n f) (h4 : n ≤ 600) (hbad : ¬ LongOk s n f) :
  Calls Tryz.prog 123 #[.agg #[.bool s, .slice p n c]] w fun e w' => e = .returned (.int .i64 30) ∧ Below w.heap.size w w' := by
 replace h1 := h1.ext hx
 clear hx
 obtain ⟨hc, hn, hcell⟩ := h1.opens
 clear h1
 by_cases h0 : 0 < n
 ·obtain ⟨b, off, rfl, hb, hcell⟩ := hcell h0
  obtain ⟨k, rfl⟩ : ∃ k, n = k + 1 := ⟨n - 1, by omega⟩
  by_cases ht : f k = 0
  ·go_enter Tryz.func123, Tryz.ntmps123
   go_wp2_with fail
   go_ret
   exact ⟨rfl, belowAlloc (Below.refl _ _) _⟩
  ·obtain ⟨j, hj, hlo, hjb⟩ := bad_digit f (k + 1) (fun hall => hbad ⟨⟨fun i hi => (hall i hi).1, fun i hi => (hall i hi).2, fun _ => by simpa using ht⟩, fun _ => by omega⟩)
   clear hbad
   have ht' : (f k == 0) = false := by simpa using ht
   replace ht := Lib.hid ht
   go_enter Tryz.func123, Tryz.ntmps123
   go_wp2_with fail
   refine boxes1 fun W hB hs b0 => ?_
   replace hcell : ∀ i, i < k + 1 → W.cell? ⟨b, off + i, none⟩ = some (.int .i64 (f i)) := fun i hi => (hB.cell hb).trans (hcell i hi)
   have hlast := hcell k (by omega)
   have cb0 := b0.cell
   have lb0 := b0.lt
   have fb0 := b0.frozen
   go_wp2
   go_loopw [35] (fun a wr => ∃ i : Nat, i ≤ j ∧ a = .int .i64 (i : Int) ∧ wr = W) (fun a _ => (k + 1 - RowKit.intOf a).toNat)
   case atStart => exact ⟨0, by omega, rfl, rfl⟩
   case round =>
    obtain ⟨i, hi, rfl, rfl⟩ := hrel
    have hik' : (i : Int) < k + 1 := by omega
    have a1 := hcell i (by omega)
    by_cases hik : i < j
    ·have a2 := (hlo i hik).1
     have a3 := (hlo i hik).2
     clear hcell hlo hlast hjb
     have a4 : ¬ (f i < 0) := by omega
     have a5 : ¬ (1000000000 ≤ f i) := by omega
     go_wp2
     go_roundw
     case rel => refine ⟨i + 1, by omega, ?_⟩; simp
     case measure => simp [RowKit.intOf]; omega
    ·obtain rfl : i = j := by omega
     clear hcell hlo hlast
     by_cases a4 : f i < 0
     ·go_wp2
      go_ret
      exact ⟨rfl, hB⟩
     ·have a5 : 1000000000 ≤ f i := by omega
      clear hjb
      go_wp2
      go_ret
      exact ⟨rfl, hB⟩
 ·obtain rfl : n = 0 := by omega
  have hsf : s = true := by
   cases s
   ·exact absurd ⟨⟨fun i hi => by omega, fun i hi => by omega, fun h => by omega⟩, fun h => by cases h⟩ hbad
   ·rfl
  subst hsf
  go_enter Tryz.func123, Tryz.ntmps123
  go_wp2_with fail
  go_ret
  exact ⟨rfl, belowAlloc (Below.refl _ _) _⟩
theorem LongOk.sz {s : Bool} {n c : Nat} {f : Nat → Int} {p : Option Addr} {w : World} (h : LongOk s n f) (h1 : SlF w (.slice p n c) n f) (h4 : n ≤ 600) : Sz 600 w (.slice p n c) (vf f n) ∧ (s = true → 0 < vf f n) := by
 refine ⟨⟨n, f, h1, h.1, rfl, h4⟩, fun hs => ?_⟩
 have := h.1.ge (h.2 hs)
 have := pw_pos (n - 1)
 omega
def kZ : Nat → Value := fun _ => .bool false
theorem kZ1 (i : Nat) : (kZ i).oneCell' = true := rfl
def cLongs (w0 : World) (s t : Bool) (v u : Value) (rN rD : Int)
    (hN : ∀ w, Below w0.heap.size w0 w → Calls Tryz.prog 123 #[.agg #[.bool s, v]] w fun e w' => e = .returned (.int .i64 rN) ∧ Below w.heap.size w w')
    (hD : ∀ w, Below w0.heap.size w0 w → Calls Tryz.prog 123 #[.agg #[.bool t, u]] w fun e w' => e = .returned (.int .i64 rD) ∧ Below w.heap.size w w') : Ctr (qDen kZ kZ1) Tryz.prog w0 (fun _ => False) := .plain 123 (fun args _ orc => match args, orc with
    | [.agg [.val x, .raw 1 [y]]], some true :: r => some (.a (.one (.val (.int .i64 rN))), [x = .bool s, y = v], r)
    | [.agg [.val x, .raw 1 [y]]], some false :: r => some (.a (.one (.val (.int .i64 rD))), [x = .bool t, y = u], r)
    | _, _ => none) <| by
 intro args bk orc x obl orc' hr hobl ρ w vals hfr hb hargs
 split at hr
 ·rename_i x y r
  cases hr
  obtain rfl := hobl (x = .bool s) (by simp)
  obtain rfl := hobl (y = v) (by simp)
  obtain ⟨v1, r1, rfl, ⟨cs, rfl, c, d, rfl, ⟨rfl, _⟩, c2, d2, rfl, ⟨rfl, _⟩, hd⟩, h3⟩ := hargs
  obtain rfl : r1 = [] := h3
  obtain rfl : d2 = [] := hd
  refine (hN w hfr.below).mono ?_
  rintro e w' ⟨rfl, hbl⟩
  exact ⟨_, rfl, ⟨rfl, rfl⟩, hbl⟩
 ·rename_i x y r
  cases hr
  obtain rfl := hobl (x = .bool t) (by simp)
  obtain rfl := hobl (y = u) (by simp)
  obtain ⟨v1, r1, rfl, ⟨cs, rfl, c, d, rfl, ⟨rfl, _⟩, c2, d2, rfl, ⟨rfl, _⟩, hd⟩, h3⟩ := hargs
  obtain rfl : r1 = [] := h3
  obtain rfl : d2 = [] := hd
  refine (hD w hfr.below).mono ?_
  rintro e w' ⟨rfl, hbl⟩
  exact ⟨_, rfl, ⟨rfl, rfl⟩, hbl⟩
 ·cases hr
section
variable (s t : Bool) (p q : Option Addr) (n m c e : Nat) (w : World)
theorem den4 (s t : Bool) (v u : Value) (hv : v.oneCell' = true) (hu : u.oneCell' = true) (ρ : Nm) (w : World) : denAs (qDen kZ kZ1) ρ w [.agg [.val (.bool s), .raw 1 [v], .val (.bool t), .raw 1 [u]]] [.agg #[.bool s, v, .bool t, u]] :=
 ⟨_, [], rfl, ⟨[.bool s, v, .bool t, u], rfl, [_], _, rfl, ⟨rfl, rfl⟩, [_], _, rfl, ⟨rfl, rfl, by simpa using hv⟩, [_], _, rfl, ⟨rfl, rfl⟩, [_], [], rfl, ⟨rfl, rfl, by simpa using hu⟩, rfl⟩, rfl⟩
theorem qbad1
  (hN : ∀ W, Below w.heap.size w W → Calls Tryz.prog 123 #[.agg #[.bool s, .slice p n c]] W fun e w' => e = .returned (.int .i64 30) ∧ Below W.heap.size W w') :
  Calls Tryz.prog 67 #[.agg #[.bool s, .slice p n c, .bool t, .slice q m e]] w fun e' w' => e' = .returned (.int .i64 40) ∧ Below w.heap.size w w' := by
 refine (evRun0 (D := qDen kZ kZ1) (d := 2) (orc := [some true]) (args := [.agg [.val (.bool s), .raw 1 [.slice p n c], .val (.bool t), .raw 1 [.slice q m e]]]) wide_ [cLongs w s s (.slice p n c) (.slice p n c) 30 30 hN hN] [] (.a (.one (.val (.int .i64 40)))) [Value.bool s = .bool s, Value.slice p n c = .slice p n c] (by kernel_rfl) ⟨rfl, rfl, trivial⟩ (den4 s t (.slice p n c) (.slice q m e) rfl rfl _ _)).mono ?_
 rintro e' w' ⟨v, ρ', rfl, hv, hb⟩
 obtain rfl : v = .int .i64 40 := by simpa using hv.1
 exact ⟨rfl, hb⟩
theorem qbad2
  (hN : ∀ W, Below w.heap.size w W → Calls Tryz.prog 123 #[.agg #[.bool s, .slice p n c]] W fun e w' => e = .returned (.int .i64 0) ∧ Below W.heap.size W w')
  (hD : ∀ W, Below w.heap.size w W → Calls Tryz.prog 123 #[.agg #[.bool t, .slice q m e]] W fun e w' => e = .returned (.int .i64 30) ∧ Below W.heap.size W w') :
  Calls Tryz.prog 67 #[.agg #[.bool s, .slice p n c, .bool t, .slice q m e]] w fun e' w' => e' = .returned (.int .i64 40) ∧ Below w.heap.size w w' := by
 refine (evRun0 (D := qDen kZ kZ1) (d := 2) (orc := [some true, some false]) (args := [.agg [.val (.bool s), .raw 1 [.slice p n c], .val (.bool t), .raw 1 [.slice q m e]]]) wide_ [cLongs w s t (.slice p n c) (.slice q m e) 0 30 hN hD] [] (.a (.one (.val (.int .i64 40)))) [Value.bool s = .bool s, Value.slice p n c = .slice p n c, Value.bool t = .bool t, Value.slice q m e = .slice q m e] (by kernel_rfl) ⟨rfl, rfl, rfl, rfl, trivial⟩ (den4 s t (.slice p n c) (.slice q m e) rfl rfl _ _)).mono ?_
 rintro e' w' ⟨v, ρ', rfl, hv, hb⟩
 obtain rfl : v = .int .i64 40 := by simpa using hv.1
 exact ⟨rfl, hb⟩
theorem qbad3
  (hN : ∀ W, Below w.heap.size w W → Calls Tryz.prog 123 #[.agg #[.bool s, .slice p n c]] W fun e w' => e = .returned (.int .i64 0) ∧ Below W.heap.size W w')
  (hD : ∀ W, Below w.heap.size w W → Calls Tryz.prog 123 #[.agg #[.bool true, .slice q m e]] W fun e w' => e = .returned (.int .i64 0) ∧ Below W.heap.size W w') :
  Calls Tryz.prog 67 #[.agg #[.bool s, .slice p n c, .bool true, .slice q m e]] w fun e' w' => e' = .returned (.int .i64 40) ∧ Below w.heap.size w w' := by
 refine (evRun0 (D := qDen kZ kZ1) (d := 2) (orc := [some true, some false]) (args := [.agg [.val (.bool s), .raw 1 [.slice p n c], .val (.bool true), .raw 1 [.slice q m e]]]) wide_ [cLongs w s true (.slice p n c) (.slice q m e) 0 0 hN hD] [] (.a (.one (.val (.int .i64 40)))) [Value.bool s = .bool s, Value.slice p n c = .slice p n c, Value.bool true = .bool true, Value.slice q m e = .slice q m e] (by kernel_rfl) ⟨rfl, rfl, rfl, rfl, trivial⟩ (den4 s true (.slice p n c) (.slice q m e) rfl rfl _ _)).mono ?_
 rintro e' w' ⟨v, ρ', rfl, hv, hb⟩
 obtain rfl : v = .int .i64 40 := by simpa using hv.1
 exact ⟨rfl, hb⟩
noncomputable def lenRaw (q : Option Addr) (e : Nat) (w0 : World) : Fct (qDen kZ kZ1) Tryz.prog w0 (fun _ => False) where
 run := fun o get => match o.op with
  | .call ⟨.builtin .len, ⟨[x]⟩, ⟨[t]⟩⟩ => match get x, Tryz.prog.underlying t with
    | some (.a (.one (.raw 1 [.slice _ 0 _]))), some (.slice _) => some (.a (.one (.val (goInt (0 : Nat)))))
    | _, _ => none
  | _ => none
 sound := by
  intro o get x hr ρ wc w ev hfr hg
  split at hr
  ·rename_i x t ho
   split at hr
   ·rename_i p' c' e' hx hu
    cases hr
    have e1 : ev x = .slice p' 0 c' := by
     have := hg _ _ hx
     simp [denV, denA, denU] at this
     exact this.1
    refine ⟨goInt (0 : Nat), ?_, rfl, rfl⟩
    unfold execOp
    simp only [ho, resolve, Sem.run_bind, Sem.run_pure, Result.andThen_ok, invoke, builtin, Builtin.len_]
    simp [e1, run_underlying hu]
   ·cases hr
  ·cases hr
theorem qbad4
  (hN : ∀ W, Below w.heap.size w W → Calls Tryz.prog 123 #[.agg #[.bool s, .slice p n c]] W fun e w' => e = .returned (.int .i64 0) ∧ Below W.heap.size W w')
  (hD : ∀ W, Below w.heap.size w W → Calls Tryz.prog 123 #[.agg #[.bool false, .slice q 0 e]] W fun e w' => e = .returned (.int .i64 0) ∧ Below W.heap.size W w') :
  Calls Tryz.prog 67 #[.agg #[.bool s, .slice p n c, .bool false, .slice q 0 e]] w fun e' w' => e' = .returned (.int .i64 40) ∧ Below w.heap.size w w' := by
 refine (evRun0 (D := qDen kZ kZ1) (d := 2) (orc := [some true, some false]) (args := [.agg [.val (.bool s), .raw 1 [.slice p n c], .val (.bool false), .raw 1 [.slice q 0 e]]]) wide_ [cLongs w s false (.slice p n c) (.slice q 0 e) 0 0 hN hD] [lenRaw q e w] (.a (.one (.val (.int .i64 40)))) [Value.bool s = .bool s, Value.slice p n c = .slice p n c, Value.bool false = .bool false, Value.slice q 0 e = .slice q 0 e] (by kernel_rfl) ⟨rfl, rfl, rfl, rfl, trivial⟩ (den4 s false (.slice p n c) (.slice q 0 e) rfl rfl _ _)).mono ?_
 rintro e' w' ⟨v, ρ', rfl, hv, hb⟩
 obtain rfl : v = .int .i64 40 := by simpa using hv.1
 exact ⟨rfl, hb⟩
end
theorem cmp_ne (m1 m2 : Nat) (w : World) (p q : Option Addr) (n m c1 c2 : Nat) (N M : Int) (h1 : Sz m1 w (.slice p n c1) N) (h2 : Sz m2 w (.slice q m c2) M) (hne : N ≠ M) :
  Calls Tryz.prog 124 #[.slice p n c1, .slice q m c2] w fun e w' => ∃ c : Int, (c == 0) = false ∧ e = .returned (.int .i64 c) ∧ Below w.heap.size w w' := by
 refine (cmp_sz m1 m2 w w (Ext.refl _) p q n m c1 c2 N M h1 h2).mono ?_
 rintro e w' ⟨c, ⟨rfl, k, rfl⟩, _, hc⟩
 exact ⟨c, by simpa using fun h => hne (hc.1 h), rfl, below_drewN (Below.refl _ _) k⟩
theorem qbad5 (s : Bool) (p q : Option Addr) (n m c e : Nat) (f g : Nat → Int) (w : World) (h1 : SlF w (.slice p n c) n f) (h2 : SlF w (.slice q m e) m g) (hn : n ≤ 600) (hm : m ≤ 600) (hN : LongOk s n f) (hD : LongOk false m g) (h0 : 0 < m) (hG : gcdZ (vf f n) (vf g m) ≠ 1) :
  Calls Tryz.prog 67 #[.agg #[.bool s, .slice p n c, .bool false, .slice q m e]] w fun e' w' => e' = .returned (.int .i64 40) ∧ Below w.heap.size w w' := by
 have hf0 : ∀ w : World, (Instr.field 127 (.agg #[.bool s, .slice p n c, .slice q m e]) 0).run Tryz.prog w = .ok (.agg #[.bool s, .slice p n c]) w := fun _ => by kernel_rfl
 have hf1 : ∀ w : World, (Instr.field 125 (.agg #[.bool s, .slice p n c]) 1).run Tryz.prog w = .ok (.slice p n c) w := fun _ => by kernel_rfl
 go_enter Tryz.func67, Tryz.ntmps67
 go_wp2_with fail
 refine boxes1 fun W hB hs b0 => ?_
 replace h1 := h1.ext (.of_below hB)
 replace h2 := h2.ext (.of_below hB)
 have cb0 := b0.cell
 have lb0 := b0.lt
 have fb0 := b0.frozen
 have hne : ((m : Int) == 0) = false := by simp; omega
 go_region_held3 (fun w' => (∀ b o, b < W.heap.size → w'.cell? ⟨b, o, none⟩ = W.cell? ⟨b, o, none⟩) ∧ Below W.heap.size W w') ((refine belowS ?_; first | exact (Below.refl _ _).drew | (repeat' (first | exact And.right ‹_› | exact belowCall (And.right ‹_›) ‹_› | exact belowAlloc (And.right ‹_›) _ | exact belowAlloc ‹_› _ | refine belowSet ?_ (by omega) _ _)))) (first | (go_at_call 123; (with_reducible refine (lcheck_ok s p n c _ _ W (.of_below (And.right ‹_›)) (hN.sz h1 hn).1 (hN.sz h1 hn).2).mono ?_); rintro e4 W4 ⟨rfl, hb4⟩) | (go_at_call 123; (with_reducible refine (lcheck_ok false q m e _ _ W (.of_below (And.right ‹_›)) (hD.sz h2 hm).1 (hD.sz h2 hm).2).mono ?_); rintro e5 W5 ⟨rfl, hb5⟩) | (go_at_call 99; refine (read_any _ _ p q n c m e _).mono ?_; rintro e6 W6 ⟨rfl, hb6⟩) | (go_at_call 103; refine (common_sz 600 _ W (.of_below (And.right ‹_›)) p q n m c e _ _ (hN.sz h1 hn).1 (hD.sz h2 hm).1 (by omega)).mono ?_; rintro e7 W7 ⟨pg, kg, cg, rfl, zg, hb7⟩; (try replace z1 := z1.ext (by first | exact .of_below hb7 | exact ((Ext.refl _).alloc _).below hb7 | exact ((Ext.refl _).alloc _).drew.below hb7))) | (go_at_call 125; refine (one_sz _).mono ?_; rintro e8 W8 ⟨p1, k1, c1, rfl, z1, hb8⟩; (try replace zg := zg.ext (by first | exact .of_below hb8 | exact ((Ext.refl _).alloc _).below hb8 | exact ((Ext.refl _).alloc _).drew.below hb8))) | (go_at_call 124; refine (cmp_ne 600 1 _ pg p1 kg k1 cg c1 _ _ zg z1 hG).mono ?_; rintro e9 W9 ⟨cc, hc0, rfl, hb9⟩))
 all_goals
  go_wp2
  go_ret
  exact ⟨rfl, belowCall hB (And.right ‹_›)⟩
theorem qcheckBad_ok (cs : List Value) (w : World) (h : BadQ w cs) : Calls Tryz.prog 67 #[.agg cs.toArray] w fun e' w' => e' = .returned (.int .i64 40) ∧ Below w.heap.size w w' := by
 obtain ⟨s, t, p, q, n, m, c, e, f, g, rfl, h1, h2, hn, hm, hbad⟩ := h
 have ok1 := fun (hN : LongOk s n f) (W : World) (hW : Below w.heap.size w W) => lcheck_ok s p n c _ W w (.of_below hW) (hN.sz h1 hn).1 (hN.sz h1 hn).2
 have ok2 := fun (hD : LongOk t m g) (W : World) (hW : Below w.heap.size w W) => lcheck_ok t q m e _ W w (.of_below hW) (hD.sz h2 hm).1 (hD.sz h2 hm).2
 by_cases hN : LongOk s n f
 ·by_cases hD : LongOk t m g
  ·cases t with
   | true => exact qbad3 s p q n m c e w (ok1 hN) (ok2 hD)
   | false =>
     by_cases h0 : 0 < m
     ·exact qbad5 s p q n m c e f g w h1 h2 hn hm hN hD h0 fun hG => hbad ⟨hN, hD, rfl, h0, hG⟩
     ·obtain rfl : m = 0 := by omega
      exact qbad4 s p q n c e w (ok1 hN) (ok2 hD)
  ·exact qbad2 s t p q n m c e w (ok1 hN) fun W hW => lcheckBad_ok t q m e g W w (.of_below hW) h2 hm hD
 ·exact qbad1 s t p q n m c e w fun W hW => lcheckBad_ok s p n c f W w (.of_below hW) h1 hn hN
end
end Go.Proofs.YtcgfdibagldafaaGreatDoor
namespace Go.Mono
open Go.RowKit
section
def AfterC (S : World → Prop) (X : Value → World → Prop) : Ending → World → Prop
 | .returned v, w => S w ∧ (S w → X v w)
 | _, _ => False
section
variable {P : Program} {ops : Array Oper} {Q : Exit → Act → World → Prop} {md : Region.Mode} {S : World → Prop}
theorem tkf (i : Nat) (d : Option Tmp) {oi : Oper} {v : Value} {fuel : Nat} {listed : Array Bool} {a a' : Act} {w : World}
  (h : wpAnyH P md ops Q S fuel (listed.setIfInBounds i true) a' w) (hi : ops[i]? = some oi := by rfl)
  (hs : Region.noSelect ops = true := by as_aux_lemma => kernel_rfl) (hf : Region.free md ops listed i = true := by as_aux_lemma => kernel_rfl) (hr : (Region.ready md ops listed).contains i = true := by as_aux_lemma => kernel_rfl) (hd : oi.dst = d := by rfl)
  (hw : Region.wanted oi (yielded ops a.tmps) = true := by as_aux_lemma => kernel_rfl) (hv : ∀ w, S w → (execOp a.eval oi).run P w = .ok (.value v) w := by (intro w hSw; (try dsimp only at hSw); go_simp; all_goals with_reducible rfl))
  (hQ : ∀ c a w, Q (.panic c) (a.put d v) w → Q (.panic c) a w := by exact (fun _ _ _ h => h)) (hS : S w := by assumption)
  (ha : a.put d v = a' := by (simp only [Act.put, List.setIfInBounds_toArray, List.set_cons_zero, List.set_cons_succ]; rfl)) : wpAnyH P md ops Q S (fuel + 1) listed a w := by
 subst ha
 exact take_want i d hi hs hf hr hd hQ hw hv hS h
theorem tlf (i : Nat) (d : Option Tmp) {oi : Oper} (hi : ops[i]? = some oi) (v : Value) {fuel : Nat} {listed : Array Bool} {a a' : Act} {w : World}
  (hv : ∀ w, S w → (execOp a.eval oi).run P w = .ok (.value v) w) (h : wpAnyH P md ops Q S fuel (listed.setIfInBounds i true) a' w)
  (hs : Region.noSelect ops = true := by as_aux_lemma => kernel_rfl) (hf : Region.free md ops listed i = true := by as_aux_lemma => kernel_rfl) (hr : (Region.ready md ops listed).contains i = true := by as_aux_lemma => kernel_rfl) (hd : oi.dst = d := by rfl)
  (hw : Region.wanted oi (yielded ops a.tmps) = true := by as_aux_lemma => kernel_rfl)
  (hQ : ∀ c a w, Q (.panic c) (a.put d v) w → Q (.panic c) a w := by exact (fun _ _ _ h => h)) (hS : S w := by assumption)
  (ha : a.put d v = a' := by (simp only [Act.put, List.setIfInBounds_toArray, List.set_cons_zero, List.set_cons_succ]; rfl)) : wpAnyH P md ops Q S (fuel + 1) listed a w := by
 subst ha
 exact take_want i d hi hs hf hr hd hQ hw hv hS h
theorem tsf (i : Nat) (d : Option Tmp) {oi : Oper} {fuel : Nat} {listed : Array Bool} {a a' : Act} {w : World}
  (h : wpAnyH P md ops Q S fuel (listed.setIfInBounds i true) a' w) (hi : ops[i]? = some oi := by rfl)
  (hs : Region.noSelect ops = true := by as_aux_lemma => kernel_rfl) (hf : Region.free md ops listed i = true := by as_aux_lemma => kernel_rfl) (hr : (Region.ready md ops listed).contains i = true := by as_aux_lemma => kernel_rfl) (hd : oi.dst = d := by rfl)
  (hw : Region.wanted oi (yielded ops a.tmps) = false := by as_aux_lemma => kernel_rfl)
  (hQ : ∀ c a w, Q (.panic c) (a.put d undef) w → Q (.panic c) a w := by exact (fun _ _ _ h => h)) (hS : S w := by assumption)
  (ha : a.put d undef = a' := by (simp only [Act.put, List.setIfInBounds_toArray, List.set_cons_zero, List.set_cons_succ]; rfl)) : wpAnyH P md ops Q S (fuel + 1) listed a w := by
 subst ha
 exact take_skip i d hi hs hf hr hd hQ hw hS h
theorem stc (i : Nat) (d : Option Tmp) {o : Oper} {f : FuncId} {args : Array Value} {R : Ending → World → Prop} {fuel : Nat} {listed : Array Bool} {a : Act} {w : World} (hC : Calls P f args w R)
  (h : ∀ e w', R e w' → AfterC S (fun v w' => wpAnyH P md ops Q S fuel (listed.setIfInBounds i true) (a.put d v) w') e w')
  (ho : ops[i]? = some o := by rfl) (hd : o.dst = d := by rfl) (hr : Region.ready md ops listed = [i] := by as_aux_lemma => kernel_rfl) (hw : Region.wanted o (yielded ops a.tmps) = true := by as_aux_lemma => kernel_rfl)
  (hx : (execOp a.eval o).run P w = .ok (.enter f args) w := by as_aux_lemma => kernel_rfl) : wpAnyH P md ops Q S (fuel + 1) listed a w := by
 subst hd
 refine st i (fun K hK => ?_) ho hr
 rw [if_pos hw]
 unfold Oper.wp
 rw [hx, Oper.upon_enter]
 refine hC.mono ?_
 intro e w' hR
 have := h e w' hR
 cases e with
 | returned v => exact hK.out _ _ this.1 this.2
 | _ => exact this.elim
theorem armc (d : Option Tmp) {K' : Act → World → Prop} {fuel : Nat} {listed : Array Bool} (hK : Shut (∀ a w, S w → (S w → wpAnyH P md ops Q S fuel listed a w) → K' a w)) {o : Oper} {f : FuncId} {args : Array Value} {R : Ending → World → Prop} {a : Act} {w : World} (hC : Calls P f args w R)
  (h : ∀ e w', R e w' → AfterC S (fun v w' => wpAnyH P md ops Q S fuel listed (a.put d v) w') e w') (hd : o.dst = d := by rfl) (hw : Region.wanted o (yielded ops a.tmps) = true := by as_aux_lemma => kernel_rfl)
  (hx : (execOp a.eval o).run P w = .ok (.enter f args) w := by as_aux_lemma => kernel_rfl) : if Region.wanted o (yielded ops a.tmps) = true then Oper.wp P o a w K' Q else K' (a.put o.dst undef) w := by
 subst hd
 rw [if_pos hw]
 unfold Oper.wp
 rw [hx, Oper.upon_enter]
 refine hC.mono ?_
 intro e w' hR
 have := h e w' hR
 cases e with
 | returned v => exact hK.out _ _ this.1 this.2
 | _ => exact this.elim
theorem arma (d : Option Tmp) {K' : Act → World → Prop} {fuel : Nat} {listed : Array Bool} (hK : Shut (∀ a w, S w → (S w → wpAnyH P md ops Q S fuel listed a w) → K' a w)) {o : Oper} {a : Act} {w : World} (v : Value) (V : World) (hS : S V)
  (h : S V → wpAnyH P md ops Q S fuel listed (a.put d v) V) (hd : o.dst = d := by rfl) (hw : Region.wanted o (yielded ops a.tmps) = true := by as_aux_lemma => kernel_rfl)
  (hx : (execOp a.eval o).run P w = .ok (.value v) V := by as_aux_lemma => kernel_rfl) : if Region.wanted o (yielded ops a.tmps) = true then Oper.wp P o a w K' Q else K' (a.put o.dst undef) w := by
 subst hd
 rw [if_pos hw]
 unfold Oper.wp
 rw [hx, Oper.upon_value]
 exact hK.out _ _ hS h
theorem sta (i : Nat) (d : Option Tmp) {o : Oper} {fuel : Nat} {listed : Array Bool} {a : Act} {w : World} (v : Value) (V : World) (hS : S V)
  (h : S V → wpAnyH P md ops Q S fuel (listed.setIfInBounds i true) (a.put d v) V)
  (ho : ops[i]? = some o := by rfl) (hd : o.dst = d := by rfl) (hr : Region.ready md ops listed = [i] := by as_aux_lemma => kernel_rfl) (hw : Region.wanted o (yielded ops a.tmps) = true := by as_aux_lemma => kernel_rfl)
  (hx : (execOp a.eval o).run P w = .ok (.value v) V := by as_aux_lemma => kernel_rfl) : wpAnyH P md ops Q S (fuel + 1) listed a w :=
 st i (fun K hK => arma d hK v V hS h hd hw hx) ho hr
theorem fork2 (i j : Nat) {oi oj : Oper} {fuel : Nat} {listed : Array Bool} {a : Act} {w : World}
  (h1 : ∀ K' : Act → World → Prop, Shut (∀ a w, S w → (S w → wpAnyH P md ops Q S fuel (listed.setIfInBounds i true) a w) → K' a w) → if Region.wanted oi (yielded ops a.tmps) = true then Oper.wp P oi a w K' Q else K' (a.put oi.dst undef) w)
  (h2 : ∀ K' : Act → World → Prop, Shut (∀ a w, S w → (S w → wpAnyH P md ops Q S fuel (listed.setIfInBounds j true) a w) → K' a w) → if Region.wanted oj (yielded ops a.tmps) = true then Oper.wp P oj a w K' Q else K' (a.put oj.dst undef) w)
  (ho1 : ops[i]? = some oi := by rfl) (ho2 : ops[j]? = some oj := by rfl) (hr : Region.ready md ops listed = [i, j] := by as_aux_lemma => kernel_rfl) : wpAnyH P md ops Q S (fuel + 1) listed a w :=
 wpAnyH_ready hr (by simp) (AllReadyH.cons ho1 h1 (AllReadyH.cons ho2 h2 AllReadyH.nil))
theorem pt {fuel : Nat} {listed : Array Bool} {a a' : Act} {w : World} (h : wpAnyH P md ops Q S fuel listed a' w) (ha : a = a' := by (simp only [Act.put, List.setIfInBounds_toArray, List.set_cons_zero, List.set_cons_succ]; rfl)) : wpAnyH P md ops Q S fuel listed a w := by
 subst ha
 exact h
end
end
def xt (f : Nat → Int) (n : Nat) : Nat → Int := fun i => if i < n then f i else 0
theorem xt_lt {f : Nat → Int} {n i : Nat} (h : i < n) : xt f n i = f i := if_pos h
theorem xt_ge {f : Nat → Int} {n i : Nat} (h : n ≤ i) : xt f n i = 0 := if_neg (by omega)
theorem xt_lo {f : Nat → Int} {n : Nat} (h : ∀ i, i < n → 0 ≤ f i) (i : Nat) : 0 ≤ xt f n i := by
 by_cases hi : i < n
 ·rw [xt_lt hi]; exact h i hi
 ·rw [xt_ge (by omega)]; exact Int.le_refl _
theorem xt_hi {f : Nat → Int} {n : Nat} (h : ∀ i, i < n → f i < 1000000000) (i : Nat) : xt f n i < 1000000000 := by
 by_cases hi : i < n
 ·rw [xt_lt hi]; exact h i hi
 ·rw [xt_ge (by omega)]; decide
theorem vf_xt {f : Nat → Int} {n i : Nat} (h : n ≤ i) : vf (xt f n) i = vf f n := by
 obtain ⟨d, rfl⟩ := Nat.exists_eq_add_of_le h
 rw [vf_split, vf_congr (f := xt f n) (g := f) (k := n) (fun i hi => xt_lt hi), vf_zero (f := fun j => xt f n (n + j)) (fun i _ => xt_ge (by omega))]
 simp
theorem vf_put (h : Nat → Int) (i : Nat) (x : Int) : vf (fun j => if j = i then x else h j) (i + 1) = vf h i + x * pw i := by
 rw [vf_succ, vf_congr (g := h) (fun j hj => if_neg (by omega)), if_pos rfl]
theorem carry_eq (n p : Int) : n % 1000000000 * p + n / 1000000000 * (p * 1000000000) = n * p := by
 have h : n = n % 1000000000 + 1000000000 * (n / 1000000000) := (Int.emod_add_mul_ediv n 1000000000).symm
 generalize n % 1000000000 = r at *
 generalize n / 1000000000 = q at *
 subst h
 grind
/-! ### sums -/
structure SumI (X Y : Nat → Int) (i : Nat) (h : Nat → Int) (c : Int) : Prop where
 lo : ∀ j, j < i → 0 ≤ h j
 hi : ∀ j, j < i → h j < 1000000000
 eq : vf h i + c * pw i = vf X i + vf Y i
 c0 : 0 ≤ c
 c1 : c ≤ 1
theorem SumI.start (X Y h : Nat → Int) : SumI X Y 0 h 0 := ⟨fun j hj => by omega, fun j hj => by omega, by simp [vf], by decide, by decide⟩
theorem SumI.next {X Y h : Nat → Int} {i : Nat} {c : Int} (H : SumI X Y i h c) (x0 : 0 ≤ X i) (x1 : X i < 1000000000) (y0 : 0 ≤ Y i) (y1 : Y i < 1000000000) :
  SumI X Y (i + 1) (fun j => if j = i then (X i + Y i + c) % 1000000000 else h j) ((X i + Y i + c) / 1000000000) := by
 have h1 := H.c0
 have h2 := H.c1
 refine ⟨fun j hj => ?_, fun j hj => ?_, ?_, by omega, by omega⟩
 ·split
  ·omega
  ·exact H.lo j (by omega)
 ·split
  ·omega
  ·exact H.hi j (by omega)
 ·rw [vf_put, vf_succ, vf_succ, pw_succ]
  have h3 := H.eq
  have h4 := carry_eq (X i + Y i + c) (pw i)
  grind
theorem SumI.done {f g h : Nat → Int} {n m i : Nat} (H : SumI (xt f n) (xt g m) i h 0) (hn : n ≤ i) (hm : m ≤ i) : vf h i = vf f n + vf g m := by
 have := H.eq
 rw [vf_xt hn, vf_xt hm] at this
 omega
theorem SumI.len {f g h : Nat → Int} {n m i : Nat} {c : Int} (H : SumI (xt f n) (xt g m) i h c) (hf : ∀ i, i < n → f i < 1000000000) (hg : ∀ i, i < m → g i < 1000000000) (hn : n ≤ i) (hm : m ≤ i) (hc : 0 < c) : i = max n m := by
 have h1 := H.eq
 have h0 := vf_nonneg H.lo
 rw [vf_xt hn, vf_xt hm] at h1
 have h2 := vf_lt hf
 have h3 := vf_lt hg
 have h4 := pw_mono (show n ≤ max n m by omega)
 have h5 := pw_mono (show m ≤ max n m by omega)
 have h6 : 1 * pw i ≤ c * pw i := Int.mul_le_mul_of_nonneg_right (by omega) (Int.le_of_lt (pw_pos i))
 by_cases hi : max n m < i
 ·have h7 := pw_mono (show max n m + 1 ≤ i by omega)
  rw [pw_succ] at h7
  have := pw_pos (max n m)
  omega
 ·omega
/-! ### differences -/
structure DifI (X Y : Nat → Int) (i : Nat) (h : Nat → Int) (c : Int) : Prop where
 lo : ∀ j, j < i → 0 ≤ h j
 hi : ∀ j, j < i → h j < 1000000000
 eq : vf h i = vf X i - vf Y i + c * pw i
 c0 : 0 ≤ c
 c1 : c ≤ 1
theorem DifI.start (X Y h : Nat → Int) : DifI X Y 0 h 0 := ⟨fun j hj => by omega, fun j hj => by omega, by simp [vf], by decide, by decide⟩
theorem DifI.below {X Y h : Nat → Int} {i : Nat} {c : Int} (H : DifI X Y i h c) (x0 : 0 ≤ X i) (y1 : Y i < 1000000000) (hn : X i - Y i - c < 0) :
  DifI X Y (i + 1) (fun j => if j = i then X i - Y i - c + 1000000000 else h j) 1 := by
 have h1 := H.c0
 have h2 := H.c1
 refine ⟨fun j hj => ?_, fun j hj => ?_, ?_, by decide, by decide⟩
 ·split
  ·omega
  ·exact H.lo j (by omega)
 ·split
  ·omega
  ·exact H.hi j (by omega)
 ·rw [vf_put, vf_succ, vf_succ, pw_succ]
  have h3 := H.eq
  grind
theorem DifI.above {X Y h : Nat → Int} {i : Nat} {c : Int} (H : DifI X Y i h c) (x1 : X i < 1000000000) (y0 : 0 ≤ Y i) (hn : ¬ X i - Y i - c < 0) :
  DifI X Y (i + 1) (fun j => if j = i then X i - Y i - c else h j) 0 := by
 have h1 := H.c0
 have h2 := H.c1
 refine ⟨fun j hj => ?_, fun j hj => ?_, ?_, by decide, by decide⟩
 ·split
  ·omega
  ·exact H.lo j (by omega)
 ·split
  ·omega
  ·exact H.hi j (by omega)
 ·rw [vf_put, vf_succ, vf_succ, pw_succ]
  have h3 := H.eq
  grind
theorem DifI.done {f g h : Nat → Int} {n m : Nat} {c : Int} (H : DifI f (xt g m) n h c) (hm : m ≤ n) (hge : vf g m ≤ vf f n) : vf h n = vf f n - vf g m := by
 have h1 := H.eq
 rw [vf_xt hm] at h1
 have h2 := vf_lt H.hi
 have h0 := H.c0
 have h4 := H.c1
 rcases (by omega : c = 0 ∨ c = 1) with rfl | rfl <;> omega
/-! ### products -/
theorem put_carry (d : Nat → Int) (L j : Nat) (x : Int) (hj : j < L) : vf (fun i => if i = j then (x + d j) % 1000000000 else d i) L + (x + d j) / 1000000000 * pw (j + 1) = vf d L + x * pw j := by
 rw [vf_set, if_pos hj, pw_succ]
 have := carry_eq (x + d j) (pw j)
 grind
theorem carry_room {d : Nat → Int} {L j : Nat} {x V : Int} (hd : ∀ i, i < L → 0 ≤ d i) (hV : vf d L + x * pw j = V) (hx : 0 < x) (hL : V < pw L) : j < L := by
 have h0 := vf_nonneg hd
 have h1 : 1 * pw j ≤ x * pw j := Int.mul_le_mul_of_nonneg_right (by omega) (Int.le_of_lt (pw_pos j))
 by_cases h : j < L
 ·exact h
 ·have := pw_mono (show L ≤ j by omega)
  omega
/-! ### a multiple taken off -/
structure TakI (X Y : Nat → Int) (k : Int) (i : Nat) (h : Nat → Int) (c : Int) : Prop where
 lo : ∀ j, j < i → 0 ≤ h j
 hi : ∀ j, j < i → h j < 1000000000
 eq : vf h i + c * pw i = vf X i - k * vf Y i
 c0 : c ≤ 0
 c1 : -1000000000 ≤ c
theorem TakI.start (X Y h : Nat → Int) (k : Int) : TakI X Y k 0 h 0 := ⟨fun j hj => by omega, fun j hj => by omega, by simp [vf], by decide, by decide⟩
theorem mul_dig {y k : Int} (y0 : 0 ≤ y) (y1 : y < 1000000000) (k0 : 0 ≤ k) (k1 : k < 1000000000) : 0 ≤ y * k ∧ y * k ≤ 999999999 * 999999999 := by
 refine ⟨Int.mul_nonneg y0 k0, ?_⟩
 have h1 : y * k ≤ 999999999 * k := Int.mul_le_mul_of_nonneg_right (by omega) k0
 omega
theorem TakI.next {X Y h : Nat → Int} {k : Int} {i : Nat} {c : Int} (H : TakI X Y k i h c) (x0 : 0 ≤ X i) (x1 : X i < 1000000000) (y0 : 0 ≤ Y i) (y1 : Y i < 1000000000) (k0 : 0 ≤ k) (k1 : k < 1000000000) :
  TakI X Y k (i + 1) (fun j => if j = i then (X i - Y i * k + c) % 1000000000 else h j) ((X i - Y i * k + c) / 1000000000) := by
 have h1 := H.c0
 have h2 := H.c1
 obtain ⟨m0, m1⟩ := mul_dig y0 y1 k0 k1
 refine ⟨fun j hj => ?_, fun j hj => ?_, ?_, by omega, by omega⟩
 ·split
  ·omega
  ·exact H.lo j (by omega)
 ·split
  ·omega
  ·exact H.hi j (by omega)
 ·rw [vf_put, vf_succ, vf_succ, pw_succ]
  have h3 := H.eq
  have h4 := carry_eq (X i - Y i * k + c) (pw i)
  grind
theorem TakI.done {f g h : Nat → Int} {n m : Nat} {k c : Int} (H : TakI f (xt g m) k n h c) (hm : m ≤ n) (hge : k * vf g m ≤ vf f n) : vf h n = vf f n - k * vf g m := by
 have h1 := H.eq
 rw [vf_xt hm] at h1
 have h0 := vf_nonneg H.lo
 have h2 := vf_lt H.hi
 have h3 := H.c0
 have hp := pw_pos n
 by_cases hc : c = 0
 ·subst hc; omega
 ·have h6 : c * pw n ≤ -1 * pw n := Int.mul_le_mul_of_nonneg_right (by omega) (Int.le_of_lt hp)
  omega
theorem tak_some {f g : Nat → Int} {n m : Nat} (hf : ∀ i, i < n → 0 ≤ f i) (hg : Digs g (m + 1)) (hle : vf g (m + 1) ≤ vf f n) (hn : n ≤ m + 2) (hmn : m < n) :
  let H := xt f n (m + 1) * 1000000000 + f m
  let k := H / (g m + 1)
  0 ≤ k ∧ k * vf g (m + 1) ≤ vf f n := by
 intro H k
 have g0 := hg.lo m (by omega)
 have g1 := hg.hi m (by omega)
 have f0 := hf m hmn
 have x0 := xt_lo hf (m + 1)
 have hH : 0 ≤ H := by omega
 have hk : 0 ≤ k := Int.ediv_nonneg hH (by omega)
 refine ⟨hk, ?_⟩
 have h1 : k * (g m + 1) ≤ H := Int.ediv_mul_le _ (by omega)
 have h2 : vf g (m + 1) ≤ (g m + 1) * pw m := by
  rw [vf_succ]
  have := vf_lt (f := g) (k := m) fun i hi => hg.hi i (by omega)
  grind
 have h3 : k * vf g (m + 1) ≤ k * ((g m + 1) * pw m) := Int.mul_le_mul_of_nonneg_left h2 hk
 have h4 : k * (g m + 1) * pw m ≤ H * pw m := Int.mul_le_mul_of_nonneg_right h1 (Int.le_of_lt (pw_pos m))
 have h5 : H * pw m ≤ vf f n := by
  have e : vf f n = vf (xt f n) (m + 2) := (vf_xt hn).symm
  rw [e, vf_succ, vf_succ, pw_succ, xt_lt hmn]
  have := vf_nonneg (f := xt f n) (k := m) fun i _ => xt_lo hf i
  have e2 : H * pw m = f m * pw m + xt f n (m + 1) * (pw m * 1000000000) := by
   show (xt f n (m + 1) * 1000000000 + f m) * pw m = _
   grind
  omega
 rw [Int.mul_assoc] at h4
 omega
theorem tak_bound {f g : Nat → Int} {n m : Nat} (hf : ∀ i, i < n → 0 ≤ f i) (hg : Digs g (m + 1)) (hlt : vf f n < vf g (m + 1) * 1000000000) (hn : n ≤ m + 2) (hmn : m < n) :
  (xt f n (m + 1) * 1000000000 + f m) / (g m + 1) < 1000000000 := by
 have g0 := hg.lo m (by omega)
 have g1 := hg.hi m (by omega)
 refine Int.ediv_lt_of_lt_mul (by omega) ?_
 have e : vf f n = vf (xt f n) (m + 2) := (vf_xt hn).symm
 rw [e, vf_succ, vf_succ, pw_succ, xt_lt hmn] at hlt
 have h0 := vf_nonneg (f := xt f n) (k := m) fun i _ => xt_lo hf i
 have h2 : vf g (m + 1) < (g m + 1) * pw m := by
  rw [vf_succ]
  have := vf_lt (f := g) (k := m) fun i hi => hg.hi i (by omega)
  grind
 have hp := pw_pos m
 have h3 : (xt f n (m + 1) * 1000000000 + f m) * pw m < ((g m + 1) * 1000000000) * pw m := by
  have e2 : (xt f n (m + 1) * 1000000000 + f m) * pw m = f m * pw m + xt f n (m + 1) * (pw m * 1000000000) := by grind
  have e3 : (g m + 1) * 1000000000 * pw m = (g m + 1) * pw m * 1000000000 := by grind
  omega
 have := Int.lt_of_mul_lt_mul_right h3 (Int.le_of_lt hp)
 omega
theorem Box.results2 {P : Program} {w : World} {B B1 : Nat} {T T1 : TypeId} {cs : Array Value} {kd : IntKind} {z : Int} (b : Box w B T cs) (b1 : Box w B1 T1 #[.int kd z]) {fn : Func} {p p1 : Tmp} {ty ty1 : TypeId} (h : fn.results = #[.cell p ty, .cell p1 ty1]) (tmps : Array Value) (d : TypeDesc)
  (ht : tmps.getD p undef = .pointer (some ⟨B, 0, none⟩)) (ht1 : tmps.getD p1 undef = .pointer (some ⟨B1, 0, none⟩)) (hu : P.underlying ty = some d) (hd : d.isRow = true) (hi : (P.info? ty).map (·.size) = some cs.size)
  (hl : (loadVar ty1 ⟨B1, 0, none⟩).run P w = .ok (.int kd z) w) : (Go.results fn tmps).run P w = .ok (.tuple #[.agg cs, .int kd z]) w := by
 have hp' : tmps[p]?.getD undef = .pointer (some ⟨B, 0, none⟩) := by simpa using ht
 have hp1 : tmps[p1]?.getD undef = .pointer (some ⟨B1, 0, none⟩) := by simpa using ht1
 have hld := run_loadVar_row (P := P) w B T ty cs (0, 0) d b.blk hu (by cases d <;> simp_all [TypeDesc.isRow]) hi
 simp [Go.results, h, hp', hp1, asAddr, hld, hl]
theorem Box.resultsT {P : Program} {w : World} {B : Nat} {T : TypeId} {cs : Array Value} (b : Box w B T cs) {fn : Func} {p p1 : Tmp} {ty : TypeId} (h : fn.results = #[.cell p ty, .tmp p1]) (tmps : Array Value) (d : TypeDesc)
  (ht : tmps.getD p undef = .pointer (some ⟨B, 0, none⟩)) (hu : P.underlying ty = some d) (hd : d.isRow = true) (hi : (P.info? ty).map (·.size) = some cs.size) : (Go.results fn tmps).run P w = .ok (.tuple #[.agg cs, tmps.getD p1 undef]) w := by
 have hp' : tmps[p]?.getD undef = .pointer (some ⟨B, 0, none⟩) := by simpa using ht
 have hld := run_loadVar_row (P := P) w B T ty cs (0, 0) d b.blk hu (by cases d <;> simp_all [TypeDesc.isRow]) hi
 simp [Go.results, h, hp', asAddr, hld]
def quot0 : Array Value := #[.bool false, .slice none 0 0, .bool false, .slice none 0 0]
def pen0 : Array Value := #[.bool false, .slice none 0 0, .bool false, .slice none 0 0, .bool false, .slice none 0 0, .bool false, .slice none 0 0]
theorem wpList_load_midG {P : Program} {ops : Array Oper} {rest : List Oper} {op : Oper} {a : Act} {w : World} {Q : Exit → Act → World → Prop} (hw : Region.wanted op (yielded ops a.tmps) = true) (ty : TypeId) (x : Operand) (ho : op.op = .load ty x)
  (b o : Nat) (hx : a.eval x = .pointer (some ⟨b, o, none⟩)) (cs : List Value) (d : TypeDesc) (hc : w.rangeAt b o cs)
  (hu : P.underlying ty = some d) (hd : d.isRow = true) (hi : (P.info? ty).map (·.size) = some cs.length)
  (h : wpList P ops Q rest (a.put op.dst (.agg cs.toArray)) w) : wpList P ops Q (op :: rest) a w :=
 wpList_step fun K hK => by
  simp only [hw, if_true]
  exact wp_load_mid ty x ho b o hx cs d hc hu hd hi (hK _ _ h)
structure Flm where
 ix : Int
 p : Int
 q : Int
deriving DecidableEq
def Flm.ok (f : Flm) : Prop := 10000000 ≤ f.ix ∧ f.ix ≤ 40000000 ∧ 0 ≤ f.p ∧ f.p ≤ 1000 ∧ 1 ≤ f.q ∧ f.q ≤ 1000
instance (f : Flm) : Decidable f.ok := by unfold Flm.ok; infer_instance
structure Mat where
 a : Rat
 b : Rat
 c : Rat
 d : Rat
theorem Mat.ext {x y : Mat} (h1 : x.a = y.a) (h2 : x.b = y.b) (h3 : x.c = y.c) (h4 : x.d = y.d) : x = y := by
 cases x; cases y; simp_all
def Mat.one : Mat := ⟨1, 0, 0, 1⟩
def Mat.mul (x y : Mat) : Mat := ⟨x.a * y.a - x.b * y.c, x.a * y.b + x.b * y.d, x.c * y.a + x.d * y.c, x.d * y.d - x.c * y.b⟩
theorem Mat.mul_assoc (x y z : Mat) : (x.mul y).mul z = x.mul (y.mul z) := by
 apply Mat.ext <;> simp only [Mat.mul] <;> grind
theorem Mat.one_mul (x : Mat) : Mat.one.mul x = x := by
 apply Mat.ext <;> simp only [Mat.mul, Mat.one] <;> grind
theorem Mat.mul_one (x : Mat) : x.mul Mat.one = x := by
 apply Mat.ext <;> simp only [Mat.mul, Mat.one] <;> grind
def Mat.det (x : Mat) : Rat := x.a * x.d + x.b * x.c
theorem Mat.det_mul (x y : Mat) : (x.mul y).det = x.det * y.det := by
 simp only [Mat.mul, Mat.det]; grind
def Flm.sq (f : Flm) : Int := f.q * f.q + f.p * f.p
def Flm.cos (f : Flm) : Rat := Rat.divInt (f.q * f.q - f.p * f.p) f.sq
def Flm.sin (f : Flm) : Rat := Rat.divInt (2 * f.p * f.q) f.sq
def idx (n : Int) : Rat := Rat.divInt n 10000000
def Flm.mat (f : Flm) : Mat := ⟨f.cos, f.sin / idx f.ix, idx f.ix * f.sin, f.cos⟩
theorem Flm.ok.sq_pos {f : Flm} (h : f.ok) : 1 ≤ f.sq := by
 obtain ⟨_, _, h1, _, h2, _⟩ := h
 have a := Int.mul_le_mul h2 h2 (by omega) (by omega)
 have b := Int.mul_nonneg h1 h1
 unfold Flm.sq; omega
theorem ratcast_ne {n : Int} (h : n ≠ 0) : (n : Rat) ≠ 0 := by
 intro e
 apply h
 exact Rat.intCast_inj.1 (by simpa using e)
theorem idx_ne {n : Int} (h : n ≠ 0) : idx n ≠ 0 := by
 unfold idx
 rw [Rat.divInt_eq_div]
 have := ratcast_ne h
 grind
theorem Flm.cs (f : Flm) (h : f.sq ≠ 0) : f.cos * f.cos + f.sin * f.sin = 1 := by
 unfold Flm.cos Flm.sin
 rw [Rat.divInt_eq_div, Rat.divInt_eq_div]
 have h0 := ratcast_ne h
 have e : ((f.sq : Int) : Rat) = (f.q : Rat) * f.q + f.p * f.p := by
  unfold Flm.sq; rw [Rat.intCast_add, Rat.intCast_mul, Rat.intCast_mul]
 have e1 : ((f.q * f.q - f.p * f.p : Int) : Rat) = (f.q : Rat) * f.q - f.p * f.p := by
  rw [Rat.intCast_sub, Rat.intCast_mul, Rat.intCast_mul]
 have e2 : ((2 * f.p * f.q : Int) : Rat) = 2 * (f.p : Rat) * f.q := by
  rw [Rat.intCast_mul, Rat.intCast_mul]; rfl
 rw [e1, e2]
 generalize ((f.sq : Int) : Rat) = s at *
 generalize (f.p : Rat) = p at *
 generalize (f.q : Rat) = q at *
 have : ((q * q - p * p) * (q * q - p * p) + (2 * p * q) * (2 * p * q)) = s * s := by rw [e]; grind
 grind
theorem Flm.ok.ne {f : Flm} (h : f.ok) : f.sq ≠ 0 ∧ f.ix ≠ 0 := by
 have := h.sq_pos
 have := h.1
 omega
theorem Flm.det {f : Flm} (h : f.ok) : f.mat.det = 1 := by
 have h1 := f.cs h.ne.1
 have h2 := idx_ne h.ne.2
 simp only [Flm.mat, Mat.det]
 generalize f.cos = c at *
 generalize f.sin = s at *
 generalize idx f.ix = n at *
 grind
def stackM (l : List Flm) : Mat := l.foldl (fun a f => a.mul f.mat) Mat.one
theorem fold_mul (l : List Flm) (x : Mat) : l.foldl (fun a f => a.mul f.mat) x = x.mul (stackM l) := by
 unfold stackM
 induction l generalizing x with
 | nil => simp [Mat.mul_one]
 | cons f l ih =>
   simp only [List.foldl_cons]
   rw [ih, ih (Mat.one.mul f.mat), Mat.one_mul, Mat.mul_assoc]
theorem stackM_nil : stackM [] = Mat.one := rfl
theorem stackM_cons (f : Flm) (l : List Flm) : stackM (f :: l) = f.mat.mul (stackM l) := by
 show l.foldl _ (Mat.one.mul f.mat) = _
 rw [fold_mul, Mat.one_mul]
theorem stackM_append (l m : List Flm) : stackM (l ++ m) = (stackM l).mul (stackM m) := by
 show (l ++ m).foldl _ Mat.one = _
 rw [List.foldl_append, fold_mul]
 rfl
theorem stackM_snoc (l : List Flm) (f : Flm) : stackM (l ++ [f]) = (stackM l).mul f.mat := by
 show (l ++ [f]).foldl _ Mat.one = _
 rw [List.foldl_append]; rfl
theorem stack_det {l : List Flm} (h : ∀ f ∈ l, f.ok) : (stackM l).det = 1 := by
 induction l with
 | nil => rw [stackM_nil]; simp only [Mat.one, Mat.det]; grind
 | cons f l ih =>
   rw [stackM_cons, Mat.det_mul, Flm.det (h f (by simp)), ih fun g hg => h g (by simp [hg])]
   grind
def Mat.turn (x : Mat) : Mat := ⟨x.d, x.b, x.c, x.a⟩
theorem Mat.turn_mul (x y : Mat) : (x.mul y).turn = y.turn.mul x.turn := by
 apply Mat.ext <;> simp only [Mat.mul, Mat.turn] <;> grind
theorem stack_reverse (l : List Flm) : stackM l.reverse = (stackM l).turn := by
 induction l with
 | nil => rfl
 | cons f l ih => rw [List.reverse_cons, stackM_append, ih, stackM_cons f [], stackM_nil, Mat.mul_one, stackM_cons, Mat.turn_mul]; rfl
def big (n m : Rat) (x : Mat) : Rat := (n * x.a + m * x.d) * (n * x.a + m * x.d) + (n * m * x.b + x.c) * (n * m * x.b + x.c)
def low (n m : Rat) (x : Mat) : Rat := (n * x.a - m * x.d) * (n * x.a - m * x.d) + (n * m * x.b - x.c) * (n * m * x.b - x.c)
def back (n m : Rat) (x : Mat) : Rat := low n m x / big n m x
def through (n m : Rat) (x : Mat) : Rat := 4 * (n * m) / big n m x
theorem rat_sq_nonneg (x : Rat) : 0 ≤ x * x := by
 rcases Rat.le_total (a := 0) (b := x) with h | h
 ·exact Rat.mul_nonneg h h
 ·have : 0 ≤ (-x) * (-x) := Rat.mul_nonneg (by grind) (by grind)
  grind
theorem low_nonneg (n m : Rat) (x : Mat) : 0 ≤ low n m x := by
 have h1 := rat_sq_nonneg (n * x.a - m * x.d)
 have h2 := rat_sq_nonneg (n * m * x.b - x.c)
 unfold low; grind
theorem big_low (n m : Rat) (x : Mat) (h : x.det = 1) : big n m x = low n m x + 4 * (n * m) := by
 unfold Mat.det at h
 have : 4 * (n * m) = 4 * (n * m) * (x.a * x.d + x.b * x.c) := by rw [h]; grind
 rw [this]
 unfold big low
 grind
theorem big_pos (n m : Rat) (x : Mat) (h : x.det = 1) (hn : 0 < n) (hm : 0 < m) : 0 < big n m x := by
 rw [big_low n m x h]
 have := low_nonneg n m x
 have := Rat.mul_pos hn hm
 grind
theorem sum_one (n m : Rat) (x : Mat) (h : x.det = 1) (hn : 0 < n) (hm : 0 < m) : back n m x + through n m x = 1 := by
 have h1 := big_pos n m x h hn hm
 have h2 := big_low n m x h
 unfold back through
 generalize big n m x = b at *
 generalize low n m x = l at *
 have h3 : b ≠ 0 := by grind
 have h4 : l / b + 4 * (n * m) / b = (l + 4 * (n * m)) / b := by grind
 rw [h4, ← h2]
 grind
theorem back_nonneg (n m : Rat) (x : Mat) (h : x.det = 1) (hn : 0 < n) (hm : 0 < m) : 0 ≤ back n m x := by
 have h1 := big_pos n m x h hn hm
 have h2 := low_nonneg n m x
 unfold back
 rw [Rat.div_def]
 exact Rat.mul_nonneg h2 (Rat.le_of_lt (Rat.inv_pos.2 h1))
theorem through_pos (n m : Rat) (x : Mat) (h : x.det = 1) (hn : 0 < n) (hm : 0 < m) : 0 < through n m x := by
 have h1 := big_pos n m x h hn hm
 have h2 := Rat.mul_pos hn hm
 unfold through
 rw [Rat.div_def]
 exact Rat.mul_pos (by grind) (Rat.inv_pos.2 h1)
theorem back_turn (n m : Rat) (x : Mat) : back m n x.turn = back n m x ∧ through m n x.turn = through n m x := by
 have h1 : big m n x.turn = big n m x := by unfold big Mat.turn; grind
 have h2 : low m n x.turn = low n m x := by unfold low Mat.turn; grind
 unfold back through
 rw [h1, h2]
 constructor
 ·rfl
 ·rw [show m * n = n * m by grind]
end Go.Mono
namespace Go.Proofs.YtcgfdibagldafaaGreatDoor
open Go.RowKit Go.Mono Go.Ex
def RdG (w : World) (p : Option Addr) (n c : Nat) (f : Nat → Int) : Prop :=
 n ≤ c ∧ n ≤ 140737488351232 ∧ (0 < n → ∃ b off, p = some ⟨b, off, none⟩ ∧ b < w.heap.size ∧ (∀ i, i < n → w.cell? ⟨b, off + i, none⟩ = some (.int .i64 (f i))))
theorem RdG.below {w w' : World} {p : Option Addr} {n c : Nat} {f : Nat → Int} (h : RdG w p n c f) (hB : Below w.heap.size w w') : RdG w' p n c f := by
 obtain ⟨h1, h2, h3⟩ := h
 refine ⟨h1, h2, fun hn => ?_⟩
 obtain ⟨b, off, hp, hb, hc⟩ := h3 hn
 exact ⟨b, off, hp, Nat.lt_of_lt_of_le hb hB.size, fun i hi => (hB.cell hb).trans (hc i hi)⟩
def OddL (w : World) (p : Option Addr) (n c : Nat) (f : Nat → Int) : Prop := RdG w p n c f ∧ (p = none → c = 0)
def clsU (k : Nat) (j : Nat) (n : Nat) : U :=
 match j with
 | 0 => .emp
 | 1 => .sli k 0 1
 | 2 => .sli k 0 2
 | _ => .slx k 0 3 n
def clsL (f : Nat → Int) : Nat → List U
 | 0 => []
 | 1 => [.sym (f 0)]
 | 2 => [.sym (f 0), .sym (f 1)]
 | _ => [.sym (f 0), .sym (f 1), .sym (f 2)]
def clsC (f : Nat → Int) : Nat → List Value
 | 0 => []
 | 1 => [.int .i64 (f 0)]
 | 2 => [.int .i64 (f 0), .int .i64 (f 1)]
 | _ => [.int .i64 (f 0), .int .i64 (f 1), .int .i64 (f 2)]
def cls (n : Nat) : Nat := if n ≤ 2 then n else 3
theorem clsL_den {D : Den} {ρ : Nm} {w : World} (f : Nat → Int) (j : Nat) : denL D ρ w (clsL f j) (clsC f j) := by
 match j with
 | 0 => exact rfl
 | 1 => exact ⟨[_], [], rfl, rfl, rfl⟩
 | 2 => exact ⟨[_], _, rfl, rfl, [_], [], rfl, rfl, rfl⟩
 | _ + 3 => exact ⟨[_], _, rfl, rfl, [_], _, rfl, rfl, [_], [], rfl, rfl, rfl⟩
theorem odd_view {w : World} {p : Option Addr} {n c : Nat} {f : Nat → Int} (h : OddL w p n c f) : ∃ b off, (0 < n → p = some ⟨b, off, none⟩ ∧ b < w.heap.size ∧ w.rangeAt b off (clsC f (cls n))) := by
 obtain ⟨⟨h1, h2, h3⟩, _⟩ := h
 by_cases hn : 0 < n
 ·obtain ⟨b, off, e, hb, hc⟩ := h3 hn
  refine ⟨b, off, fun _ => ⟨e, hb, fun j v hj => ?_⟩⟩
  have hlt : j < (clsC f (cls n)).length := (List.getElem?_eq_some_iff.1 hj).1
  have hj2 : j < n ∧ v = .int .i64 (f j) := by
   unfold cls at hj hlt
   split at hj
   ·rename_i h2
    rw [if_pos h2] at hlt
    rcases (by omega : n = 1 ∨ n = 2) with rfl | rfl
    ·simp only [clsC, List.length_cons, List.length_nil] at hlt
     obtain rfl : j = 0 := by omega
     exact ⟨by omega, by simpa [clsC] using hj.symm⟩
    ·simp only [clsC, List.length_cons, List.length_nil] at hlt
     rcases (by omega : j = 0 ∨ j = 1) with rfl | rfl
     ·exact ⟨by omega, by simpa [clsC] using hj.symm⟩
     ·exact ⟨by omega, by simpa [clsC] using hj.symm⟩
   ·rename_i h2
    rw [if_neg h2] at hlt
    simp only [clsC, List.length_cons, List.length_nil] at hlt
    rcases (by omega : j = 0 ∨ j = 1 ∨ j = 2) with rfl | rfl | rfl
    ·exact ⟨by omega, by simpa [clsC] using hj.symm⟩
    ·exact ⟨by omega, by simpa [clsC] using hj.symm⟩
    ·exact ⟨by omega, by simpa [clsC] using hj.symm⟩
  rw [hj2.2]
  exact hc j hj2.1
 ·exact ⟨0, 0, fun h => absurd h hn⟩
end Go.Proofs.YtcgfdibagldafaaGreatDoor
