/- Contracts of the program's fractions, lenses and rays, and a verified evaluator of the model. Part 12 of 30. No condition beside the row. -/
import Derived.Test.YtcgfdibagldafaaGreatDoorA09
import Derived.Test.YtcgfdibagldafaaGreatDoorA10
set_option linter.unusedVariables false
set_option linter.unusedSimpArgs false
set_option maxRecDepth 100000
set_option maxHeartbeats 4000000
namespace Go.Proofs.YtcgfdibagldafaaGreatDoor
open Go.RowKit Go.Mono
theorem both_sum (a b : Rat) (u v : Value) (w : World) (ha : QV w u a) (hb : QV w v b) (hf : Fits (a + b)) :
  Calls Tryz.prog 48 #[u, v, .func (.func 50) #[] #[]] w fun e w' => ∃ r, e = .returned (.tuple #[r, .int .i64 0]) ∧ QV w' r (a + b) ∧ Below w.heap.size w w' := by
 obtain ⟨hf1, hf2⟩ := hf
 have ha' := ha
 have hb' := hb
 obtain ⟨p1, k1, c1, q1, l1, d1, rfl, x1, x2⟩ := ha
 obtain ⟨p2, k2, c2, q2, l2, d2, rfl, y1, y2⟩ := hb
 go_enter Tryz.func48, Tryz.ntmps48
 go_wp2_with fail
 refine boxes4c fun W hB hs b0 b1 b2 b3 => ?_
 replace ha' := ha'.ext (.of_below hB)
 replace hb' := hb'.ext (.of_below hB)
 refine (all2_ok a b _ _ _ _ p1 q1 p2 q2 k1 c1 l1 d1 k2 c2 l2 d2 _ _ b3 ha' hb').mono ?_
 rintro e W1 ⟨rfl, hb1⟩
 replace hB := belowCall hB hb1
 replace ha' := ha'.ext (.of_below hb1)
 replace hb' := hb'.ext (.of_below hb1)
 replace b0 := b0.below hb1
 try clear cb0 lb0 fb0
 have cb0 := b0.cell
 have lb0 := b0.lt
 have fb0 := b0.frozen
 replace b1 := b1.below hb1
 try clear cb1 lb1 fb1
 have cb1 := b1.cell
 have lb1 := b1.lt
 have fb1 := b1.frozen
 replace b2 := b2.below hb1
 try clear cb2 lb2 fb2
 have cb2 := b2.cell
 have lb2 := b2.lt
 have fb2 := b2.frozen
 have xW := Ext.of_below hB
 have n0 : w.heap.size ≠ w.heap.size + 1 + 1 := by omega
 have n1 : w.heap.size + 1 ≠ w.heap.size + 1 + 1 := by omega
 have K0 := KeepBut.refl (w.heap.size + 1 + 1) W1
 go_wp2_with fail
 have ra : RatV 600 W1 (.agg #[.bool (decide (a.num < 0)), .slice p1 k1 c1, .slice q1 l1 d1]) a := ⟨_, _, _, _, _, _, _, rfl, Sg.self _, x1.ext xW, x2.ext xW⟩
 have rb : RatV 600 W1 (.agg #[.bool (decide (b.num < 0)), .slice p2 k2 c2, .slice q2 l2 d2]) b := ⟨_, _, _, _, _, _, _, rfl, Sg.self _, y1.ext xW, y2.ext xW⟩
 have bR := b2
 clear ha' hb' x1 x2 y1 y2 xW hb1 hs
 go_region_held3 (fun w' => (∀ b o, b < W1.heap.size → b ≠ (w.heap.size + 1 + 1) → w'.cell? ⟨b, o, none⟩ = W1.cell? ⟨b, o, none⟩) ∧ KeepBut (w.heap.size + 1 + 1) W1.heap.size W1 w') ((refine KeepBut.S ?_; first | exact K0.drew | (repeat' (first | exact And.right ‹_› | exact KeepBut.call (And.right ‹_›) ‹_› | refine KeepBut.set ?_ _ _ | refine KeepBut.alloc ?_ _)))) (first | (go_at_call 99; (with_reducible refine (read_any (decide (a.num < 0)) false p1 q1 k1 c1 l1 d1 _).mono ?_); rintro e W5 ⟨rfl, hb5⟩; (first | replace bR := bR.below hb5 | replace bR := bR.drew.below hb5); have cbR := bR.cell; have fbR := bR.frozen) | (go_at_call 99; (with_reducible refine (read_any (decide (b.num < 0)) false p2 q2 k2 c2 l2 d2 _).mono ?_); rintro e W5 ⟨rfl, hb5⟩; (first | replace bR := bR.below hb5 | replace bR := bR.drew.below hb5); have cbR := bR.cell; have fbR := bR.frozen) | (go_at_call 50; (with_reducible refine (sum_rat 600 a b _ _ _ W1 (KeepBut.ext (And.right ‹_›) b2 (by decide)) ra rb (by omega)).mono ?_); rintro e W6 ⟨r, rfl, ⟨s6, p6, k6, c6, q6, l6, d6, rfl, g6, z6, y6⟩, hb6⟩; replace bR := bR.below hb6) | (go_at_call 100; (with_reducible refine (told_ok 600 s6 p6 q6 k6 c6 l6 d6 _ _ _ (Ext.refl _) g6 (z6.tight hf1) (y6.tight hf2) (by omega)).mono ?_); rintro e W7 ⟨p7, k7, c7, q7, l7, d7, rfl, z7, y7, hb7⟩; replace bR := bR.below hb7; have cbR := bR.cell; have fbR := bR.frozen))
 all_goals
  go_wp2
  have b3' := ((((bR.set 0 (.bool (decide ((a + b).num < 0)))).set 1 (.slice p7 k7 c7)).set 2 (.bool false)).set 3 (.slice q7 l7 d7)).cell
  have xE : Ext W7 _ := (((((Ext.refl W7).set bR (by decide) 0 (.bool (decide ((a + b).num < 0)))).set (bR.set 0 (.bool (decide ((a + b).num < 0)))) (by decide) 1 (.slice p7 k7 c7))).set ((bR.set 0 (.bool (decide ((a + b).num < 0)))).set 1 (.slice p7 k7 c7)) (by decide) 2 (.bool false)).set (((bR.set 0 (.bool (decide ((a + b).num < 0)))).set 1 (.slice p7 k7 c7)).set 2 (.bool false)) (by decide) 3 (.slice q7 l7 d7)
  refine bodyPost_ret (v := .tuple #[.agg #[.bool (decide ((a + b).num < 0)), .slice p7 k7 c7, .bool false, .slice q7 l7 d7], .int .i64 0]) (by simp [results, Tryz.results48, go_sem, b3']) rfl ⟨_, rfl, ⟨_, _, _, _, _, _, rfl, z7.ext xE, y7.ext xE⟩, ?_⟩
  exact KeepBut.below (And.right ‹_›) hB (by omega) hB.size
theorem both_diff (a b : Rat) (u v : Value) (w : World) (ha : QV w u a) (hb : QV w v b) (hf : Fits (a - b)) :
  Calls Tryz.prog 48 #[u, v, .func (.func 96) #[] #[]] w fun e w' => ∃ r, e = .returned (.tuple #[r, .int .i64 0]) ∧ QV w' r (a - b) ∧ Below w.heap.size w w' := by
 obtain ⟨hf1, hf2⟩ := hf
 have ha' := ha
 have hb' := hb
 obtain ⟨p1, k1, c1, q1, l1, d1, rfl, x1, x2⟩ := ha
 obtain ⟨p2, k2, c2, q2, l2, d2, rfl, y1, y2⟩ := hb
 go_enter Tryz.func48, Tryz.ntmps48
 go_wp2_with fail
 refine boxes4c fun W hB hs b0 b1 b2 b3 => ?_
 replace ha' := ha'.ext (.of_below hB)
 replace hb' := hb'.ext (.of_below hB)
 refine (all2_ok a b _ _ _ _ p1 q1 p2 q2 k1 c1 l1 d1 k2 c2 l2 d2 _ _ b3 ha' hb').mono ?_
 rintro e W1 ⟨rfl, hb1⟩
 replace hB := belowCall hB hb1
 replace ha' := ha'.ext (.of_below hb1)
 replace hb' := hb'.ext (.of_below hb1)
 replace b0 := b0.below hb1
 try clear cb0 lb0 fb0
 have cb0 := b0.cell
 have lb0 := b0.lt
 have fb0 := b0.frozen
 replace b1 := b1.below hb1
 try clear cb1 lb1 fb1
 have cb1 := b1.cell
 have lb1 := b1.lt
 have fb1 := b1.frozen
 replace b2 := b2.below hb1
 try clear cb2 lb2 fb2
 have cb2 := b2.cell
 have lb2 := b2.lt
 have fb2 := b2.frozen
 have xW := Ext.of_below hB
 have n0 : w.heap.size ≠ w.heap.size + 1 + 1 := by omega
 have n1 : w.heap.size + 1 ≠ w.heap.size + 1 + 1 := by omega
 have K0 := KeepBut.refl (w.heap.size + 1 + 1) W1
 go_wp2_with fail
 have ra : RatV 600 W1 (.agg #[.bool (decide (a.num < 0)), .slice p1 k1 c1, .slice q1 l1 d1]) a := ⟨_, _, _, _, _, _, _, rfl, Sg.self _, x1.ext xW, x2.ext xW⟩
 have rb : RatV 600 W1 (.agg #[.bool (decide (b.num < 0)), .slice p2 k2 c2, .slice q2 l2 d2]) b := ⟨_, _, _, _, _, _, _, rfl, Sg.self _, y1.ext xW, y2.ext xW⟩
 have bR := b2
 clear ha' hb' x1 x2 y1 y2 xW hb1 hs
 go_region_held3 (fun w' => (∀ b o, b < W1.heap.size → b ≠ (w.heap.size + 1 + 1) → w'.cell? ⟨b, o, none⟩ = W1.cell? ⟨b, o, none⟩) ∧ KeepBut (w.heap.size + 1 + 1) W1.heap.size W1 w') ((refine KeepBut.S ?_; first | exact K0.drew | (repeat' (first | exact And.right ‹_› | exact KeepBut.call (And.right ‹_›) ‹_› | refine KeepBut.set ?_ _ _ | refine KeepBut.alloc ?_ _)))) (first | (go_at_call 99; (with_reducible refine (read_any (decide (a.num < 0)) false p1 q1 k1 c1 l1 d1 _).mono ?_); rintro e W5 ⟨rfl, hb5⟩; (first | replace bR := bR.below hb5 | replace bR := bR.drew.below hb5); have cbR := bR.cell; have fbR := bR.frozen) | (go_at_call 99; (with_reducible refine (read_any (decide (b.num < 0)) false p2 q2 k2 c2 l2 d2 _).mono ?_); rintro e W5 ⟨rfl, hb5⟩; (first | replace bR := bR.below hb5 | replace bR := bR.drew.below hb5); have cbR := bR.cell; have fbR := bR.frozen) | (go_at_call 96; (with_reducible refine (diff_rat 600 a b _ _ _ W1 (KeepBut.ext (And.right ‹_›) b2 (by decide)) ra rb (by omega)).mono ?_); rintro e W6 ⟨r, rfl, ⟨s6, p6, k6, c6, q6, l6, d6, rfl, g6, z6, y6⟩, hb6⟩; replace bR := bR.below hb6) | (go_at_call 100; (with_reducible refine (told_ok 600 s6 p6 q6 k6 c6 l6 d6 _ _ _ (Ext.refl _) g6 (z6.tight hf1) (y6.tight hf2) (by omega)).mono ?_); rintro e W7 ⟨p7, k7, c7, q7, l7, d7, rfl, z7, y7, hb7⟩; replace bR := bR.below hb7; have cbR := bR.cell; have fbR := bR.frozen))
 all_goals
  go_wp2
  have b3' := ((((bR.set 0 (.bool (decide ((a - b).num < 0)))).set 1 (.slice p7 k7 c7)).set 2 (.bool false)).set 3 (.slice q7 l7 d7)).cell
  have xE : Ext W7 _ := (((((Ext.refl W7).set bR (by decide) 0 (.bool (decide ((a - b).num < 0)))).set (bR.set 0 (.bool (decide ((a - b).num < 0)))) (by decide) 1 (.slice p7 k7 c7))).set ((bR.set 0 (.bool (decide ((a - b).num < 0)))).set 1 (.slice p7 k7 c7)) (by decide) 2 (.bool false)).set (((bR.set 0 (.bool (decide ((a - b).num < 0)))).set 1 (.slice p7 k7 c7)).set 2 (.bool false)) (by decide) 3 (.slice q7 l7 d7)
  refine bodyPost_ret (v := .tuple #[.agg #[.bool (decide ((a - b).num < 0)), .slice p7 k7 c7, .bool false, .slice q7 l7 d7], .int .i64 0]) (by simp [results, Tryz.results48, go_sem, b3']) rfl ⟨_, rfl, ⟨_, _, _, _, _, _, rfl, z7.ext xE, y7.ext xE⟩, ?_⟩
  exact KeepBut.below (And.right ‹_›) hB (by omega) hB.size
theorem both_prod (a b : Rat) (u v : Value) (w : World) (ha : QV w u a) (hb : QV w v b) (hf : Fits (a * b)) :
  Calls Tryz.prog 48 #[u, v, .func (.func 49) #[] #[]] w fun e w' => ∃ r, e = .returned (.tuple #[r, .int .i64 0]) ∧ QV w' r (a * b) ∧ Below w.heap.size w w' := by
 obtain ⟨hf1, hf2⟩ := hf
 have ha' := ha
 have hb' := hb
 obtain ⟨p1, k1, c1, q1, l1, d1, rfl, x1, x2⟩ := ha
 obtain ⟨p2, k2, c2, q2, l2, d2, rfl, y1, y2⟩ := hb
 go_enter Tryz.func48, Tryz.ntmps48
 go_wp2_with fail
 refine boxes4c fun W hB hs b0 b1 b2 b3 => ?_
 replace ha' := ha'.ext (.of_below hB)
 replace hb' := hb'.ext (.of_below hB)
 refine (all2_ok a b _ _ _ _ p1 q1 p2 q2 k1 c1 l1 d1 k2 c2 l2 d2 _ _ b3 ha' hb').mono ?_
 rintro e W1 ⟨rfl, hb1⟩
 replace hB := belowCall hB hb1
 replace ha' := ha'.ext (.of_below hb1)
 replace hb' := hb'.ext (.of_below hb1)
 replace b0 := b0.below hb1
 try clear cb0 lb0 fb0
 have cb0 := b0.cell
 have lb0 := b0.lt
 have fb0 := b0.frozen
 replace b1 := b1.below hb1
 try clear cb1 lb1 fb1
 have cb1 := b1.cell
 have lb1 := b1.lt
 have fb1 := b1.frozen
 replace b2 := b2.below hb1
 try clear cb2 lb2 fb2
 have cb2 := b2.cell
 have lb2 := b2.lt
 have fb2 := b2.frozen
 have xW := Ext.of_below hB
 have n0 : w.heap.size ≠ w.heap.size + 1 + 1 := by omega
 have n1 : w.heap.size + 1 ≠ w.heap.size + 1 + 1 := by omega
 have K0 := KeepBut.refl (w.heap.size + 1 + 1) W1
 go_wp2_with fail
 have ra : RatV 600 W1 (.agg #[.bool (decide (a.num < 0)), .slice p1 k1 c1, .slice q1 l1 d1]) a := ⟨_, _, _, _, _, _, _, rfl, Sg.self _, x1.ext xW, x2.ext xW⟩
 have rb : RatV 600 W1 (.agg #[.bool (decide (b.num < 0)), .slice p2 k2 c2, .slice q2 l2 d2]) b := ⟨_, _, _, _, _, _, _, rfl, Sg.self _, y1.ext xW, y2.ext xW⟩
 have bR := b2
 clear ha' hb' x1 x2 y1 y2 xW hb1 hs
 go_region_held3 (fun w' => (∀ b o, b < W1.heap.size → b ≠ (w.heap.size + 1 + 1) → w'.cell? ⟨b, o, none⟩ = W1.cell? ⟨b, o, none⟩) ∧ KeepBut (w.heap.size + 1 + 1) W1.heap.size W1 w') ((refine KeepBut.S ?_; first | exact K0.drew | (repeat' (first | exact And.right ‹_› | exact KeepBut.call (And.right ‹_›) ‹_› | refine KeepBut.set ?_ _ _ | refine KeepBut.alloc ?_ _)))) (first | (go_at_call 99; (with_reducible refine (read_any (decide (a.num < 0)) false p1 q1 k1 c1 l1 d1 _).mono ?_); rintro e W5 ⟨rfl, hb5⟩; (first | replace bR := bR.below hb5 | replace bR := bR.drew.below hb5); have cbR := bR.cell; have fbR := bR.frozen) | (go_at_call 99; (with_reducible refine (read_any (decide (b.num < 0)) false p2 q2 k2 c2 l2 d2 _).mono ?_); rintro e W5 ⟨rfl, hb5⟩; (first | replace bR := bR.below hb5 | replace bR := bR.drew.below hb5); have cbR := bR.cell; have fbR := bR.frozen) | (go_at_call 49; (with_reducible refine (prod_rat 600 a b _ _ _ W1 (KeepBut.ext (And.right ‹_›) b2 (by decide)) ra rb (by omega)).mono ?_); rintro e W6 ⟨r, rfl, ⟨s6, p6, k6, c6, q6, l6, d6, rfl, g6, z6, y6⟩, hb6⟩; replace bR := bR.below hb6) | (go_at_call 100; (with_reducible refine (told_ok 600 s6 p6 q6 k6 c6 l6 d6 _ _ _ (Ext.refl _) g6 (z6.tight hf1) (y6.tight hf2) (by omega)).mono ?_); rintro e W7 ⟨p7, k7, c7, q7, l7, d7, rfl, z7, y7, hb7⟩; replace bR := bR.below hb7; have cbR := bR.cell; have fbR := bR.frozen))
 all_goals
  go_wp2
  have b3' := ((((bR.set 0 (.bool (decide ((a * b).num < 0)))).set 1 (.slice p7 k7 c7)).set 2 (.bool false)).set 3 (.slice q7 l7 d7)).cell
  have xE : Ext W7 _ := (((((Ext.refl W7).set bR (by decide) 0 (.bool (decide ((a * b).num < 0)))).set (bR.set 0 (.bool (decide ((a * b).num < 0)))) (by decide) 1 (.slice p7 k7 c7))).set ((bR.set 0 (.bool (decide ((a * b).num < 0)))).set 1 (.slice p7 k7 c7)) (by decide) 2 (.bool false)).set (((bR.set 0 (.bool (decide ((a * b).num < 0)))).set 1 (.slice p7 k7 c7)).set 2 (.bool false)) (by decide) 3 (.slice q7 l7 d7)
  refine bodyPost_ret (v := .tuple #[.agg #[.bool (decide ((a * b).num < 0)), .slice p7 k7 c7, .bool false, .slice q7 l7 d7], .int .i64 0]) (by simp [results, Tryz.results48, go_sem, b3']) rfl ⟨_, rfl, ⟨_, _, _, _, _, _, rfl, z7.ext xE, y7.ext xE⟩, ?_⟩
  exact KeepBut.below (And.right ‹_›) hB (by omega) hB.size
theorem both_quo (a b : Rat) (u v : Value) (w : World) (ha : QV w u a) (hb : QV w v b) (h0 : b.num ≠ 0) (hf : Fits (a / b)) :
  Calls Tryz.prog 48 #[u, v, .func (.func 111) #[] #[]] w fun e w' => ∃ r, e = .returned (.tuple #[r, .int .i64 0]) ∧ QV w' r (a / b) ∧ Below w.heap.size w w' := by
 obtain ⟨hf1, hf2⟩ := hf
 have ha' := ha
 have hb' := hb
 obtain ⟨p1, k1, c1, q1, l1, d1, rfl, x1, x2⟩ := ha
 obtain ⟨p2, k2, c2, q2, l2, d2, rfl, y1, y2⟩ := hb
 go_enter Tryz.func48, Tryz.ntmps48
 go_wp2_with fail
 refine boxes4c fun W hB hs b0 b1 b2 b3 => ?_
 replace ha' := ha'.ext (.of_below hB)
 replace hb' := hb'.ext (.of_below hB)
 refine (all2_ok a b _ _ _ _ p1 q1 p2 q2 k1 c1 l1 d1 k2 c2 l2 d2 _ _ b3 ha' hb').mono ?_
 rintro e W1 ⟨rfl, hb1⟩
 replace hB := belowCall hB hb1
 replace ha' := ha'.ext (.of_below hb1)
 replace hb' := hb'.ext (.of_below hb1)
 replace b0 := b0.below hb1
 try clear cb0 lb0 fb0
 have cb0 := b0.cell
 have lb0 := b0.lt
 have fb0 := b0.frozen
 replace b1 := b1.below hb1
 try clear cb1 lb1 fb1
 have cb1 := b1.cell
 have lb1 := b1.lt
 have fb1 := b1.frozen
 replace b2 := b2.below hb1
 try clear cb2 lb2 fb2
 have cb2 := b2.cell
 have lb2 := b2.lt
 have fb2 := b2.frozen
 have xW := Ext.of_below hB
 have n0 : w.heap.size ≠ w.heap.size + 1 + 1 := by omega
 have n1 : w.heap.size + 1 ≠ w.heap.size + 1 + 1 := by omega
 have K0 := KeepBut.refl (w.heap.size + 1 + 1) W1
 go_wp2_with fail
 have ra : RatV 600 W1 (.agg #[.bool (decide (a.num < 0)), .slice p1 k1 c1, .slice q1 l1 d1]) a := ⟨_, _, _, _, _, _, _, rfl, Sg.self _, x1.ext xW, x2.ext xW⟩
 have rb : RatV 600 W1 (.agg #[.bool (decide (b.num < 0)), .slice p2 k2 c2, .slice q2 l2 d2]) b := ⟨_, _, _, _, _, _, _, rfl, Sg.self _, y1.ext xW, y2.ext xW⟩
 have bR := b2
 clear ha' hb' x1 x2 y1 y2 xW hb1 hs
 go_region_held3 (fun w' => (∀ b o, b < W1.heap.size → b ≠ (w.heap.size + 1 + 1) → w'.cell? ⟨b, o, none⟩ = W1.cell? ⟨b, o, none⟩) ∧ KeepBut (w.heap.size + 1 + 1) W1.heap.size W1 w') ((refine KeepBut.S ?_; first | exact K0.drew | (repeat' (first | exact And.right ‹_› | exact KeepBut.call (And.right ‹_›) ‹_› | refine KeepBut.set ?_ _ _ | refine KeepBut.alloc ?_ _)))) (first | (go_at_call 99; (with_reducible refine (read_any (decide (a.num < 0)) false p1 q1 k1 c1 l1 d1 _).mono ?_); rintro e W5 ⟨rfl, hb5⟩; (first | replace bR := bR.below hb5 | replace bR := bR.drew.below hb5); have cbR := bR.cell; have fbR := bR.frozen) | (go_at_call 99; (with_reducible refine (read_any (decide (b.num < 0)) false p2 q2 k2 c2 l2 d2 _).mono ?_); rintro e W5 ⟨rfl, hb5⟩; (first | replace bR := bR.below hb5 | replace bR := bR.drew.below hb5); have cbR := bR.cell; have fbR := bR.frozen) | (go_at_call 111; (with_reducible refine (quo_rat 600 a b _ _ _ W1 (KeepBut.ext (And.right ‹_›) b2 (by decide)) ra rb h0 (by omega)).mono ?_); rintro e W6 ⟨r, rfl, ⟨s6, p6, k6, c6, q6, l6, d6, rfl, g6, z6, y6⟩, hb6⟩; replace bR := bR.below hb6) | (go_at_call 100; (with_reducible refine (told_ok 600 s6 p6 q6 k6 c6 l6 d6 _ _ _ (Ext.refl _) g6 (z6.tight hf1) (y6.tight hf2) (by omega)).mono ?_); rintro e W7 ⟨p7, k7, c7, q7, l7, d7, rfl, z7, y7, hb7⟩; replace bR := bR.below hb7; have cbR := bR.cell; have fbR := bR.frozen))
 all_goals
  go_wp2
  have b3' := ((((bR.set 0 (.bool (decide ((a / b).num < 0)))).set 1 (.slice p7 k7 c7)).set 2 (.bool false)).set 3 (.slice q7 l7 d7)).cell
  have xE : Ext W7 _ := (((((Ext.refl W7).set bR (by decide) 0 (.bool (decide ((a / b).num < 0)))).set (bR.set 0 (.bool (decide ((a / b).num < 0)))) (by decide) 1 (.slice p7 k7 c7))).set ((bR.set 0 (.bool (decide ((a / b).num < 0)))).set 1 (.slice p7 k7 c7)) (by decide) 2 (.bool false)).set (((bR.set 0 (.bool (decide ((a / b).num < 0)))).set 1 (.slice p7 k7 c7)).set 2 (.bool false)) (by decide) 3 (.slice q7 l7 d7)
  refine bodyPost_ret (v := .tuple #[.agg #[.bool (decide ((a / b).num < 0)), .slice p7 k7 c7, .bool false, .slice q7 l7 d7], .int .i64 0]) (by simp [results, Tryz.results48, go_sem, b3']) rfl ⟨_, rfl, ⟨_, _, _, _, _, _, rfl, z7.ext xE, y7.ext xE⟩, ?_⟩
  exact KeepBut.below (And.right ‹_›) hB (by omega) hB.size
end Go.Proofs.YtcgfdibagldafaaGreatDoor
