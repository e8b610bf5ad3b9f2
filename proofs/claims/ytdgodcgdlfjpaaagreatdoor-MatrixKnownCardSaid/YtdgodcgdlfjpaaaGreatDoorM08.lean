/- The law MatrixKnown: the examples of the ray transfer matrices, afocal lenses, mirrors and the order of errors; its walk by a verified evaluator of the model, and its card. Part 8 of 36. No condition beside the row. -/
import Derived.Deep.DeepCutAuto
import Derived.Test.YtdgodcgdlfjpaaaGreatDoorM06
import Derived.Test.YtdgodcgdlfjpaaaGreatDoorM07
set_option linter.unusedVariables false
set_option linter.unusedSimpArgs false
set_option maxRecDepth 100000
set_option maxHeartbeats 4000000
namespace Go.Mono
theorem gcdZ_den (a b : Rat) : gcdZ (a.den : Int) (b.den : Int) = ((a.den.gcd b.den : Nat) : Int) := by simp [gcdZ]
theorem den_gcd_pos (a b : Rat) : 0 < ((a.den.gcd b.den : Nat) : Int) := by
 have := Nat.gcd_pos_of_pos_left b.den (Nat.pos_of_ne_zero a.den_nz); omega
end Go.Mono
namespace Go.Proofs.YtdgodcgdlfjpaaaGreatDoor
open Go.RowKit Go.Mono
theorem sum_sz (s1 s2 : Bool) (p1 q1 p2 q2 : Option Addr) (k1 c1 l1 e1 k2 c2 l2 e2 m : Nat) (a b : Rat) (w wf : World) (hx : Ext wf w)
  (g1 : Sg s1 a.num) (g2 : Sg s2 b.num) (z1 : Sz m wf (.slice p1 k1 c1) a.num.natAbs) (y1 : Sz m wf (.slice q1 l1 e1) a.den) (z2 : Sz m wf (.slice p2 k2 c2) b.num.natAbs) (y2 : Sz m wf (.slice q2 l2 e2) b.den) (hm : m ≤ 100000) :
  Calls Tryz.prog 96 #[.agg #[.bool s1, .slice p1 k1 c1, .slice q1 l1 e1], .agg #[.bool s2, .slice p2 k2 c2, .slice q2 l2 e2]] w fun e w' => ∃ s p n c q l d, e = .returned (.agg #[.bool s, .slice p n c, .slice q l d]) ∧ Sg s (a + b).num ∧ Sz (3 * m + 1) w' (.slice p n c) (a + b).num.natAbs ∧ Sz (3 * m + 1) w' (.slice q l d) (a + b).den ∧ Below w.heap.size w w' := by
 replace z1 := z1.ext hx
 replace z2 := z2.ext hx
 replace y1 := y1.ext hx
 replace y2 := y2.ext hx
 have hG := den_gcd_pos a b
 have hGe := gcdZ_den a b
 clear hx
 go_enter Tryz.func96, Tryz.ntmps96
 go_wp2_with fail
 refine boxes3c fun W hB hs b0 b1 b2 => ?_
 have x0 := Ext.of_below hB
 refine (common_sz m W w x0 q1 q2 l1 l2 e1 e2 _ _ y1 y2 (by omega)).mono ?_
 rintro e W1 ⟨pg, kg, cg, rfl, zg, hb⟩
 rw [hGe] at zg
 have x1 := x0.below hb
 replace hB := belowCall hB hb
 replace z1 := z1.ext x0
 replace z2 := z2.ext x0
 replace y1 := y1.ext x0
 replace y2 := y2.ext x0
 replace z1 := z1.ext (.of_below hb)
 replace z2 := z2.ext (.of_below hb)
 replace y1 := y1.ext (.of_below hb)
 replace y2 := y2.ext (.of_below hb)
 replace b0 := b0.below hb
 try clear cb0 lb0 fb0
 have cb0 := b0.cell
 have lb0 := b0.lt
 have fb0 := b0.frozen
 replace b1 := b1.below hb
 try clear cb1 lb1 fb1
 have cb1 := b1.cell
 have lb1 := b1.lt
 have fb1 := b1.frozen
 replace b2 := b2.below hb
 try clear cb2 lb2 fb2
 have cb2 := b2.cell
 have lb2 := b2.lt
 have fb2 := b2.frozen
 clear x0 x1 hb hGe
 go_wp2_with fail
 go_region_held3 (fun w' => (∀ b o, b < W1.heap.size → w'.cell? ⟨b, o, none⟩ = W1.cell? ⟨b, o, none⟩) ∧ Below W1.heap.size W1 w') ((refine belowS ?_; first | exact (Below.refl _ _).drew | (repeat' (first | exact And.right ‹_› | exact belowCall (And.right ‹_›) ‹_› | exact belowAlloc (And.right ‹_›) _ | exact belowAlloc ‹_› _ | refine belowSet ?_ (by omega) _ _)))) (first | (go_at_call 166; (with_reducible refine (without_sz m _ W1 (.of_below (And.right ‹_›)) q1 pg l1 kg e1 cg _ _ y1 zg hG (by omega)).mono ?_); rintro e W2 ⟨px, kx, cx, rfl, zx, hb2⟩) | (go_at_call 166; (with_reducible refine (without_sz m _ W1 (.of_below (And.right ‹_›)) q2 pg l2 kg e2 cg _ _ y2 zg hG (by omega)).mono ?_); rintro e W3 ⟨py, ky, cy, rfl, zy, hb3⟩; replace zx := zx.ext (.of_below hb3)))
 have hb : Below W1.heap.size W1 W3 := And.right ‹_›
 replace hB := belowCall hB hb
 replace z1 := z1.ext (.of_below hb)
 replace z2 := z2.ext (.of_below hb)
 replace y1 := y1.ext (.of_below hb)
 replace y2 := y2.ext (.of_below hb)
 replace zg := zg.ext (.of_below hb)
 replace b0 := b0.below hb
 try clear cb0 lb0 fb0
 have cb0 := b0.cell
 have lb0 := b0.lt
 have fb0 := b0.frozen
 replace b1 := b1.below hb
 try clear cb1 lb1 fb1
 have cb1 := b1.cell
 have lb1 := b1.lt
 have fb1 := b1.frozen
 replace b2 := b2.below hb
 try clear cb2 lb2 fb2
 have cb2 := b2.cell
 have lb2 := b2.lt
 have fb2 := b2.frozen
 clear hb hb2 hb3
 have Y0 : 0 ≤ (b.den : Int) / ((a.den.gcd b.den : Nat) : Int) := Int.ediv_nonneg (by omega) (by omega)
 have X0 : 0 ≤ (a.den : Int) / ((a.den.gcd b.den : Nat) : Int) := Int.ediv_nonneg (by omega) (by omega)
 have E4 := natAbs_mul_pos (z := a.num) Y0
 have E5 := natAbs_mul_pos (z := b.num) X0
 have G1 := g1.mul Y0
 have G2 := g2.mul X0
 replace E4 := Lib.hid E4
 replace E5 := Lib.hid E5
 go_wp2_with fail
 go_cut [8] (fun s8 wx => ∃ B3 s p n c, s8 = .pointer (some ⟨B3, 0, none⟩) ∧ Box wx B3 149 #[.bool s, .slice p n c] ∧ W3.heap.size ≤ B3 ∧ Below W3.heap.size W3 wx ∧ Sg s (a.num * (((b.den : Int) / (a.den.gcd b.den : Nat))) + b.num * ((a.den : Int) / (a.den.gcd b.den : Nat))) ∧ Sz (2 * m + 1) wx (.slice p n c) (a.num * (((b.den : Int) / (a.den.gcd b.den : Nat))) + b.num * ((a.den : Int) / (a.den.gcd b.den : Nat))).natAbs)
 case first =>
  go_region_held3 (fun w' => (∀ b o, b < W3.heap.size → w'.cell? ⟨b, o, none⟩ = W3.cell? ⟨b, o, none⟩) ∧ Below W3.heap.size W3 w') ((refine belowS ?_; first | exact (Below.refl _ _).drew | (repeat' (first | exact And.right ‹_› | exact belowCall (And.right ‹_›) ‹_› | exact belowAlloc (And.right ‹_›) _ | exact belowAlloc ‹_› _ | refine belowSet ?_ (by omega) _ _)))) (first | (go_at_call 81; (with_reducible refine (wtimes_sz s1 p1 py k1 c1 ky cy m m _ _ _ W3 (.of_below (And.right ‹_›)) z1 zy (by omega) (by omega)).mono ?_); rintro e W4 ⟨p4, k4, c4, rfl, z4, hb4⟩; (have hzhb4 := belowCall (And.right ‹_›) hb4); (have hshb4 := hzhb4.size); (first | (replace bn := bn.below hb4; clear cbn fbn lbn; have cbn := bn.cell; have fbn := bn.frozen; have lbn := bn.lt) | (have bn := (Box.new _ 149 _).below hb4; have cbn := bn.cell; have fbn := bn.frozen; have lbn := bn.lt) | (have bn := (Box.new _ 149 _).drew.below hb4; have cbn := bn.cell; have fbn := bn.frozen; have lbn := bn.lt) | skip)) | (go_at_call 81; (with_reducible refine (wtimes_sz s2 p2 px k2 c2 kx cx m m _ _ _ W3 (.of_below (And.right ‹_›)) z2 zx (by omega) (by omega)).mono ?_); rintro e W5 ⟨p5, k5, c5, rfl, z5, hb5⟩; (have hzhb5 := belowCall (And.right ‹_›) hb5); (have hshb5 := hzhb5.size); (first | (replace bn := bn.below hb5; clear cbn fbn lbn; have cbn := bn.cell; have fbn := bn.frozen; have lbn := bn.lt) | (have bn := (Box.new _ 149 _).below hb5; have cbn := bn.cell; have fbn := bn.frozen; have lbn := bn.lt) | (have bn := (Box.new _ 149 _).drew.below hb5; have cbn := bn.cell; have fbn := bn.frozen; have lbn := bn.lt) | skip); replace z4 := z4.ext (by first | exact .of_below hb5 | exact ((Ext.refl _).alloc _).below hb5 | exact ((Ext.refl _).alloc _).drew.below hb5); rw [← E4.out] at z4; rw [← E5.out] at z5) | (go_at_call 82; refine (wplus_sz s1 s2 p4 p5 k4 c4 k5 c5 (m + m) _ _ _ W5 (by first | exact Ext.refl _ | exact (Ext.refl _).alloc _) z4 z5 G1 G2 (by omega)).mono ?_; rintro e W6 ⟨s6, p6, k6, c6, rfl, g6, z6, hb6⟩; (have hzhb6 := belowCall (And.right ‹_›) hb6); (have hshb6 := hzhb6.size); (first | (replace bn := bn.below hb6; clear cbn fbn lbn; have cbn := bn.cell; have fbn := bn.frozen; have lbn := bn.lt) | (have bn := (Box.new _ 149 _).below hb6; have cbn := bn.cell; have fbn := bn.frozen; have lbn := bn.lt) | (have bn := (Box.new _ 149 _).drew.below hb6; have cbn := bn.cell; have fbn := bn.frozen; have lbn := bn.lt) | skip)))
  all_goals
   go_wp2_with fail
   go_meet
   exact ⟨_, s6, p6, k6, c6, rfl, (by first | exact Box.new _ _ _ | exact (bn.set 0 _).set 1 _), (by omega), And.right ‹_›, g6, (by first | exact (z6.ext ((Ext.refl _).alloc _)).mono (by omega) | exact (z6.ext (((Ext.refl _).set bn (by decide) _ _).set (bn.set _ _) (by decide) _ _)).mono (by omega))⟩
 case rest =>
  obtain ⟨B3, s3, p3, k3, c3, rfl, b3, hB3, hb, gs, zn⟩ := hcut
  have lr3 : w.heap.size + 1 + 1 < W3.heap.size := lb2
  replace hB := belowCall hB hb
  replace zg := zg.ext (.of_below hb)
  replace zx := zx.ext (.of_below hb)
  replace y2 := y2.ext (.of_below hb)
  replace b0 := b0.below hb
  try clear cb0 lb0 fb0
  have cb0 := b0.cell
  have lb0 := b0.lt
  have fb0 := b0.frozen
  replace b1 := b1.below hb
  try clear cb1 lb1 fb1
  have cb1 := b1.cell
  have lb1 := b1.lt
  have fb1 := b1.frozen
  replace b2 := b2.below hb
  try clear cb2 lb2 fb2
  have cb2 := b2.cell
  have lb2 := b2.lt
  have fb2 := b2.frozen
  have cb3 := b3.cell
  have lb3 := b3.lt
  have fb3 := b3.frozen
  generalize hn : a.num * (((b.den : Int) / (a.den.gcd b.den : Nat))) + b.num * ((a.den : Int) / (a.den.gcd b.den : Nat)) = n at gs zn
  clear hb z1 z2 y1 zy E4 E5 G1 G2 X0 Y0
  go_wp2_with fail
  obtain ⟨N1, N2, N3, N4⟩ := rat_sum a b n hn
  have hge2 : gcdZ (n.natAbs : Int) ((a.den.gcd b.den : Nat) : Int) = ((n.natAbs.gcd (a.den.gcd b.den) : Nat) : Int) := by simp [gcdZ]
  have gs' := gs.div N4
  rw [← N1] at gs'
  replace N2 := Lib.hid N2
  replace N3 := Lib.hid N3
  refine (common_sz (2 * m + 1) _ _ (Ext.refl _) p3 pg k3 kg c3 cg _ _ zn (zg.mono (by omega)) (by omega)).mono ?_
  rintro e W7 ⟨ph, kh, ch, rfl, zh, hb⟩
  rw [hge2] at zh
  replace hB := belowCall hB hb
  replace zx := zx.ext (.of_below hb)
  replace y2 := y2.ext (.of_below hb)
  replace zn := zn.ext (.of_below hb)
  replace b0 := b0.below hb
  try clear cb0 lb0 fb0
  have cb0 := b0.cell
  have lb0 := b0.lt
  have fb0 := b0.frozen
  replace b1 := b1.below hb
  try clear cb1 lb1 fb1
  have cb1 := b1.cell
  have lb1 := b1.lt
  have fb1 := b1.frozen
  replace b2 := b2.below hb
  try clear cb2 lb2 fb2
  have cb2 := b2.cell
  have lb2 := b2.lt
  have fb2 := b2.frozen
  replace b3 := b3.below hb
  try clear cb3 lb3 fb3
  have cb3 := b3.cell
  have lb3 := b3.lt
  have fb3 := b3.frozen
  have lR : w.heap.size ≤ w.heap.size + 1 + 1 := by omega
  have nR0 : w.heap.size ≠ w.heap.size + 1 + 1 := by omega
  have nR1 : w.heap.size + 1 ≠ w.heap.size + 1 + 1 := by omega
  have nR3 : B3 ≠ w.heap.size + 1 + 1 := by omega
  have K0 := KeepBut.refl (w.heap.size + 1 + 1) W7
  generalize ((n.natAbs.gcd (a.den.gcd b.den) : Nat) : Int) = H at *
  generalize (a.den : Int) / ((a.den.gcd b.den : Nat) : Int) = X at *
  clear hb hge2 hn N1 gs zg
  go_wp2_with fail
  go_region_held3 (fun w' => (∀ b o, b < W7.heap.size → b ≠ (w.heap.size + 1 + 1) → w'.cell? ⟨b, o, none⟩ = W7.cell? ⟨b, o, none⟩) ∧ KeepBut (w.heap.size + 1 + 1) W7.heap.size W7 w') ((refine KeepBut.S ?_; first | exact K0.drew | (repeat' (first | exact And.right ‹_› | exact KeepBut.call (And.right ‹_›) ‹_› | refine KeepBut.set ?_ _ _ | refine KeepBut.alloc ?_ _)))) (first | (go_at_call 166; (with_reducible refine (without_sz (2 * m + 1) _ W7 (KeepBut.ext (And.right ‹_›) b2 (by decide)) p3 ph k3 kh c3 ch _ _ zn zh N4 (by omega)).mono ?_); rintro e W8 ⟨p8, k8, c8, rfl, z8, hb8⟩; have b28 := b2.drew.below hb8; have cb28 := b28.cell; have fb28 := b28.frozen) | (go_at_call 166; (with_reducible refine (without_sz (2 * m + 1) _ W7 (KeepBut.ext (And.right ‹_›) b2 (by decide)) q2 ph l2 kh e2 ch _ _ (y2.mono (by omega)) zh N4 (by omega)).mono ?_); rintro e W9 ⟨p9, k9, c9, rfl, z9, hb9⟩; replace z8 := z8.ext (.of_below hb9); have b29 := b28.below hb9; have cb29 := b29.cell; have fb29 := b29.frozen) | (go_at_call 156; refine (times_sz m (2 * m + 1) _ W9 (Ext.refl _) px p9 kx k9 cx c9 _ _ (zx.ext (KeepBut.ext (And.right ‹_›) b2 (by decide))) z9 (by omega) (by omega)).mono ?_; rintro e W10 ⟨p10, k10, c10, rfl, z10, hb10⟩; replace z8 := z8.ext (.of_below hb10); have b20 := b29.below hb10; have cb20 := b20.cell; have fb20 := b20.frozen))
  go_wp2
  have b3' := (((b20.set 0 (.bool s3)).set 1 (.slice p8 k8 c8)).set 2 (.slice p10 k10 c10)).cell
  have xE : Ext W10 _ := ((((Ext.refl W10).set b20 (by decide) 0 (.bool s3)).set (b20.set 0 (.bool s3)) (by decide) 1 (.slice p8 k8 c8))).set ((b20.set 0 (.bool s3)).set 1 (.slice p8 k8 c8)) (by decide) 2 (.slice p10 k10 c10)
  refine bodyPost_ret (v := .agg #[.bool s3, .slice p8 k8 c8, .slice p10 k10 c10]) (by simp [results, Tryz.results96, go_sem, b3']) rfl ⟨s3, _, _, _, _, _, _, rfl, gs', ?_, ?_, ?_⟩
  ·rw [N2.out]; exact (z8.ext xE).mono (by omega)
  ·rw [N3.out]; exact (z10.ext xE).mono (by omega)
  ·exact KeepBut.below (And.right ‹_›) hB lR hB.size
end Go.Proofs.YtdgodcgdlfjpaaaGreatDoor
namespace Go.Ex
open Go.RowKit Go.Mono
section
theorem exists_least {p : Nat → Prop} (h : ∃ n, p n) : ∃ n, p n ∧ ∀ m, p m → n ≤ m := by
 obtain ⟨n, hn⟩ := h
 induction n using Nat.strongRecOn with
 | _ n ih =>
   by_cases hm : ∃ m, m < n ∧ p m
   ·obtain ⟨m, h1, h2⟩ := hm
    exact ih m h1 h2
   ·exact ⟨n, hn, fun m h2 => Nat.le_of_not_lt fun h1 => hm ⟨m, h1, h2⟩⟩
section
variable {D : Den} {P : Program} {w0 : World} {X : Nat → Prop} {cs : CallS} {ys : YEnv} {n : Nat}
theorem denAs.len {ρ : Nm} {w : World} : ∀ {l : List SA} {vs : List Value}, denAs D ρ w l vs → vs.length = l.length
 | [], vs, e => by rw [show vs = [] from e]; rfl
 | y :: l, vs, ⟨v, r, e, hv, hr⟩ => by rw [e, List.length_cons, denAs.len hr]; rfl
theorem setPs_ok {ρ : Nm} {w : World} : ∀ {ps : List Tmp} {args : List SA} {vals : List Value} {tm : List (Nat × SV)} {T : Array Value} {d : List Deferred}, TSat D ρ w n tm { tmps := T, defers := d } → denAs D ρ w args vals → (ps.all fun p => Nat.blt p n) = true → ps.length = args.length →
  TSat D ρ w n (setPs ps args tm) { tmps := (ps.zip vals).foldl (fun t (q : Tmp × Value) => t.setIfInBounds q.1 q.2) T, defers := d }
 | [], args, vals, tm, T, d, h, ha, hp, hl => by
   cases args with
   | nil => exact h
   | cons => cases hl
 | p :: ps, args, vals, tm, T, d, h, ha, hp, hl => by
   cases args with
   | nil => cases hl
   | cons x xs =>
     obtain ⟨v, r, rfl, hv, hr⟩ := ha
     rw [List.all_cons, Bool.and_eq_true] at hp
     rw [List.zip_cons_cons, List.foldl_cons]
     exact setPs_ok (h.put (d := some p) hp.1 (x := .a x) hv) hr hp.2 (by simpa using hl)
theorem evC_ok (hcs : CallOk D P w0 X cs) (hcc : ∀ ys f args bk c th orc r, cs.call ys f args bk c th orc = some r → c ≤ r.c) (hm : P.follows .mixedOrders = true) : ∀ (f : Nat) (rd : Bool) (c : Code) (s s' : Stt) (o : Ot) (q : List Prop) (bd mm : Nat) (ρ : Nm) (wc w : World) (a : Act) (Q : Exit → Act → World → Prop) (ro : Option Nat),
  mm ≤ w.heap.size → (rd = false → ro = none) → evC P cs ys n f rd c s = some (o, s', q) → (∀ p ∈ q, p) → Sat D w0 X s.th ρ wc w s.bk → YOk D P w0 X bd ys ρ wc w → TSat D ρ wc n s.tm a → DfOk P mm ρ w s.df a.defers → (∀ k, s.c ≤ k → k < s'.c → ρ k = none) →
  Goes D P w0 X mm n ρ wc w s s' (Q o.ex) → c.wpIn (WF ro) 0 P Q a w := by
 intro f
 induction f using Nat.strongRecOn with
 | _ f ih =>
   intro rd c s s' o q bd mm ρ wc w a Q ro hmm0 hrd h hq hS hY hT hDf hn hK
   cases f with
   | zero => cases c <;> cases rd <;> simp [evC] at h
   | succ f =>
     have ih' := ih f (Nat.lt_succ_self f)
     cases c with
     | skip =>
       simp only [evC, Option.some.injEq, Prod.mk.injEq] at h; obtain ⟨rfl, rfl, rfl⟩ := h
       exact wpIn_skip (hK ρ wc w a hS hT hDf (Evo.refl _ _ _ _ _))
     | label l =>
       simp only [evC, Option.some.injEq, Prod.mk.injEq] at h; obtain ⟨rfl, rfl, rfl⟩ := h
       exact wpIn_label (hK ρ wc w a hS hT hDf (Evo.refl _ _ _ _ _))
     | exit id =>
       simp only [evC, Option.some.injEq, Prod.mk.injEq] at h; obtain ⟨rfl, rfl, rfl⟩ := h
       exact wpIn_exit (hK ρ wc w a hS hT hDf (Evo.refl _ _ _ _ _))
     | ret =>
       simp only [evC, Option.some.injEq, Prod.mk.injEq] at h; obtain ⟨rfl, rfl, rfl⟩ := h
       exact wpIn_ret (hK ρ wc w a hS hT hDf (Evo.refl _ _ _ _ _))
     | region id ops draw =>
       simp only [evC] at h
       split at h
       ·rename_i s2 q2 p2 h2
        cases h
        rw [otP_ex] at hK
        cases draw with
        | true => exact drawS_ok hcs hm (by simpa using h2) hq hS hY hT hDf hn hK id
        | false => exact wpIn_region_list (seqS_ok hcs hrd (by simpa using h2) hq hS hY hT hDf hn hK)
       ·cases h
     | seq x y =>
       simp only [evC] at h
       split at h
       ·rename_i s1 p h1
        split at h
        ·rename_i o2 s2 q2 h2
         cases h
         have p1 := evC_pre hcc h1
         have p2 := evC_pre hcc h2
         refine wpIn_seq (ih' rd x s s1 .norm p bd mm ρ wc w a _ ro hmm0 hrd h1 (fun p hp => hq p (by simp [hp])) hS hY hT hDf (fun k k1 k2 => hn k k1 (Nat.lt_of_lt_of_le k2 p2.1)) ?_)
         intro ρ' wc' w' a' k1 k2 k3 k4
         refine ih' rd y s1 _ _ _ bd mm ρ' wc' w' a' Q ro (Nat.le_trans hmm0 k4.size) hrd h2 (fun p hp => hq p (by simp [hp])) k1 (hY.evo hS k4) k2 k3 (fun k j1 j2 => ?_) ?_
         ·rw [k4.dom k (.inr j1)]; exact hn k (Nat.le_trans p1.1 j1) j2
         ·intro ρ2 wc2 w2 a2 m1 m2 m3 m4
          exact hK ρ2 wc2 w2 a2 m1 m2 m3 (k4.trans m4 hS.named)
        ·cases h
       ·rename_i id s1 p h1
        cases h
        exact wpIn_seq (ih' rd x s _ (.exit id) _ bd mm ρ wc w a _ ro hmm0 hrd h1 hq hS hY hT hDf hn hK)
       ·rename_i s1 p h1
        cases h
        exact wpIn_seq (ih' rd x s _ .ret _ bd mm ρ wc w a _ ro hmm0 hrd h1 hq hS hY hT hDf hn hK)
       ·rename_i v s1 p h1
        cases h
        exact wpIn_seq (ih' rd x s _ (.pan v) _ bd mm ρ wc w a _ ro hmm0 hrd h1 hq hS hY hT hDf hn hK)
       ·cases h
     | cond c t e =>
       simp only [evC] at h
       split at h
       ·rename_i b hb
        have hden := hT.get hb
        have hev : a.eval c = .bool b := by simpa using hden.1
        exact wpIn_cond hev (ih' rd (if b then t else e) s _ _ _ bd mm ρ wc w a Q ro hmm0 hrd h hq hS hY hT hDf hn hK)
       ·cases h
     | block id x =>
       simp only [evC] at h
       split at h
       ·rename_i j s1 p h1
        cases h
        refine wpIn_block (ih' rd x s _ (.exit j) _ bd mm ρ wc w a _ ro hmm0 hrd h1 hq hS hY hT hDf hn ?_)
        intro ρ2 wc2 w2 a2 m1 m2 m3 m4
        show (if j = id then Q .normal a2 w2 else Q (.exit j) a2 w2)
        have := hK ρ2 wc2 w2 a2 m1 m2 m3 m4
        by_cases e : j = id
        ·subst e
         simp only [Nat.beq_refl, if_true] at this
         rw [if_pos rfl]
         exact this
        ·have hb : Nat.beq j id = false := by
          cases hb : Nat.beq j id with
          | false => rfl
          | true => exact absurd (Nat.eq_of_beq_eq_true hb) e
         rw [hb] at this
         rw [if_neg e]
         exact this
       ·rename_i s1 p h1
        cases h
        exact wpIn_block (ih' rd x s _ .norm _ bd mm ρ wc w a _ ro hmm0 hrd h1 hq hS hY hT hDf hn hK)
       ·rename_i s1 p h1
        cases h
        exact wpIn_block (ih' rd x s _ .ret _ bd mm ρ wc w a _ ro hmm0 hrd h1 hq hS hY hT hDf hn hK)
       ·rename_i v s1 p h1
        cases h
        exact wpIn_block (ih' rd x s _ (.pan v) _ bd mm ρ wc w a _ ro hmm0 hrd h1 hq hS hY hT hDf hn hK)
       ·cases h
     | scope x =>
       simp only [evC] at h
       refine wpIn_scope (ih' rd x s _ o _ bd mm ρ wc w a _ ro hmm0 hrd h hq hS hY hT hDf hn ?_)
       intro ρ2 wc2 w2 a2 m1 m2 m3 m4
       have := hK ρ2 wc2 w2 a2 m1 m2 m3 m4
       cases o <;> exact this
     | loop x =>
       -- the least number of rounds' fuel that leads from a state to the end
       let J : Nat → Act → World → Prop := fun m a w => m ≤ f + 1 ∧ mm ≤ w.heap.size ∧ ∃ (s s' : Stt) (o : Ot) (q : List Prop) (ρ : Nm) (wc : World), evC P cs ys n m rd (.loop x) s = some (o, s', q) ∧ (∀ p ∈ q, p) ∧ Sat D w0 X s.th ρ wc w s.bk ∧ YOk D P w0 X bd ys ρ wc w ∧ TSat D ρ wc n s.tm a ∧ DfOk P mm ρ w s.df a.defers ∧ (∀ k, s.c ≤ k → k < s'.c → ρ k = none) ∧
        Goes D P w0 X mm n ρ wc w s s' (Q o.ex)
       have least : ∀ a w, ∃ m, (∃ m, J m a w) → J m a w ∧ ∀ m', J m' a w → m ≤ m' := fun a w => by
        by_cases hJ : ∃ m, J m a w
        ·obtain ⟨m, h1, h2⟩ := exists_least hJ
         exact ⟨m, fun _ => ⟨h1, h2⟩⟩
        ·exact ⟨0, fun h => absurd h hJ⟩
       refine wpIn_loop (fun a w => ∃ m, J m a w) (fun a w => Classical.choose (least a w)) ⟨f + 1, Nat.le_refl _, hmm0, s, s', o, q, ρ, wc, h, hq, hS, hY, hT, hDf, hn, hK⟩ ?_
       intro a w hI
       obtain ⟨⟨hle, hmm0, s, s', o, q, ρ, wc, h, hq, hS, hY, hT, hDf, hn, hK⟩, _⟩ := Classical.choose_spec (least a w) hI
       generalize hmmm : Classical.choose (least a w) = m at *
       cases m with
       | zero => cases rd <;> simp [evC] at h
       | succ m =>
         have ihm := ih m (by omega)
         simp only [evC] at h
         split at h
         ·rename_i s1 p h1
          split at h
          ·rename_i o2 s2 q2 h2
           cases h
           have p1 := evC_pre hcc h1
           have p2 := evC_pre hcc h2
           refine ihm rd x s s1 .norm p bd mm ρ wc w a _ ro hmm0 hrd h1 (fun p hp => hq p (by simp [hp])) hS hY hT hDf (fun k k1 k2 => hn k k1 (Nat.lt_of_lt_of_le k2 p2.1)) ?_
           intro ρ' wc' w' a' k1 k2 k3 k4
           have hJ : J m a' w' := ⟨by omega, Nat.le_trans hmm0 k4.size, s1, _, _, _, ρ', wc', h2, fun p hp => hq p (by simp [hp]), k1, hY.evo hS k4, k2, k3, fun k j1 j2 => by
            rw [k4.dom k (.inr j1)]; exact hn k (Nat.le_trans p1.1 j1) j2, fun ρ2 wc2 w2 a2 m1 m2 m3 m4 => hK ρ2 wc2 w2 a2 m1 m2 m3 (k4.trans m4 hS.named)⟩
           refine ⟨⟨m, hJ⟩, ?_⟩
           have := (Classical.choose_spec (least a' w') ⟨m, hJ⟩).2 m hJ
           omega
          ·cases h
         ·rename_i id s1 p h1
          cases h
          exact ihm rd x s _ (.exit id) _ bd mm ρ wc w a _ ro hmm0 hrd h1 hq hS hY hT hDf hn hK
         ·rename_i s1 p h1
          cases h
          exact ihm rd x s _ .ret _ bd mm ρ wc w a _ ro hmm0 hrd h1 hq hS hY hT hDf hn hK
         ·rename_i v s1 p h1
          cases h
          exact ihm rd x s _ (.pan v) _ bd mm ρ wc w a _ ro hmm0 hrd h1 hq hS hY hT hDf hn hK
         ·cases h
     | rangeFunc g ps assign body =>
       cases rd with
       | true => simp [evC] at h
       | false =>
         obtain rfl := hrd rfl
         simp only [evC] at h
         split at h
         ·rename_i gf caps hg
          split at h
          ·rename_i hc
           rw [Bool.and_eq_true] at hc
           obtain ⟨hen, hall⟩ := hc
           split at h
           ·rename_i r hr
            have hbkn := look_all hall
            have hcr := hcc _ _ _ _ _ _ _ _ hr
            have hsc : s'.c = r.c ∧ s'.df = .col (s.c + 1) :: s.df ∧ q = r.obl := by
             split at h <;> (cases h; exact ⟨rfl, rfl, rfl⟩)
            obtain ⟨hsc, hsdf, hqo⟩ := hsc
            subst hqo
            obtain ⟨vs, hvs, e1⟩ := hT.get hg
            have e2 : a.eval g = .func (.func gf) #[] vs.toArray := by simpa using e1
            have eg := fun args w => enters_run (P := P) hen args w
            obtain ⟨k1, E1⟩ := hS.obj (k := s.c + 1) (hn (s.c + 1) (by omega) (by omega)) (by
             cases hl : s.bk.look (s.c + 1) with
             | none => rfl
             | some b => have := hbkn _ _ hl; omega) (.deferred (some []))
            refine wpIn_rangeFunc fun fn hfn => ?_
            obtain ⟨lp, hlp⟩ : ∃ lp : Loop, lp = { state := .ready, pending := none, fn, tmps := a.tmps, params := ps, assign, body, defers := w.heap.size } := ⟨_, rfl⟩
            obtain ⟨k2, E2⟩ := k1.obj (k := s.c) (by rw [addNm_old _ _ (by omega)]; exact hn s.c (by omega) (by omega)) (by
             cases hl : s.bk.look s.c with
             | none => rfl
             | some b => have := hbkn _ _ hl; omega) (.loop lp)
            rw [World.size_alloc] at k2 E2
            have E12 := (E1.widen (d := s.c) (d' := s.c + 2) (by omega) (by omega)).join (E2.widen (d := s.c) (d' := s.c + 2) (by omega) (by omega)) hS.named
            generalize hρ2 : addNm (addNm ρ (s.c + 1) ⟨w.heap.size, 0, false, 0, 0⟩) s.c ⟨w.heap.size + 1, 0, false, 0, 0⟩ = ρ2 at k2 E12
            have r1 : ρ2 s.c = some ⟨w.heap.size + 1, 0, false, 0, 0⟩ := by rw [← hρ2]; exact addNm_new _ _ _
            have r2 : ρ2 (s.c + 1) = some ⟨w.heap.size, 0, false, 0, 0⟩ := by rw [← hρ2, addNm_old _ _ (by omega)]; exact addNm_new _ _ _
            have hW : (w.alloc (.deferred (some []))).alloc (.loop { state := .ready, pending := none, fn, tmps := a.tmps, params := ps, assign, body, defers := w.heap.size }) = (w.alloc (.deferred (some []))).alloc (.loop lp) := by rw [hlp]
            generalize hW1 : (w.alloc (.deferred (some []))).alloc (.loop lp) = W1 at k2 E12 hW
            have hL1 : W1.heap[w.heap.size + 1]? = some (.loop lp) := by
             rw [← hW1]
             have := World.alloc_heap_new (w.alloc (.deferred (some []))) (.loop lp)
             rwa [World.size_alloc] at this
            have hK1 : W1.heap[w.heap.size]? = some (.deferred (some [])) := by
             rw [← hW1]
             exact (Below.heap_alloc _ _ _ (by simp)).trans (World.alloc_heap_new w _)
            refine ⟨w.heap.size + 1, [{ target := .collected w.heap.size, args := #[] }], W1, { target := .fn (.func gf) vs.toArray, args := #[] ++ #[.func (.yield (w.heap.size + 1)) #[] #[]] }, W1, gf,
             #[] ++ #[.func (.yield (w.heap.size + 1)) #[] #[]] ++ vs.toArray, W1, ?_, ?_, ?_, ?_, (fun hh => by cases hh), ?_⟩
            ·rw [← hW]; exact run_enterLoop_outer _ _ _ _ _
            ·simp only [resolve, e2]
             simp [go_sem]
            ·intro f' hf'; trivial
            ·simp [invoke, go_sem, eg]
            ·-- the function, with what it yields to
             have hY2 : YOk D P w0 X (w.heap.size + 2) ((s.c, hndS n ps s.tm (evC P cs ys n f true assign) (evC P cs ys n f true body)) :: ys) ρ2 wc W1 := ⟨_, lp, r1, hL1, by have := hS.fr.size; dsimp only; omega, Nat.lt_succ_self _,
              (hY.bound (b := w.heap.size + 1) (fun k B hB => by have := hS.lt k B hB; omega)).evo hS E12, ?_⟩
             ·have hargs : denAs D ρ2 wc (.one (.yld s.c) :: capsA caps) (.func (.yield (w.heap.size + 1)) #[] #[] :: vs) := ⟨_, vs, rfl, ⟨_, r1, rfl⟩, capsA_ok (hvs.mono E12.rho)⟩
              have hcall := hcs.call _ _ _ _ _ _ _ _ hr hq (w.heap.size + 2) ρ2 wc W1 _ ((k2.tmin (c := s.c + 2) (fun k b hk => by have := hbkn k b hk; omega))) hY2 (fun k b hk => by have := hbkn k b hk; omega) (tmin_le _ _) (fun k h1 h2 => by
               rw [E12.dom k (.inr h1)]; exact hn k (by omega) (by omega)) hargs
              refine callsIn_WF.2 ?_
              have ea : (#[] ++ #[.func (.yield (w.heap.size + 1)) #[] #[]] ++ vs.toArray : Array Value) = (.func (.yield (w.heap.size + 1)) #[] #[] :: vs : List Value).toArray := by apply Array.toList_inj.1; simp
              rw [ea]
              refine hcall.mono ?_
              rintro e W2 ⟨v, ρ', wc', hend, hv, hS2, hE2⟩
              have E := E12.trans hE2 hS.named
              have hl2 : W2.heap[w.heap.size + 1]? = some (.loop lp) := k2.stays hE2 hL1 rfl
              have hk2 : W2.heap[w.heap.size]? = some (.deferred (some [])) := k2.stays hE2 hK1 rfl
              have hT' : TSat D ρ' wc' n s.tm { a with defers := [{ target := .collected w.heap.size, args := #[] }] ++ a.defers } := ⟨hT.size, (hT.mono E.rho E.ext).at_⟩
              have hsz0 := hS.fr.size
              unfold OpR.ends at hend
              split at hend
              ·rename_i hp
               subst hend
               rw [hp] at h
               cases h
               have he := run_endLoop (P := P) hl2 (by rw [hlp]; simp)
               have ef : r.fin s.bk = r.wr ++ s.bk := by unfold OpR.fin; rw [hp]
               rw [ef] at hS2 E
               refine ⟨_, _, he, ?_⟩
               rw [show lp.pending = none from by rw [hlp]]
               refine hK ρ' wc' _ _ (hS2.putObj hl2 rfl (by omega) _) hT' ?_ (E.putNew (by omega) _)
               refine ⟨_, a.defers, rfl, hE2.rho _ _ r2, hmm0, hDf.low hS.lt, (World.putObj_heap_other (by dsimp only; omega)).trans hk2, (hDf.evo hS E).step (Nm.le.refl _) fun l _ hl => ?_⟩
               rw [World.putObj_heap_other ?_]
               ·exact hl
               ·intro e; subst e; rw [hl2] at hl; cases hl
              ·rename_i p hp
               subst hend
               rw [hp] at h
               cases h
               have ef : r.fin s.bk = r.wr := by unfold OpR.fin; rw [hp]
               rw [ef] at hS2 E
               exact hK ρ' wc' _ _ hS2 hT' ⟨_, a.defers, rfl, hE2.rho _ _ r2, hmm0, hDf.low hS.lt, hk2, hDf.evo hS E⟩ E
             ·-- the loop's body, as it is yielded to
              intro args bk' c' th' orc' r' hh ho ρ' wc' w' vals hle hext hSat hYs hnames hth hfresh hargs hheap
              dsimp only at hYs hheap ⊢
              unfold hndS at hh
              split at hh
              ·rename_i hps
               rw [Bool.and_eq_true] at hps
               have hlen := Nat.eq_of_beq_eq_true hps.1
               split at hh
               ·rename_i s1 p1 h1
                split at hh
                ·rename_i s2 p2 h2
                 split at hh
                 ·rename_i hdf
                  cases hh
                  have q1 := evC_pre hcc h1
                  have q2 := evC_pre hcc h2
                  obtain ⟨b1, hb1⟩ := q1.2 (fun v => by simp)
                  obtain ⟨b2, hb2⟩ := q2.2 (fun v => by simp)
                  have htake : s2.bk.take (s2.bk.length - bk'.length) ++ bk' = s2.bk := by
                   rw [hb2, hb1, ← List.append_assoc, List.length_append, Nat.add_sub_cancel, List.take_left]
                  refine ⟨_, _, _, _, run_yield (P := P) hheap (by rw [hlp]; simp [hargs.len, hlen]), ?_⟩
                  rw [hlp] at hheap
                  rw [hlp]
                  refine roundIn_of_wpIn trivial ?_
                  have hT0 : TSat D ρ' wc' n s.tm { tmps := a.tmps, defers := [] } := ⟨hT.size, (hT.mono (E12.rho.trans hle) (E12.ext.trans hext)).at_⟩
                  have hT1 := setPs_ok hT0 hargs hps.2 (by rw [Array.length_toList]; exact hlen.symm)
                  have hfold : ((ps.zip vals.toArray).foldl (fun tmps (q : Tmp × Value) => tmps.setIfInBounds q.1 q.2) a.tmps) = (ps.toList.zip vals).foldl (fun t (q : Tmp × Value) => t.setIfInBounds q.1 q.2) a.tmps := by
                   rw [← Array.foldl_toList, Array.toList_zip]
                  show Code.wpIn (WF (some (w.heap.size + 1))) 0 P assign _ { tmps := (ps.zip vals.toArray).foldl (fun tmps (q : Tmp × Value) => tmps.setIfInBounds q.1 q.2) a.tmps, defers := [] } w'
                  rw [hfold]
                  have hc2 : s2.c = s2.c := rfl
                  refine ih' true assign _ s1 .norm p1 _ 0 ρ' wc' w' _ _ (some (w.heap.size + 1)) (Nat.zero_le _) (fun hh => by cases hh) h1 (fun p hp => ho p (List.mem_append_left _ hp)) hSat hYs hT1 rfl (fun k j1 j2 => hfresh k j1 (Nat.lt_of_lt_of_le j2 q2.1)) ?_
                  intro ρ1 wc1 w1 a1 S1 T1 D1 Ev1
                  have hl1 := hSat.stays Ev1 hheap rfl
                  refine ⟨_, run_beginRound hl1 rfl, ?_⟩
                  have hz0 : w0.heap.size ≤ w.heap.size + 1 := by have := hS.fr.size; omega
                  have S1' := S1.putObj hl1 rfl hz0 (.loop { state := .busy, pending := none, fn, tmps := a.tmps, params := ps, assign, body, defers := w.heap.size })
                  refine ih' true body s1 s2 .norm p2 _ 0 ρ1 wc1 _ a1 _ (some (w.heap.size + 1)) (Nat.zero_le _) (fun hh => by cases hh) h2 (fun p hp => ho p (List.mem_append_right _ hp)) S1' ((hYs.evo hSat Ev1).step (Nm.le.refl _) (Ext.refl _) fun l lp hlt hl => ?_) T1 (D1.step (Nm.le.refl _) fun l _ hl => ?_) (fun k j1 j2 => ?_) ?_
                  ·rw [World.putObj_heap_other (by omega)]; exact hl
                  ·rw [World.putObj_heap_other ?_]
                   ·exact hl
                   ·intro e; subst e; rw [hl1] at hl; cases hl
                  ·rw [Ev1.dom k (.inr j1)]; exact hfresh k (Nat.le_trans q1.1 j1) j2
                  ·intro ρ3 wc3 w3 a3 S3 T3 D3 Ev3
                   have hl3 := S1'.stays Ev3 (World.putObj_heap_same (lt_of_some hl1)) rfl
                   refine ⟨_, _, run_endRound (P := P) none hl3, ?_⟩
                   have S3' := S3.putObj hl3 rfl hz0 (.loop { state := .ready, pending := none, fn, tmps := a.tmps, params := ps, assign, body, defers := w.heap.size })
                   refine ⟨⟨.bool true, ρ3, wc3, rfl, ⟨rfl, rfl⟩, ?_, ?_⟩, World.putObj_heap_same (lt_of_some hl3)⟩
                   ·show Sat D w0 X s2.th ρ3 wc3 _ (s2.bk.take (s2.bk.length - bk'.length) ++ bk')
                    rw [htake]; exact S3'
                   ·show Evo ρ' wc' w' bk' c' s2.c ρ3 wc3 _ (s2.bk.take (s2.bk.length - bk'.length) ++ bk')
                    rw [htake]
                    exact Ev1.trans (Ev3.round hl1) hSat.named
                 ·cases hh
                ·cases hh
               ·cases hh
              ·cases hh
           ·cases h
          ·cases h
         ·cases h
     | goto => cases rd <;> simp [evC] at h
     | refuse => cases rd <;> simp [evC] at h
end
end
end Go.Ex
