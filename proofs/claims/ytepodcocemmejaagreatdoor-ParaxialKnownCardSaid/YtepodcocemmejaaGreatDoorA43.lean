/- Part 43 of 52 of the proof that the law ParaxialKnown returns true, whatever stands in memory, if the two listed variables hold what the text lays: contracts of the functions that it reaches. No condition beside the row. -/
import Derived.Test.YtepodcocemmejaaGreatDoorA42
set_option linter.unusedVariables false
set_option linter.unusedSimpArgs false
namespace Go.Proofs.YtepodcocemmejaaGreatDoor
open Go.RowKit Go.Mono
attribute [local go_sem] Oper.semAt_some
/-- what the arithmetic of a trace must fit -/
structure TrFits (a : Lns) (k : Nat) (y u : Rat) : Prop where
  pow : ∀ s, s < a.ns → PowFits a k s
  num : ∀ s, s < a.ns → (a.nI k s).num ≠ 0
  m1 : ∀ s, s + 1 < a.ns → Fits (Rat.divInt (1 * (a.S s).thick) 1000000 * (a.tr k y u (s + 1)).2)
  m2 : ∀ s, s + 1 < a.ns → Fits ((Rat.divInt (1 * (a.S s).thick) 1000000 * (a.tr k y u (s + 1)).2) / a.nI k s)
  m3 : ∀ s, s + 1 < a.ns → Fits ((a.tr k y u (s + 1)).1 + ((Rat.divInt (1 * (a.S s).thick) 1000000 * (a.tr k y u (s + 1)).2) / a.nI k s))
  b1 : ∀ s, s < a.ns → Fits ((a.tr k y u (s + 1)).1 * a.pow k s)
  b2 : ∀ s, s < a.ns → Fits (Rat.divInt 1 1 * ((a.tr k y u (s + 1)).1 * a.pow k s))
  b3 : ∀ s, s < a.ns → Fits ((a.tr k y u (s + 1)).2)
/-- behind i rounds -/
def TrInv (a : Lns) (q : Plc) (k : Nat) (y u : Rat) (w W1 W3 : World) (Bn Bb i : Nat) (V : World) : Prop := ∃ (v : Value) (C : Nat → Array Value), RayAt V W3.heap.size 108 (a.tr k y u i).1 (a.tr k y u i).2 ∧ Box V w.heap.size 58 #[v] ∧ V.ownsRow w.heap.size 65 8 v i (pens C i) ∧ (∀ j, j < i → (C j).size = 8 ∧ PenQ V (C j) (a.tr k y u (j + 1))) ∧ Below w.heap.size w V ∧ Box V W1.heap.size 104 (a.vvals q k) ∧ Box V Bn 3 #[.int .i64 (a.ns : Int)] ∧ Box V Bb 4 #[.bool false]
set_option maxRecDepth 100000 in
set_option maxHeartbeats 1500000 in
theorem cells_new (X : World) (cs : Array Value) (T : TypeId) : ∀ j u, cs.toList[j]? = some u → (X.alloc (.cells cs T)).cell? (Addr.add ⟨X.heap.size, 0, none⟩ j) = some u := by
  intro j u h
  rw [show Addr.add ⟨X.heap.size, 0, none⟩ j = ⟨X.heap.size, j, none⟩ from by simp [Addr.add]; exact fun h => h.symm, (Box.new X T cs).cell, ← Array.getElem?_toList]
  exact h
set_option maxRecDepth 100000 in
set_option maxHeartbeats 1500000 in
theorem trace1_wide (a : Lns) (ha : a.opt) (q : Plc) (hchk : Chk a q) (k : Nat) (k1 : k < a.nw) (y u : Rat) (hf : TrFits a k y u) (w : World) (h : OptAt w a q) (m : Nat) (hp : PowsAt w m)
    (Bo Bk By Bu : Nat) (bo : Box w Bo 45 (a.ovals q)) (bk : Box w Bk 3 #[.int .i64 (k : Int)]) (Cy Cu : Array Value) (by_ : Box w By 54 Cy) (bu : Box w Bu 54 Cu) (Ry : QV w (.agg Cy) y) (Ru : QV w (.agg Cu) u) :
    CallsIn Fence.wide 6 Tryz.prog 46 #[.pointer (some ⟨Bo, 0, none⟩), .pointer (some ⟨Bk, 0, none⟩), .pointer (some ⟨By, 0, none⟩), .pointer (some ⟨Bu, 0, none⟩)] w fun e w' => ∃ (p : Option Addr) (c : Nat), e = .returned (.slice p a.ns c) ∧ PensAt w' w.heap.size 65 p a.ns c (fun i => a.tr k y u (i + 1)) ∧ Below w.heap.size w w' := by
  have hro : Fence.wide.round = none := rfl
  have hmf : ∀ (fn : Fn) (first cap : Array Value) (w : World), (Instr.makeFunc fn first cap).run Tryz.prog w = .ok (.func fn first cap) w := fun _ _ _ _ => rfl
  have hlook := fun W (hW : Below w.heap.size w W) => look_ok a q hchk k W (h.below hW) k1
  have co := bo.cell
  have lo := bo.lt
  have ck := bk.cell
  have lk := bk.lt
  obtain ⟨p1, k1x, c1, p1', k1', c1', e1, z1, y1⟩ := id Ry
  obtain ⟨p2, k2, c2, p2', k2', c2', e2, z2, y2⟩ := id Ru
  cases e1; cases e2
  have cy := by_.cell
  have ly := by_.lt
  have cu := bu.cell
  have lu := bu.lt
  simp only [Lns.ovals, Lns.vvals] at hlook
  simp only [Lns.ovals] at co
  refine callsIn_of_wp_marks Tryz.func46 rfl trivial ?_ hro
  simp only [Tryz.ntmps46, List.size_toArray, List.length_cons, List.length_nil, Nat.reduceAdd, Nat.reduceSub, Array.replicate_succ, Array.replicate_zero, List.push_toArray, List.append_toArray, List.nil_append, List.cons_append]
  refine wpIn_wide.2 ?_
  go_wp2_with fail
  refine boxes1c fun W hB hs bOut => ?_
  refine (hlook W hB).mono ?_
  rintro e W1 ⟨rfl, hb⟩
  have hB1 := belowCall hB hb
  replace bOut := bOut.below hb
  clear hlook co lo ck lk cy ly cu lu
  have cy := (by_.below hB1).cell
  have ly := (by_.below hB1).lt
  have cu := (bu.below hB1).cell
  have lu := (bu.below hB1).lt
  go_wp2_with fail
  refine boxes2c fun W2 hB2 hs2 bV bF => ?_
  have hB2' := belowCall hB1 hB2
  have cF := bF.cell
  have Ry2 := Ry.ext (.of_below hB2')
  have Ru2 := Ru.ext (.of_below hB2')
  refine (fractions_ok 2 _ 2 (fun i => if i = 0 then #[.bool (decide (y.num < 0)), .slice p1 k1x c1, .bool false, .slice p1' k1' c1'] else #[.bool (decide (u.num < 0)), .slice p2 k2 c2, .bool false, .slice p2' k2' c2']) (fun i => if i = 0 then y else u) W2 ⟨Nat.le_refl _, by decide, fun _ => ⟨_, _, rfl, bF.lt, fun i j hi hj => ?_⟩⟩ (fun i => by split <;> rfl) (fun i hi => by split <;> assumption)).mono ?_
  · rw [cF]
    match i, j, hi, hj with
    | 0, 0, _, _ => rfl
    | 0, 1, _, _ => rfl
    | 0, 2, _, _ => rfl
    | 0, 3, _, _ => rfl
    | 1, 0, _, _ => rfl
    | 1, 1, _, _ => rfl
    | 1, 2, _, _ => rfl
    | 1, 3, _, _ => rfl
  rintro e W3 ⟨rfl, hb3⟩
  have hB3 := belowCall hB1 (belowCall hB2 hb3)
  replace bV := bV.below hb3
  replace bOut := (bOut.below hB2).below hb3
  clear cy ly cu lu cF Ry2 Ru2 bF
  have cy := (by_.below hB3).cell
  have ly := (by_.below hB3).lt
  have cu := (bu.below hB3).cell
  have lu := (bu.below hB3).lt
  have cV := bV.cell
  have lV := bV.lt
  go_wp2_with fail
  refine boxes1c fun W4 hB4 hs4 bR => ?_
  have eO := order_ok a q k false W4
  simp only [Lns.vvals] at eO
  refine eO.mono ?_
  rintro e W5 ⟨Bn, Bb, rfl, hBn, hBb, bn, bb, hb5⟩
  have hB5 := belowCall hB4 hb5
  have hN := hs4
  replace bR := bR.below hb5
  replace bV := bV.below hB5
  replace bOut := bOut.below hB5
  have hB0 := belowCall hB3 hB5
  clear eO cV lV cy ly cu lu
  go_wp2_with fail
  refine (wpIn_wide (n := 6)).1 ?_
  have hns := ha.base.ns
  obtain ⟨i0, z0, pi1, pi2, pi3, pi4, pi5⟩ := pencilInfo
  have hR5 : RayAt W5 W3.heap.size 108 y u := ⟨_, _, _, _, _, _, _, _, _, _, _, _, bR, Ry.ext (.of_below hB0), Ru.ext (.of_below hB0)⟩
  have hw3 : w.heap.size ≤ W3.heap.size := hB3.size
  have hw1 : w.heap.size ≤ W1.heap.size := hB1.size
  have hw5 : w.heap.size ≤ W5.heap.size := hB0.size
  clear bR Ry Ru z1 y1 z2 y2 by_ bu bo bk hB2' hB1 hB2 hB hb hs hs2
  refine wpIn_range_all hro (by omega) (gf := 96) (fi := #[]) (lb := #[.pointer (some ⟨Bn, 0, none⟩), .pointer (some ⟨Bb, 0, none⟩)]) rfl trivial (Go.Proofs.enters_of Tryz.func96 (by kernel_rfl) rfl)
    (order1_all Fence.wide 5 trivial rfl (by omega) a.ns (by omega) Bn Bb false) (fun i => rfl)
    (TrInv a q k y u w W1 W3 Bn Bb)
    ?hI ?hK ?hIB ?h0 ?hround ?hdone
  case hI =>
    rintro i V V' row ⟨v, C, hr, b1, h1, hC, hV, bV, bn, bb⟩ hg hro
    have hg2 := fun r e => (hro r e).2
    unfold TrInv
    exact ⟨v, C, hr.grown hg hg2, b1.grown hg hg2, ownsRow_grown h1 hg hg2, fun j hj => ⟨(hC j hj).1, (hC j hj).2.ext (.grownNo hg hg2)⟩, hV.grown hg hV.size (fun k e => by have := (hro k e).1; omega), bV.grown hg hg2, bn.grown hg hg2, bb.grown hg hg2⟩
  case hK =>
    rintro i V ⟨v, C, hr, b1, h1, hC, hV, bV, bn, bb⟩
    exact ⟨bn.cell 0, bb.cell 0⟩
  case hIB =>
    rintro i V V' ⟨v, C, hr, b1, h1, hC, hV, bV, bn, bb⟩ hb
    unfold TrInv
    exact ⟨v, C, hr.below hb, b1.below hb, ownsRow_below h1 hb, fun j hj => ⟨(hC j hj).1, (hC j hj).2.ext (.of_below hb)⟩, belowCall hV hb, bV.below hb, bn.below hb, bb.below hb⟩
  case h0 =>
    unfold TrInv
    exact ⟨.slice none 0 0, fun _ => #[], hR5, bOut, World.ownsRow_nil _ _ _ _, fun j hj => by omega, hB0, bV, bn, bb⟩
  case hround =>
    rintro l i V ⟨v, C, hr, b1, h1, hC, hV, bV, bn, bb⟩ hi hl hV4
    simp only [ordAt, Bool.false_eq_true, if_false]
    gi_wp2
    refine ⟨KeepsOthers.refl V, fun V2 hg ho' => ?_⟩
    obtain ⟨o, ho, hoc⟩ := ho'
    have gr : ∀ r, some l = some r → ∃ o : Obj, V.heap[r]? = some o ∧ o.isCells = false := fun r e => by cases e; exact ⟨o, ho, hoc⟩
    replace hr := hr.grown hg gr
    replace b1 := b1.grown hg gr
    replace h1 := ownsRow_grown h1 hg gr
    replace hC : ∀ j, j < i → (C j).size = 8 ∧ PenQ V2 (C j) (a.tr k y u (j + 1)) := fun j hj => ⟨(hC j hj).1, (hC j hj).2.ext (.grownNo hg gr)⟩
    replace hV : Below w.heap.size w V2 := hV.grown hg hV.size (fun k e => by cases e; omega)
    replace bV := bV.grown hg gr
    replace bn := bn.grown hg gr
    replace bb := bb.grown hg gr
    clear hg ho hoc gr hV4
    have hpow := fun X (hX : Below w.heap.size w X) => power_ok a ha q hchk i k X (h.below hX) hi k1 (hf.pow i hi) m (hp.below hX)
    simp only [Lns.vvals] at bV hpow
    have cV := bV.cell
    have lV := bV.lt
    cases i with
    | zero =>
      have ht := a.tr_one k y u
      have f1 := hf.b1 0 hi
      have f2 := hf.b2 0 hi
      have f3 := hf.b3 0 hi
      rw [ht] at f1 f2 f3
      have hKO := KeepsOthers.refl V2
      gi_wp2_with fail
      refine ⟨trivial, ?_⟩
      gi_at_call 52
      refine (CallsIn.inRound l (callsIn_wide.2 (hpow _ hV))).mono ?_
      rintro e X1 ⟨C9, rfl, R9, hb9⟩
      clear hpow
      replace hKO := hKO.trans (keepsOthers_of_below hb9)
      replace hr := hr.below hb9
      replace b1 := b1.below hb9
      replace h1 := ownsRow_below h1 hb9
      replace hC : ∀ j, j < 0 → (C j).size = 8 ∧ PenQ X1 (C j) (a.tr k y u (j + 1)) := fun j hj => ⟨(hC j hj).1, (hC j hj).2.ext (.of_below hb9)⟩
      replace hV := belowCall hV hb9
      replace bV := bV.below hb9
      replace bn := bn.below hb9
      replace bb := bb.below hb9
      clear cV lV
      gi_wp2_with fail
      refine ⟨trivial, ?_⟩
      gi_at_call 51
      refine (CallsIn.inRound l (callsIn_wide.2 (bend_ok W3.heap.size _ _ (a.pow k 0) _ 1 (by decide) (by decide) X1 hr R9 f1 f2 f3))).mono ?_
      rintro e X2 ⟨rfl, hk2, hr2⟩
      obtain ⟨pa, ka, ca, pa', ka', ca', pb, kb, cb, pb', kb', cb', bR, q1, q2⟩ := id hr2
      obtain ⟨qa, qb, qc, qa', qb', qc', ra, rb, rc, ra', rb', rc', bR0, _, _⟩ := hr
      have hx2 := hk2.ext bR0 (by decide)
      replace hKO := hKO.trans (KeepsOthers.keepBut bR0 hk2)
      replace b1 := hk2.box b1 b1.lt (Box.ne b1 bR0 (by decide))
      replace h1 := ownsRow_keep h1 bR0 (by decide) hk2
      replace hC : ∀ j, j < 0 → (C j).size = 8 ∧ PenQ X2 (C j) (a.tr k y u (j + 1)) := fun j hj => ⟨(hC j hj).1, (hC j hj).2.ext hx2⟩
      replace bV := hk2.box bV bV.lt (Box.ne bV bR0 (by decide))
      replace bn := hk2.box bn bn.lt (Box.ne bn bR0 (by decide))
      replace bb := hk2.box bb bb.lt (Box.ne bb bR0 (by decide))
      replace hV := hk2.below hV hw3 hV.size
      clear hk2 bR0 hx2 hb9
      have cR := bR.cell
      have lR := bR.lt
      have c1 := b1.cell
      have l1 := b1.lt
      have fr1 := b1.frozen
      gi_wp2_with (gi_at_builtin; (refine wpListIn_append_own _ rfl _ _ 58 rfl w.heap.size 65 i0 z0 8 128 Tryz.underlying58 pi1 pi2 pi3 pi4 pi5 (by decide) _ _ _ rfl (h1.alloc _) ⟨X2.heap.size, 0, none⟩ 1 1 [_, _, _, _, _, _, _, _] rfl rfl (cells_new X2 #[_, _, _, _, _, _, _, _] _) (by simp [Value.oneCell']) (by first | omega | (unfold maxLen; omega) | (simp [maxLen]; omega)) (by omega) (by have := hV.size; simp; omega) ?_); intro v' w1 hown' hgrow _; obtain ⟨g', cap', rfl⟩ := ownsRow_succ hown'; have b11 := Box.appended (h1.alloc _) hgrow (b1.alloc _) (by decide); have c11 := b11.cell; have l11 := b11.lt; have f11 := b11.frozen)
      have kS := (KeepBut.refl w.heap.size w1).set 0 (.slice (some ⟨g', 0, none⟩) (0 + 1) cap')
      have bR1 := Box.appended (h1.alloc _) hgrow (bR.alloc _) (by decide)
      have bR2 := kS.box bR1 bR1.lt (Box.ne bR1 b11 (by decide))
      have bV1 := Box.appended (h1.alloc _) hgrow (bV.alloc _) (by decide)
      have bn1 := Box.appended (h1.alloc _) hgrow (bn.alloc _) (by decide)
      have bb1 := Box.appended (h1.alloc _) hgrow (bb.alloc _) (by decide)
      have hx := (((Ext.refl X2).alloc _).trans (Ext.appended (h1.alloc _) hgrow (by decide))).trans (kS.ext b11 (by decide))
      have hV1 := (Below.appended (h1.alloc _) hgrow (belowAlloc hV _) (Nat.le_refl _)).setCell (p := ⟨w.heap.size, 0, none⟩) (Nat.le_refl _) (.slice (some ⟨g', 0, none⟩) (0 + 1) cap')
      have own1 := ownsRow_keep hown' b11 (by decide) kS
      refine ⟨hKO.trans ((KeepsOthers.alloc _ _).trans ((KeepsOthers.appended (h1.alloc _) hgrow).trans (KeepsOthers.setCell _ _ _))), ?_⟩
      unfold TrInv
      refine ⟨_, fun j => if j = 0 then #[.bool (decide (y.num < 0)), .slice pa ka ca, .bool false, .slice pa' ka' ca', .bool (decide ((u - Rat.divInt 1 1 * (y * a.pow k 0)).num < 0)), .slice pb kb cb, .bool false, .slice pb' kb' cb'] else C j, ?_, b11.set 0 _, ?_, fun j hj => ?_, hV1, kS.box bV1 bV1.lt (Box.ne bV1 b11 (by decide)), kS.box bn1 bn1.lt (Box.ne bn1 b11 (by decide)), kS.box bb1 bb1.lt (Box.ne bb1 b11 (by decide))⟩
      · rw [ht]
        exact ⟨_, _, _, _, _, _, _, _, _, _, _, _, bR2, q1.ext hx, q2.ext hx⟩
      · rw [pens_succ, pens_congr _ C 0 (fun j hj => if_neg (by omega)), if_pos rfl]
        first | exact own1 | (simp only [Int.one_mul] at own1 ⊢; exact own1)
      · by_cases e : j = 0
        · subst e
          dsimp only
          rw [if_pos rfl]
          refine ⟨rfl, ?_⟩
          rw [ht]
          exact ⟨_, _, _, _, _, _, _, _, _, _, _, _, rfl, q1.ext hx, q2.ext hx⟩
        · dsimp only
          rw [if_neg e]
          exact ⟨(hC j (by omega)).1, (hC j (by omega)).2.ext hx⟩
    | succ t =>
      have hmv := fun X hX hRX => move_ok a ha q hchk t k w h (by omega) k1 X hX W3.heap.size hw3 (a.tr k y u (t + 1)).1 (a.tr k y u (t + 1)).2 hRX 1 (.inl rfl) (hf.num t (by omega)) (hf.m1 t hi) (hf.m2 t hi) (hf.m3 t hi)
      simp only [Lns.vvals] at hmv
      have w1 : IntKind.i64.wrap ((t : Int) + 1 - 1) = (t : Int) := by rw [IntKind.wrap_i64]; omega
      have ht := a.tr_next k y u t
      have f1 := hf.b1 (t + 1) hi
      have f2 := hf.b2 (t + 1) hi
      have f3 := hf.b3 (t + 1) hi
      rw [ht] at f1 f2 f3
      gi_wp2_with fail
      refine ⟨trivial, ?_⟩
      gi_at_call 50
      refine (CallsIn.inRound l (callsIn_wide.2 (hmv _ hV hr))).mono ?_
      rintro e X0 ⟨rfl, hk0, hr0⟩
      obtain ⟨qa, qb, qc, qa', qb', qc', ra, rb, rc, ra', rb', rc', bR0, _, _⟩ := hr
      have hx0 := hk0.ext bR0 (by decide)
      have hKO := KeepsOthers.keepBut bR0 hk0
      replace b1 := hk0.box b1 b1.lt (Box.ne b1 bR0 (by decide))
      replace h1 := ownsRow_keep h1 bR0 (by decide) hk0
      replace hC : ∀ j, j < t + 1 → (C j).size = 8 ∧ PenQ X0 (C j) (a.tr k y u (j + 1)) := fun j hj => ⟨(hC j hj).1, (hC j hj).2.ext hx0⟩
      replace bV := hk0.box bV bV.lt (Box.ne bV bR0 (by decide))
      replace bn := hk0.box bn bn.lt (Box.ne bn bR0 (by decide))
      replace bb := hk0.box bb bb.lt (Box.ne bb bR0 (by decide))
      replace hV := hk0.below hV hw3 hV.size
      have hr := hr0
      clear hk0 bR0 hx0 hr0 hmv cV lV
      have cV := bV.cell
      have lV := bV.lt
      gi_wp2_with fail
      refine ⟨trivial, ?_⟩
      gi_at_call 52
      refine (CallsIn.inRound l (callsIn_wide.2 (hpow _ hV))).mono ?_
      rintro e X1 ⟨C9, rfl, R9, hb9⟩
      clear hpow
      replace hKO := hKO.trans (keepsOthers_of_below hb9)
      replace hr := hr.below hb9
      replace b1 := b1.below hb9
      replace h1 := ownsRow_below h1 hb9
      replace hC : ∀ j, j < (t + 1) → (C j).size = 8 ∧ PenQ X1 (C j) (a.tr k y u (j + 1)) := fun j hj => ⟨(hC j hj).1, (hC j hj).2.ext (.of_below hb9)⟩
      replace hV := belowCall hV hb9
      replace bV := bV.below hb9
      replace bn := bn.below hb9
      replace bb := bb.below hb9
      clear cV lV
      gi_wp2_with fail
      refine ⟨trivial, ?_⟩
      gi_at_call 51
      refine (CallsIn.inRound l (callsIn_wide.2 (bend_ok W3.heap.size _ _ (a.pow k (t + 1)) _ 1 (by decide) (by decide) X1 hr R9 f1 f2 f3))).mono ?_
      rintro e X2 ⟨rfl, hk2, hr2⟩
      obtain ⟨pa, ka, ca, pa', ka', ca', pb, kb, cb, pb', kb', cb', bR, q1, q2⟩ := id hr2
      obtain ⟨qa, qb, qc, qa', qb', qc', ra, rb, rc, ra', rb', rc', bR0, _, _⟩ := hr
      have hx2 := hk2.ext bR0 (by decide)
      replace hKO := hKO.trans (KeepsOthers.keepBut bR0 hk2)
      replace b1 := hk2.box b1 b1.lt (Box.ne b1 bR0 (by decide))
      replace h1 := ownsRow_keep h1 bR0 (by decide) hk2
      replace hC : ∀ j, j < (t + 1) → (C j).size = 8 ∧ PenQ X2 (C j) (a.tr k y u (j + 1)) := fun j hj => ⟨(hC j hj).1, (hC j hj).2.ext hx2⟩
      replace bV := hk2.box bV bV.lt (Box.ne bV bR0 (by decide))
      replace bn := hk2.box bn bn.lt (Box.ne bn bR0 (by decide))
      replace bb := hk2.box bb bb.lt (Box.ne bb bR0 (by decide))
      replace hV := hk2.below hV hw3 hV.size
      clear hk2 bR0 hx2 hb9
      have cR := bR.cell
      have lR := bR.lt
      have c1 := b1.cell
      have l1 := b1.lt
      have fr1 := b1.frozen
      gi_wp2_with (gi_at_builtin; (refine wpListIn_append_own _ rfl _ _ 58 rfl w.heap.size 65 i0 z0 8 128 Tryz.underlying58 pi1 pi2 pi3 pi4 pi5 (by decide) _ _ _ rfl (h1.alloc _) ⟨X2.heap.size, 0, none⟩ 1 1 [_, _, _, _, _, _, _, _] rfl rfl (cells_new X2 #[_, _, _, _, _, _, _, _] _) (by simp [Value.oneCell']) (by first | omega | (unfold maxLen; omega) | (simp [maxLen]; omega)) (by omega) (by have := hV.size; simp; omega) ?_); intro v' w1 hown' hgrow _; obtain ⟨g', cap', rfl⟩ := ownsRow_succ hown'; have b11 := Box.appended (h1.alloc _) hgrow (b1.alloc _) (by decide); have c11 := b11.cell; have l11 := b11.lt; have f11 := b11.frozen)
      have kS := (KeepBut.refl w.heap.size w1).set 0 (.slice (some ⟨g', 0, none⟩) ((t + 1) + 1) cap')
      have bR1 := Box.appended (h1.alloc _) hgrow (bR.alloc _) (by decide)
      have bR2 := kS.box bR1 bR1.lt (Box.ne bR1 b11 (by decide))
      have bV1 := Box.appended (h1.alloc _) hgrow (bV.alloc _) (by decide)
      have bn1 := Box.appended (h1.alloc _) hgrow (bn.alloc _) (by decide)
      have bb1 := Box.appended (h1.alloc _) hgrow (bb.alloc _) (by decide)
      have hx := (((Ext.refl X2).alloc _).trans (Ext.appended (h1.alloc _) hgrow (by decide))).trans (kS.ext b11 (by decide))
      have hV1 := (Below.appended (h1.alloc _) hgrow (belowAlloc hV _) (Nat.le_refl _)).setCell (p := ⟨w.heap.size, 0, none⟩) (Nat.le_refl _) (.slice (some ⟨g', 0, none⟩) ((t + 1) + 1) cap')
      have own1 := ownsRow_keep hown' b11 (by decide) kS
      refine ⟨hKO.trans ((KeepsOthers.alloc _ _).trans ((KeepsOthers.appended (h1.alloc _) hgrow).trans (KeepsOthers.setCell _ _ _))), ?_⟩
      unfold TrInv
      refine ⟨_, fun j => if j = (t + 1) then #[.bool (decide (((a.tr k y u (t + 1)).1 + (Rat.divInt (1 * (a.S t).thick) 1000000 * (a.tr k y u (t + 1)).2) / a.nI k t).num < 0)), .slice pa ka ca, .bool false, .slice pa' ka' ca', .bool (decide (((a.tr k y u (t + 1)).2 - Rat.divInt 1 1 * (((a.tr k y u (t + 1)).1 + (Rat.divInt (1 * (a.S t).thick) 1000000 * (a.tr k y u (t + 1)).2) / a.nI k t) * a.pow k (t + 1))).num < 0)), .slice pb kb cb, .bool false, .slice pb' kb' cb'] else C j, ?_, b11.set 0 _, ?_, fun j hj => ?_, hV1, kS.box bV1 bV1.lt (Box.ne bV1 b11 (by decide)), kS.box bn1 bn1.lt (Box.ne bn1 b11 (by decide)), kS.box bb1 bb1.lt (Box.ne bb1 b11 (by decide))⟩
      · rw [ht]
        exact ⟨_, _, _, _, _, _, _, _, _, _, _, _, bR2, q1.ext hx, q2.ext hx⟩
      · rw [pens_succ, pens_congr _ C (t + 1) (fun j hj => if_neg (by omega)), if_pos rfl]
        first | exact own1 | (simp only [Int.one_mul] at own1 ⊢; exact own1)
      · by_cases e : j = (t + 1)
        · rw [e]
          dsimp only
          rw [if_pos rfl]
          refine ⟨rfl, ?_⟩
          rw [ht]
          exact ⟨_, _, _, _, _, _, _, _, _, _, _, _, rfl, q1.ext hx, q2.ext hx⟩
        · dsimp only
          rw [if_neg e]
          exact ⟨(hC j (by omega)).1, (hC j (by omega)).2.ext hx⟩
  case hdone =>
    rintro D V hD ⟨v, C, hr, b1, h1, hC, hV, bV, bn, bb⟩ hD2
    obtain ⟨g, cap, rfl⟩ : ∃ g cap, v = .slice (some ⟨g, 0, none⟩) a.ns cap := by
      obtain ⟨n', hn'⟩ : ∃ n', a.ns = n' + 1 := ⟨a.ns - 1, by omega⟩
      rw [hn'] at h1 ⊢
      exact ownsRow_succ h1
    have cR := b1.cell
    have lR := b1.lt
    have fR := b1.frozen
    go_wp2_with fail
    have bR2 := b1.set 0 (.slice (some ⟨g, 0, none⟩) a.ns cap)
    have hK' := (KeepsOthers.setCell V ⟨w.heap.size, 0, none⟩ (.slice (some ⟨g, 0, none⟩) a.ns cap)).same D _ hD2 rfl
    refine ⟨by simp, .inl ⟨_, _, rfl, run_takeDeferred hK', ?_⟩⟩
    have bR3 := bR2.grown (grownBy_putObj' _ D (.deferred none)) (fun r e => by cases e; exact ⟨_, hK', rfl⟩)
    have cR3 := bR3.cell 0
    have k1' := (KeepBut.refl w.heap.size V).set 0 (.slice (some ⟨g, 0, none⟩) a.ns cap)
    have hr1 := ownsRow_keep h1 b1 (by decide) k1'
    have hg2 : ∀ r, some D = some r → ∃ o : Obj, (V.setCell ⟨w.heap.size, 0, none⟩ (.slice (some ⟨g, 0, none⟩) a.ns cap)).heap[r]? = some o ∧ o.isCells = false := fun r e => by cases e; exact ⟨_, hK', rfl⟩
    have hr2 := ownsRow_grown hr1 (grownBy_putObj' _ D (.deferred none)) hg2
    have hx := (k1'.ext b1 (by decide)).trans (Ext.grownNo (grownBy_putObj' _ D (.deferred none)) hg2)
    refine ⟨.slice (some ⟨g, 0, none⟩) a.ns cap, ?_, ⟨_, cap, rfl, ⟨C, hr2, fun j hj => ⟨(hC j hj).1, (hC j hj).2.ext hx⟩⟩, below_putObj (hV.setCell (p := ⟨w.heap.size, 0, none⟩) (Nat.le_refl _) _) (Nat.le_trans hw5 hD) _⟩⟩
    simp [results, Tryz.f46, go_sem, cR3]
end Go.Proofs.YtepodcocemmejaaGreatDoor
