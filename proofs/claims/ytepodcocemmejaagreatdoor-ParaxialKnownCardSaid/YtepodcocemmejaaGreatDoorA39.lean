/- Part 39 of 52 of the proof that the law ParaxialKnown returns true, whatever stands in memory, if the two listed variables hold what the text lays: contracts of the functions that it reaches. No condition beside the row. -/
import Derived.Test.YtepodcocemmejaaGreatDoorA33
set_option linter.unusedVariables false
set_option linter.unusedSimpArgs false
namespace Go.Proofs.YtepodcocemmejaaGreatDoor
open Go.RowKit Go.Mono
theorem mustqy (q : Rat) (p : Option Addr) (k c : Nat) (p' : Option Addr) (k' c' : Nat) (w : World) :
    Calls Tryz.prog 66 #[.agg #[.bool (decide (q.num < 0)), .slice p k c, .bool false, .slice p' k' c'], .int .i64 0] w fun e w' => e = .returned (.agg #[.bool (decide (q.num < 0)), .slice p k c, .bool false, .slice p' k' c']) ∧ Below w.heap.size w w' :=
  mustq_ok _ rfl (by simp [Value.oneCell']) w
set_option maxRecDepth 100000 in
set_option maxHeartbeats 4000000 in
theorem move_ok (a : Lns) (ha : a.opt) (q : Plc) (hchk : Chk a q) (s k : Nat) (w0 : World) (h : OptAt w0 a q) (s1 : s < a.ns) (k1 : k < a.nw) (w : World) (hw0 : Below w0.heap.size w0 w) (R : Nat) (hR0 : w0.heap.size ≤ R) (y u : Rat) (hR : RayAt w R 108 y u)
    (g : Int) (g1 : g = 1 ∨ g = -1) (hn : (a.nI k s).num ≠ 0) (hf1 : Fits (Rat.divInt (g * (a.S s).thick) 1000000 * u)) (hf2 : Fits ((Rat.divInt (g * (a.S s).thick) 1000000 * u) / a.nI k s)) (hf3 : Fits (y + ((Rat.divInt (g * (a.S s).thick) 1000000 * u) / a.nI k s))) :
    Calls Tryz.prog 50 #[.pointer (some ⟨R, 0, none⟩), .agg (a.vvals q k), .int .i64 (s : Int), .int .i64 g] w fun e w' => e = .returned (.tuple #[]) ∧ KeepBut R w.heap.size w w' ∧ RayAt w' R 108 (y + ((Rat.divInt (g * (a.S s).thick) 1000000 * u) / a.nI k s)) u := by
  obtain ⟨p1, k1x, c1, p1', k1', c1', p2, k2, c2, p2', k2', c2', bR, Ry, Ru⟩ := hR
  obtain ⟨b, off, hps, hbl, hcell⟩ := h.surfs.2.2 (by omega)
  have ft : w0.cell? ⟨b, off + s * 22 + 12, none⟩ = some (.int .i64 (a.S s).thick) := hcell s 12 s1 (by omega)
  have hth := (ha.base.sok s s1).thick
  have hgt : -1000000000 ≤ g * (a.S s).thick ∧ g * (a.S s).thick ≤ 1000000000 := by
    obtain ⟨t1, t2⟩ := hth
    rcases g1 with rfl | rfl <;> omega
  have hwr : IntKind.i64.wrap (g * (a.S s).thick) = g * (a.S s).thick := by rw [IntKind.wrap_i64]; omega
  have hO := fun W => pof_ok (g * (a.S s).thick) 1000000 (by decide) W (by omega) (by omega) (by decide) (by decide)
  have hI := fun W (hW : Below w0.heap.size w0 W) => index_ok a ha q hchk s k W (h.below hW) s1 k1
  have hRw := bR.lt
  simp only [Lns.vvals] at hI ⊢
  rw [hps] at hI ⊢
  have s1' : (s : Int) < a.ns := by omega
  clear hcell hth hgt g1
  go_enter Tryz.func50, Tryz.ntmps50
  go_wp2_with fail
  refine boxes1 fun W hB hs bV => ?_
  have bR0 := bR.below hB
  have hw1 : Below w0.heap.size w0 W := hw0.trans (hB.mono hw0.size)
  replace ft := (hw1.cell (p := ⟨b, off + s * 22 + 12, none⟩) hbl).trans ft
  have lb := Nat.lt_of_lt_of_le hbl hw1.size
  have cR := bR0.cell
  have lR := bR0.lt
  have cV := bV.cell
  have lV := bV.lt
  replace Ry := Ry.ext (.of_below hB)
  replace Ru := Ru.ext (.of_below hB)
  clear bR
  go_cut [8] (fun s8 wx => ∃ B8, s8 = .pointer (some ⟨B8, 0, none⟩) ∧ W.heap.size ≤ B8 ∧ BoxQ wx B8 54 (Rat.divInt (g * (a.S s).thick) 1000000 * u) ∧ Below W.heap.size W wx)
  case first =>
    go_region_held3 (fun w' => (∀ b o, b < W.heap.size → w'.cell? ⟨b, o, none⟩ = W.cell? ⟨b, o, none⟩) ∧ Below W.heap.size W w') ((refine belowS ?_; first | exact (Below.refl _ _).drew | (repeat' (first | exact And.right ‹_› | exact belowCall (And.right ‹_›) ‹_› | exact belowAlloc (And.right ‹_›) _ | exact belowAlloc ‹_› _ | refine belowSet ?_ (by omega) _ _)))) (first | (go_at_call 97; (with_reducible refine (hO _).mono ?_); rintro e W5 ⟨C5, rfl, R5, hb5⟩; have r5 := R5; obtain ⟨p5, k5, c5, p5', k5', c5', hC5, z5, y5⟩ := r5; cases hC5; clear z5 y5; (have hzhb5 := belowCall (And.right ‹_›) hb5); (have hshb5 := hzhb5.size); (first | (replace bn := bn.below hb5; clear cbn fbn lbn; have cbn := bn.cell; have fbn := bn.frozen; have lbn := bn.lt) | (have bn := (Box.new _ 54 _).below hb5; have cbn := bn.cell; have fbn := bn.frozen; have lbn := bn.lt) | (have bn := (Box.new _ 54 _).drew.below hb5; have cbn := bn.cell; have fbn := bn.frozen; have lbn := bn.lt) | skip)) | (go_at_call 30; (with_reducible refine (mul_ok (Rat.divInt (g * (a.S s).thick) 1000000) u _ _ _ W5 (by first | exact Ext.refl _ | exact (Ext.refl _).alloc _ | exact ((Ext.refl _).alloc _).drew) R5 (Ru.ext (.of_below hzhb5)) hf1).mono ?_); rintro e W6 ⟨C6, rfl, R6, hb6⟩; have r6 := R6; obtain ⟨p6, k6, c6, p6', k6', c6', hC6, z6, y6⟩ := r6; subst hC6; clear z6 y6; (have hzhb6 := belowCall (And.right ‹_›) hb6); (have hshb6 := hzhb6.size); (first | (replace bn := bn.below hb6; clear cbn fbn lbn; have cbn := bn.cell; have fbn := bn.frozen; have lbn := bn.lt) | (have bn := (Box.new _ 54 _).below hb6; have cbn := bn.cell; have fbn := bn.frozen; have lbn := bn.lt) | (have bn := (Box.new _ 54 _).drew.below hb6; have cbn := bn.cell; have fbn := bn.frozen; have lbn := bn.lt) | skip)) | (go_at_call 66; (with_reducible refine (mustqy (Rat.divInt (g * (a.S s).thick) 1000000 * u) p6 k6 c6 p6' k6' c6' _).mono ?_); rintro e W7 ⟨rfl, hb7⟩; replace R6 := R6.ext (by first | exact .of_below hb7 | exact ((Ext.refl _).alloc _).below hb7 | exact ((Ext.refl _).alloc _).drew.below hb7); (have hzhb7 := belowCall (And.right ‹_›) hb7); (have hshb7 := hzhb7.size); (first | (replace bn := bn.below hb7; clear cbn fbn lbn; have cbn := bn.cell; have fbn := bn.frozen; have lbn := bn.lt) | (have bn := (Box.new _ 54 _).below hb7; have cbn := bn.cell; have fbn := bn.frozen; have lbn := bn.lt) | (have bn := (Box.new _ 54 _).drew.below hb7; have cbn := bn.cell; have fbn := bn.frozen; have lbn := bn.lt) | skip)))
    all_goals
      go_wp2_with fail
      go_meet
      exact ⟨_, rfl, (by omega), (by first | exact boxq_new R6 | exact boxq_set (by decide) bn R6), And.right ‹_›⟩
  case rest =>
    obtain ⟨B8, rfl, hB8, hq8, hb⟩ := hcut
    obtain ⟨p8, k8, c8, p8', k8', c8', b8, R8⟩ := hq8
    have hw3 : Below w0.heap.size w0 wc := hw1.trans (hb.mono hw1.size)
    have hN0 := hw3.size
    have hBc := belowCall hB hb
    replace bR0 := bR0.below hb
    replace bV := bV.below hb
    replace Ry := Ry.ext (.of_below hb)
    replace Ru := Ru.ext (.of_below hb)
    have bR := bR0
    have cbR := bR.cell
    have fbR := bR.frozen
    have lbR := bR.lt
    have cV := bV.cell
    have lV := bV.lt
    have cB := b8.cell
    have lB := b8.lt
    have nV : w.heap.size ≠ R := by omega
    have nB : B8 ≠ R := by omega
    have K0 := KeepBut.refl R wc
    clear cR lR ft lb hb hB hw1
    go_wp2_with fail
    clear bR cbR fbR lbR cV lV cB lB
    have bR := bR0.drew
    have hvi : (Tryz.prog.info? 104).map (·.size) = some 11 := by kernel_rfl
    refine wp_region_held_drew (S := fun w' => KeepBut R wc.heap.size wc w') (by kernel_rfl) K0.drew (fun hHeld => ?_)
    refine take_want 0 (some 29) rfl (by kernel_rfl) (by kernel_rfl) (by kernel_rfl) rfl (fun _ _ _ h => h) (by rfl) (v := ?_) ?_ (by assumption) ?_
    rotate_left
    · intro w hSw; (try dsimp only at hSw); go_simp; all_goals with_reducible rfl
    simp only [Act.put, List.setIfInBounds_toArray, List.set_cons_zero, List.set_cons_succ]
    refine take_want 1 (some 30) rfl (by kernel_rfl) (by kernel_rfl) (by kernel_rfl) rfl (fun _ _ _ h => h) (by rfl) (v := ?_) ?_ (by assumption) ?_
    rotate_left
    · intro w hSw; (try dsimp only at hSw); go_simp; all_goals with_reducible rfl
    simp only [Act.put, List.setIfInBounds_toArray, List.set_cons_zero, List.set_cons_succ]
    refine take_want 2 (some 31) rfl (by kernel_rfl) (by kernel_rfl) (by kernel_rfl) rfl (fun _ _ _ h => h) (by rfl) (v := ?_) ?_ (by assumption) ?_
    rotate_left
    · intro w hSw; (try dsimp only at hSw); go_simp; all_goals with_reducible rfl
    simp only [Act.put, List.setIfInBounds_toArray, List.set_cons_zero, List.set_cons_succ]
    refine take_want 3 (some 32) rfl (by kernel_rfl) (by kernel_rfl) (by kernel_rfl) rfl (fun _ _ _ h => h) (by rfl) (v := ?_) ?_ (by assumption) ?_
    rotate_left
    · intro w hSw; (try dsimp only at hSw); go_simp; all_goals with_reducible rfl
    simp only [Act.put, List.setIfInBounds_toArray, List.set_cons_zero, List.set_cons_succ]
    refine take_want 4 (some 33) rfl (by kernel_rfl) (by kernel_rfl) (by kernel_rfl) rfl (fun _ _ _ h => h) (by rfl) (v := ?_) ?_ (by assumption) ?_
    rotate_left
    · intro w hSw; (try dsimp only at hSw); go_simp; all_goals with_reducible rfl
    simp only [Act.put, List.setIfInBounds_toArray, List.set_cons_zero, List.set_cons_succ]
    refine take_want 8 (some 37) rfl (by kernel_rfl) (by kernel_rfl) (by kernel_rfl) rfl (fun _ _ _ h => h) (by rfl) (v := ?_) ?_ (by assumption) ?_
    rotate_left
    · intro w hSw; (try dsimp only at hSw); go_simp; all_goals with_reducible rfl
    simp only [Act.put, List.setIfInBounds_toArray, List.set_cons_zero, List.set_cons_succ]
    refine take_want 6 (some 35) rfl (by as_aux_lemma => kernel_rfl) (by as_aux_lemma => kernel_rfl) (by as_aux_lemma => kernel_rfl) rfl (fun _ _ _ h => h) (by rfl) (v := (.agg #[.bool (decide ((Rat.divInt (g * (a.S s).thick) 1000000 * u).num < 0)), .slice p8 k8 c8, .bool false, .slice p8' k8' c8'])) (exec_load 54 _ rfl B8 0 rfl #[.bool (decide ((Rat.divInt (g * (a.S s).thick) 1000000 * u).num < 0)), .slice p8 k8 c8, .bool false, .slice p8' k8' c8'] (fun w' hS => (hS.box b8 b8.lt nB).range) _ Tryz.underlying54 rfl sizeQuot) (by assumption) ?_
    simp only [Act.put, List.setIfInBounds_toArray, List.set_cons_zero, List.set_cons_succ]
    refine take_want 7 (some 36) rfl (by as_aux_lemma => kernel_rfl) (by as_aux_lemma => kernel_rfl) (by as_aux_lemma => kernel_rfl) rfl (fun _ _ _ h => h) (by rfl) (v := (.agg #[.string a.nm, .int .i64 a.di, .int .i64 a.pu, .int .i64 a.st, .int .i64 a.pr, .slice q.pf a.nf q.cf, .slice q.pw a.nw q.cw, .slice (some ⟨b, off, none⟩) a.ns q.cs, .slice q.pc 0 q.cc, .slice q.pi a.ns q.ci, .int .i64 (k : Int)])) (exec_load 104 _ rfl w.heap.size 0 rfl #[.string a.nm, .int .i64 a.di, .int .i64 a.pu, .int .i64 a.st, .int .i64 a.pr, .slice q.pf a.nf q.cf, .slice q.pw a.nw q.cw, .slice (some ⟨b, off, none⟩) a.ns q.cs, .slice q.pc 0 q.cc, .slice q.pi a.ns q.ci, .int .i64 (k : Int)] (fun w' hS => (hS.box bV bV.lt nV).range) _ Tryz.underlying104 rfl hvi) (by assumption) ?_
    simp only [Act.put, List.setIfInBounds_toArray, List.set_cons_zero, List.set_cons_succ]
    refine wpAnyH_ready (rs := [5, 9]) (by kernel_rfl) (by simp) ?_
    refine AllReadyH.cons rfl (fun K hK => ?_) (AllReadyH.cons rfl (fun K hK => ?_) AllReadyH.nil)
    · rw [if_pos (by rfl)]
      refine wp_load_mid 54 _ rfl R 0 rfl [.bool (decide (y.num < 0)), .slice p1 k1x c1, .bool false, .slice p1' k1' c1'] _ (lo_range bR) Tryz.underlying54 rfl sizeQuot ?_
      refine hK.out _ _ hHeld (fun hHeld => ?_)
      clear hK K
      try simp only [Act.put, List.setIfInBounds_toArray, List.set_cons_zero, List.set_cons_succ]
      refine wpAnyH_ready (rs := [9]) (by kernel_rfl) (by simp) ?_
      refine AllReadyH.cons rfl (fun K hK => ?_) AllReadyH.nil
      go_simp
      refine (hI _ (KeepBut.below hHeld hw3 hR0 hN0)).mono ?_
      rintro e W5 ⟨C5, rfl, R5, hb5⟩
      refine hK.out _ _ (hHeld.call hb5) (fun hHeld => ?_)
      clear hK K
      replace bR := bR.below hb5
      try simp only [Act.put, List.setIfInBounds_toArray, List.set_cons_zero, List.set_cons_succ]
      refine wpAnyH_ready (rs := [10]) (by kernel_rfl) (by simp) ?_
      refine AllReadyH.cons rfl (fun K hK => ?_) AllReadyH.nil
      go_simp
      refine (div_ok (Rat.divInt (g * (a.S s).thick) 1000000 * u) (a.nI k s) _ _ W5 W5 (Ext.refl _) (R8.ext (KeepBut.ext hHeld bR0 (by decide))) R5 hn hf2).mono ?_
      rintro e W6 ⟨r6, rfl, R6, hb6⟩
      refine hK.out _ _ (hHeld.call hb6) (fun hHeld => ?_)
      clear hK K
      replace bR := bR.below hb6
      replace R5 := R5.ext (.of_below hb6)
      try simp only [Act.put, List.setIfInBounds_toArray, List.set_cons_zero, List.set_cons_succ]
      obtain ⟨C6, rfl, z6, o6⟩ := R6.cells
      refine take_want 11 (some 40) rfl (by kernel_rfl) (by kernel_rfl) (by kernel_rfl) rfl (fun _ _ _ h => h) (by rfl) (v := ?_) ?_ (by assumption) ?_
      rotate_left
      · intro w hSw; (try dsimp only at hSw); go_simp; all_goals with_reducible rfl
      simp only [Act.put, List.setIfInBounds_toArray, List.set_cons_zero, List.set_cons_succ]
      refine take_want 12 (some 41) rfl (by kernel_rfl) (by kernel_rfl) (by kernel_rfl) rfl (fun _ _ _ h => h) (by rfl) (v := ?_) ?_ (by assumption) ?_
      rotate_left
      · intro w hSw; (try dsimp only at hSw); go_simp; all_goals with_reducible rfl
      simp only [Act.put, List.setIfInBounds_toArray, List.set_cons_zero, List.set_cons_succ]
      refine wpAnyH_ready (rs := [13]) (by kernel_rfl) (by simp) ?_
      refine AllReadyH.cons rfl (fun K hK => ?_) AllReadyH.nil
      go_simp
      refine (mustq_ok C6 z6 o6 _).mono ?_
      rintro e W7 ⟨rfl, hb7⟩
      refine hK.out _ _ (hHeld.call hb7) (fun hHeld => ?_)
      clear hK K
      replace bR := bR.below hb7
      replace R5 := R5.ext (.of_below hb7)
      replace R6 := R6.ext (.of_below hb7)
      try simp only [Act.put, List.setIfInBounds_toArray, List.set_cons_zero, List.set_cons_succ]
      refine wpAnyH_ready (rs := [14]) (by kernel_rfl) (by simp) ?_
      refine AllReadyH.cons rfl (fun K hK => ?_) AllReadyH.nil
      go_simp
      refine (add_ok y _ _ _ _ _ (Ext.refl _) (Ry.ext (KeepBut.ext hHeld bR0 (by decide))) R6 hf3).mono ?_
      rintro e W8 ⟨r18, rfl, R18, hb8⟩
      refine hK.out _ _ (hHeld.call hb8) (fun hHeld => ?_)
      clear hK K
      replace bR := bR.below hb8
      replace R5 := R5.ext (.of_below hb8)
      replace R6 := R6.ext (.of_below hb8)
      try simp only [Act.put, List.setIfInBounds_toArray, List.set_cons_zero, List.set_cons_succ]
      obtain ⟨p18, k18, c18, p18', k18', c18', hC18, z18, y18⟩ := id R18
      cases hC18
      clear z18 y18
      refine take_want 15 (some 44) rfl (by kernel_rfl) (by kernel_rfl) (by kernel_rfl) rfl (fun _ _ _ h => h) (by rfl) (v := ?_) ?_ (by assumption) ?_
      rotate_left
      · intro w hSw; (try dsimp only at hSw); go_simp; all_goals with_reducible rfl
      simp only [Act.put, List.setIfInBounds_toArray, List.set_cons_zero, List.set_cons_succ]
      refine take_want 16 (some 45) rfl (by kernel_rfl) (by kernel_rfl) (by kernel_rfl) rfl (fun _ _ _ h => h) (by rfl) (v := ?_) ?_ (by assumption) ?_
      rotate_left
      · intro w hSw; (try dsimp only at hSw); go_simp; all_goals with_reducible rfl
      simp only [Act.put, List.setIfInBounds_toArray, List.set_cons_zero, List.set_cons_succ]
      refine wpAnyH_ready (rs := [17]) (by kernel_rfl) (by simp) ?_
      refine AllReadyH.cons rfl (fun K hK => ?_) AllReadyH.nil
      go_simp
      refine (mustq_ok _ rfl (by simp [Value.oneCell']) _).mono ?_
      rintro e W9 ⟨rfl, hb9⟩
      refine hK.out _ _ (hHeld.call hb9) (fun hHeld => ?_)
      clear hK K
      replace bR := bR.below hb9
      replace R5 := R5.ext (.of_below hb9)
      replace R6 := R6.ext (.of_below hb9)
      replace R18 := R18.ext (.of_below hb9)
      try simp only [Act.put, List.setIfInBounds_toArray, List.set_cons_zero, List.set_cons_succ]
      have cRR := bR.cell
      have lRR := bR.lt
      have fRR := bR.frozen
      refine take_want 18 (some 47) rfl (by kernel_rfl) (by kernel_rfl) (by kernel_rfl) rfl (fun _ _ _ h => h) (by rfl) (v := ?_) ?_ (by assumption) ?_
      rotate_left
      · intro w hSw; (try dsimp only at hSw); go_simp; all_goals with_reducible rfl
      simp only [Act.put, List.setIfInBounds_toArray, List.set_cons_zero, List.set_cons_succ]
      refine take_want 19 (some 48) rfl (by kernel_rfl) (by kernel_rfl) (by kernel_rfl) rfl (fun _ _ _ h => h) (by rfl) (v := ?_) ?_ (by assumption) ?_
      rotate_left
      · intro w hSw; (try dsimp only at hSw); go_simp; all_goals with_reducible rfl
      simp only [Act.put, List.setIfInBounds_toArray, List.set_cons_zero, List.set_cons_succ]
      refine take_want 20 (some 49) rfl (by kernel_rfl) (by kernel_rfl) (by kernel_rfl) rfl (fun _ _ _ h => h) (by rfl) (v := ?_) ?_ (by assumption) ?_
      rotate_left
      · intro w hSw; (try dsimp only at hSw); go_simp; all_goals with_reducible rfl
      simp only [Act.put, List.setIfInBounds_toArray, List.set_cons_zero, List.set_cons_succ]
      refine wpAnyH_ready (rs := [21]) (by kernel_rfl) (by simp) ?_
      refine AllReadyH.cons rfl (fun K hK => ?_) AllReadyH.nil
      go_simp
      skip
      refine hK.out _ _ ?_ (fun hHeld => ?_)
      · first | exact ((hHeld.set 0 _).set 1 _ |>.set 2 _ |>.set 3 _) | fail "keep"
      clear hK K
      try simp only [Act.put, List.setIfInBounds_toArray, List.set_cons_zero, List.set_cons_succ]
      refine wpAnyH_done (by kernel_rfl) ?_ _
      go_wp2
      go_end0
      exact ⟨rfl, KeepBut.of_below hBc hHeld, rayY_set (by decide) bR R18 (Ru.ext (KeepBut.ext hHeld bR0 (by decide)))⟩
    · go_simp
      refine (hI _ (KeepBut.below hHeld hw3 hR0 hN0)).mono ?_
      rintro e W5 ⟨C5, rfl, R5, hb5⟩
      refine hK.out _ _ (hHeld.call hb5) (fun hHeld => ?_)
      clear hK K
      replace bR := bR.below hb5
      try simp only [Act.put, List.setIfInBounds_toArray, List.set_cons_zero, List.set_cons_succ]
      refine wpAnyH_ready (rs := [5, 10]) (by kernel_rfl) (by simp) ?_
      refine AllReadyH.cons rfl (fun K hK => ?_) (AllReadyH.cons rfl (fun K hK => ?_) AllReadyH.nil)
      · rw [if_pos (by rfl)]
        refine wp_load_mid 54 _ rfl R 0 rfl [.bool (decide (y.num < 0)), .slice p1 k1x c1, .bool false, .slice p1' k1' c1'] _ (lo_range bR) Tryz.underlying54 rfl sizeQuot ?_
        refine hK.out _ _ hHeld (fun hHeld => ?_)
        clear hK K
        try simp only [Act.put, List.setIfInBounds_toArray, List.set_cons_zero, List.set_cons_succ]
        refine wpAnyH_ready (rs := [10]) (by kernel_rfl) (by simp) ?_
        refine AllReadyH.cons rfl (fun K hK => ?_) AllReadyH.nil
        go_simp
        refine (div_ok (Rat.divInt (g * (a.S s).thick) 1000000 * u) (a.nI k s) _ _ W5 W5 (Ext.refl _) (R8.ext (KeepBut.ext hHeld bR0 (by decide))) R5 hn hf2).mono ?_
        rintro e W6 ⟨r6, rfl, R6, hb6⟩
        refine hK.out _ _ (hHeld.call hb6) (fun hHeld => ?_)
        clear hK K
        replace bR := bR.below hb6
        replace R5 := R5.ext (.of_below hb6)
        try simp only [Act.put, List.setIfInBounds_toArray, List.set_cons_zero, List.set_cons_succ]
        obtain ⟨C6, rfl, z6, o6⟩ := R6.cells
        refine take_want 11 (some 40) rfl (by kernel_rfl) (by kernel_rfl) (by kernel_rfl) rfl (fun _ _ _ h => h) (by rfl) (v := ?_) ?_ (by assumption) ?_
        rotate_left
        · intro w hSw; (try dsimp only at hSw); go_simp; all_goals with_reducible rfl
        simp only [Act.put, List.setIfInBounds_toArray, List.set_cons_zero, List.set_cons_succ]
        refine take_want 12 (some 41) rfl (by kernel_rfl) (by kernel_rfl) (by kernel_rfl) rfl (fun _ _ _ h => h) (by rfl) (v := ?_) ?_ (by assumption) ?_
        rotate_left
        · intro w hSw; (try dsimp only at hSw); go_simp; all_goals with_reducible rfl
        simp only [Act.put, List.setIfInBounds_toArray, List.set_cons_zero, List.set_cons_succ]
        refine wpAnyH_ready (rs := [13]) (by kernel_rfl) (by simp) ?_
        refine AllReadyH.cons rfl (fun K hK => ?_) AllReadyH.nil
        go_simp
        refine (mustq_ok C6 z6 o6 _).mono ?_
        rintro e W7 ⟨rfl, hb7⟩
        refine hK.out _ _ (hHeld.call hb7) (fun hHeld => ?_)
        clear hK K
        replace bR := bR.below hb7
        replace R5 := R5.ext (.of_below hb7)
        replace R6 := R6.ext (.of_below hb7)
        try simp only [Act.put, List.setIfInBounds_toArray, List.set_cons_zero, List.set_cons_succ]
        refine wpAnyH_ready (rs := [14]) (by kernel_rfl) (by simp) ?_
        refine AllReadyH.cons rfl (fun K hK => ?_) AllReadyH.nil
        go_simp
        refine (add_ok y _ _ _ _ _ (Ext.refl _) (Ry.ext (KeepBut.ext hHeld bR0 (by decide))) R6 hf3).mono ?_
        rintro e W8 ⟨r18, rfl, R18, hb8⟩
        refine hK.out _ _ (hHeld.call hb8) (fun hHeld => ?_)
        clear hK K
        replace bR := bR.below hb8
        replace R5 := R5.ext (.of_below hb8)
        replace R6 := R6.ext (.of_below hb8)
        try simp only [Act.put, List.setIfInBounds_toArray, List.set_cons_zero, List.set_cons_succ]
        obtain ⟨p18, k18, c18, p18', k18', c18', hC18, z18, y18⟩ := id R18
        cases hC18
        clear z18 y18
        refine take_want 15 (some 44) rfl (by kernel_rfl) (by kernel_rfl) (by kernel_rfl) rfl (fun _ _ _ h => h) (by rfl) (v := ?_) ?_ (by assumption) ?_
        rotate_left
        · intro w hSw; (try dsimp only at hSw); go_simp; all_goals with_reducible rfl
        simp only [Act.put, List.setIfInBounds_toArray, List.set_cons_zero, List.set_cons_succ]
        refine take_want 16 (some 45) rfl (by kernel_rfl) (by kernel_rfl) (by kernel_rfl) rfl (fun _ _ _ h => h) (by rfl) (v := ?_) ?_ (by assumption) ?_
        rotate_left
        · intro w hSw; (try dsimp only at hSw); go_simp; all_goals with_reducible rfl
        simp only [Act.put, List.setIfInBounds_toArray, List.set_cons_zero, List.set_cons_succ]
        refine wpAnyH_ready (rs := [17]) (by kernel_rfl) (by simp) ?_
        refine AllReadyH.cons rfl (fun K hK => ?_) AllReadyH.nil
        go_simp
        refine (mustq_ok _ rfl (by simp [Value.oneCell']) _).mono ?_
        rintro e W9 ⟨rfl, hb9⟩
        refine hK.out _ _ (hHeld.call hb9) (fun hHeld => ?_)
        clear hK K
        replace bR := bR.below hb9
        replace R5 := R5.ext (.of_below hb9)
        replace R6 := R6.ext (.of_below hb9)
        replace R18 := R18.ext (.of_below hb9)
        try simp only [Act.put, List.setIfInBounds_toArray, List.set_cons_zero, List.set_cons_succ]
        have cRR := bR.cell
        have lRR := bR.lt
        have fRR := bR.frozen
        refine take_want 18 (some 47) rfl (by kernel_rfl) (by kernel_rfl) (by kernel_rfl) rfl (fun _ _ _ h => h) (by rfl) (v := ?_) ?_ (by assumption) ?_
        rotate_left
        · intro w hSw; (try dsimp only at hSw); go_simp; all_goals with_reducible rfl
        simp only [Act.put, List.setIfInBounds_toArray, List.set_cons_zero, List.set_cons_succ]
        refine take_want 19 (some 48) rfl (by kernel_rfl) (by kernel_rfl) (by kernel_rfl) rfl (fun _ _ _ h => h) (by rfl) (v := ?_) ?_ (by assumption) ?_
        rotate_left
        · intro w hSw; (try dsimp only at hSw); go_simp; all_goals with_reducible rfl
        simp only [Act.put, List.setIfInBounds_toArray, List.set_cons_zero, List.set_cons_succ]
        refine take_want 20 (some 49) rfl (by kernel_rfl) (by kernel_rfl) (by kernel_rfl) rfl (fun _ _ _ h => h) (by rfl) (v := ?_) ?_ (by assumption) ?_
        rotate_left
        · intro w hSw; (try dsimp only at hSw); go_simp; all_goals with_reducible rfl
        simp only [Act.put, List.setIfInBounds_toArray, List.set_cons_zero, List.set_cons_succ]
        refine wpAnyH_ready (rs := [21]) (by kernel_rfl) (by simp) ?_
        refine AllReadyH.cons rfl (fun K hK => ?_) AllReadyH.nil
        go_simp
        skip
        refine hK.out _ _ ?_ (fun hHeld => ?_)
        · first | exact ((hHeld.set 0 _).set 1 _ |>.set 2 _ |>.set 3 _) | fail "keep"
        clear hK K
        try simp only [Act.put, List.setIfInBounds_toArray, List.set_cons_zero, List.set_cons_succ]
        refine wpAnyH_done (by kernel_rfl) ?_ _
        go_wp2
        go_end0
        exact ⟨rfl, KeepBut.of_below hBc hHeld, rayY_set (by decide) bR R18 (Ru.ext (KeepBut.ext hHeld bR0 (by decide)))⟩
      · go_simp
        refine (div_ok (Rat.divInt (g * (a.S s).thick) 1000000 * u) (a.nI k s) _ _ W5 W5 (Ext.refl _) (R8.ext (KeepBut.ext hHeld bR0 (by decide))) R5 hn hf2).mono ?_
        rintro e W6 ⟨r6, rfl, R6, hb6⟩
        refine hK.out _ _ (hHeld.call hb6) (fun hHeld => ?_)
        clear hK K
        replace bR := bR.below hb6
        replace R5 := R5.ext (.of_below hb6)
        try simp only [Act.put, List.setIfInBounds_toArray, List.set_cons_zero, List.set_cons_succ]
        obtain ⟨C6, rfl, z6, o6⟩ := R6.cells
        refine take_want 11 (some 40) rfl (by kernel_rfl) (by kernel_rfl) (by kernel_rfl) rfl (fun _ _ _ h => h) (by rfl) (v := ?_) ?_ (by assumption) ?_
        rotate_left
        · intro w hSw; (try dsimp only at hSw); go_simp; all_goals with_reducible rfl
        simp only [Act.put, List.setIfInBounds_toArray, List.set_cons_zero, List.set_cons_succ]
        refine take_want 12 (some 41) rfl (by kernel_rfl) (by kernel_rfl) (by kernel_rfl) rfl (fun _ _ _ h => h) (by rfl) (v := ?_) ?_ (by assumption) ?_
        rotate_left
        · intro w hSw; (try dsimp only at hSw); go_simp; all_goals with_reducible rfl
        simp only [Act.put, List.setIfInBounds_toArray, List.set_cons_zero, List.set_cons_succ]
        refine wpAnyH_ready (rs := [5, 13]) (by kernel_rfl) (by simp) ?_
        refine AllReadyH.cons rfl (fun K hK => ?_) (AllReadyH.cons rfl (fun K hK => ?_) AllReadyH.nil)
        · rw [if_pos (by rfl)]
          refine wp_load_mid 54 _ rfl R 0 rfl [.bool (decide (y.num < 0)), .slice p1 k1x c1, .bool false, .slice p1' k1' c1'] _ (lo_range bR) Tryz.underlying54 rfl sizeQuot ?_
          refine hK.out _ _ hHeld (fun hHeld => ?_)
          clear hK K
          try simp only [Act.put, List.setIfInBounds_toArray, List.set_cons_zero, List.set_cons_succ]
          refine wpAnyH_ready (rs := [13]) (by kernel_rfl) (by simp) ?_
          refine AllReadyH.cons rfl (fun K hK => ?_) AllReadyH.nil
          go_simp
          refine (mustq_ok C6 z6 o6 _).mono ?_
          rintro e W7 ⟨rfl, hb7⟩
          refine hK.out _ _ (hHeld.call hb7) (fun hHeld => ?_)
          clear hK K
          replace bR := bR.below hb7
          replace R5 := R5.ext (.of_below hb7)
          replace R6 := R6.ext (.of_below hb7)
          try simp only [Act.put, List.setIfInBounds_toArray, List.set_cons_zero, List.set_cons_succ]
          refine wpAnyH_ready (rs := [14]) (by kernel_rfl) (by simp) ?_
          refine AllReadyH.cons rfl (fun K hK => ?_) AllReadyH.nil
          go_simp
          refine (add_ok y _ _ _ _ _ (Ext.refl _) (Ry.ext (KeepBut.ext hHeld bR0 (by decide))) R6 hf3).mono ?_
          rintro e W8 ⟨r18, rfl, R18, hb8⟩
          refine hK.out _ _ (hHeld.call hb8) (fun hHeld => ?_)
          clear hK K
          replace bR := bR.below hb8
          replace R5 := R5.ext (.of_below hb8)
          replace R6 := R6.ext (.of_below hb8)
          try simp only [Act.put, List.setIfInBounds_toArray, List.set_cons_zero, List.set_cons_succ]
          obtain ⟨p18, k18, c18, p18', k18', c18', hC18, z18, y18⟩ := id R18
          cases hC18
          clear z18 y18
          refine take_want 15 (some 44) rfl (by kernel_rfl) (by kernel_rfl) (by kernel_rfl) rfl (fun _ _ _ h => h) (by rfl) (v := ?_) ?_ (by assumption) ?_
          rotate_left
          · intro w hSw; (try dsimp only at hSw); go_simp; all_goals with_reducible rfl
          simp only [Act.put, List.setIfInBounds_toArray, List.set_cons_zero, List.set_cons_succ]
          refine take_want 16 (some 45) rfl (by kernel_rfl) (by kernel_rfl) (by kernel_rfl) rfl (fun _ _ _ h => h) (by rfl) (v := ?_) ?_ (by assumption) ?_
          rotate_left
          · intro w hSw; (try dsimp only at hSw); go_simp; all_goals with_reducible rfl
          simp only [Act.put, List.setIfInBounds_toArray, List.set_cons_zero, List.set_cons_succ]
          refine wpAnyH_ready (rs := [17]) (by kernel_rfl) (by simp) ?_
          refine AllReadyH.cons rfl (fun K hK => ?_) AllReadyH.nil
          go_simp
          refine (mustq_ok _ rfl (by simp [Value.oneCell']) _).mono ?_
          rintro e W9 ⟨rfl, hb9⟩
          refine hK.out _ _ (hHeld.call hb9) (fun hHeld => ?_)
          clear hK K
          replace bR := bR.below hb9
          replace R5 := R5.ext (.of_below hb9)
          replace R6 := R6.ext (.of_below hb9)
          replace R18 := R18.ext (.of_below hb9)
          try simp only [Act.put, List.setIfInBounds_toArray, List.set_cons_zero, List.set_cons_succ]
          have cRR := bR.cell
          have lRR := bR.lt
          have fRR := bR.frozen
          refine take_want 18 (some 47) rfl (by kernel_rfl) (by kernel_rfl) (by kernel_rfl) rfl (fun _ _ _ h => h) (by rfl) (v := ?_) ?_ (by assumption) ?_
          rotate_left
          · intro w hSw; (try dsimp only at hSw); go_simp; all_goals with_reducible rfl
          simp only [Act.put, List.setIfInBounds_toArray, List.set_cons_zero, List.set_cons_succ]
          refine take_want 19 (some 48) rfl (by kernel_rfl) (by kernel_rfl) (by kernel_rfl) rfl (fun _ _ _ h => h) (by rfl) (v := ?_) ?_ (by assumption) ?_
          rotate_left
          · intro w hSw; (try dsimp only at hSw); go_simp; all_goals with_reducible rfl
          simp only [Act.put, List.setIfInBounds_toArray, List.set_cons_zero, List.set_cons_succ]
          refine take_want 20 (some 49) rfl (by kernel_rfl) (by kernel_rfl) (by kernel_rfl) rfl (fun _ _ _ h => h) (by rfl) (v := ?_) ?_ (by assumption) ?_
          rotate_left
          · intro w hSw; (try dsimp only at hSw); go_simp; all_goals with_reducible rfl
          simp only [Act.put, List.setIfInBounds_toArray, List.set_cons_zero, List.set_cons_succ]
          refine wpAnyH_ready (rs := [21]) (by kernel_rfl) (by simp) ?_
          refine AllReadyH.cons rfl (fun K hK => ?_) AllReadyH.nil
          go_simp
          skip
          refine hK.out _ _ ?_ (fun hHeld => ?_)
          · first | exact ((hHeld.set 0 _).set 1 _ |>.set 2 _ |>.set 3 _) | fail "keep"
          clear hK K
          try simp only [Act.put, List.setIfInBounds_toArray, List.set_cons_zero, List.set_cons_succ]
          refine wpAnyH_done (by kernel_rfl) ?_ _
          go_wp2
          go_end0
          exact ⟨rfl, KeepBut.of_below hBc hHeld, rayY_set (by decide) bR R18 (Ru.ext (KeepBut.ext hHeld bR0 (by decide)))⟩
        · go_simp
          refine (mustq_ok C6 z6 o6 _).mono ?_
          rintro e W7 ⟨rfl, hb7⟩
          refine hK.out _ _ (hHeld.call hb7) (fun hHeld => ?_)
          clear hK K
          replace bR := bR.below hb7
          replace R5 := R5.ext (.of_below hb7)
          replace R6 := R6.ext (.of_below hb7)
          try simp only [Act.put, List.setIfInBounds_toArray, List.set_cons_zero, List.set_cons_succ]
          refine wpAnyH_ready (rs := [5]) (by kernel_rfl) (by simp) ?_
          refine AllReadyH.cons rfl (fun K hK => ?_) AllReadyH.nil
          rw [if_pos (by rfl)]
          refine wp_load_mid 54 _ rfl R 0 rfl [.bool (decide (y.num < 0)), .slice p1 k1x c1, .bool false, .slice p1' k1' c1'] _ (lo_range bR) Tryz.underlying54 rfl sizeQuot ?_
          refine hK.out _ _ hHeld (fun hHeld => ?_)
          clear hK K
          try simp only [Act.put, List.setIfInBounds_toArray, List.set_cons_zero, List.set_cons_succ]
          refine wpAnyH_ready (rs := [14]) (by kernel_rfl) (by simp) ?_
          refine AllReadyH.cons rfl (fun K hK => ?_) AllReadyH.nil
          go_simp
          refine (add_ok y _ _ _ _ _ (Ext.refl _) (Ry.ext (KeepBut.ext hHeld bR0 (by decide))) R6 hf3).mono ?_
          rintro e W8 ⟨r18, rfl, R18, hb8⟩
          refine hK.out _ _ (hHeld.call hb8) (fun hHeld => ?_)
          clear hK K
          replace bR := bR.below hb8
          replace R5 := R5.ext (.of_below hb8)
          replace R6 := R6.ext (.of_below hb8)
          try simp only [Act.put, List.setIfInBounds_toArray, List.set_cons_zero, List.set_cons_succ]
          obtain ⟨p18, k18, c18, p18', k18', c18', hC18, z18, y18⟩ := id R18
          cases hC18
          clear z18 y18
          refine take_want 15 (some 44) rfl (by kernel_rfl) (by kernel_rfl) (by kernel_rfl) rfl (fun _ _ _ h => h) (by rfl) (v := ?_) ?_ (by assumption) ?_
          rotate_left
          · intro w hSw; (try dsimp only at hSw); go_simp; all_goals with_reducible rfl
          simp only [Act.put, List.setIfInBounds_toArray, List.set_cons_zero, List.set_cons_succ]
          refine take_want 16 (some 45) rfl (by kernel_rfl) (by kernel_rfl) (by kernel_rfl) rfl (fun _ _ _ h => h) (by rfl) (v := ?_) ?_ (by assumption) ?_
          rotate_left
          · intro w hSw; (try dsimp only at hSw); go_simp; all_goals with_reducible rfl
          simp only [Act.put, List.setIfInBounds_toArray, List.set_cons_zero, List.set_cons_succ]
          refine wpAnyH_ready (rs := [17]) (by kernel_rfl) (by simp) ?_
          refine AllReadyH.cons rfl (fun K hK => ?_) AllReadyH.nil
          go_simp
          refine (mustq_ok _ rfl (by simp [Value.oneCell']) _).mono ?_
          rintro e W9 ⟨rfl, hb9⟩
          refine hK.out _ _ (hHeld.call hb9) (fun hHeld => ?_)
          clear hK K
          replace bR := bR.below hb9
          replace R5 := R5.ext (.of_below hb9)
          replace R6 := R6.ext (.of_below hb9)
          replace R18 := R18.ext (.of_below hb9)
          try simp only [Act.put, List.setIfInBounds_toArray, List.set_cons_zero, List.set_cons_succ]
          have cRR := bR.cell
          have lRR := bR.lt
          have fRR := bR.frozen
          refine take_want 18 (some 47) rfl (by kernel_rfl) (by kernel_rfl) (by kernel_rfl) rfl (fun _ _ _ h => h) (by rfl) (v := ?_) ?_ (by assumption) ?_
          rotate_left
          · intro w hSw; (try dsimp only at hSw); go_simp; all_goals with_reducible rfl
          simp only [Act.put, List.setIfInBounds_toArray, List.set_cons_zero, List.set_cons_succ]
          refine take_want 19 (some 48) rfl (by kernel_rfl) (by kernel_rfl) (by kernel_rfl) rfl (fun _ _ _ h => h) (by rfl) (v := ?_) ?_ (by assumption) ?_
          rotate_left
          · intro w hSw; (try dsimp only at hSw); go_simp; all_goals with_reducible rfl
          simp only [Act.put, List.setIfInBounds_toArray, List.set_cons_zero, List.set_cons_succ]
          refine take_want 20 (some 49) rfl (by kernel_rfl) (by kernel_rfl) (by kernel_rfl) rfl (fun _ _ _ h => h) (by rfl) (v := ?_) ?_ (by assumption) ?_
          rotate_left
          · intro w hSw; (try dsimp only at hSw); go_simp; all_goals with_reducible rfl
          simp only [Act.put, List.setIfInBounds_toArray, List.set_cons_zero, List.set_cons_succ]
          refine wpAnyH_ready (rs := [21]) (by kernel_rfl) (by simp) ?_
          refine AllReadyH.cons rfl (fun K hK => ?_) AllReadyH.nil
          go_simp
          skip
          refine hK.out _ _ ?_ (fun hHeld => ?_)
          · first | exact ((hHeld.set 0 _).set 1 _ |>.set 2 _ |>.set 3 _) | fail "keep"
          clear hK K
          try simp only [Act.put, List.setIfInBounds_toArray, List.set_cons_zero, List.set_cons_succ]
          refine wpAnyH_done (by kernel_rfl) ?_ _
          go_wp2
          go_end0
          exact ⟨rfl, KeepBut.of_below hBc hHeld, rayY_set (by decide) bR R18 (Ru.ext (KeepBut.ext hHeld bR0 (by decide)))⟩
end Go.Proofs.YtepodcocemmejaaGreatDoor
