/- Part 27 of 52 of the proof that the law ParaxialKnown returns true, whatever stands in memory, if the two listed variables hold what the text lays: contracts of the functions that it reaches. No condition beside the row. -/
import Derived.Test.YtepodcocemmejaaGreatDoorA04
import Derived.Test.YtepodcocemmejaaGreatDoorA26
set_option linter.unusedVariables false
set_option linter.unusedSimpArgs false
namespace Go.Proofs.YtepodcocemmejaaGreatDoor
open Go.RowKit Go.Mono
set_option maxRecDepth 100000 in
set_option maxHeartbeats 2000000 in
theorem fields12_ok (q : Plc) (w : World) (h : LnsAt w (chL false) q) :
    Calls Tryz.prog 133 #[.agg ((chL false).lvals q)] w fun e w' => e = .returned (.bool true) ∧ Below w.heap.size w w' := by
  obtain ⟨b, off, hp, hbl, hc⟩ := h.fields.2.2 (by decide)
  have e0 : w.cell? ⟨b, off + 0 * 2 + 0, none⟩ = some (.int .i64 0) := hc 0 0 (by decide) (by decide)
  have e1 : w.cell? ⟨b, off + 0 * 2 + 1, none⟩ = some (.int .i64 0) := hc 0 1 (by decide) (by decide)
  simp only [Nat.zero_mul, Nat.add_zero] at e0 e1
  simp only [Lns.lvals, chL]
  rw [hp]
  clear hc h
  go_enter Tryz.func133, Tryz.ntmps133
  go_wp2_with fail
  refine boxes1 fun W hB hsz bS => ?_
  replace e0 := (hB.cell (p := ⟨b, off, none⟩) hbl).trans e0
  replace e1 := (hB.cell (p := ⟨b, off + 1, none⟩) hbl).trans e1
  have lb := Nat.lt_of_lt_of_le hbl hB.size
  have cS := bS.cell
  have lS := bS.lt
  go_wp2
  go_loopw [4] (fun x wr => (x = .int .i64 0 ∨ x = .int .i64 1) ∧ wr = W) (fun x _ => (1 - intOf x).toNat)
  case atStart => exact ⟨.inl rfl, rfl⟩
  case round =>
    obtain ⟨rfl | rfl, rfl⟩ := hrel
    · go_wp2_with (go_at_call 132; refine (within12_ok _ _ _ (by decide) (by decide) _).mono ?_; rintro e w5 ⟨rfl, h5⟩; rw [h5]; clear h5 w5)
      go_loopw [5] (fun x wr' => x = .int .i64 0 ∧ wr' = wr) (fun x _ => 0)
      case atStart => exact ⟨rfl, rfl⟩
      case round =>
        obtain ⟨rfl, rfl⟩ := hrel
        go_wp2
        go_roundw
        case rel => simp
        case measure => simp [intOf]
    · go_wp2_with (go_at_call 132; refine (within12_ok _ _ _ (by decide) (by decide) _).mono ?_; rintro e w5 ⟨rfl, h5⟩; rw [h5]; clear h5 w5)
      go_ret
      exact ⟨rfl, hB⟩
set_option maxRecDepth 100000 in
set_option maxHeartbeats 2000000 in
theorem waves12_ok (q : Plc) (w : World) (h : LnsAt w (chL false) q) :
    Calls Tryz.prog 134 #[.agg ((chL false).lvals q)] w fun e w' => e = .returned (.bool true) ∧ Below w.heap.size w w' := by
  obtain ⟨b, off, hp, hbl, hc⟩ := h.waves.2.2 (by decide)
  have e0 : w.cell? ⟨b, off + 0 * 2 + 0, none⟩ = some (.int .i64 587562) := hc 0 0 (by decide) (by decide)
  have e1 : w.cell? ⟨b, off + 0 * 2 + 1, none⟩ = some (.int .i64 1) := hc 0 1 (by decide) (by decide)
  simp only [Nat.zero_mul, Nat.add_zero] at e0 e1
  simp only [Lns.lvals, chL]
  rw [hp]
  clear hc h
  go_enter Tryz.func134, Tryz.ntmps134
  go_wp2_with fail
  refine boxes1 fun W hB hsz bS => ?_
  replace e0 := (hB.cell (p := ⟨b, off, none⟩) hbl).trans e0
  replace e1 := (hB.cell (p := ⟨b, off + 1, none⟩) hbl).trans e1
  have lb := Nat.lt_of_lt_of_le hbl hB.size
  go_wp2
  go_loopw [3] (fun x wr => (x = .int .i64 0 ∧ wr = W) ∨ (x = .int .i64 1 ∧ Below W.heap.size W wr)) (fun x _ => (1 - intOf x).toNat)
  case atStart => exact .inl ⟨rfl, rfl⟩
  case round =>
    rcases hrel with ⟨rfl, rfl⟩ | ⟨rfl, hBr⟩
    · have cS := bS.cell
      have lS := bS.lt
      go_wp2_with fail
      refine boxes1 fun W2 hB2 hs2 bW => ?_
      have cW := bW.cell
      have lW := bW.lt
      refine wp_region_held_drew (S := fun w' => (∀ b o, b < W2.heap.size → w'.cell? ⟨b, o, none⟩ = W2.cell? ⟨b, o, none⟩) ∧ Below W2.heap.size W2 w') (by kernel_rfl) (belowS (Below.refl _ _).drew) (fun hHeld => ?_)
      refine take_want 0 (some 17) rfl (by kernel_rfl) (by kernel_rfl) (by kernel_rfl) rfl (fun _ _ _ h => h) (by rfl) (v := ?_) ?_ (by assumption) ?_
      rotate_left
      · intro w hSw; (try dsimp only at hSw); go_simp; all_goals with_reducible rfl
      simp only [Act.put, List.setIfInBounds_toArray, List.set_cons_zero, List.set_cons_succ]
      refine take_want 1 (some 18) rfl (by kernel_rfl) (by kernel_rfl) (by kernel_rfl) rfl (fun _ _ _ h => h) (by rfl) (v := ?_) ?_ (by assumption) ?_
      rotate_left
      · intro w hSw; (try dsimp only at hSw); go_simp; all_goals with_reducible rfl
      simp only [Act.put, List.setIfInBounds_toArray, List.set_cons_zero, List.set_cons_succ]
      refine wpAnyH_ready (rs := [2]) (by kernel_rfl) (by simp) ?_
      refine AllReadyH.cons rfl (fun K hK => ?_) AllReadyH.nil
      go_simp
      (refine (within12_ok _ _ _ (by decide) (by decide) _).mono ?_; rintro e w5 ⟨rfl, h5⟩; rw [h5]; clear h5 w5)
      refine hK.out _ _ ?_ (fun hHeld => ?_)
      · first | exact (hHeld) | fail "keep"
      clear hK K
      try simp only [Act.put, List.setIfInBounds_toArray, List.set_cons_zero, List.set_cons_succ]
      refine take_want 3 (some 20) rfl (by kernel_rfl) (by kernel_rfl) (by kernel_rfl) rfl (fun _ _ _ h => h) (by rfl) (v := ?_) ?_ (by assumption) ?_
      rotate_left
      · intro w hSw; (try dsimp only at hSw); go_simp; all_goals with_reducible rfl
      simp only [Act.put, List.setIfInBounds_toArray, List.set_cons_zero, List.set_cons_succ]
      refine take_want 4 (some 21) rfl (by kernel_rfl) (by kernel_rfl) (by kernel_rfl) rfl (fun _ _ _ h => h) (by rfl) (v := ?_) ?_ (by assumption) ?_
      rotate_left
      · intro w hSw; (try dsimp only at hSw); go_simp; all_goals with_reducible rfl
      simp only [Act.put, List.setIfInBounds_toArray, List.set_cons_zero, List.set_cons_succ]
      refine take_want 5 (some 22) rfl (by kernel_rfl) (by kernel_rfl) (by kernel_rfl) rfl (fun _ _ _ h => h) (by rfl) (v := ?_) ?_ (by assumption) ?_
      rotate_left
      · intro w hSw; (try dsimp only at hSw); go_simp; all_goals with_reducible rfl
      simp only [Act.put, List.setIfInBounds_toArray, List.set_cons_zero, List.set_cons_succ]
      refine take_want 6 (some 23) rfl (by kernel_rfl) (by kernel_rfl) (by kernel_rfl) rfl (fun _ _ _ h => h) (by rfl) (v := ?_) ?_ (by assumption) ?_
      rotate_left
      · intro w hSw; (try dsimp only at hSw); go_simp; all_goals with_reducible rfl
      simp only [Act.put, List.setIfInBounds_toArray, List.set_cons_zero, List.set_cons_succ]
      refine wpAnyH_ready (rs := [7]) (by kernel_rfl) (by simp) ?_
      refine AllReadyH.cons rfl (fun K hK => ?_) AllReadyH.nil
      go_simp
      (refine (within12_ok _ _ _ (by decide) (by decide) _).mono ?_; rintro e w5 ⟨rfl, h5⟩; rw [h5]; clear h5 w5)
      refine hK.out _ _ ?_ (fun hHeld => ?_)
      · first | exact (hHeld) | fail "keep"
      clear hK K
      try simp only [Act.put, List.setIfInBounds_toArray, List.set_cons_zero, List.set_cons_succ]
      refine take_want 8 (some 25) rfl (by kernel_rfl) (by kernel_rfl) (by kernel_rfl) rfl (fun _ _ _ h => h) (by rfl) (v := ?_) ?_ (by assumption) ?_
      rotate_left
      · intro w hSw; (try dsimp only at hSw); go_simp; all_goals with_reducible rfl
      simp only [Act.put, List.setIfInBounds_toArray, List.set_cons_zero, List.set_cons_succ]
      refine take_want 9 (some 26) rfl (by kernel_rfl) (by kernel_rfl) (by kernel_rfl) rfl (fun _ _ _ h => h) (by rfl) (v := ?_) ?_ (by assumption) ?_
      rotate_left
      · intro w hSw; (try dsimp only at hSw); go_simp; all_goals with_reducible rfl
      simp only [Act.put, List.setIfInBounds_toArray, List.set_cons_zero, List.set_cons_succ]
      refine take_want 10 (some 27) rfl (by kernel_rfl) (by kernel_rfl) (by kernel_rfl) rfl (fun _ _ _ h => h) (by rfl) (v := ?_) ?_ (by assumption) ?_
      rotate_left
      · intro w hSw; (try dsimp only at hSw); go_simp; all_goals with_reducible rfl
      simp only [Act.put, List.setIfInBounds_toArray, List.set_cons_zero, List.set_cons_succ]
      refine take_want 11 (some 28) rfl (by kernel_rfl) (by kernel_rfl) (by kernel_rfl) rfl (fun _ _ _ h => h) (by rfl) (v := ?_) ?_ (by assumption) ?_
      rotate_left
      · intro w hSw; (try dsimp only at hSw); go_simp; all_goals with_reducible rfl
      simp only [Act.put, List.setIfInBounds_toArray, List.set_cons_zero, List.set_cons_succ]
      refine take_want 12 (some 29) rfl (by kernel_rfl) (by kernel_rfl) (by kernel_rfl) rfl (fun _ _ _ h => h) (by rfl) (v := ?_) ?_ (by assumption) ?_
      rotate_left
      · intro w hSw; (try dsimp only at hSw); go_simp; all_goals with_reducible rfl
      simp only [Act.put, List.setIfInBounds_toArray, List.set_cons_zero, List.set_cons_succ]
      refine take_want 13 (some 30) rfl (by kernel_rfl) (by kernel_rfl) (by kernel_rfl) rfl (fun _ _ _ h => h) (by rfl) (v := ?_) ?_ (by assumption) ?_
      rotate_left
      · intro w hSw; (try dsimp only at hSw); go_simp; all_goals with_reducible rfl
      simp only [Act.put, List.setIfInBounds_toArray, List.set_cons_zero, List.set_cons_succ]
      refine take_skip 14 (some 31) rfl (by kernel_rfl) (by kernel_rfl) (by kernel_rfl) rfl (fun _ _ _ h => h) (by rfl) (by assumption) ?_
      simp only [Act.put, List.setIfInBounds_toArray, List.set_cons_zero, List.set_cons_succ]
      refine take_skip 15 (some 32) rfl (by kernel_rfl) (by kernel_rfl) (by kernel_rfl) rfl (fun _ _ _ h => h) (by rfl) (by assumption) ?_
      simp only [Act.put, List.setIfInBounds_toArray, List.set_cons_zero, List.set_cons_succ]
      refine take_skip 16 (some 33) rfl (by kernel_rfl) (by kernel_rfl) (by kernel_rfl) rfl (fun _ _ _ h => h) (by rfl) (by assumption) ?_
      simp only [Act.put, List.setIfInBounds_toArray, List.set_cons_zero, List.set_cons_succ]
      refine take_skip 17 (some 34) rfl (by kernel_rfl) (by kernel_rfl) (by kernel_rfl) rfl (fun _ _ _ h => h) (by rfl) (by assumption) ?_
      simp only [Act.put, List.setIfInBounds_toArray, List.set_cons_zero, List.set_cons_succ]
      refine take_skip 18 (some 35) rfl (by kernel_rfl) (by kernel_rfl) (by kernel_rfl) rfl (fun _ _ _ h => h) (by rfl) (by assumption) ?_
      simp only [Act.put, List.setIfInBounds_toArray, List.set_cons_zero, List.set_cons_succ]
      refine take_skip 19 (some 36) rfl (by kernel_rfl) (by kernel_rfl) (by kernel_rfl) rfl (fun _ _ _ h => h) (by rfl) (by assumption) ?_
      simp only [Act.put, List.setIfInBounds_toArray, List.set_cons_zero, List.set_cons_succ]
      refine take_skip 20 (some 37) rfl (by kernel_rfl) (by kernel_rfl) (by kernel_rfl) rfl (fun _ _ _ h => h) (by rfl) (by assumption) ?_
      simp only [Act.put, List.setIfInBounds_toArray, List.set_cons_zero, List.set_cons_succ]
      refine take_skip 21 (some 38) rfl (by kernel_rfl) (by kernel_rfl) (by kernel_rfl) rfl (fun _ _ _ h => h) (by rfl) (by assumption) ?_
      simp only [Act.put, List.setIfInBounds_toArray, List.set_cons_zero, List.set_cons_succ]
      refine take_skip 22 (some 39) rfl (by kernel_rfl) (by kernel_rfl) (by kernel_rfl) rfl (fun _ _ _ h => h) (by rfl) (by assumption) ?_
      simp only [Act.put, List.setIfInBounds_toArray, List.set_cons_zero, List.set_cons_succ]
      refine take_skip 23 (some 40) rfl (by kernel_rfl) (by kernel_rfl) (by kernel_rfl) rfl (fun _ _ _ h => h) (by rfl) (by assumption) ?_
      simp only [Act.put, List.setIfInBounds_toArray, List.set_cons_zero, List.set_cons_succ]
      refine take_want 24 (some 41) rfl (by kernel_rfl) (by kernel_rfl) (by kernel_rfl) rfl (fun _ _ _ h => h) (by rfl) (v := ?_) ?_ (by assumption) ?_
      rotate_left
      · intro w hSw; (try dsimp only at hSw); go_simp; all_goals with_reducible rfl
      simp only [Act.put, List.setIfInBounds_toArray, List.set_cons_zero, List.set_cons_succ]
      refine take_want 25 (some 42) rfl (by kernel_rfl) (by kernel_rfl) (by kernel_rfl) rfl (fun _ _ _ h => h) (by rfl) (v := ?_) ?_ (by assumption) ?_
      rotate_left
      · intro w hSw; (try dsimp only at hSw); go_simp; all_goals with_reducible rfl
      simp only [Act.put, List.setIfInBounds_toArray, List.set_cons_zero, List.set_cons_succ]
      refine wpAnyH_done (by kernel_rfl) ?_ _
      go_wp2
      go_roundw
      case rel => exact .inr ⟨by simp, belowCall hB2 hHeld.2⟩
      case measure => simp [intOf]
    · have cS := (bS.below hBr).cell
      have lS := (bS.below hBr).lt
      go_wp2_with (go_at_call 132; refine (within12_ok _ _ _ (by decide) (by decide) _).mono ?_; rintro e w5 ⟨rfl, h5⟩; rw [h5]; clear h5 w5)
      go_ret
      exact ⟨rfl, belowCall hB hBr⟩
end Go.Proofs.YtepodcocemmejaaGreatDoor
namespace Go.Mono
open Go.RowKit
/-- a guarded load of a whole struct, whose guard stands -/
theorem wpList_load_midG {P : Program} {ops : Array Oper} {rest : List Oper} {op : Oper} {a : Act} {w : World} {Q : Exit → Act → World → Prop} (hw : Region.wanted op (yielded ops a.tmps) = true) (ty : TypeId) (x : Operand) (ho : op.op = .load ty x)
    (b o : Nat) (hx : a.eval x = .pointer (some ⟨b, o, none⟩)) (cs : List Value) (d : TypeDesc) (hc : w.rangeAt b o cs)
    (hu : P.underlying ty = some d) (hd : d.isRow = true) (hi : (P.info? ty).map (·.size) = some cs.length)
    (h : wpList P ops Q rest (a.put op.dst (.agg cs.toArray)) w) : wpList P ops Q (op :: rest) a w :=
  wpList_step fun K hK => by
    simp only [hw, if_true]
    exact wp_load_mid ty x ho b o hx cs d hc hu hd hi (hK _ _ h)
end Go.Mono
namespace Go.Proofs.YtepodcocemmejaaGreatDoor
open Go.RowKit Go.Mono
set_option maxRecDepth 100000 in
set_option maxHeartbeats 2000000 in
theorem image12_of (A : Array Value) (hA : A.size = 22) (p : Option Addr) (c : Nat)
    (g0 : A[0]? = some (.int .i64 1)) (g11 : A[11]? = some (.int .i64 0)) (g12 : A[12]? = some (.int .i64 0)) (g13 : A[13]? = some (.string { data := #[] })) (g21 : A[21]? = some (.slice p 0 c))
    (w : World) (hr : ∀ W, Calls Tryz.prog 170 #[.agg A] W fun e w' => e = .returned (.bool true) ∧ Below W.heap.size W w') :
    Calls Tryz.prog 169 #[.agg A] w fun e w' => e = .returned (.bool true) ∧ Below w.heap.size w w' := by
  have hi : (Tryz.prog.info? 95).map (·.size) = some A.size := by rw [hA]; kernel_rfl
  go_enter Tryz.func169, Tryz.ntmps169
  iterate 14 go_step
  refine boxes1l fun W hB hsz bS => ?_
  refine wpList_load_box rfl 95 _ rfl w.heap.size rfl 95 A bS _ Tryz.underlying95 rfl hi ?_
  go_wp2_with fail
  refine (hr W).mono ?_
  rintro e W1 ⟨rfl, hb⟩
  replace hB := belowCall hB hb
  replace bS := bS.below hb
  have lS := bS.lt
  have f0 := (bS.cell 0).trans g0
  have f11 := (bS.cell 11).trans g11
  have f12 := (bS.cell 12).trans g12
  have f13 := (bS.cell 13).trans g13
  have f21 := (bS.cell 21).trans g21
  clear hr g0 g11 g12 g13 g21 hA hi bS
  go_wp2
  go_ret
  exact ⟨rfl, hB⟩
theorem image12_ok (p : Option Addr) (c : Nat) (w : World) : Calls Tryz.prog 169 #[.agg (zS.cs p c)] w fun e w' => e = .returned (.bool true) ∧ Below w.heap.size w w' :=
  image12_of _ rfl p c rfl rfl rfl rfl rfl w fun W => right11_ok zS (.inr rfl) p c W
theorem srf_range {w W : World} {n b off : Nat} {C : Nat → Array Value} (hbl : b < w.heap.size) (hc : ∀ i j, i < n → j < 22 → w.cell? ⟨b, off + i * 22 + j, none⟩ = some ((C i).getD j undef)) (hB : Below w.heap.size w W) (i : Nat) (hi : i < n) (hz : (C i).size = 22) :
    W.rangeAt b (off + i * 22) (C i).toList := fun j v hv => by
  have hj : j < 22 := by
    have := (List.getElem?_eq_some_iff.1 hv).1
    simpa [hz] using this
  refine ((hB.cell (p := ⟨b, off + i * 22 + j, none⟩) hbl).trans (hc i j hi hj)).trans ?_
  rw [Array.getElem?_toList] at hv
  rw [Array.getD_eq_getD_getElem?, hv]
  rfl
set_option maxRecDepth 100000 in
set_option maxHeartbeats 2000000 in
theorem surfaces12_ok (q : Plc) (w : World) (h : LnsAt w (chL false) q) :
    Calls Tryz.prog 135 #[.agg ((chL false).lvals q)] w fun e w' => e = .returned (.bool true) ∧ Below w.heap.size w w' := by
  obtain ⟨b, off, hp, hbl, hc⟩ := h.surfs.2.2 (by decide)
  have e0 : w.cell? ⟨b, off + 0 * 22 + 0, none⟩ = some (.int .i64 1) := hc 0 0 (by decide) (by decide)
  have R0 : ∀ W, Below w.heap.size w W → W.rangeAt b (off + 0 * 22) (chG.cs (q.cp 0) (q.cl 0)).toList := fun W hW => srf_range (C := fun i => (((chL false).S i).cs (q.cp i) (q.cl i))) hbl hc hW 0 (by decide) rfl
  have R1 : ∀ W, Below w.heap.size w W → W.rangeAt b (off + 1 * 22) (zS.cs (q.cp 1) (q.cl 1)).toList := fun W hW => srf_range (C := fun i => (((chL false).S i).cs (q.cp i) (q.cl i))) hbl hc hW 1 (by decide) rfl
  have him := fun W => image12_ok (q.cp 1) (q.cl 1) W
  have hr0 := fun W => right11_ok chG (.inl rfl) (q.cp 0) (q.cl 0) W
  have hr1 := fun W => right11_ok zS (.inr rfl) (q.cp 1) (q.cl 1) W
  have z0 : (Tryz.prog.info? 95).map (·.size) = some (chG.cs (q.cp 0) (q.cl 0)).toList.length := by kernel_rfl
  have z1 : (Tryz.prog.info? 95).map (·.size) = some (zS.cs (q.cp 1) (q.cl 1)).toList.length := by kernel_rfl
  simp only [Nat.zero_mul, Nat.one_mul, Nat.add_zero] at e0 R0 R1
  simp only [Lns.lvals, chL]
  rw [hp]
  clear hc h
  generalize chG.cs (q.cp 0) (q.cl 0) = A0 at *
  generalize zS.cs (q.cp 1) (q.cl 1) = A1 at *
  go_enter Tryz.func135, Tryz.ntmps135
  go_wp2_with fail
  refine boxes1c fun W hB hsz bS => ?_
  refine (within12_ok _ _ _ (by decide) (by decide) _).mono ?_
  rintro e w5 ⟨rfl, h5⟩; rw [h5]; clear h5 w5
  have cS := bS.cell
  have lS := bS.lt
  replace e0 := (hB.cell (p := ⟨b, off, none⟩) hbl).trans e0
  have lb := Nat.lt_of_lt_of_le hbl hB.size
  have rg1 := R1 W hB
  go_wp2_with first | (go_at_call 132; refine (within12_ok _ _ _ (by decide) (by decide) _).mono ?_; rintro e w5 ⟨rfl, h5⟩; rw [h5]; clear h5 w5) | (refine wpList_load_midG (by rfl) 95 _ rfl b (off + 22) rfl A1.toList _ rg1 Tryz.underlying95 rfl z1 ?_) | (go_at_call 169; refine (him _).mono ?_; rintro e w5 ⟨rfl, hb⟩; have bS5 := bS.below hb; have cS5 := bS5.cell; have lS5 := bS5.lt)
  clear e0 lb rg1 cS5 lS5
  have hB5 := belowCall hB hb
  go_loopw [4] (fun x wr => ∃ k : Nat, k ≤ 2 ∧ x = .int .i64 (k : Int) ∧ Below w5.heap.size w5 wr) (fun x _ => (2 - intOf x).toNat)
  case atStart => exact ⟨0, by omega, rfl, Below.refl _ _⟩
  case round =>
    obtain ⟨k, hk, rfl, hBr⟩ := hrel
    have bS6 := bS5.below hBr
    have cS6 := bS6.cell
    have lS6 := bS6.lt
    have rg0 := R0 wr (belowCall hB5 hBr)
    have rg1 := R1 wr (belowCall hB5 hBr)
    rcases (by omega : k = 0 ∨ k = 1 ∨ k = 2) with rfl | rfl | rfl
    · go_wp2_with first | (refine wpList_load_mid rfl 95 _ rfl b off rfl A0.toList _ rg0 Tryz.underlying95 rfl z0 ?_) | (go_at_call 170; refine (hr0 _).mono ?_; rintro e w6 ⟨rfl, hb6⟩)
      go_roundw
      case rel => exact ⟨1, by decide, by simp, belowCall hBr hb6⟩
      case measure => simp [intOf]
    · go_wp2_with first | (refine wpList_load_mid rfl 95 _ rfl b (off + 22) rfl A1.toList _ rg1 Tryz.underlying95 rfl z1 ?_) | (go_at_call 170; refine (hr1 _).mono ?_; rintro e w6 ⟨rfl, hb6⟩)
      go_roundw
      case rel => exact ⟨2, by decide, by simp, belowCall hBr hb6⟩
      case measure => simp [intOf]
    · go_wp2
      go_ret
      exact ⟨rfl, belowCall hB5 hBr⟩
set_option maxRecDepth 100000 in
set_option maxHeartbeats 2000000 in
theorem configs12_ok (q : Plc) (w : World) :
    Calls Tryz.prog 136 #[.agg ((chL false).lvals q)] w fun e w' => e = .returned (.bool true) ∧ Below w.heap.size w w' := by
  simp only [Lns.lvals, chL]
  go_enter Tryz.func136, Tryz.ntmps136
  go_wp2_with fail
  refine boxes1 fun W hB hsz bS => ?_
  have cS := bS.cell
  have lS := bS.lt
  go_wp2
  go_loopw [3] (fun x wr => x = .int .i64 0 ∧ wr = W) (fun x _ => 0)
  case atStart => exact ⟨rfl, rfl⟩
  case round =>
    obtain ⟨rfl, rfl⟩ := hrel
    go_wp2
    go_ret
    exact ⟨rfl, hB⟩
set_option maxRecDepth 100000 in
set_option maxHeartbeats 2000000 in
theorem right12_ok (q : Plc) (w : World) (h : LnsAt w (chL false) q) :
    Calls Tryz.prog 87 #[.agg ((chL false).lvals q)] w fun e w' => e = .returned (.bool true) ∧ Below w.heap.size w w' := by
  have hf := fun W (hW : Below w.heap.size w W) => fields12_ok q W (h.below hW)
  have hw := fun W (hW : Below w.heap.size w W) => waves12_ok q W (h.below hW)
  have hs := fun W (hW : Below w.heap.size w W) => surfaces12_ok q W (h.below hW)
  have hc := fun W => configs12_ok q W
  clear h
  simp only [Lns.lvals, chL] at hf hw hs hc ⊢
  go_enter Tryz.func87, Tryz.ntmps87
  go_wp2_with fail
  refine boxes1c fun W hB hsz bS => ?_
  refine (name09_one _ (.inl rfl) _).mono ?_
  rintro e w5 ⟨rfl, h5⟩; rw [h5]; clear h5 w5
  have cS := bS.cell
  have lS := bS.lt
  go_wp2_with first | (go_at_call 132; refine (within12_ok _ _ _ (by decide) (by decide) _).mono ?_; rintro e w5 ⟨rfl, h5⟩; rw [h5]; clear h5 w5) | (go_at_call 133; refine (hf _ hB).mono ?_; rintro e w6 ⟨rfl, hb6⟩; have hB6 := belowCall hB hb6; have bS6 := bS.below hb6; have cS6 := bS6.cell; have lS6 := bS6.lt) | (go_at_call 134; refine (hw _ hB6).mono ?_; rintro e w7 ⟨rfl, hb7⟩; have hB7 := belowCall hB6 hb7; have bS7 := bS6.below hb7; have cS7 := bS7.cell; have lS7 := bS7.lt) | (go_at_call 135; refine (hs _ hB7).mono ?_; rintro e w8 ⟨rfl, hb8⟩; have hB8 := belowCall hB7 hb8; have bS8 := bS7.below hb8; have cS8 := bS8.cell; have lS8 := bS8.lt) | (go_at_call 136; refine (hc _).mono ?_; rintro e w9 ⟨rfl, hb9⟩; have hB9 := belowCall hB8 hb9)
  go_ret
  exact ⟨rfl, hB9⟩
/-- the chapter's optics without indices -/
def badV (q : Plc) : Array Value := #[.string { data := #[65] }, .int .i64 0, .int .i64 1000000, .int .i64 0, .int .i64 0, .slice q.pf 1 q.cf, .slice q.pw 1 q.cw, .slice q.ps 2 q.cs, .slice q.pc 0 q.cc, .slice none 0 0]
set_option maxRecDepth 100000 in
set_option maxHeartbeats 2000000 in
theorem right13_bad (q : Plc) (w : World) (h : LnsAt w (chL false) q) :
    Calls Tryz.prog 80 #[.agg (badV q)] w fun e w' => e = .returned (.bool false) ∧ Below w.heap.size w w' := by
  have hr := fun W (hW : Below w.heap.size w W) => right12_ok q W (h.below hW)
  clear h
  simp only [Lns.lvals, chL, badV] at hr ⊢
  go_enter Tryz.func80, Tryz.ntmps80
  go_wp2_with fail
  refine boxes1c fun W hB hsz bS => ?_
  refine (hr W hB).mono ?_
  rintro e W1 ⟨rfl, hb⟩
  have hB1 := belowCall hB hb
  have bS1 := bS.below hb
  have cS := bS1.cell
  have lS := bS1.lt
  go_wp2
  go_ret
  exact ⟨rfl, hB1⟩
set_option maxRecDepth 100000 in
theorem check13_bad (q : Plc) (w : World) (h : LnsAt w (chL false) q) :
    Calls Tryz.prog 38 #[.agg (badV q)] w fun e w' => e = .returned (.int .i64 130) ∧ Below w.heap.size w w' := by
  have hr := fun W (hW : Below w.heap.size w W) => right13_bad q W (h.below hW)
  clear h
  simp only [badV] at hr ⊢
  go_enter Tryz.func38, Tryz.ntmps38
  go_wp2_with fail
  refine boxes1c fun W hB hsz bS => ?_
  refine (hr W hB).mono ?_
  rintro e W1 ⟨rfl, hb⟩
  go_wp2
  go_ret
  exact ⟨rfl, belowCall hB hb⟩
end Go.Proofs.YtepodcocemmejaaGreatDoor
