/- Part 50 of 52 of the proof that the law ParaxialKnown returns true, whatever stands in memory, if the two listed variables hold what the text lays: contracts of the functions that it reaches. No condition beside the row. -/
import Derived.Test.YtepodcocemmejaaGreatDoorA49
set_option linter.unusedVariables false
set_option linter.unusedSimpArgs false
namespace Go.Proofs.YtepodcocemmejaaGreatDoor
open Go.RowKit Go.Mono
set_option maxRecDepth 100000 in
set_option maxHeartbeats 2000000 in
theorem chapter_m (w : World) : Calls Tryz.prog 37 #[.bool true] w fun e w' => ∃ q, e = .returned (.agg ((chL true).ovals q)) ∧ OptAt w' (chL true) q ∧ Below w.heap.size w w' := by
  have hi9 : (Tryz.prog.info? 42).map (·.size) = some 9 := by kernel_rfl
  have hi10 : (Tryz.prog.info? 45).map (·.size) = some 10 := by kernel_rfl
  go_enter Tryz.func37, Tryz.ntmps37
  iterate 32 go_step
  refine boxes5 fun W hB hs bR bA bB bI bO => ?_
  go_wp2_with first | (refine boxes3l fun W2 hB2 hs2 bf bw bs => ?_; refine wpList_store_box rfl 42 _ _ rfl (w.heap.size + 1 + 1 + 1 + 1) 0 45 _ #[.string { data := #[65] }, .int .i64 0, .int .i64 1000000, .int .i64 0, .int .i64 0, .slice (some ⟨W.heap.size, 0, none⟩) 1 1, .slice (some ⟨W.heap.size + 1, 0, none⟩) 1 1, .slice (some ⟨W.heap.size + 1 + 1, 0, none⟩) 2 2, .slice none 0 0] #[.string { data := #[65] }, .int .i64 0, .int .i64 1000000, .int .i64 0, .int .i64 0, .slice (some ⟨W.heap.size, 0, none⟩) 1 1, .slice (some ⟨W.heap.size + 1, 0, none⟩) 1 1, .slice (some ⟨W.heap.size + 1 + 1, 0, none⟩) 2 2, .slice none 0 0, .slice (some ⟨w.heap.size + 1 + 1 + 1, 0, none⟩) 2 2] rfl rfl (bO.below hB2) hi9 (Nat.le_of_ble_eq_true rfl) (by simp [Value.oneCell']) rfl ?_; intro W3 hk3 b3; have bR3 := hk3.box (bR.below hB2) (bR.below hB2).lt (by omega); have bs3 := hk3.box bs bs.lt (by have := bO.lt; omega); have bf3 := hk3.box bf bf.lt (by have := bO.lt; omega); have bw3 := hk3.box bw bw.lt (by have := bO.lt; omega); have hBW3 := hk3.below (belowCall hB hB2) (by omega) (belowCall hB hB2).size; have hz3 := hk3.size; have hz2 := hB2.size; clear hk3 bw bf bs bR bA bB bI) | (refine boxes3l fun W4 hB4 hs4 bA4 bB4 bI4 => ?_; have b4 := b3.below hB4; have c4 := b4.cell; have l4 := b4.lt; have f4 := b4.frozen)
  have lO := bO.lt
  have q0 := hB2.size
  have b5 : Box _ _ 45 #[.string { data := #[65] }, .int .i64 0, .int .i64 1000000, .int .i64 0, .int .i64 0, .slice (some ⟨W.heap.size, 0, none⟩) 1 1, .slice (some ⟨W.heap.size + 1, 0, none⟩) 1 1, .slice (some ⟨W.heap.size + 1 + 1, 0, none⟩) 2 2, .slice none 0 0, .slice (some ⟨W3.heap.size + 1 + 1, 0, none⟩) 2 2] := b4.set 9 (.slice (some ⟨W3.heap.size + 1 + 1, 0, none⟩) 2 2)
  have bs5 := (bs3.below hB4).other ⟨w.heap.size + 1 + 1 + 1 + 1, 9, none⟩ (.slice (some ⟨W3.heap.size + 1 + 1, 0, none⟩) 2 2) (by simp; omega)
  have bf5 := (bf3.below hB4).other ⟨w.heap.size + 1 + 1 + 1 + 1, 9, none⟩ (.slice (some ⟨W3.heap.size + 1 + 1, 0, none⟩) 2 2) (by simp; omega)
  have bw5 := (bw3.below hB4).other ⟨w.heap.size + 1 + 1 + 1 + 1, 9, none⟩ (.slice (some ⟨W3.heap.size + 1 + 1, 0, none⟩) 2 2) (by simp; omega)
  have bR5 := (bR3.below hB4).other ⟨w.heap.size + 1 + 1 + 1 + 1, 9, none⟩ (.slice (some ⟨W3.heap.size + 1 + 1, 0, none⟩) 2 2) (by simp; omega)
  have bA5 := bA4.other ⟨w.heap.size + 1 + 1 + 1 + 1, 9, none⟩ (.slice (some ⟨W3.heap.size + 1 + 1, 0, none⟩) 2 2) (by simp; omega)
  have bB5 := bB4.other ⟨w.heap.size + 1 + 1 + 1 + 1, 9, none⟩ (.slice (some ⟨W3.heap.size + 1 + 1, 0, none⟩) 2 2) (by simp; omega)
  have bI5 := bI4.other ⟨w.heap.size + 1 + 1 + 1 + 1, 9, none⟩ (.slice (some ⟨W3.heap.size + 1 + 1, 0, none⟩) 2 2) (by simp; omega)
  have hBW5 := (belowCall hBW3 hB4).setCell (p := ⟨w.heap.size + 1 + 1 + 1 + 1, 9, none⟩) (by simp; omega) (.slice (some ⟨W3.heap.size + 1 + 1, 0, none⟩) 2 2)
  clear b4 c4 l4 f4 bs3 bf3 bw3 bR3 bA4 bB4 bI4 b3
  generalize W4.setCell ⟨w.heap.size + 1 + 1 + 1 + 1, 9, none⟩ (.slice (some ⟨W3.heap.size + 1 + 1, 0, none⟩) 2 2) = W5 at *
  have cS := bs5.cell
  have lS := bs5.lt
  have fS := bs5.frozen
  have ne : ∀ {B T cs} (i : Nat) (u : Value), Box W5 B T cs → B ≠ W.heap.size + 1 + 1 → Box (W5.setCell ⟨W.heap.size + 1 + 1, i, none⟩ u) B T cs := fun i u b h => b.other _ _ h
  have ne2 : ∀ {B T cs} (i j : Nat) (u v : Value), Box W5 B T cs → B ≠ W.heap.size + 1 + 1 → Box ((W5.setCell ⟨W.heap.size + 1 + 1, i, none⟩ u).setCell ⟨W.heap.size + 1 + 1, j, none⟩ v).drew B T cs := fun i j u v b h => ((b.other _ _ h).other _ _ h).drew
  have k1 := ((ne 13 (.string { data := #[77, 73, 82, 82, 79, 82] }) b5 (by omega)).drew).cell 7
  have k2 := (ne2 13 12 (.string { data := #[77, 73, 82, 82, 79, 82] }) (.int .i64 (-30000000)) b5 (by omega)).cell 7
  refine wp_region_held_drew (S := fun w' => w'.cell? ⟨w.heap.size + 1 + 1 + 1 + 1, 7, none⟩ = some (.slice (some ⟨W.heap.size + 1 + 1, 0, none⟩) 2 2)) (by kernel_rfl) (b5.drew.cell 7) (fun hHeld => ?_)
  refine take_want 0 (some 22) rfl (by kernel_rfl) (by kernel_rfl) (by kernel_rfl) rfl (fun _ _ _ h => h) (by rfl) (v := ?_) ?_ (by assumption) ?_
  rotate_left
  · intro w hSw; (try dsimp only at hSw); go_simp; all_goals with_reducible rfl
  simp only [Act.put, List.setIfInBounds_toArray, List.set_cons_zero, List.set_cons_succ]
  refine take_want 1 (some 23) rfl (by kernel_rfl) (by kernel_rfl) (by kernel_rfl) rfl (fun _ _ _ h => h) (by rfl) (v := ?_) ?_ (by assumption) ?_
  rotate_left
  · intro w hSw; (try dsimp only at hSw); go_simp; all_goals with_reducible rfl
  simp only [Act.put, List.setIfInBounds_toArray, List.set_cons_zero, List.set_cons_succ]
  refine take_want 2 (some 24) rfl (by kernel_rfl) (by kernel_rfl) (by kernel_rfl) rfl (fun _ _ _ h => h) (by rfl) (v := ?_) ?_ (by assumption) ?_
  rotate_left
  · intro w hSw; (try dsimp only at hSw); go_simp; all_goals with_reducible rfl
  simp only [Act.put, List.setIfInBounds_toArray, List.set_cons_zero, List.set_cons_succ]
  refine take_want 3 (some 25) rfl (by kernel_rfl) (by kernel_rfl) (by kernel_rfl) rfl (fun _ _ _ h => h) (by rfl) (v := ?_) ?_ (by assumption) ?_
  rotate_left
  · intro w hSw; (try dsimp only at hSw); go_simp; all_goals with_reducible rfl
  simp only [Act.put, List.setIfInBounds_toArray, List.set_cons_zero, List.set_cons_succ]
  refine take_want 4 (some 26) rfl (by kernel_rfl) (by kernel_rfl) (by kernel_rfl) rfl (fun _ _ _ h => h) (by rfl) (v := ?_) ?_ (by assumption) ?_
  rotate_left
  · intro w hSw; (try dsimp only at hSw); go_simp; all_goals with_reducible rfl
  simp only [Act.put, List.setIfInBounds_toArray, List.set_cons_zero, List.set_cons_succ]
  refine take_want 5 (some 27) rfl (by kernel_rfl) (by kernel_rfl) (by kernel_rfl) rfl (fun _ _ _ h => h) (by rfl) (v := ?_) ?_ (by assumption) ?_
  rotate_left
  · intro w hSw; (try dsimp only at hSw); go_simp; all_goals with_reducible rfl
  simp only [Act.put, List.setIfInBounds_toArray, List.set_cons_zero, List.set_cons_succ]
  refine take_want 6 (some 28) rfl (by kernel_rfl) (by kernel_rfl) (by kernel_rfl) rfl (fun _ _ _ h => h) (by rfl) (v := ?_) ?_ (by assumption) ?_
  rotate_left
  · intro w hSw; (try dsimp only at hSw); go_simp; all_goals with_reducible rfl
  simp only [Act.put, List.setIfInBounds_toArray, List.set_cons_zero, List.set_cons_succ]
  refine take_want 7 (some 29) rfl (by kernel_rfl) (by kernel_rfl) (by kernel_rfl) rfl (fun _ _ _ h => h) (by rfl) (v := ?_) ?_ (by assumption) ?_
  rotate_left
  · intro w hSw; (try dsimp only at hSw); go_simp; all_goals with_reducible rfl
  simp only [Act.put, List.setIfInBounds_toArray, List.set_cons_zero, List.set_cons_succ]
  refine wpAnyH_ready (rs := [8]) (by kernel_rfl) (by simp) ?_
  refine AllReadyH.cons rfl (fun K hK => ?_) AllReadyH.nil
  go_simp
  skip
  refine hK.out _ _ ?_ (fun hHeld => ?_)
  · first | exact (k1) | fail "keep"
  clear hK K
  try simp only [Act.put, List.setIfInBounds_toArray, List.set_cons_zero, List.set_cons_succ]
  refine take_want 9 (some 30) rfl (by kernel_rfl) (by kernel_rfl) (by kernel_rfl) rfl (fun _ _ _ h => h) (by rfl) (v := ?_) ?_ (by assumption) ?_
  rotate_left
  · intro w hSw; (try dsimp only at hSw); go_simp; all_goals with_reducible rfl
  simp only [Act.put, List.setIfInBounds_toArray, List.set_cons_zero, List.set_cons_succ]
  refine take_want 10 (some 31) rfl (by kernel_rfl) (by kernel_rfl) (by kernel_rfl) rfl (fun _ _ _ h => h) (by rfl) (v := ?_) ?_ (by assumption) ?_
  rotate_left
  · intro w hSw; (try dsimp only at hSw); go_simp; all_goals with_reducible rfl
  simp only [Act.put, List.setIfInBounds_toArray, List.set_cons_zero, List.set_cons_succ]
  have b6 := bs5.set 13 (.string { data := #[77, 73, 82, 82, 79, 82] })
  have c6 := b6.cell
  have l6 := b6.lt
  have f6 := b6.frozen
  refine wpAnyH_ready (rs := [11]) (by kernel_rfl) (by simp) ?_
  refine AllReadyH.cons rfl (fun K hK => ?_) AllReadyH.nil
  go_simp
  skip
  refine hK.out _ _ ?_ (fun hHeld => ?_)
  · first | exact (k2) | fail "keep"
  clear hK K
  try simp only [Act.put, List.setIfInBounds_toArray, List.set_cons_zero, List.set_cons_succ]
  refine wpAnyH_done (by kernel_rfl) ?_ _
  have b7 := (b6.set 12 (.int .i64 (-30000000))).drew
  have b8 := ne2 13 12 (.string { data := #[77, 73, 82, 82, 79, 82] }) (.int .i64 (-30000000)) b5 (by omega)
  have bR8 := ne2 13 12 (.string { data := #[77, 73, 82, 82, 79, 82] }) (.int .i64 (-30000000)) bR5 (by omega)
  have bf8 := ne2 13 12 (.string { data := #[77, 73, 82, 82, 79, 82] }) (.int .i64 (-30000000)) bf5 (by omega)
  have bw8 := ne2 13 12 (.string { data := #[77, 73, 82, 82, 79, 82] }) (.int .i64 (-30000000)) bw5 (by omega)
  have bA8 := ne2 13 12 (.string { data := #[77, 73, 82, 82, 79, 82] }) (.int .i64 (-30000000)) bA5 (by omega)
  have bB8 := ne2 13 12 (.string { data := #[77, 73, 82, 82, 79, 82] }) (.int .i64 (-30000000)) bB5 (by omega)
  have bI8 := ne2 13 12 (.string { data := #[77, 73, 82, 82, 79, 82] }) (.int .i64 (-30000000)) bI5 (by omega)
  have hB8 := ((hBW5.setCell (p := ⟨W.heap.size + 1 + 1, 13, none⟩) (by simp; omega) (.string { data := #[77, 73, 82, 82, 79, 82] })).setCell (p := ⟨W.heap.size + 1 + 1, 12, none⟩) (by simp; omega) (.int .i64 (-30000000))).drew
  clear ne ne2 k1 k2 b6 c6 l6 f6 cS lS fS bs5 bf5 bw5 bR5 bA5 bB5 bI5 b5
  generalize ((W5.setCell ⟨W.heap.size + 1 + 1, 13, none⟩ (.string { data := #[77, 73, 82, 82, 79, 82] })).setCell ⟨W.heap.size + 1 + 1, 12, none⟩ (.int .i64 (-30000000))).drew = W8 at *
  go_wp2_with first | (refine wpList_load_box rfl 45 _ rfl (w.heap.size + 1 + 1 + 1 + 1) rfl 45 #[.string { data := #[65] }, .int .i64 0, .int .i64 1000000, .int .i64 0, .int .i64 0, .slice (some ⟨W.heap.size, 0, none⟩) 1 1, .slice (some ⟨W.heap.size + 1, 0, none⟩) 1 1, .slice (some ⟨W.heap.size + 1 + 1, 0, none⟩) 2 2, .slice none 0 0, .slice (some ⟨W3.heap.size + 1 + 1, 0, none⟩) 2 2] b8 _ Tryz.underlying45 rfl hi10 ?_) | (refine wpList_store_box rfl 45 (.tmp 2) _ rfl w.heap.size 0 45 _ #[.string { data := #[65] }, .int .i64 0, .int .i64 1000000, .int .i64 0, .int .i64 0, .slice (some ⟨W.heap.size, 0, none⟩) 1 1, .slice (some ⟨W.heap.size + 1, 0, none⟩) 1 1, .slice (some ⟨W.heap.size + 1 + 1, 0, none⟩) 2 2, .slice none 0 0, .slice (some ⟨W3.heap.size + 1 + 1, 0, none⟩) 2 2] #[.string { data := #[65] }, .int .i64 0, .int .i64 1000000, .int .i64 0, .int .i64 0, .slice (some ⟨W.heap.size, 0, none⟩) 1 1, .slice (some ⟨W.heap.size + 1, 0, none⟩) 1 1, .slice (some ⟨W.heap.size + 1 + 1, 0, none⟩) 2 2, .slice none 0 0, .slice (some ⟨W3.heap.size + 1 + 1, 0, none⟩) 2 2] rfl rfl bR8 hi10 (Nat.le_of_ble_eq_true rfl) (by simp [Value.oneCell']) rfl ?_; intro W9 hk9 b9)
  refine bodyPost_ret (b9.results rfl _ _ rfl Tryz.underlying45 rfl hi10) rfl ?_
  have mv : ∀ {B T cs}, Box W8 B T cs → B ≠ w.heap.size → Box W9 B T cs := fun b h2 => hk9.box b b.lt h2
  refine ⟨plcOf (chL true) W.heap.size (W.heap.size + 1) (W.heap.size + 1 + 1) (W3.heap.size + 1 + 1) (fun i => if i = 0 then W3.heap.size else W3.heap.size + 1), rfl, ?_, hk9.below hB8 (Nat.le_refl _) hB8.size⟩
  refine optAt_mk (TI := fun _ => 3) (chL true) rfl rfl (by decide) _ _ _ _ _ _ _ (mv bf8 (by omega)) (mv bw8 (by omega)) (mv b7 (by omega)) rfl (mv bI8 (by omega)) (fun i hi => ?_) (fun i hi => ?_)
  · have hi2 : i < 2 := hi
    rcases (by omega : i = 0 ∨ i = 1) with rfl | rfl <;> rfl
  · have hi2 : i < 2 := hi
    rcases (by omega : i = 0 ∨ i = 1) with rfl | rfl
    · show Box W9 (W3.heap.size) 3 _
      exact mv bA8 (by omega)
    · show Box W9 (W3.heap.size + 1) 3 _
      exact mv bB8 (by omega)
end Go.Proofs.YtepodcocemmejaaGreatDoor
namespace Go.Mono
open Go.RowKit
theorem rdC_ints {w : World} {B : Nat} {T : TypeId} (l : List Int) (n : Nat) (hn : n ≤ 16) (hl : l.length = n * 4) {cs : Array Value} (h : Box w B T cs) (hc : cs.toList = l.map (Value.int .i64)) : RdC w (some ⟨B, 0, none⟩) n n 4 (fun i j => .int .i64 (l.getD (i * 4 + j) 0)) :=
  ⟨Nat.le_refl _, by omega, fun _ => ⟨B, 0, rfl, h.lt, fun i j hi hj => by
    rw [h.cell, ← Array.getElem?_toList, hc, Nat.zero_add, List.getElem?_map]
    dsimp only
    rw [List.getD_eq_getElem?_getD]
    have : i * 4 + j < l.length := by omega
    rw [List.getElem?_eq_getElem this]
    rfl⟩⟩
section
variable {P : Program} {o : Oper} {a : Act} {w : World} {K : Act → World → Prop} {Q : Exit → Act → World → Prop}
/-- a fresh variable, its world as a letter -/
theorem wp_new (T : TypeId) (ho : o.op = .alloc T) (zs : Array Value)
    (hrun : ∀ w, (Instr.alloc T true (.tuple #[])).run P w = .ok (.pointer (some ⟨w.heap.size, 0, none⟩)) (w.alloc (.cells zs T)))
    (h : ∀ V B, w.heap.size ≤ B → Below w.heap.size w V → Box V B T zs → K (a.put o.dst (.pointer (some ⟨B, 0, none⟩))) V) : o.wp P a w K Q := by
  unfold Oper.wp execOp
  simp only [ho, Sem.run_bind, hrun, Result.andThen_ok, Sem.run_pure]
  exact h _ _ (Nat.le_refl _) ((Below.refl _ _).alloc (Nat.le_refl _) _) (Box.new _ _ _)
end
end Go.Mono
namespace Go.Proofs.YtepodcocemmejaaGreatDoor
open Go.RowKit Go.Mono
theorem chk1 (a : Lns) (ha : a.opt) (h1 : a.nw = 1) (q : Plc) : Chk a q := fun W h => ocheck1 a ha h1 q W h
/-- Power of a surface -/
theorem powX (a : Lns) (ha : a.opt) (q : Plc) (hchk : Chk a q) (s k : Nat) (w : World) (h : OptAt w a q) (s1 : s < a.ns) (k1 : k < a.nw) (hf : PowFits a k s) (m : Nat) (hp : PowsAt w m) :
    Calls Tryz.prog 34 #[.agg (a.ovals q), .int .i64 (k : Int), .int .i64 (s : Int)] w fun e w' => ∃ C, e = .returned (.tuple #[.agg C, .int .i64 0]) ∧ QV w' (.agg C) (a.pow k s) ∧ Below w.heap.size w w' :=
  powerX_ret a q (a.pow k s) k s w fun W Bo Bk Bs hW bo bk bs => power1_ok a ha q hchk s k W (h.below hW) s1 k1 hf m (hp.below hW) Bo Bk Bs bo bk bs
/-- Index of a surface -/
theorem indX (a : Lns) (ha : a.opt) (q : Plc) (hchk : Chk a q) (s k : Nat) (w : World) (h : OptAt w a q) (s1 : s < a.ns) (k1 : k < a.nw) :
    Calls Tryz.prog 32 #[.agg (a.ovals q), .int .i64 (k : Int), .int .i64 (s : Int)] w fun e w' => ∃ C, e = .returned (.tuple #[.agg C, .int .i64 0]) ∧ QV w' (.agg C) (a.nI k s) ∧ Below w.heap.size w w' :=
  indexX_ret a q (a.nI k s) k s w fun W Bo Bk Bs hW bo bk bs => index1_ok a ha q hchk s k W (h.below hW) s1 k1 Bo Bk Bs bo bk bs
theorem powX_at (a : Lns) (q : Plc) (hchk : Chk a q) (k : Nat) (s : Int) (w : World) (h : OptAt w a q) (s1 : s < 0 ∨ (a.ns : Int) ≤ s) (k1 : k < a.nw) :
    Calls Tryz.prog 34 #[.agg (a.ovals q), .int .i64 (k : Int), .int .i64 s] w fun e w' => e = .returned (.tuple #[.agg quot0, .int .i64 2]) ∧ Below w.heap.size w w' :=
  powerX_panic a q 2 k s w fun W Bo Bk Bs hW bo bk bs => power1_at a q hchk k s W (h.below hW) s1 k1 Bo Bk Bs bo bk bs
theorem indX_at (a : Lns) (q : Plc) (hchk : Chk a q) (k : Nat) (s : Int) (w : World) (h : OptAt w a q) (s1 : s < 0 ∨ (a.ns : Int) ≤ s) (k1 : k < a.nw) :
    Calls Tryz.prog 32 #[.agg (a.ovals q), .int .i64 (k : Int), .int .i64 s] w fun e w' => e = .returned (.tuple #[.agg quot0, .int .i64 2]) ∧ Below w.heap.size w w' :=
  indexX_panic a q 2 k s w fun W Bo Bk Bs hW bo bk bs => index1_at a q hchk k s W (h.below hW) s1 k1 Bo Bk Bs bo bk bs
theorem lis1_true (n d : Int) (d0 : d ≠ 0) (a1 : -9223372036854775808 ≤ n) (a2 : n ≤ 9223372036854775807) (b1 : -9223372036854775808 ≤ d) (b2 : d ≤ 9223372036854775807) (C : Array Value) (r : Rat) (heq : r = Rat.divInt n d) (w : World) (hr : QV w (.agg C) r) (A B : Nat) (ba : Box w A 3 #[.int .i64 n]) (bb : Box w B 3 #[.int .i64 d]) :
    Calls Tryz.prog 81 #[.agg C, .int .i64 0, .pointer (some ⟨A, 0, none⟩), .pointer (some ⟨B, 0, none⟩)] w fun e w' => e = .returned (.bool true) ∧ Below w.heap.size w w' := by
  have h := lis1_ok n d d0 a1 a2 b1 b2 C r w hr A B ba bb
  rw [decide_eq_true heq] at h
  exact h
theorem qsame_true (u v : Value) (a b : Rat) (heq : a = b) (w : World) (h1 : QV w u a) (h2 : QV w v b) :
    Calls Tryz.prog 28 #[u, v] w fun e w' => e = .returned (.bool true) ∧ Below w.heap.size w w' := by
  have h := qsame_ok u v a b w w (Ext.refl _) h1 h2
  rw [decide_eq_true heq] at h
  exact h
/-- pencils of two -/
theorem pencils2 (base : Nat) (p : Option Addr) (c : Nat) (f : Nat → Rat × Rat) (l : List Int) (hl : l.length = 8) (hs : (l.all fun z => decide (-1000000000000 ≤ z) && decide (z ≤ 1000000000000)) = true) (hx : (l.getD 1 0 ≠ 0 ∧ l.getD 3 0 ≠ 0) ∧ l.getD 5 0 ≠ 0 ∧ l.getD 7 0 ≠ 0) (w : World) (hP : PensAt w base 65 p 2 c f) {B : Nat} {T : TypeId} {cs : Array Value} (hb : Box w B T cs) (hc : cs.toList = l.map (Value.int .i64))
    (h0 : f 0 = (Rat.divInt (l.getD 0 0) (l.getD 1 0), Rat.divInt (l.getD 2 0) (l.getD 3 0))) (h1 : f 1 = (Rat.divInt (l.getD 4 0) (l.getD 5 0), Rat.divInt (l.getD 6 0) (l.getD 7 0))) :
    Calls Tryz.prog 40 #[.slice p 2 c, .int .i64 0, .slice (some ⟨B, 0, none⟩) 2 2] w fun e w' => e = .returned (.bool true) ∧ Below w.heap.size w w' := by
  refine pencils_ok 2 (by decide) (by decide) base p c f _ 2 (fun i j => l.getD (i * 4 + j) 0) (fun i j hi hj => ?_) (fun i hi => ?_) (fun i hi => ?_) w hP (rdC_ints l 2 (by decide) hl hb hc) (fun i hi => ?_)
  · have hlt : i * 4 + j < l.length := by omega
    have := List.all_eq_true.1 hs (l.getD (i * 4 + j) 0) (by rw [List.getD_eq_getElem?_getD, List.getElem?_eq_getElem hlt]; exact List.getElem_mem hlt)
    simpa [small] using this
  · rcases (by omega : i = 0 ∨ i = 1) with rfl | rfl
    · exact hx.1.1
    · exact hx.2.1
  · rcases (by omega : i = 0 ∨ i = 1) with rfl | rfl
    · exact hx.1.2
    · exact hx.2.2
  · rcases (by omega : i = 0 ∨ i = 1) with rfl | rfl
    · exact h0
    · exact h1
/-- what stands while works runs -/
structure WkInv (m : Nat) (q q2 : Plc) (B1 B2 : Nat) (X : World) : Prop where
  O : OptAt X (chL false) q
  M : OptAt X (chL true) q2
  pows : PowsAt X m
  b1 : Box X B1 45 ((chL false).ovals q)
  b2 : Box X B2 45 ((chL true).ovals q2)
theorem WkInv.below {m : Nat} {q q2 : Plc} {B1 B2 : Nat} {X Y : World} (h : WkInv m q q2 B1 B2 X) (hB : Below X.heap.size X Y) : WkInv m q q2 B1 B2 Y := ⟨h.O.below hB, h.M.below hB, h.pows.below hB, h.b1.below hB, h.b2.below hB⟩
theorem ch_pf (m : Bool) (s : Nat) (hs : s < 2) : PowFits (chL m) 0 s := (ch_fits m).pow s hs
theorem penq_halves {w : World} {c0 c1 c2 c3 c4 c5 c6 c7 : Value} {x y : Rat} (h : PenQ w #[c0, c1, c2, c3, c4, c5, c6, c7] (x, y)) : QV w (.agg #[c0, c1, c2, c3]) x ∧ QV w (.agg #[c4, c5, c6, c7]) y := by
  obtain ⟨p1, n1, d1, p2, n2, d2, p3, n3, d3, p4, n4, d4, hC, Ra, Rb⟩ := h
  simp only [Array.mk.injEq, List.cons.injEq, and_true] at hC
  obtain ⟨rfl, rfl, rfl, rfl, rfl, rfl, rfl, rfl⟩ := hC
  exact ⟨Ra, Rb⟩
theorem row_range {w W : World} {n b off z : Nat} {C : Nat → Array Value} (hbl : b < w.heap.size) (hc : ∀ i j, i < n → j < z → w.cell? ⟨b, off + i * z + j, none⟩ = some ((C i).getD j undef)) (hB : Below w.heap.size w W) (i : Nat) (hi : i < n) (hz : (C i).size = z) :
    W.rangeAt b (off + i * z) (C i).toList := fun j v hv => by
  have hj : j < z := by
    have := (List.getElem?_eq_some_iff.1 hv).1
    simpa [hz] using this
  refine ((hB.cell (p := ⟨b, off + i * z + j, none⟩) hbl).trans (hc i j hi hj)).trans ?_
  rw [Array.getElem?_toList] at hv
  rw [Array.getD_eq_getD_getElem?, hv]
  rfl
theorem ch_slope : ∀ s, s < (chL false).ns → Fits (((chL false).tr 0 (Rat.divInt 10 1) (Rat.divInt 0 1) (s + 1)).2 / (chL false).nI 0 s) := fun s hs => by
  have h2 : s < 2 := hs
  rcases (by omega : s = 0 ∨ s = 1) with rfl | rfl <;> exact fits_of (by decide +kernel)
theorem ch_slope0 : ((chL false).tr 0 (Rat.divInt 10 1) (Rat.divInt 0 1) (0 + 1)).2 / (chL false).nI 0 0 = Rat.divInt (-1) 15 := by decide +kernel
theorem ch_slope1 : ((chL false).tr 0 (Rat.divInt 10 1) (Rat.divInt 0 1) (1 + 1)).2 / (chL false).nI 0 1 = Rat.divInt (-1) 15 := by decide +kernel
theorem ch_bk : (chL false).bk 0 (Rat.divInt 8 1) (Rat.divInt (-1) 10) 2 = (Rat.divInt 10 1, Rat.divInt 0 1) := by decide +kernel
theorem two_sum {i s : Nat} (h : s + i + 1 = 2) : (i = 0 ∧ s = 1) ∨ (i = 1 ∧ s = 0) := by omega
theorem ch_bkfits : BkFits (chL false) 0 (Rat.divInt 8 1) (Rat.divInt (-1) 10) where
  pow := (ch_fits false).pow
  num := (ch_fits false).num
  b1 := fun i s h => by rcases two_sum h with ⟨rfl, rfl⟩ | ⟨rfl, rfl⟩ <;> exact fits_of (by decide +kernel)
  b2 := fun i s h => by rcases two_sum h with ⟨rfl, rfl⟩ | ⟨rfl, rfl⟩ <;> exact fits_of (by decide +kernel)
  b3 := fun i s h => by rcases two_sum h with ⟨rfl, rfl⟩ | ⟨rfl, rfl⟩ <;> exact fits_of (by decide +kernel)
  m1 := fun i t h => by
    obtain ⟨rfl, rfl⟩ : i = 0 ∧ t = 0 := by have h2 : t + 1 + i + 1 = 2 := h; omega
    exact fits_of (by decide +kernel)
  m2 := fun i t h => by
    obtain ⟨rfl, rfl⟩ : i = 0 ∧ t = 0 := by have h2 : t + 1 + i + 1 = 2 := h; omega
    exact fits_of (by decide +kernel)
  m3 := fun i t h => by
    obtain ⟨rfl, rfl⟩ : i = 0 ∧ t = 0 := by have h2 : t + 1 + i + 1 = 2 := h; omega
    exact fits_of (by decide +kernel)
end Go.Proofs.YtepodcocemmejaaGreatDoor
