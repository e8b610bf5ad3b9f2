/- Part 49 of 52 of the proof that the law ParaxialKnown returns true, whatever stands in memory, if the two listed variables hold what the text lays: contracts of the functions that it reaches. No condition beside the row. -/
import Derived.Test.YtepodcocemmejaaGreatDoorA44
import Derived.Test.YtepodcocemmejaaGreatDoorA48
set_option linter.unusedVariables false
set_option linter.unusedSimpArgs false
namespace Go.Mono
open Go.RowKit
def plcOf (a : Lns) (Bf Bw Bs Bi : Nat) (BI : Nat → Nat) : Plc := { pf := some ⟨Bf, 0, none⟩, cf := 1, pw := some ⟨Bw, 0, none⟩, cw := 1, ps := some ⟨Bs, 0, none⟩, cs := a.ns, pc := none, cc := 0, cp := fun _ => none, cl := fun _ => 0, pi := some ⟨Bi, 0, none⟩, ci := a.ns, pI := fun i => some ⟨BI i, 0, none⟩, cI := fun _ => 1 }
theorem optAt_mk {W : World} (a : Lns) (h1 : a.nf = 1) (h2 : a.nw = 1) (hns : a.ns ≤ 16) {Tf Tw Ts Ti : TypeId} {TI : Nat → TypeId} (Bf Bw Bs Bi : Nat) (BI : Nat → Nat) (cs : Array Value) (ci : Array Value)
    (bf : Box W Bf Tf #[.int .i64 (a.X 0), .int .i64 (a.Y 0)]) (bw : Box W Bw Tw #[.int .i64 (a.L 0), .int .i64 (a.W 0)]) (bs : Box W Bs Ts cs) (hcs : cs.toList = pens (fun i => (a.S i).cs none 0) a.ns) (bi : Box W Bi Ti ci) (hci : ∀ i, i < a.ns → ci[i]? = some (.slice (some ⟨BI i, 0, none⟩) 1 1))
    (bI : ∀ i, i < a.ns → Box W (BI i) (TI i) #[.int .i64 (a.ix i 0)]) : OptAt W a (plcOf a Bf Bw Bs Bi BI) := by
  refine ⟨⟨?_, ?_, ?_⟩, ?_, ?_⟩
  · rw [h1]
    refine ⟨Nat.le_refl _, by decide, fun _ => ⟨_, _, rfl, bf.lt, fun i j hi hj => ?_⟩⟩
    obtain rfl : i = 0 := by omega
    rw [bf.cell]
    match j, hj with
    | 0, _ => rfl
    | 1, _ => rfl
  · rw [h2]
    refine ⟨Nat.le_refl _, by decide, fun _ => ⟨_, _, rfl, bw.lt, fun i j hi hj => ?_⟩⟩
    obtain rfl : i = 0 := by omega
    rw [bw.cell]
    match j, hj with
    | 0, _ => rfl
    | 1, _ => rfl
  · refine ⟨Nat.le_refl _, by omega, fun _ => ⟨_, _, rfl, bs.lt, fun i j hi hj => ?_⟩⟩
    rw [bs.cell, ← Array.getElem?_toList, hcs, Nat.zero_add]
    exact rows_get (fun i => (a.S i).cs none 0) 22 a.ns (fun _ _ => rfl) i j hi hj
  · rw [h2]
    refine ⟨Nat.le_refl _, by omega, fun _ => ⟨_, _, rfl, bi.lt, fun i j hi hj => ?_⟩⟩
    obtain rfl : j = 0 := by omega
    rw [bi.cell]
    simp only [Nat.zero_add, Nat.mul_one, Nat.add_zero]
    exact hci i hi
  · intro i hi
    rw [h2]
    refine ⟨Nat.le_refl _, by decide, fun _ => ⟨_, _, rfl, (bI i hi).lt, fun j hj => ?_⟩⟩
    obtain rfl : j = 0 := by omega
    rw [(bI i hi).cell]
    rfl
section
variable {P : Program} {c : Code} {ops : Array Oper} {rest : List Oper} {Q : Exit → Act → World → Prop} {a : Act} {w : World} {T0 T1 T2 T3 T4 : TypeId} {c0 c1 c2 c3 c4 : Array Value}
theorem boxes5 (h : ∀ W, Below w.heap.size w W → w.heap.size + 5 ≤ W.heap.size → Box W w.heap.size T0 c0 → Box W (w.heap.size + 1) T1 c1 → Box W (w.heap.size + 1 + 1) T2 c2 → Box W (w.heap.size + 1 + 1 + 1) T3 c3 → Box W (w.heap.size + 1 + 1 + 1 + 1) T4 c4 → c.wp P Q a W) :
    c.wp P Q a (((((w.alloc (.cells c0 T0)).alloc (.cells c1 T1)).alloc (.cells c2 T2)).alloc (.cells c3 T3)).alloc (.cells c4 T4)) := by
  have b4 := Box.new ((((w.alloc (.cells c0 T0)).alloc (.cells c1 T1)).alloc (.cells c2 T2)).alloc (.cells c3 T3)) T4 c4
  simp only [World.size_alloc] at b4
  have b3 := Box.new (((w.alloc (.cells c0 T0)).alloc (.cells c1 T1)).alloc (.cells c2 T2)) T3 c3
  simp only [World.size_alloc] at b3
  have b2 := Box.new ((w.alloc (.cells c0 T0)).alloc (.cells c1 T1)) T2 c2
  simp only [World.size_alloc] at b2
  have b1 := Box.new (w.alloc (.cells c0 T0)) T1 c1
  simp only [World.size_alloc] at b1
  exact h _ ((((((Below.refl _ _).alloc (Nat.le_refl _) _).alloc (by simp) _).alloc (by simp; omega) _).alloc (by simp; omega) _).alloc (by simp; omega) _) (by simp) (((((Box.new _ _ _).alloc _).alloc _).alloc _).alloc _) (((b1.alloc _).alloc _).alloc _) ((b2.alloc _).alloc _) (b3.alloc _) b4
theorem boxes3l (h : ∀ W, Below w.heap.size w W → w.heap.size + 3 ≤ W.heap.size → Box W w.heap.size T0 c0 → Box W (w.heap.size + 1) T1 c1 → Box W (w.heap.size + 1 + 1) T2 c2 → wpList P ops Q rest a W) : wpList P ops Q rest a (((w.alloc (.cells c0 T0)).alloc (.cells c1 T1)).alloc (.cells c2 T2)) := by
  have b1 := Box.new (w.alloc (.cells c0 T0)) T1 c1
  have b2 := Box.new ((w.alloc (.cells c0 T0)).alloc (.cells c1 T1)) T2 c2
  simp only [World.size_alloc] at b1 b2
  exact h _ ((((Below.refl _ _).alloc (Nat.le_refl _) _).alloc (by simp) _).alloc (by simp; omega) _) (by simp) (((Box.new _ _ _).alloc _).alloc _) (b1.alloc _) b2
end
end Go.Mono
namespace Go.Proofs.YtepodcocemmejaaGreatDoor
open Go.RowKit Go.Mono
set_option maxRecDepth 100000 in
set_option maxHeartbeats 2000000 in
theorem chapter_f (w : World) : Calls Tryz.prog 37 #[.bool false] w fun e w' => ∃ q, e = .returned (.agg ((chL false).ovals q)) ∧ OptAt w' (chL false) q ∧ Below w.heap.size w w' := by
  have hi9 : (Tryz.prog.info? 42).map (·.size) = some 9 := by kernel_rfl
  have hi10 : (Tryz.prog.info? 45).map (·.size) = some 10 := by kernel_rfl
  go_enter Tryz.func37, Tryz.ntmps37
  iterate 32 go_step
  refine boxes5 fun W hB hs bR bA bB bI bO => ?_
  go_wp2_with first | (refine boxes3l fun W2 hB2 hs2 bf bw bs => ?_; refine wpList_store_box rfl 42 _ _ rfl (w.heap.size + 1 + 1 + 1 + 1) 0 45 _ #[.string { data := #[65] }, .int .i64 0, .int .i64 1000000, .int .i64 0, .int .i64 0, .slice (some ⟨W.heap.size, 0, none⟩) 1 1, .slice (some ⟨W.heap.size + 1, 0, none⟩) 1 1, .slice (some ⟨W.heap.size + 1 + 1, 0, none⟩) 2 2, .slice none 0 0] #[.string { data := #[65] }, .int .i64 0, .int .i64 1000000, .int .i64 0, .int .i64 0, .slice (some ⟨W.heap.size, 0, none⟩) 1 1, .slice (some ⟨W.heap.size + 1, 0, none⟩) 1 1, .slice (some ⟨W.heap.size + 1 + 1, 0, none⟩) 2 2, .slice none 0 0, .slice (some ⟨w.heap.size + 1 + 1 + 1, 0, none⟩) 2 2] rfl rfl (bO.below hB2) hi9 (Nat.le_of_ble_eq_true rfl) (by simp [Value.oneCell']) rfl ?_; intro W3 hk3 b3; have bR3 := hk3.box (bR.below hB2) (bR.below hB2).lt (by omega)) | (refine wpList_load_box rfl 45 _ rfl (w.heap.size + 1 + 1 + 1 + 1) rfl 45 #[.string { data := #[65] }, .int .i64 0, .int .i64 1000000, .int .i64 0, .int .i64 0, .slice (some ⟨W.heap.size, 0, none⟩) 1 1, .slice (some ⟨W.heap.size + 1, 0, none⟩) 1 1, .slice (some ⟨W.heap.size + 1 + 1, 0, none⟩) 2 2, .slice none 0 0, .slice (some ⟨w.heap.size + 1 + 1 + 1, 0, none⟩) 2 2] b3 _ Tryz.underlying45 rfl hi10 ?_) | (refine wpList_store_box rfl 45 (.tmp 2) _ rfl w.heap.size 0 45 _ #[.string { data := #[65] }, .int .i64 0, .int .i64 1000000, .int .i64 0, .int .i64 0, .slice (some ⟨W.heap.size, 0, none⟩) 1 1, .slice (some ⟨W.heap.size + 1, 0, none⟩) 1 1, .slice (some ⟨W.heap.size + 1 + 1, 0, none⟩) 2 2, .slice none 0 0, .slice (some ⟨w.heap.size + 1 + 1 + 1, 0, none⟩) 2 2] #[.string { data := #[65] }, .int .i64 0, .int .i64 1000000, .int .i64 0, .int .i64 0, .slice (some ⟨W.heap.size, 0, none⟩) 1 1, .slice (some ⟨W.heap.size + 1, 0, none⟩) 1 1, .slice (some ⟨W.heap.size + 1 + 1, 0, none⟩) 2 2, .slice none 0 0, .slice (some ⟨w.heap.size + 1 + 1 + 1, 0, none⟩) 2 2] rfl rfl bR3 hi10 (Nat.le_of_ble_eq_true rfl) (by simp [Value.oneCell']) rfl ?_; intro W4 hk4 b4)
  have bO2 := bO.below hB2
  have l1 := bA.lt
  have l2 := bB.lt
  have l3 := bI.lt
  have l4 := bO.lt
  have hz : W.heap.size ≤ W2.heap.size := hB2.size
  have hz3 : W2.heap.size ≤ W3.heap.size := hk3.size
  have mv : ∀ {B T cs}, Box W2 B T cs → B ≠ w.heap.size + 1 + 1 + 1 + 1 → B ≠ w.heap.size → Box W4 B T cs := fun b h1 h2 => hk4.box (hk3.box b b.lt h1) (by have := b.lt; omega) h2
  refine bodyPost_ret (b4.results rfl _ _ rfl Tryz.underlying45 rfl hi10) rfl ?_
  refine ⟨plcOf (chL false) W.heap.size (W.heap.size + 1) (W.heap.size + 1 + 1) (w.heap.size + 1 + 1 + 1) (fun i => if i = 0 then w.heap.size + 1 else w.heap.size + 1 + 1), rfl, ?_, ?_⟩
  · refine optAt_mk (TI := fun _ => 3) (chL false) rfl rfl (by decide) _ _ _ _ _ _ _ (mv bf (by omega) (by omega)) (mv bw (by omega) (by omega)) (mv bs (by omega) (by omega)) rfl (mv (bI.below hB2) (by omega) (by omega)) (fun i hi => ?_) (fun i hi => ?_)
    · have hi2 : i < 2 := hi
      rcases (by omega : i = 0 ∨ i = 1) with rfl | rfl <;> rfl
    · have hi2 : i < 2 := hi
      rcases (by omega : i = 0 ∨ i = 1) with rfl | rfl
      · show Box W4 (w.heap.size + 1) 3 _
        exact mv (bA.below hB2) (by omega) (by omega)
      · show Box W4 (w.heap.size + 1 + 1) 3 _
        exact mv (bB.below hB2) (by omega) (by omega)
  · have hB3 := hk3.below (belowCall hB hB2) (by omega) (belowCall hB hB2).size
    exact hk4.below hB3 (Nat.le_refl _) hB3.size
end Go.Proofs.YtepodcocemmejaaGreatDoor
