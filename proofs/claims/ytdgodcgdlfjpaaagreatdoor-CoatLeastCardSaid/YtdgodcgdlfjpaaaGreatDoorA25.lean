/- Contracts of package coat and of the examples of its law, for the laws of layer 40. Part 25 of 39. No condition beside the row. -/
import Derived.Test.YtdgodcgdlfjpaaaGreatDoorA23
set_option linter.unusedVariables false
set_option linter.unusedSimpArgs false
namespace Go.Proofs.YtdgodcgdlfjpaaaGreatDoor
open Go.RowKit Go.Mono
theorem qsame_zero (w : World) : Calls Tryz.prog 21 #[.agg quot0, .agg quot0] w fun e w' => e = .returned (.bool true) ∧ Below w.heap.size w w' := by
  have := qsame_parts false false false false 600 none none none none 0 0 0 0 0 0 0 0 0 0 0 0 w w (Ext.refl _) (Sz.zero _ _) (Sz.zero _ _) (Sz.zero _ _) (Sz.zero _ _)
  refine this.mono ?_
  rintro e W ⟨he, hb⟩
  exact ⟨by simpa using he, hb⟩
set_option maxRecDepth 100000 in
theorem vfails1_ok (n : Int) (w : World) (A : Nat) (ba : Box w A 38 #[.int .i64 n]) :
    Calls Tryz.prog 92 #[.agg quot0, .agg quot0, .int .i64 n, .pointer (some ⟨A, 0, none⟩)] w fun e w' => e = .returned (.bool true) ∧ Below w.heap.size w w' := by
  have hi : (Tryz.prog.info? 37).map (·.size) = some quot0.size := sizeQuot
  have hB : Below w.heap.size w ((w.alloc (.cells quot0 37)).alloc (.cells quot0 37)) := ((Below.refl _ _).alloc (Nat.le_refl _) _).alloc (by simp) _
  have bC : Box ((w.alloc (.cells quot0 37)).alloc (.cells quot0 37)) w.heap.size 37 quot0 := (Box.new _ _ _).alloc _
  have bD : Box ((w.alloc (.cells quot0 37)).alloc (.cells quot0 37)) (w.heap.size + 1) 37 quot0 := by
    have := Box.new (w.alloc (.cells quot0 37)) 37 quot0
    rwa [World.size_alloc] at this
  have ca := (ba.below hB).cell
  have la := (ba.below hB).lt
  generalize hW : (w.alloc (.cells quot0 37)).alloc (.cells quot0 37) = W at hB bC bD ca la
  have hs := fun W => qsame_zero W
  go_enter Tryz.func92, Tryz.ntmps92
  go_wp2_with first | (rw [hW]) | (refine wpList_load_midG (by rfl) 37 (.tmp 4) rfl w.heap.size 0 rfl quot0.toList _ bC.range Tryz.underlying37 rfl hi ?_)
  refine (hs _).mono ?_
  rintro e W1 ⟨rfl, hb1⟩
  have rD := (bD.below hb1).range
  go_wp2_with first | (refine wpList_load_midG (by rfl) 37 (.tmp 5) rfl (w.heap.size + 1) 0 rfl quot0.toList _ rD Tryz.underlying37 rfl hi ?_)
  refine (hs _).mono ?_
  rintro e W2 ⟨rfl, hb2⟩
  go_wp2
  go_ret
  exact ⟨rfl, belowCall (belowCall hB hb1) hb2⟩
end Go.Proofs.YtdgodcgdlfjpaaaGreatDoor
namespace Go.Proofs.YtdgodcgdlfjpaaaGreatDoor
open Go.RowKit Go.Mono
set_option maxRecDepth 100000 in
set_option maxHeartbeats 1000000 in
theorem valike_of (ap0 ap1 ap2 ap3 aq0 aq1 aq2 aq3 ar0 ar1 ar2 ar3 as0 as1 as2 as3 bp0 bp1 bp2 bp3 bq0 bq1 bq2 bq3 br0 br1 br2 br3 bs0 bs1 bs2 bs3 : Value) (w : World)
    (h1 : ∀ W, Below w.heap.size w W → Calls Tryz.prog 21 #[.agg #[ap0, ap1, ap2, ap3], .agg #[bp0, bp1, bp2, bp3]] W fun e w' => e = .returned (.bool true) ∧ Below W.heap.size W w')
    (h2 : ∀ W, Below w.heap.size w W → Calls Tryz.prog 21 #[.agg #[aq0, aq1, aq2, aq3], .agg #[bq0, bq1, bq2, bq3]] W fun e w' => e = .returned (.bool true) ∧ Below W.heap.size W w')
    (h3 : ∀ W, Below w.heap.size w W → Calls Tryz.prog 21 #[.agg #[ar0, ar1, ar2, ar3], .agg #[br0, br1, br2, br3]] W fun e w' => e = .returned (.bool true) ∧ Below W.heap.size W w')
    (h4 : ∀ W, Below w.heap.size w W → Calls Tryz.prog 21 #[.agg #[as0, as1, as2, as3], .agg #[bs0, bs1, bs2, bs3]] W fun e w' => e = .returned (.bool true) ∧ Below W.heap.size W w')
    : Calls Tryz.prog 29 #[.agg #[ap0, ap1, ap2, ap3, aq0, aq1, aq2, aq3, ar0, ar1, ar2, ar3, as0, as1, as2, as3], .agg #[bp0, bp1, bp2, bp3, bq0, bq1, bq2, bq3, br0, br1, br2, br3, bs0, bs1, bs2, bs3]] w fun e w' => e = .returned (.bool true) ∧ Below w.heap.size w w' := by
  have hi : (Tryz.prog.info? 37).map (·.size) = some 4 := sizeQuot
  have hB : Below w.heap.size w ((w.alloc (.cells #[ap0, ap1, ap2, ap3, aq0, aq1, aq2, aq3, ar0, ar1, ar2, ar3, as0, as1, as2, as3] 57)).alloc (.cells #[bp0, bp1, bp2, bp3, bq0, bq1, bq2, bq3, br0, br1, br2, br3, bs0, bs1, bs2, bs3] 57)) := ((Below.refl _ _).alloc (Nat.le_refl _) _).alloc (by simp) _
  have bC : Box ((w.alloc (.cells #[ap0, ap1, ap2, ap3, aq0, aq1, aq2, aq3, ar0, ar1, ar2, ar3, as0, as1, as2, as3] 57)).alloc (.cells #[bp0, bp1, bp2, bp3, bq0, bq1, bq2, bq3, br0, br1, br2, br3, bs0, bs1, bs2, bs3] 57)) w.heap.size 57 #[ap0, ap1, ap2, ap3, aq0, aq1, aq2, aq3, ar0, ar1, ar2, ar3, as0, as1, as2, as3] := (Box.new _ _ _).alloc _
  have bD : Box ((w.alloc (.cells #[ap0, ap1, ap2, ap3, aq0, aq1, aq2, aq3, ar0, ar1, ar2, ar3, as0, as1, as2, as3] 57)).alloc (.cells #[bp0, bp1, bp2, bp3, bq0, bq1, bq2, bq3, br0, br1, br2, br3, bs0, bs1, bs2, bs3] 57)) (w.heap.size + 1) 57 #[bp0, bp1, bp2, bp3, bq0, bq1, bq2, bq3, br0, br1, br2, br3, bs0, bs1, bs2, bs3] := by
    have := Box.new (w.alloc (.cells #[ap0, ap1, ap2, ap3, aq0, aq1, aq2, aq3, ar0, ar1, ar2, ar3, as0, as1, as2, as3] 57)) 57 #[bp0, bp1, bp2, bp3, bq0, bq1, bq2, bq3, br0, br1, br2, br3, bs0, bs1, bs2, bs3]
    rwa [World.size_alloc] at this
  generalize hW : (w.alloc (.cells #[ap0, ap1, ap2, ap3, aq0, aq1, aq2, aq3, ar0, ar1, ar2, ar3, as0, as1, as2, as3] 57)).alloc (.cells #[bp0, bp1, bp2, bp3, bq0, bq1, bq2, bq3, br0, br1, br2, br3, bs0, bs1, bs2, bs3] 57) = W at hB bC bD
  go_enter Tryz.func29, Tryz.ntmps29
  have ra0 := bC.part 0 #[ap0, ap1, ap2, ap3] rfl
  have rb0 := bD.part 0 #[bp0, bp1, bp2, bp3] rfl
  go_wp2_with first | (rw [hW]) | (refine wpList_load_mid rfl 37 (.tmp 6) rfl w.heap.size 0 rfl #[ap0, ap1, ap2, ap3].toList _ ra0 Tryz.underlying37 rfl hi ?_) | (refine wpList_load_mid rfl 37 (.tmp 9) rfl (w.heap.size + 1) 0 rfl #[bp0, bp1, bp2, bp3].toList _ rb0 Tryz.underlying37 rfl hi ?_)
  refine (h1 _ hB).mono ?_
  rintro e W1 ⟨rfl, hb⟩
  replace bC := bC.below hb
  replace bD := bD.below hb
  replace hB := belowCall hB hb
  clear hb ra0 rb0
  have ra1 := bC.part 4 #[aq0, aq1, aq2, aq3] rfl
  have rb1 := bD.part 4 #[bq0, bq1, bq2, bq3] rfl
  go_wp2_with first | (rw [hW]) | (refine wpList_load_midG (by rfl) 37 (.tmp 14) rfl w.heap.size 4 rfl #[aq0, aq1, aq2, aq3].toList _ ra1 Tryz.underlying37 rfl hi ?_) | (refine wpList_load_midG (by rfl) 37 (.tmp 17) rfl (w.heap.size + 1) 4 rfl #[bq0, bq1, bq2, bq3].toList _ rb1 Tryz.underlying37 rfl hi ?_)
  refine (h2 _ hB).mono ?_
  rintro e W2 ⟨rfl, hb⟩
  replace bC := bC.below hb
  replace bD := bD.below hb
  replace hB := belowCall hB hb
  clear hb ra1 rb1
  have ra2 := bC.part 8 #[ar0, ar1, ar2, ar3] rfl
  have rb2 := bD.part 8 #[br0, br1, br2, br3] rfl
  go_wp2_with first | (rw [hW]) | (refine wpList_load_midG (by rfl) 37 (.tmp 23) rfl w.heap.size 8 rfl #[ar0, ar1, ar2, ar3].toList _ ra2 Tryz.underlying37 rfl hi ?_) | (refine wpList_load_midG (by rfl) 37 (.tmp 26) rfl (w.heap.size + 1) 8 rfl #[br0, br1, br2, br3].toList _ rb2 Tryz.underlying37 rfl hi ?_)
  refine (h3 _ hB).mono ?_
  rintro e W3 ⟨rfl, hb⟩
  replace bC := bC.below hb
  replace bD := bD.below hb
  replace hB := belowCall hB hb
  clear hb ra2 rb2
  have ra3 := bC.part 12 #[as0, as1, as2, as3] rfl
  have rb3 := bD.part 12 #[bs0, bs1, bs2, bs3] rfl
  go_wp2_with first | (rw [hW]) | (refine wpList_load_midG (by rfl) 37 (.tmp 32) rfl w.heap.size 12 rfl #[as0, as1, as2, as3].toList _ ra3 Tryz.underlying37 rfl hi ?_) | (refine wpList_load_midG (by rfl) 37 (.tmp 35) rfl (w.heap.size + 1) 12 rfl #[bs0, bs1, bs2, bs3].toList _ rb3 Tryz.underlying37 rfl hi ?_)
  refine (h4 _ hB).mono ?_
  rintro e W4 ⟨rfl, hb⟩
  replace bC := bC.below hb
  replace bD := bD.below hb
  replace hB := belowCall hB hb
  clear hb ra3 rb3
  go_wp2
  go_ret
  exact ⟨rfl, hB⟩
end Go.Proofs.YtdgodcgdlfjpaaaGreatDoor
