/- CoatKnown returns true. Part 7 of 8. No condition beside the row. -/
import Derived.Test.YtdgodcgdlfjpaaaGreatDoorK04
import Derived.Test.YtdgodcgdlfjpaaaGreatDoorK06
set_option linter.unusedVariables false
set_option linter.unusedSimpArgs false
namespace Go.Proofs.YtdgodcgdlfjpaaaGreatDoor
open Go.RowKit Go.Mono
/-- what stands while the law runs -/
structure NInv (BG : Nat) (X : World) : Prop where
  G : Box X BG 24 #[.int .i64 10000000, .int .i64 1000, .int .i64 1000]
  B : Box X (BG + 1) 24 #[.int .i64 10000000, .int .i64 1, .int .i64 0]
theorem NInv.below {BG : Nat} {X Y : World} (h : NInv BG X) (hB : Below X.heap.size X Y) : NInv BG Y := ⟨h.G.below hB, h.B.below hB⟩
def bad21 : Array Value := #[.int .i64 10000000, .int .i64 1, .int .i64 0, .int .i64 9999999, .int .i64 0, .int .i64 1, .int .i64 40000001, .int .i64 0, .int .i64 1, .int .i64 10000000, .int .i64 (-1), .int .i64 1, .int .i64 10000000, .int .i64 1001, .int .i64 1, .int .i64 10000000, .int .i64 0, .int .i64 1001, .int .i64 0, .int .i64 0, .int .i64 0]
theorem bad_index (i : Nat) (hi : i < 7) (w : World) : (Instr.index 63 (.agg bad21) (.int .i64 (i : Int))).run Tryz.prog w = .ok (.agg (badF i).vals) w := by
  rcases (by omega : i = 0 ∨ i = 1 ∨ i = 2 ∨ i = 3 ∨ i = 4 ∨ i = 5 ∨ i = 6) with rfl | rfl | rfl | rfl | rfl | rfl | rfl <;> kernel_rfl
def zeros27 : Array Value := #[.int .i64 0, .int .i64 0, .int .i64 0, .int .i64 0, .int .i64 0, .int .i64 0, .int .i64 0, .int .i64 0, .int .i64 0, .int .i64 0, .int .i64 0, .int .i64 0, .int .i64 0, .int .i64 0, .int .i64 0, .int .i64 0, .int .i64 0, .int .i64 0, .int .i64 0, .int .i64 0, .int .i64 0, .int .i64 0, .int .i64 0, .int .i64 0, .int .i64 0, .int .i64 0, .int .i64 0]
theorem make9 (w : World) : (Instr.makeSlice 27 (.int .i64 9) (.int .i64 9)).run Tryz.prog w = .ok (.slice (some ⟨w.heap.size, 0, none⟩) 9 9) (w.alloc (.cells zeros27 24)) := by kernel_rfl
theorem slice8 (w : World) : (Instr.buildSlice 27 8 #[(0, .agg #[.int .i64 10000000, .int .i64 1000, .int .i64 1000]), (1, .agg #[.int .i64 10000000, .int .i64 1000, .int .i64 1000]), (2, .agg #[.int .i64 10000000, .int .i64 1000, .int .i64 1000]), (3, .agg #[.int .i64 10000000, .int .i64 1000, .int .i64 1000]), (4, .agg #[.int .i64 10000000, .int .i64 1000, .int .i64 1000]), (5, .agg #[.int .i64 10000000, .int .i64 1000, .int .i64 1000]), (6, .agg #[.int .i64 10000000, .int .i64 1000, .int .i64 1000]), (7, .agg #[.int .i64 10000000, .int .i64 1000, .int .i64 1000])]).run Tryz.prog w = .ok (.slice (some ⟨w.heap.size, 0, none⟩) 8 8) (w.alloc (.cells #[.int .i64 10000000, .int .i64 1000, .int .i64 1000, .int .i64 10000000, .int .i64 1000, .int .i64 1000, .int .i64 10000000, .int .i64 1000, .int .i64 1000, .int .i64 10000000, .int .i64 1000, .int .i64 1000, .int .i64 10000000, .int .i64 1000, .int .i64 1000, .int .i64 10000000, .int .i64 1000, .int .i64 1000, .int .i64 10000000, .int .i64 1000, .int .i64 1000, .int .i64 10000000, .int .i64 1000, .int .i64 1000] 24)) := by kernel_rfl
theorem films8 : ∀ i j : Nat, i < 8 → j < 3 → (#[.int .i64 10000000, .int .i64 1000, .int .i64 1000, .int .i64 10000000, .int .i64 1000, .int .i64 1000, .int .i64 10000000, .int .i64 1000, .int .i64 1000, .int .i64 10000000, .int .i64 1000, .int .i64 1000, .int .i64 10000000, .int .i64 1000, .int .i64 1000, .int .i64 10000000, .int .i64 1000, .int .i64 1000, .int .i64 10000000, .int .i64 1000, .int .i64 1000, .int .i64 10000000, .int .i64 1000, .int .i64 1000] : Array Value)[i * 3 + j]? = some (((fun _ : Nat => fG) i).vals.getD j undef) := by
  intro i j hi hj
  rcases (by omega : i = 0 ∨ i = 1 ∨ i = 2 ∨ i = 3 ∨ i = 4 ∨ i = 5 ∨ i = 6 ∨ i = 7) with rfl | rfl | rfl | rfl | rfl | rfl | rfl | rfl <;> rcases (by omega : j = 0 ∨ j = 1 ∨ j = 2) with rfl | rfl | rfl <;> kernel_rfl
theorem valike_lit (w : World) : Calls Tryz.prog 29 #[.agg quad0, .agg #[.bool false, .slice none 0 0, .bool false, .slice none 0 0, .bool false, .slice none 0 0, .bool false, .slice none 0 0, .bool false, .slice none 0 0, .bool false, .slice none 0 0, .bool false, .slice none 0 0, .bool false, .slice none 0 0]] w fun e w' => e = .returned (.bool true) ∧ Below w.heap.size w w' := valike_zero w
section
variable {P : Program} {ops : Array Oper} {rest : List Oper} {op : Oper} {a : Act} {w : World} {Q : Exit → Act → World → Prop}
/-- a slice is made, its world as a letter -/
theorem wpList_made (T : TypeId) (x y : Operand) (hg : op.guard = none) (ho : op.op = .makeSlice T x y) {u v : Value} (hx : a.eval x = u) (hy : a.eval y = v) {E : TypeId} {zs : Array Value} {n c : Nat}
    (hrun : ∀ w, (Instr.makeSlice T u v).run P w = .ok (.slice (some ⟨w.heap.size, 0, none⟩) n c) (w.alloc (.cells zs E)))
    (h : ∀ V B, w.heap.size ≤ B → Below w.heap.size w V → Box V B E zs → wpList P ops Q rest (a.put op.dst (.slice (some ⟨B, 0, none⟩) n c)) V) : wpList P ops Q (op :: rest) a w :=
  wpList_step fun K hK => by
    have hw : Region.wanted op (yielded ops a.tmps) = true := by simp [Region.wanted, hg]
    simp only [hw, if_true]
    unfold Oper.wp execOp
    simp only [ho, hx, hy, Sem.run_bind, hrun, Result.andThen_ok, Sem.run_pure]
    exact hK _ _ (h _ _ (Nat.le_refl _) ((Below.refl _ _).alloc (Nat.le_refl _) _) (Box.new _ _ _))
/-- a slice of given elements is laid, its world as a letter -/
theorem wpList_sliced (T : TypeId) (m : Nat) (parts : Array (Nat × Operand)) (hg : op.guard = none) (ho : op.op = .buildSlice T m parts) {ps : Array (Nat × Value)} (hp : parts.map (fun (i, x) => (i, a.eval x)) = ps) {E : TypeId} {zs : Array Value} {n c : Nat}
    (hrun : ∀ w, (Instr.buildSlice T m ps).run P w = .ok (.slice (some ⟨w.heap.size, 0, none⟩) n c) (w.alloc (.cells zs E)))
    (h : ∀ V B, w.heap.size ≤ B → Below w.heap.size w V → Box V B E zs → wpList P ops Q rest (a.put op.dst (.slice (some ⟨B, 0, none⟩) n c)) V) : wpList P ops Q (op :: rest) a w :=
  wpList_step fun K hK => by
    have hw : Region.wanted op (yielded ops a.tmps) = true := by simp [Region.wanted, hg]
    simp only [hw, if_true]
    unfold Oper.wp execOp
    simp only [ho, hp, Sem.run_bind, hrun, Result.andThen_ok, Sem.run_pure]
    exact hK _ _ (h _ _ (Nat.le_refl _) ((Below.refl _ _).alloc (Nat.le_refl _) _) (Box.new _ _ _))
end
set_option maxRecDepth 100000 in
set_option maxHeartbeats 60000000 in
theorem vknown_of (hwk : Hid (∀ w : World, Calls Tryz.prog 12 #[] w fun e w' => e = .returned (.bool true) ∧ Below w.heap.size w w')) (w : World) : Calls Tryz.prog 7 #[] w fun e w' => e = .returned (.bool true) ∧ Below w.heap.size w w' := by
  have hif : (Tryz.prog.info? 24).map (·.size) = some 3 := by kernel_rfl
  have hiq : (Tryz.prog.info? 57).map (·.size) = some quad0.size := sizeQuad
  have hoq : quad0.all (·.oneCell') = true := by decide +kernel
  go_enter Tryz.func7, Tryz.ntmps7
  go_wp2_with fail
  refine (hwk.out w).mono ?_
  rintro e W0 ⟨rfl, hb0⟩
  go_wp2_with first | (refine boxes2l (T0 := 24) fun W1 hB1 hs1 bG0 bB0 => ?_; refine wpList_store_box rfl 24 (.tmp 1) _ rfl W0.heap.size 0 24 _ #[.int .i64 10000000, .int .i64 1000, .int .i64 1000] #[.int .i64 10000000, .int .i64 1000, .int .i64 1000] rfl rfl bG0 hif (Nat.le_of_ble_eq_true rfl) (by simp [Value.oneCell']) (whole_new rfl) ?_; intro W2 hk2 bG2; have bB2 := hk2.box bB0 bB0.lt (by omega)) | (refine wpList_store_box rfl 24 (.tmp 2) _ rfl (W0.heap.size + 1) 0 24 _ #[.int .i64 10000000, .int .i64 1, .int .i64 0] #[.int .i64 10000000, .int .i64 1, .int .i64 0] rfl rfl bB2 hif (Nat.le_of_ble_eq_true rfl) (by simp [Value.oneCell']) (whole_new rfl) ?_; intro W3 hk3 bB3; have bG3 := hk3.box bG2 bG2.lt (by omega)) | (refine wpList_made 27 _ _ rfl rfl rfl rfl (fun w => make9 w) ?_; intro W4 B9 hle4 hb4 b9; have bG4 := bG3.below hb4; have bB4 := bB3.below hb4) | (refine wpList_load_box rfl 24 (.tmp 2) rfl (W0.heap.size + 1) rfl 24 #[.int .i64 10000000, .int .i64 1, .int .i64 0] bB4 _ Tryz.underlying24 rfl hif ?_) | (refine wpList_build2 rfl 63 _ rfl bad21 (by as_aux_lemma => kernel_rfl) ?_)
  have hw2 := hk2.below (belowCall hb0 hB1) (by have := hb0.size; omega) (belowCall hb0 hB1).size
  have hw3 := hk3.below hw2 (by have := hb0.size; omega) hw2.size
  have hw4 := belowCall hw3 hb4
  have I4 : NInv W0.heap.size W4 := ⟨bG4, bB4⟩
  clear hw2 hw3 bG4 bB4 b9 hb4 hle4 bG3 bB3 bG2 bB2 hk3 hk2 bG0 bB0 hs1 hB1 hb0
  generalize W0.heap.size = BG at *
  generalize hA7 : bad21 = A7
  go_loopw [49] (fun x wr => ∃ i : Nat, i ≤ 7 ∧ x = .int .i64 (i : Int) ∧ Below W4.heap.size W4 wr) (fun x _ => (7 - intOf x).toNat)
  case atStart => exact ⟨0, by omega, rfl, Below.refl _ _⟩
  case round =>
    obtain ⟨i, hi, rfl, hBr⟩ := hrel
    by_cases hi7 : i < 7
    · have hbad := badF_bad i
      have hix := bad_index i hi7
      rw [hA7] at hix
      have hi7' : (i : Int) < 7 := by omega
      have Ir := I4.below hBr
      generalize badF i = f at hbad hix
      obtain ⟨v0, v1, v2⟩ := f
      have hfl : (Flm.mk v0 v1 v2).vals = #[.int .i64 v0, .int .i64 v1, .int .i64 v2] := rfl
      rw [hfl] at hix
      clear hi hfl I4 hw4
      go_wp2_with first | (refine wpList_new rfl 24 rfl _ alloc_film ?_; intro V1 B5 hle1 hb1 b5) | (refine wpList_store_box rfl 24 _ _ rfl B5 0 24 _ #[.int .i64 v0, .int .i64 v1, .int .i64 v2] #[.int .i64 v0, .int .i64 v1, .int .i64 v2] rfl rfl b5 hif (Nat.le_of_ble_eq_true rfl) (by simp [Value.oneCell']) (whole_new rfl) ?_; intro V2 hk2 b52) | (refine wpList_load_box rfl 24 (.tmp 5) rfl B5 rfl 24 #[.int .i64 v0, .int .i64 v1, .int .i64 v2] b52 _ Tryz.underlying24 rfl hif ?_)
      have hv2 := hk2.below hb1 hle1 hb1.size
      have hr2 := belowCall hBr hv2
      refine (film_no ⟨v0, v1, v2⟩ hbad V2).mono ?_
      rintro e V3 ⟨rfl, hb3⟩
      have b53 := b52.below hb3
      have hr3 := belowCall hr2 hb3
      have I3 := (Ir.below hv2).below hb3
      clear hk2 b5 hb1 hle1 b52 hb3 hr2 hv2 Ir
      have alloc_quadZ := alloc_quad
      have hZs : quad0.size = 16 := rfl
      have hal := fun W => valike_lit W
      obtain ⟨Z, hZq⟩ : ∃ Z, quad0 = Z := ⟨_, rfl⟩
      rw [hZq] at alloc_quadZ hal hiq hoq hZs ⊢
      go_wp2_with first | (refine wpList_new rfl 57 rfl _ alloc_quadZ ?_; intro V4 B6 hle4 hb4 b6) | (refine wpList_store_box rfl 57 (.tmp 6) _ rfl B6 0 57 _ Z Z rfl rfl b6 hiq (Nat.le_of_eq (Nat.zero_add _)) hoq (whole_new rfl) ?_; intro V5 hk5 b65; have hv5 := hk5.below hb4 hle4 hb4.size; have IG5 := (I3.below hv5).G; have b55 := b53.below hv5) | (refine wpList_load_box rfl 24 (.tmp 1) rfl BG rfl 24 #[.int .i64 10000000, .int .i64 1000, .int .i64 1000] IG5 _ Tryz.underlying24 rfl hif ?_) | (refine wpList_load_box rfl 24 (.tmp 5) rfl B5 rfl 24 #[.int .i64 v0, .int .i64 v1, .int .i64 v2] b55 _ Tryz.underlying24 rfl hif ?_)
      have hst := fun W c h => stack_no (two fG ⟨v0, v1, v2⟩) 2 1 (by decide) (by decide) (fun i hi => by obtain rfl : i = 0 := (by omega); exact fG_ok) hbad (some ⟨V5.heap.size, 0, none⟩) c W h
      rw [hZq] at hst
      refine boxes1c fun W6 hB6 hs6 bl => ?_
      refine (hst W6 2 (films_box bl 2 (by decide) (two fG ⟨v0, v1, v2⟩) fun i j hi hj => by
        rcases (by omega : i = 0 ∨ i = 1) with rfl | rfl <;> rcases (by omega : j = 0 ∨ j = 1 ∨ j = 2) with rfl | rfl | rfl <;> rfl)).mono ?_
      rintro e W7 ⟨rfl, hb7⟩
      have hv7 := belowCall hB6 hb7
      have b67 := b65.below hv7
      have hr7 := belowCall (belowCall hr3 hv5) hv7
      clear hst b65 bl hB6 hs6 hb7 IG5 b55 hv5 b6 hb4 hle4 hk5 b53 hr3 I3 hbad hBr
      go_wp2_with first | (refine wpList_new rfl 57 rfl _ alloc_quadZ ?_; intro V8 B8 hle8 hb8 b8) | (refine wpList_store_box rfl 57 (.tmp 8) _ rfl B8 0 57 _ Z Z rfl rfl b8 hiq (Nat.le_of_eq (Nat.zero_add _)) hoq (whole_new rfl) ?_; intro V9 hk9 b89; have hv9 := hk9.below hb8 hle8 hb8.size; have b69 := (b67.below hv9).range) | (refine wpList_load_midG (by rfl) 57 (.tmp 6) rfl B6 0 rfl Z.toList _ b69 Tryz.underlying57 rfl (by simpa using hiq) ?_)
      refine (hal _).mono ?_
      rintro e W10 ⟨rfl, hb10⟩
      have hr10 := belowCall (belowCall hr7 hv9) hb10
      clear hr7 hv9 hb10 hk9 b8 hb8 hle8 b69 b67 b89 hal
      go_wp2
      go_roundw
      case rel => exact ⟨i + 1, by omega, by simp, hr10⟩
      case measure => simp [intOf]; omega
    · obtain rfl : i = 7 := by omega
      have hr := belowCall hw4 hBr
      have I5 := I4.below hBr
      clear hi7 hi hBr hw4 I4
      have alloc_quadZ := alloc_quad
      have hsl := fun W => stack_long 9 (by decide) (some ⟨B9, 0, none⟩) 9 W
      obtain ⟨Z, hZq⟩ : ∃ Z, quad0 = Z := ⟨_, rfl⟩
      rw [hZq] at alloc_quadZ hiq hoq hsl
      have hZs : Z.size = 16 := by rw [← hZq]; rfl
      clear hZq
      go_wp2_with fail
      refine (hsl wr).mono ?_
      rintro e Wa ⟨rfl, hba⟩
      have Ia := I5.below hba
      have ra := belowCall hr hba
      clear I5 hr hba hsl
      go_wp2_with first | (refine wpList_new rfl 57 rfl _ alloc_quadZ ?_; intro V1 B10 hle1 hb1 b1) | (refine wpList_store_box rfl 57 (.tmp 10) _ rfl B10 0 57 _ Z Z rfl rfl b1 hiq (Nat.le_of_eq (Nat.zero_add _)) hoq (whole_new rfl) ?_; intro V2 hk2 b2; have hv2 := hk2.below hb1 hle1 hb1.size; have IG2 := (Ia.below hv2).G) | (refine wpList_load_box rfl 24 (.tmp 1) rfl BG rfl 24 #[.int .i64 10000000, .int .i64 1000, .int .i64 1000] IG2 _ Tryz.underlying24 rfl hif ?_)
      refine (film_ex fG fG_ok V2).mono ?_
      rintro e Wb ⟨C1, rfl, M1, hbb⟩
      have Ib := (Ia.below hv2).below hbb
      have rb := belowCall (belowCall ra hv2) hbb
      have s1 := M1.size
      have o1 := M1.ones
      have i1 : (Tryz.prog.info? 57).map (·.size) = some C1.size := by rw [s1]; exact sizeQuad
      clear IG2 hv2 b2 hk2 b1 hb1 hle1 Ia ra hbb M1
      go_wp2_with first | (refine wpList_new rfl 57 rfl _ alloc_quadZ ?_; intro V3 B12 hle3 hb3 b3) | (refine wpList_store_box rfl 57 (.tmp 12) _ rfl B12 0 57 _ C1 C1 rfl rfl b3 i1 (Nat.le_of_eq (by rw [s1, hZs])) o1 (whole_new (by rw [s1, hZs])) ?_; intro V4 hk4 b4; have hv4 := hk4.below hb3 hle3 hb3.size; have IG4 := (Ib.below hv4).G; have cg := IG4.cell) | (refine wpList_sliced 27 8 _ rfl rfl (by kernel_rfl) slice8 ?_; intro V5 B5 hle5 hB5 b5)
      refine (stack_ex (fun _ => fG) 8 (by decide) (fun _ _ => fG_ok) _ 8 V5 (films_box b5 8 (by decide) (fun _ => fG) films8)).mono ?_
      rintro e Wc ⟨C2, rfl, M2, hbc⟩
      have Ic := (Ib.below hv4).below (belowCall hB5 hbc)
      have rc := belowCall (belowCall rb hv4) (belowCall hB5 hbc)
      have s2 := M2.size
      have o2 := M2.ones
      have i2 : (Tryz.prog.info? 57).map (·.size) = some C2.size := by rw [s2]; exact sizeQuad
      clear cg IG4 hv4 b4 hk4 b3 hb3 hle3 Ib rb hB5 hle5 b5 hbc M2 s1 o1 i1
      go_wp2_with first | (refine wpList_new rfl 57 rfl _ alloc_quadZ ?_; intro V6 B14 hle6 hb6 b6) | (refine wpList_store_box rfl 57 (.tmp 14) _ rfl B14 0 57 _ C2 C2 rfl rfl b6 i2 (Nat.le_of_eq (by rw [s2, hZs])) o2 (whole_new (by rw [s2, hZs])) ?_; intro V7 hk7 b7; have hv7 := hk7.below hb6 hle6 hb6.size)
      have I16 := Ic.below hv7
      have r16 := belowCall rc hv7
      clear Ic rc hv7 b7 hk7 b6 hb6 hle6 s2 o2 i2
      generalize ha : Act.mk _ [] = a0
      refine wp_mono (Q := fun e a' V => match e with | .normal => ∃ (v100 v101 v102 v103 v104 v105 v106 v107 v108 v109 v110 v111 v112 v113 v114 v115 v116 v117 v118 v119 v120 v121 v122 v123 v124 v125 v126 v127 v128 v129 v130 v131 v132 v133 v134 v135 v136 v137 v138 v139 v140 v141 v142 v143 v144 v145 v146 : Value), a' = ((((((((((((((((((((((((((((((((((((((((((((((((a0.put (some 100) v100).put (some 101) v101).put (some 102) v102).put (some 103) v103).put (some 104) v104).put (some 105) v105).put (some 106) v106).put (some 107) v107).put (some 108) v108).put (some 109) v109).put (some 110) v110).put (some 111) v111).put (some 112) v112).put (some 113) v113).put (some 114) v114).put (some 115) v115).put (some 116) v116).put (some 117) v117).put (some 118) v118).put (some 119) v119).put (some 120) v120).put (some 121) v121).put (some 122) v122).put (some 123) v123).put (some 124) v124).put (some 125) v125).put (some 126) v126).put (some 127) v127).put (some 128) v128).put (some 129) v129).put (some 130) v130).put (some 131) v131).put (some 132) v132).put (some 133) v133).put (some 134) v134).put (some 135) v135).put (some 136) v136).put (some 137) v137).put (some 138) v138).put (some 139) v139).put (some 140) v140).put (some 141) v141).put (some 142) v142).put (some 143) v143).put (some 144) v144).put (some 145) v145).put (some 146) v146).put (some 16) (.bool true)) ∧ Below V7.heap.size V7 V | _ => False) ?_ ?_
      · subst ha
        refine wp_region_held_drew (S := fun w' => Below V7.heap.size V7 w') (by as_aux_lemma => kernel_rfl) ((Below.refl _ _).drew) (fun hHeld => ?_)
        generalize V7.drew = X0 at *
        refine tkf 0 (some 100) ?_
        refine tkf 1 (some 101) ?_
        refine tkf 2 (some 102) ?_
        refine tkf 3 (some 103) ?_
        refine tkf 4 (some 104) ?_
        refine tkf 5 (some 105) ?_
        refine tkf 6 (some 106) ?_
        refine tkf 7 (some 107) ?_
        refine tkf 8 (some 108) ?_
        refine tkf 9 (some 109) ?_
        refine tkf 10 (some 110) ?_
        refine tkf 12 (some 112) ?_
        refine Mono.stc 11 (some 111) (vfails_ok (2) _) (fun e X1 hR => ?_)
        obtain ⟨A11, rfl, ba11, hbX1⟩ := hR
        refine ⟨(belowCall hHeld hbX1), fun hHeld => Mono.pt ?_⟩
        refine Mono.stc 13 (some 113) (refl_arg 9999999 10000000 (by decide) (some ⟨B9, 0, none⟩) 9 9 _) (fun e X2 hR => ?_)
        obtain ⟨rfl, hbX2⟩ := hR
        refine ⟨(belowCall hHeld hbX2), fun hHeld => Mono.pt ?_⟩
        refine tkf 14 (some 114) ?_
        refine tkf 15 (some 115) ?_
        refine tkf 16 (some 116) ?_
        refine Mono.stc 17 (some 117) (vfails1_ok (2) X2 A11 (ba11.below hbX2)) (fun e X3 hR => ?_)
        obtain ⟨rfl, hbX3⟩ := hR
        refine ⟨(belowCall hHeld hbX3), fun hHeld => Mono.pt ?_⟩
        refine tkf 18 (some 118) ?_
        refine tkf 19 (some 119) ?_
        clear ba11 hbX2 hbX3
        refine tkf 21 (some 121) ?_
        refine Mono.stc 20 (some 120) (vfails_ok (2) _) (fun e X4 hR => ?_)
        obtain ⟨A20, rfl, ba20, hbX4⟩ := hR
        refine ⟨(belowCall hHeld hbX4), fun hHeld => Mono.pt ?_⟩
        refine Mono.stc 22 (some 122) (refl_arg 10000000 40000001 (by decide) (some ⟨B9, 0, none⟩) 9 9 _) (fun e X5 hR => ?_)
        obtain ⟨rfl, hbX5⟩ := hR
        refine ⟨(belowCall hHeld hbX5), fun hHeld => Mono.pt ?_⟩
        refine tkf 23 (some 123) ?_
        refine tkf 24 (some 124) ?_
        refine tkf 25 (some 125) ?_
        refine Mono.stc 26 (some 126) (vfails1_ok (2) X5 A20 (ba20.below hbX5)) (fun e X6 hR => ?_)
        obtain ⟨rfl, hbX6⟩ := hR
        refine ⟨(belowCall hHeld hbX6), fun hHeld => Mono.pt ?_⟩
        refine tkf 27 (some 127) ?_
        refine tkf 28 (some 128) ?_
        clear ba20 hbX5 hbX6
        refine tkf 30 (some 130) ?_
        refine Mono.stc 29 (some 129) (vfails_ok (3) _) (fun e X7 hR => ?_)
        obtain ⟨A29, rfl, ba29, hbX7⟩ := hR
        refine ⟨(belowCall hHeld hbX7), fun hHeld => Mono.pt ?_⟩
        refine Mono.stc 31 (some 131) (refl_long 10000000 40000000 (by decide) (by decide) 9 (by decide) (some ⟨B9, 0, none⟩) 9 _) (fun e X8 hR => ?_)
        obtain ⟨rfl, hbX8⟩ := hR
        refine ⟨(belowCall hHeld hbX8), fun hHeld => Mono.pt ?_⟩
        refine tkf 32 (some 132) ?_
        refine tkf 33 (some 133) ?_
        refine tkf 34 (some 134) ?_
        refine Mono.stc 35 (some 135) (vfails1_ok (3) X8 A29 (ba29.below hbX8)) (fun e X9 hR => ?_)
        obtain ⟨rfl, hbX9⟩ := hR
        refine ⟨(belowCall hHeld hbX9), fun hHeld => Mono.pt ?_⟩
        refine tkf 36 (some 136) ?_
        refine tkf 37 (some 137) ?_
        clear ba29 hbX8 hbX9
        refine tlf 39 (some 139) rfl (.agg #[.int .i64 10000000, .int .i64 1, .int .i64 0]) (exec_load 24 _ rfl (BG + 1) 0 (by as_aux_lemma => kernel_rfl) #[.int .i64 10000000, .int .i64 1, .int .i64 0] (fun w hS => (I16.below hS).B.range) _ Tryz.underlying24 rfl hif) ?_
        refine Mono.fork2 38 40 ?_ ?_
        · intro K hK
          refine Mono.armc (some 138) hK (vfails_ok (400) _) (fun e X10 hR => ?_)
          clear hK K
          obtain ⟨A38, rfl, ba38, hbX10⟩ := hR
          refine ⟨(belowCall hHeld hbX10), fun hHeld => Mono.pt ?_⟩
          refine Mono.sta 40 (some 140) (.slice (some ⟨X10.heap.size, 0, none⟩) 1 1) (X10.alloc (.cells #[.int .i64 10000000, .int .i64 1, .int .i64 0] 24)) (belowAlloc hHeld _) (fun hHeld => Mono.pt ?_)
          have bX11 : Box (X10.alloc (.cells #[.int .i64 10000000, .int .i64 1, .int .i64 0] 24)) X10.heap.size 24 #[.int .i64 10000000, .int .i64 1, .int .i64 0] := Box.new _ _ _
          have hX11 : Below X10.heap.size X10 (X10.alloc (.cells #[.int .i64 10000000, .int .i64 1, .int .i64 0] 24)) := belowAlloc (Below.refl _ _) _
          generalize X10.alloc (.cells #[.int .i64 10000000, .int .i64 1, .int .i64 0] 24) = X11 at *
          refine Mono.stc 41 (some 141) (refl_no 10000000 40000000 (by decide) (by decide) (fun _ => fB) 1 0 (by decide) (by decide) (fun i hi => by omega) fB_bad _ 1 _ (films_box bX11 1 (by decide) (fun _ => fB) fun i j hi hj => by obtain rfl : i = 0 := (by omega); rcases (by omega : j = 0 ∨ j = 1 ∨ j = 2) with rfl | rfl | rfl <;> rfl)) (fun e X12 hR => ?_)
          obtain ⟨rfl, hbX12⟩ := hR
          refine ⟨(belowCall hHeld hbX12), fun hHeld => Mono.pt ?_⟩
          refine tkf 42 (some 142) ?_
          refine tkf 43 (some 143) ?_
          refine tkf 44 (some 144) ?_
          refine Mono.stc 45 (some 145) (vfails1_ok (400) X12 A38 ((ba38.below hX11).below hbX12)) (fun e X13 hR => ?_)
          obtain ⟨rfl, hbX13⟩ := hR
          refine ⟨(belowCall hHeld hbX13), fun hHeld => Mono.pt ?_⟩
          refine tkf 46 (some 146) ?_
          refine tkf 47 (some 16) ?_
          refine wpAnyH_done (by as_aux_lemma => kernel_rfl) ?_ _
          exact ⟨_, _, _, _, _, _, _, _, _, _, _, _, _, _, _, _, _, _, _, _, _, _, _, _, _, _, _, _, _, _, _, _, _, _, _, _, _, _, _, _, _, _, _, _, _, _, _, by simp only [Act.put, List.setIfInBounds_toArray, List.set_cons_zero, List.set_cons_succ]; rfl, hHeld⟩
        · intro K hK
          refine Mono.arma (some 140) hK (.slice (some ⟨X9.heap.size, 0, none⟩) 1 1) (X9.alloc (.cells #[.int .i64 10000000, .int .i64 1, .int .i64 0] 24)) (belowAlloc hHeld _) (fun hHeld => Mono.pt ?_)
          clear hK K
          have bX14 : Box (X9.alloc (.cells #[.int .i64 10000000, .int .i64 1, .int .i64 0] 24)) X9.heap.size 24 #[.int .i64 10000000, .int .i64 1, .int .i64 0] := Box.new _ _ _
          have hX14 : Below X9.heap.size X9 (X9.alloc (.cells #[.int .i64 10000000, .int .i64 1, .int .i64 0] 24)) := belowAlloc (Below.refl _ _) _
          generalize X9.alloc (.cells #[.int .i64 10000000, .int .i64 1, .int .i64 0] 24) = X14 at *
          refine Mono.stc 38 (some 138) (vfails_ok (400) _) (fun e X15 hR => ?_)
          obtain ⟨A38, rfl, ba38, hbX15⟩ := hR
          refine ⟨(belowCall hHeld hbX15), fun hHeld => Mono.pt ?_⟩
          refine Mono.stc 41 (some 141) (refl_no 10000000 40000000 (by decide) (by decide) (fun _ => fB) 1 0 (by decide) (by decide) (fun i hi => by omega) fB_bad _ 1 _ (films_box (bX14.below hbX15) 1 (by decide) (fun _ => fB) fun i j hi hj => by obtain rfl : i = 0 := (by omega); rcases (by omega : j = 0 ∨ j = 1 ∨ j = 2) with rfl | rfl | rfl <;> rfl)) (fun e X16 hR => ?_)
          obtain ⟨rfl, hbX16⟩ := hR
          refine ⟨(belowCall hHeld hbX16), fun hHeld => Mono.pt ?_⟩
          refine tkf 42 (some 142) ?_
          refine tkf 43 (some 143) ?_
          refine tkf 44 (some 144) ?_
          refine Mono.stc 45 (some 145) (vfails1_ok (400) X16 A38 (ba38.below hbX16)) (fun e X17 hR => ?_)
          obtain ⟨rfl, hbX17⟩ := hR
          refine ⟨(belowCall hHeld hbX17), fun hHeld => Mono.pt ?_⟩
          refine tkf 46 (some 146) ?_
          refine tkf 47 (some 16) ?_
          refine wpAnyH_done (by as_aux_lemma => kernel_rfl) ?_ _
          exact ⟨_, _, _, _, _, _, _, _, _, _, _, _, _, _, _, _, _, _, _, _, _, _, _, _, _, _, _, _, _, _, _, _, _, _, _, _, _, _, _, _, _, _, _, _, _, _, _, by simp only [Act.put, List.setIfInBounds_toArray, List.set_cons_zero, List.set_cons_succ]; rfl, hHeld⟩
      · rintro e a' V8 hmid
        cases e with
        | normal => ?_
        | _ => exact hmid.elim
        obtain ⟨v100, v101, v102, v103, v104, v105, v106, v107, v108, v109, v110, v111, v112, v113, v114, v115, v116, v117, v118, v119, v120, v121, v122, v123, v124, v125, v126, v127, v128, v129, v130, v131, v132, v133, v134, v135, v136, v137, v138, v139, v140, v141, v142, v143, v144, v145, v146, rfl, hb8⟩ := hmid
        subst ha
        simp only [Act.put, List.setIfInBounds_toArray, List.set_cons_zero, List.set_cons_succ]
        have I8 := I16.below hb8
        have r8 := belowCall r16 hb8
        clear I16 r16 hb8
        have alloc_quot1 := alloc_quot
        obtain ⟨Zq, hZq⟩ : ∃ Z, quot0 = Z := ⟨_, rfl⟩
        have h4 : quot0.size = 4 := rfl
        have ho4 : quot0.all (·.oneCell') = true := by decide +kernel
        have hi4 : (Tryz.prog.info? 37).map (·.size) = some quot0.size := sizeQuot
        have e1 := fun W => best_e1 10000000 4 (some ⟨B9, 0, none⟩) 9 9 W
        have e2 := fun W => best_e2 (some ⟨B9, 0, none⟩) 9 9 W
        have e3 := fun W => best_e3 (some ⟨B9, 0, none⟩) 9 9 W
        have e4 := fun W => best_e4 3 (by decide) (some ⟨B9, 0, none⟩) 7 9 (by decide) W
        have e5 := fun W b c h => best_e5 0 (by decide) (two fG fB) 2 1 (by decide) (by decide) (fun i hi => by obtain rfl : i = 0 := (by omega); exact fG_ok) fB_bad (some ⟨b, 0, none⟩) c W h
        rw [hZq] at e1 e2 e3 e4 e5 h4 ho4 hi4
        clear hZq
        go_wp2_with fail
        refine (e1 V8).mono ?_
        rintro e T0 ⟨rfl, hb0⟩
        go_wp2_with first | (refine wpList_new rfl 37 rfl _ alloc_quot1 ?_; intro U0 N0 hle0 hc0 bn0) | (refine wpList_store_box rfl 37 (.tmp 18) _ rfl N0 0 37 _ Zq Zq rfl rfl bn0 hi4 (Nat.le_of_eq (by rw [h4]; rfl)) ho4 (whole_new (by rw [h4]; rfl)) ?_; intro Y0 hk0 bm0; have hy0 := hk0.below hc0 hle0 hc0.size)
        have I80 := (I8.below hb0).below hy0
        have r80 := belowCall (belowCall r8 hb0) hy0
        clear bn0 hc0 hle0 hk0 bm0 hb0 hy0 I8 r8 e1
        refine (e2 Y0).mono ?_
        rintro e T1 ⟨rfl, hb1⟩
        go_wp2_with first | (refine wpList_new rfl 37 rfl _ alloc_quot1 ?_; intro U1 N1 hle1 hc1 bn1) | (refine wpList_store_box rfl 37 (.tmp 21) _ rfl N1 0 37 _ Zq Zq rfl rfl bn1 hi4 (Nat.le_of_eq (by rw [h4]; rfl)) ho4 (whole_new (by rw [h4]; rfl)) ?_; intro Y1 hk1 bm1; have hy1 := hk1.below hc1 hle1 hc1.size)
        have I81 := (I80.below hb1).below hy1
        have r81 := belowCall (belowCall r80 hb1) hy1
        clear bn1 hc1 hle1 hk1 bm1 hb1 hy1 I80 r80 e2
        refine (e3 Y1).mono ?_
        rintro e T2 ⟨rfl, hb2⟩
        go_wp2_with first | (refine wpList_new rfl 37 rfl _ alloc_quot1 ?_; intro U2 N2 hle2 hc2 bn2) | (refine wpList_store_box rfl 37 (.tmp 24) _ rfl N2 0 37 _ Zq Zq rfl rfl bn2 hi4 (Nat.le_of_eq (by rw [h4]; rfl)) ho4 (whole_new (by rw [h4]; rfl)) ?_; intro Y2 hk2 bm2; have hy2 := hk2.below hc2 hle2 hc2.size)
        have I82 := (I81.below hb2).below hy2
        have r82 := belowCall (belowCall r81 hb2) hy2
        clear bn2 hc2 hle2 hk2 bm2 hb2 hy2 I81 r81 e3
        refine (e4 Y2).mono ?_
        rintro e T3 ⟨rfl, hb3⟩
        go_wp2_with first | (refine wpList_new rfl 37 rfl _ alloc_quot1 ?_; intro U3 N3 hle3 hc3 bn3) | (refine wpList_store_box rfl 37 (.tmp 27) _ rfl N3 0 37 _ Zq Zq rfl rfl bn3 hi4 (Nat.le_of_eq (by rw [h4]; rfl)) ho4 (whole_new (by rw [h4]; rfl)) ?_; intro Y3 hk3 bm3; have hy3 := hk3.below hc3 hle3 hc3.size; have I9 := ((I82).below hb3).below hy3; have cG := I9.G.cell; have cB := I9.B.cell; have lG := I9.G.lt; have lB := I9.B.lt)
        have r83 := belowCall (belowCall r82 hb3) hy3
        clear bn3 hc3 hle3 hk3 bm3 hb3 hy3 I82 r82 e4
        clear cG cB lG lB
        refine boxes1c fun T4 hT4 hs4 bl4 => ?_
        refine (e5 T4 _ 2 (films_box bl4 2 (by decide) (two fG fB) fun i j hi hj => by
          rcases (by omega : i = 0 ∨ i = 1) with rfl | rfl <;> rcases (by omega : j = 0 ∨ j = 1 ∨ j = 2) with rfl | rfl | rfl <;> rfl)).mono ?_
        rintro e T5 ⟨rfl, hb5⟩
        go_wp2_with first | (refine wpList_new rfl 37 rfl _ alloc_quot1 ?_; intro U5 N5 hle5 hc5 bn5) | (refine wpList_store_box rfl 37 (.tmp 30) _ rfl N5 0 37 _ Zq Zq rfl rfl bn5 hi4 (Nat.le_of_eq (by rw [h4]; rfl)) ho4 (whole_new (by rw [h4]; rfl)) ?_; intro Y5 hk5 bm5; have hy5 := hk5.below hc5 hle5 hc5.size)
        have r9 := belowCall (belowCall (belowCall r83 hT4) hb5) hy5
        clear bn5 hc5 hle5 hk5 bm5 hb5 hy5 hT4 hs4 bl4 I9 r83 e5
        have hbst := best_ok 10000000 10000000 (by decide) (by decide) (by decide) (by decide) QH 0 (by decide) (fun i hi => by omega) 3 (by decide) none 0 Y5 (films_nil _ _ _)
        rw [best_nil.1, best_nil.2] at hbst
        refine hbst.mono ?_
        rintro e T6 ⟨pz, cz, D, rfl, _, RD, hb6⟩
        have r10 := belowCall r9 hb6
        clear hbst hb6 r9
        obtain ⟨D', hD', hDs, hD1⟩ := RD.cells
        cases hD'
        have hiD : (Tryz.prog.info? 37).map (·.size) = some D.size := by rw [hDs]; exact sizeQuot
        go_wp2_with first | (refine wpList_new rfl 37 rfl _ alloc_quot1 ?_; intro U6 BD hle6 hc6 bn6) | (refine wpList_store_box rfl 37 (.tmp 33) _ rfl BD 0 37 _ D D rfl rfl bn6 hiD (Nat.le_of_eq (by rw [hDs]; rfl)) hD1 (whole_new (by rw [hDs]; rfl)) ?_; intro Y6 hk6 bD; have hy6 := hk6.below hc6 hle6 hc6.size)
        replace RD := (RD.ext (.of_below hc6)).ext (hk6.ext bn6 (by decide))
        have r11 := belowCall r10 hy6
        clear hk6 bn6 hc6 hle6 hy6 r10
        refine wp_region_held_drew (S := fun w' => Below Y6.heap.size Y6 w') (by as_aux_lemma => kernel_rfl) ((Below.refl _ _).drew) (fun hHeld => ?_)
        generalize Y6.drew = X0 at *
        refine tkf 0 (some 185) ?_
        refine tkf 1 (some 186) ?_
        refine tkf 2 (some 187) ?_
        refine tkf 3 (some 188) ?_
        refine tkf 4 (some 189) ?_
        refine tkf 5 (some 190) ?_
        refine tkf 6 (some 191) ?_
        refine tkf 7 (some 192) ?_
        refine tkf 8 (some 193) ?_
        refine tkf 9 (some 194) ?_
        refine tkf 10 (some 195) ?_
        refine tkf 11 (some 196) ?_
        refine tkf 12 (some 197) ?_
        refine tkf 13 (some 198) ?_
        refine tkf 14 (some 199) ?_
        refine tkf 15 (some 200) ?_
        refine tkf 16 (some 201) ?_
        refine tkf 17 (some 202) ?_
        refine tkf 18 (some 203) ?_
        refine tkf 19 (some 204) ?_
        refine tkf 20 (some 205) ?_
        refine tkf 21 (some 206) ?_
        refine tkf 22 (some 207) ?_
        refine tkf 23 (some 208) ?_
        refine tkf 24 (some 209) ?_
        refine tkf 25 (some 210) ?_
        refine tkf 26 (some 211) ?_
        refine tkf 27 (some 212) ?_
        refine tkf 28 (some 213) ?_
        refine tkf 29 (some 214) ?_
        refine tkf 30 (some 215) ?_
        refine tlf 31 (some 216) rfl (.agg D) (exec_load 37 _ rfl BD 0 (by as_aux_lemma => kernel_rfl) D (fun w hS => (bD.below hS).range) _ Tryz.underlying37 rfl hiD) ?_
        refine Mono.stc 32 (some 217) (vof_ok (0) 1 (by decide) _ (by decide) (by decide) (by decide) (by decide)) (fun e X18 hR => ?_)
        obtain ⟨CD, rfl, R63, hbX18⟩ := hR
        refine ⟨(belowCall hHeld hbX18), fun hHeld => Mono.pt ?_⟩
        have RD2 := RD.ext (.of_below hHeld)
        refine Mono.stc 33 (some 218) (vsame_true _ _ _ _ rfl _ RD2 R63) (fun e X19 hR => ?_)
        obtain ⟨rfl, hbX19⟩ := hR
        refine ⟨(belowCall hHeld hbX19), fun hHeld => Mono.pt ?_⟩
        refine tkf 34 (some 219) ?_
        refine tkf 35 (some 16) ?_
        refine wpAnyH_done (by as_aux_lemma => kernel_rfl) ?_ _
        have r12 := belowCall r11 hHeld
        clear hHeld RD2 RD bD r11 R63
        generalize X19 = Y7 at *
        go_wp2_with first | (refine wpList_new rfl 24 rfl _ alloc_film ?_; intro U7 BT hle7 hc7 bt0) | (refine wpList_store_box rfl 24 _ _ rfl BT 0 24 _ #[.int .i64 20000000, .int .i64 3, .int .i64 3] #[.int .i64 20000000, .int .i64 3, .int .i64 3] rfl rfl bt0 hif (Nat.le_of_ble_eq_true rfl) (by simp [Value.oneCell']) (whole_new rfl) ?_; intro Y8 hk8 bT; have hy8 := hk8.below hc7 hle7 hc7.size)
        have r13 := belowCall r12 hy8
        clear hk8 bt0 hc7 hle7 hy8 r12
        refine wp_region_held_drew (S := fun w' => Below Y8.heap.size Y8 w') (by as_aux_lemma => kernel_rfl) ((Below.refl _ _).drew) (fun hHeld => ?_)
        generalize Y8.drew = X0 at *
        refine tkf 0 (some 221) ?_
        refine tkf 1 (some 222) ?_
        refine tkf 2 (some 223) ?_
        refine tkf 3 (some 224) ?_
        refine tlf 5 (some 226) rfl (.agg #[.int .i64 20000000, .int .i64 3, .int .i64 3]) (exec_load 24 _ rfl BT 0 (by as_aux_lemma => kernel_rfl) #[.int .i64 20000000, .int .i64 3, .int .i64 3] (fun w hS => (bT.below hS).range) _ Tryz.underlying24 rfl hif) ?_
        refine Mono.fork2 4 6 ?_ ?_
        · intro K hK
          refine Mono.armc (some 225) hK (vpair_ok (25) (121) (96) (121) _) (fun e X20 hR => ?_)
          clear hK K
          obtain ⟨Aa, Ba, Ea, Fa, rfl, baa, bba, bea, bfa, hbX20⟩ := hR
          refine ⟨(belowCall hHeld hbX20), fun hHeld => Mono.pt ?_⟩
          refine Mono.sta 6 (some 227) (.slice (some ⟨X20.heap.size, 0, none⟩) 1 1) (X20.alloc (.cells #[.int .i64 20000000, .int .i64 3, .int .i64 3] 24)) (belowAlloc hHeld _) (fun hHeld => Mono.pt ?_)
          have bX21 : Box (X20.alloc (.cells #[.int .i64 20000000, .int .i64 3, .int .i64 3] 24)) X20.heap.size 24 #[.int .i64 20000000, .int .i64 3, .int .i64 3] := Box.new _ _ _
          have hX21 : Below X20.heap.size X20 (X20.alloc (.cells #[.int .i64 20000000, .int .i64 3, .int .i64 3] 24)) := belowAlloc (Below.refl _ _) _
          generalize X20.alloc (.cells #[.int .i64 20000000, .int .i64 3, .int .i64 3] 24) = X21 at *
          refine Mono.stc 7 (some 228) (refl_ex 10000000 15000000 (by decide) (by decide) (by decide) (by decide) (fun _ => fT) 1 (by decide) (fun _ _ => fT_ok) _ 1 _ (films_box bX21 1 (by decide) (fun _ => fT) fun i j hi hj => by obtain rfl : i = 0 := (by omega); rcases (by omega : j = 0 ∨ j = 1 ∨ j = 2) with rfl | rfl | rfl <;> rfl)) (fun e X22 hR => ?_)
          obtain ⟨Ca, Da, rfl, Ra, Ta, hbX22⟩ := hR
          refine ⟨(belowCall hHeld hbX22), fun hHeld => Mono.pt ?_⟩
          rw [third_rt.1] at Ra
          rw [third_rt.2] at Ta
          refine tkf 8 (some 229) ?_
          refine tkf 9 (some 230) ?_
          refine tkf 10 (some 231) ?_
          refine Mono.stc 11 (some 232) (vpair1_ok (25) (121) (96) (121) (by decide) (by decide) (by decide) (by decide) (by decide) (by decide) (by decide) (by decide) (by decide) (by decide) Ca Da X22 Ra Ta Aa Ba Ea Fa ((baa.below hX21).below hbX22) ((bba.below hX21).below hbX22) ((bea.below hX21).below hbX22) ((bfa.below hX21).below hbX22)) (fun e X23 hR => ?_)
          obtain ⟨rfl, hbX23⟩ := hR
          refine ⟨(belowCall hHeld hbX23), fun hHeld => Mono.pt ?_⟩
          refine tkf 12 (some 233) ?_
          refine tkf 13 (some 234) ?_
          refine tlf 15 (some 236) rfl (.agg #[.int .i64 20000000, .int .i64 3, .int .i64 3]) (exec_load 24 _ rfl BT 0 (by as_aux_lemma => kernel_rfl) #[.int .i64 20000000, .int .i64 3, .int .i64 3] (fun w hS => (bT.below hS).range) _ Tryz.underlying24 rfl hif) ?_
          refine tlf 16 (some 237) rfl (.agg #[.int .i64 20000000, .int .i64 3, .int .i64 3]) (exec_load 24 _ rfl BT 0 (by as_aux_lemma => kernel_rfl) #[.int .i64 20000000, .int .i64 3, .int .i64 3] (fun w hS => (bT.below hS).range) _ Tryz.underlying24 rfl hif) ?_
          refine Mono.fork2 14 17 ?_ ?_
          · intro K hK
            refine Mono.armc (some 235) hK (vpair_ok (1) (25) (24) (25) _) (fun e X24 hR => ?_)
            clear hK K
            obtain ⟨Ab, Bb, Eb, Fb, rfl, bab, bbb, beb, bfb, hbX24⟩ := hR
            refine ⟨(belowCall hHeld hbX24), fun hHeld => Mono.pt ?_⟩
            refine Mono.sta 17 (some 238) (.slice (some ⟨X24.heap.size, 0, none⟩) 2 2) (X24.alloc (.cells #[.int .i64 20000000, .int .i64 3, .int .i64 3, .int .i64 20000000, .int .i64 3, .int .i64 3] 24)) (belowAlloc hHeld _) (fun hHeld => Mono.pt ?_)
            have bX25 : Box (X24.alloc (.cells #[.int .i64 20000000, .int .i64 3, .int .i64 3, .int .i64 20000000, .int .i64 3, .int .i64 3] 24)) X24.heap.size 24 #[.int .i64 20000000, .int .i64 3, .int .i64 3, .int .i64 20000000, .int .i64 3, .int .i64 3] := Box.new _ _ _
            have hX25 : Below X24.heap.size X24 (X24.alloc (.cells #[.int .i64 20000000, .int .i64 3, .int .i64 3, .int .i64 20000000, .int .i64 3, .int .i64 3] 24)) := belowAlloc (Below.refl _ _) _
            generalize X24.alloc (.cells #[.int .i64 20000000, .int .i64 3, .int .i64 3, .int .i64 20000000, .int .i64 3, .int .i64 3] 24) = X25 at *
            refine Mono.stc 18 (some 239) (refl_ex 10000000 15000000 (by decide) (by decide) (by decide) (by decide) (fun _ => fT) 2 (by decide) (fun _ _ => fT_ok) _ 2 _ (films_box bX25 2 (by decide) (fun _ => fT) fun i j hi hj => by rcases (by omega : i = 0 ∨ i = 1) with rfl | rfl <;> rcases (by omega : j = 0 ∨ j = 1 ∨ j = 2) with rfl | rfl | rfl <;> rfl)) (fun e X26 hR => ?_)
            obtain ⟨Cb, Db, rfl, Rb, Tb, hbX26⟩ := hR
            refine ⟨(belowCall hHeld hbX26), fun hHeld => Mono.pt ?_⟩
            rw [thirds_rt.1] at Rb
            rw [thirds_rt.2] at Tb
            refine tkf 19 (some 240) ?_
            refine tkf 20 (some 241) ?_
            refine tkf 21 (some 242) ?_
            refine Mono.stc 22 (some 243) (vpair1_ok (1) (25) (24) (25) (by decide) (by decide) (by decide) (by decide) (by decide) (by decide) (by decide) (by decide) (by decide) (by decide) Cb Db X26 Rb Tb Ab Bb Eb Fb ((bab.below hX25).below hbX26) ((bbb.below hX25).below hbX26) ((beb.below hX25).below hbX26) ((bfb.below hX25).below hbX26)) (fun e X27 hR => ?_)
            obtain ⟨rfl, hbX27⟩ := hR
            refine ⟨(belowCall hHeld hbX27), fun hHeld => Mono.pt ?_⟩
            refine tkf 23 (some 244) ?_
            refine tkf 24 (some 0) ?_
            refine wpAnyH_done (by as_aux_lemma => kernel_rfl) ?_ _
            go_wp2
            go_ret
            exact ⟨rfl, belowCall r13 hHeld⟩
          · intro K hK
            refine Mono.arma (some 238) hK (.slice (some ⟨X23.heap.size, 0, none⟩) 2 2) (X23.alloc (.cells #[.int .i64 20000000, .int .i64 3, .int .i64 3, .int .i64 20000000, .int .i64 3, .int .i64 3] 24)) (belowAlloc hHeld _) (fun hHeld => Mono.pt ?_)
            clear hK K
            have bX28 : Box (X23.alloc (.cells #[.int .i64 20000000, .int .i64 3, .int .i64 3, .int .i64 20000000, .int .i64 3, .int .i64 3] 24)) X23.heap.size 24 #[.int .i64 20000000, .int .i64 3, .int .i64 3, .int .i64 20000000, .int .i64 3, .int .i64 3] := Box.new _ _ _
            have hX28 : Below X23.heap.size X23 (X23.alloc (.cells #[.int .i64 20000000, .int .i64 3, .int .i64 3, .int .i64 20000000, .int .i64 3, .int .i64 3] 24)) := belowAlloc (Below.refl _ _) _
            generalize X23.alloc (.cells #[.int .i64 20000000, .int .i64 3, .int .i64 3, .int .i64 20000000, .int .i64 3, .int .i64 3] 24) = X28 at *
            refine Mono.stc 14 (some 235) (vpair_ok (1) (25) (24) (25) _) (fun e X29 hR => ?_)
            obtain ⟨Ab, Bb, Eb, Fb, rfl, bab, bbb, beb, bfb, hbX29⟩ := hR
            refine ⟨(belowCall hHeld hbX29), fun hHeld => Mono.pt ?_⟩
            refine Mono.stc 18 (some 239) (refl_ex 10000000 15000000 (by decide) (by decide) (by decide) (by decide) (fun _ => fT) 2 (by decide) (fun _ _ => fT_ok) _ 2 _ (films_box (bX28.below hbX29) 2 (by decide) (fun _ => fT) fun i j hi hj => by rcases (by omega : i = 0 ∨ i = 1) with rfl | rfl <;> rcases (by omega : j = 0 ∨ j = 1 ∨ j = 2) with rfl | rfl | rfl <;> rfl)) (fun e X30 hR => ?_)
            obtain ⟨Cb, Db, rfl, Rb, Tb, hbX30⟩ := hR
            refine ⟨(belowCall hHeld hbX30), fun hHeld => Mono.pt ?_⟩
            rw [thirds_rt.1] at Rb
            rw [thirds_rt.2] at Tb
            refine tkf 19 (some 240) ?_
            refine tkf 20 (some 241) ?_
            refine tkf 21 (some 242) ?_
            refine Mono.stc 22 (some 243) (vpair1_ok (1) (25) (24) (25) (by decide) (by decide) (by decide) (by decide) (by decide) (by decide) (by decide) (by decide) (by decide) (by decide) Cb Db X30 Rb Tb Ab Bb Eb Fb (bab.below hbX30) (bbb.below hbX30) (beb.below hbX30) (bfb.below hbX30)) (fun e X31 hR => ?_)
            obtain ⟨rfl, hbX31⟩ := hR
            refine ⟨(belowCall hHeld hbX31), fun hHeld => Mono.pt ?_⟩
            refine tkf 23 (some 244) ?_
            refine tkf 24 (some 0) ?_
            refine wpAnyH_done (by as_aux_lemma => kernel_rfl) ?_ _
            go_wp2
            go_ret
            exact ⟨rfl, belowCall r13 hHeld⟩
        · intro K hK
          refine Mono.arma (some 227) hK (.slice (some ⟨X0.heap.size, 0, none⟩) 1 1) (X0.alloc (.cells #[.int .i64 20000000, .int .i64 3, .int .i64 3] 24)) (belowAlloc hHeld _) (fun hHeld => Mono.pt ?_)
          clear hK K
          have bX32 : Box (X0.alloc (.cells #[.int .i64 20000000, .int .i64 3, .int .i64 3] 24)) X0.heap.size 24 #[.int .i64 20000000, .int .i64 3, .int .i64 3] := Box.new _ _ _
          have hX32 : Below X0.heap.size X0 (X0.alloc (.cells #[.int .i64 20000000, .int .i64 3, .int .i64 3] 24)) := belowAlloc (Below.refl _ _) _
          generalize X0.alloc (.cells #[.int .i64 20000000, .int .i64 3, .int .i64 3] 24) = X32 at *
          refine Mono.stc 4 (some 225) (vpair_ok (25) (121) (96) (121) _) (fun e X33 hR => ?_)
          obtain ⟨Aa, Ba, Ea, Fa, rfl, baa, bba, bea, bfa, hbX33⟩ := hR
          refine ⟨(belowCall hHeld hbX33), fun hHeld => Mono.pt ?_⟩
          refine Mono.stc 7 (some 228) (refl_ex 10000000 15000000 (by decide) (by decide) (by decide) (by decide) (fun _ => fT) 1 (by decide) (fun _ _ => fT_ok) _ 1 _ (films_box (bX32.below hbX33) 1 (by decide) (fun _ => fT) fun i j hi hj => by obtain rfl : i = 0 := (by omega); rcases (by omega : j = 0 ∨ j = 1 ∨ j = 2) with rfl | rfl | rfl <;> rfl)) (fun e X34 hR => ?_)
          obtain ⟨Ca, Da, rfl, Ra, Ta, hbX34⟩ := hR
          refine ⟨(belowCall hHeld hbX34), fun hHeld => Mono.pt ?_⟩
          rw [third_rt.1] at Ra
          rw [third_rt.2] at Ta
          refine tkf 8 (some 229) ?_
          refine tkf 9 (some 230) ?_
          refine tkf 10 (some 231) ?_
          refine Mono.stc 11 (some 232) (vpair1_ok (25) (121) (96) (121) (by decide) (by decide) (by decide) (by decide) (by decide) (by decide) (by decide) (by decide) (by decide) (by decide) Ca Da X34 Ra Ta Aa Ba Ea Fa (baa.below hbX34) (bba.below hbX34) (bea.below hbX34) (bfa.below hbX34)) (fun e X35 hR => ?_)
          obtain ⟨rfl, hbX35⟩ := hR
          refine ⟨(belowCall hHeld hbX35), fun hHeld => Mono.pt ?_⟩
          refine tkf 12 (some 233) ?_
          refine tkf 13 (some 234) ?_
          refine tlf 15 (some 236) rfl (.agg #[.int .i64 20000000, .int .i64 3, .int .i64 3]) (exec_load 24 _ rfl BT 0 (by as_aux_lemma => kernel_rfl) #[.int .i64 20000000, .int .i64 3, .int .i64 3] (fun w hS => (bT.below hS).range) _ Tryz.underlying24 rfl hif) ?_
          refine tlf 16 (some 237) rfl (.agg #[.int .i64 20000000, .int .i64 3, .int .i64 3]) (exec_load 24 _ rfl BT 0 (by as_aux_lemma => kernel_rfl) #[.int .i64 20000000, .int .i64 3, .int .i64 3] (fun w hS => (bT.below hS).range) _ Tryz.underlying24 rfl hif) ?_
          refine Mono.fork2 14 17 ?_ ?_
          · intro K hK
            refine Mono.armc (some 235) hK (vpair_ok (1) (25) (24) (25) _) (fun e X36 hR => ?_)
            clear hK K
            obtain ⟨Ab, Bb, Eb, Fb, rfl, bab, bbb, beb, bfb, hbX36⟩ := hR
            refine ⟨(belowCall hHeld hbX36), fun hHeld => Mono.pt ?_⟩
            refine Mono.sta 17 (some 238) (.slice (some ⟨X36.heap.size, 0, none⟩) 2 2) (X36.alloc (.cells #[.int .i64 20000000, .int .i64 3, .int .i64 3, .int .i64 20000000, .int .i64 3, .int .i64 3] 24)) (belowAlloc hHeld _) (fun hHeld => Mono.pt ?_)
            have bX37 : Box (X36.alloc (.cells #[.int .i64 20000000, .int .i64 3, .int .i64 3, .int .i64 20000000, .int .i64 3, .int .i64 3] 24)) X36.heap.size 24 #[.int .i64 20000000, .int .i64 3, .int .i64 3, .int .i64 20000000, .int .i64 3, .int .i64 3] := Box.new _ _ _
            have hX37 : Below X36.heap.size X36 (X36.alloc (.cells #[.int .i64 20000000, .int .i64 3, .int .i64 3, .int .i64 20000000, .int .i64 3, .int .i64 3] 24)) := belowAlloc (Below.refl _ _) _
            generalize X36.alloc (.cells #[.int .i64 20000000, .int .i64 3, .int .i64 3, .int .i64 20000000, .int .i64 3, .int .i64 3] 24) = X37 at *
            refine Mono.stc 18 (some 239) (refl_ex 10000000 15000000 (by decide) (by decide) (by decide) (by decide) (fun _ => fT) 2 (by decide) (fun _ _ => fT_ok) _ 2 _ (films_box bX37 2 (by decide) (fun _ => fT) fun i j hi hj => by rcases (by omega : i = 0 ∨ i = 1) with rfl | rfl <;> rcases (by omega : j = 0 ∨ j = 1 ∨ j = 2) with rfl | rfl | rfl <;> rfl)) (fun e X38 hR => ?_)
            obtain ⟨Cb, Db, rfl, Rb, Tb, hbX38⟩ := hR
            refine ⟨(belowCall hHeld hbX38), fun hHeld => Mono.pt ?_⟩
            rw [thirds_rt.1] at Rb
            rw [thirds_rt.2] at Tb
            refine tkf 19 (some 240) ?_
            refine tkf 20 (some 241) ?_
            refine tkf 21 (some 242) ?_
            refine Mono.stc 22 (some 243) (vpair1_ok (1) (25) (24) (25) (by decide) (by decide) (by decide) (by decide) (by decide) (by decide) (by decide) (by decide) (by decide) (by decide) Cb Db X38 Rb Tb Ab Bb Eb Fb ((bab.below hX37).below hbX38) ((bbb.below hX37).below hbX38) ((beb.below hX37).below hbX38) ((bfb.below hX37).below hbX38)) (fun e X39 hR => ?_)
            obtain ⟨rfl, hbX39⟩ := hR
            refine ⟨(belowCall hHeld hbX39), fun hHeld => Mono.pt ?_⟩
            refine tkf 23 (some 244) ?_
            refine tkf 24 (some 0) ?_
            refine wpAnyH_done (by as_aux_lemma => kernel_rfl) ?_ _
            go_wp2
            go_ret
            exact ⟨rfl, belowCall r13 hHeld⟩
          · intro K hK
            refine Mono.arma (some 238) hK (.slice (some ⟨X35.heap.size, 0, none⟩) 2 2) (X35.alloc (.cells #[.int .i64 20000000, .int .i64 3, .int .i64 3, .int .i64 20000000, .int .i64 3, .int .i64 3] 24)) (belowAlloc hHeld _) (fun hHeld => Mono.pt ?_)
            clear hK K
            have bX40 : Box (X35.alloc (.cells #[.int .i64 20000000, .int .i64 3, .int .i64 3, .int .i64 20000000, .int .i64 3, .int .i64 3] 24)) X35.heap.size 24 #[.int .i64 20000000, .int .i64 3, .int .i64 3, .int .i64 20000000, .int .i64 3, .int .i64 3] := Box.new _ _ _
            have hX40 : Below X35.heap.size X35 (X35.alloc (.cells #[.int .i64 20000000, .int .i64 3, .int .i64 3, .int .i64 20000000, .int .i64 3, .int .i64 3] 24)) := belowAlloc (Below.refl _ _) _
            generalize X35.alloc (.cells #[.int .i64 20000000, .int .i64 3, .int .i64 3, .int .i64 20000000, .int .i64 3, .int .i64 3] 24) = X40 at *
            refine Mono.stc 14 (some 235) (vpair_ok (1) (25) (24) (25) _) (fun e X41 hR => ?_)
            obtain ⟨Ab, Bb, Eb, Fb, rfl, bab, bbb, beb, bfb, hbX41⟩ := hR
            refine ⟨(belowCall hHeld hbX41), fun hHeld => Mono.pt ?_⟩
            refine Mono.stc 18 (some 239) (refl_ex 10000000 15000000 (by decide) (by decide) (by decide) (by decide) (fun _ => fT) 2 (by decide) (fun _ _ => fT_ok) _ 2 _ (films_box (bX40.below hbX41) 2 (by decide) (fun _ => fT) fun i j hi hj => by rcases (by omega : i = 0 ∨ i = 1) with rfl | rfl <;> rcases (by omega : j = 0 ∨ j = 1 ∨ j = 2) with rfl | rfl | rfl <;> rfl)) (fun e X42 hR => ?_)
            obtain ⟨Cb, Db, rfl, Rb, Tb, hbX42⟩ := hR
            refine ⟨(belowCall hHeld hbX42), fun hHeld => Mono.pt ?_⟩
            rw [thirds_rt.1] at Rb
            rw [thirds_rt.2] at Tb
            refine tkf 19 (some 240) ?_
            refine tkf 20 (some 241) ?_
            refine tkf 21 (some 242) ?_
            refine Mono.stc 22 (some 243) (vpair1_ok (1) (25) (24) (25) (by decide) (by decide) (by decide) (by decide) (by decide) (by decide) (by decide) (by decide) (by decide) (by decide) Cb Db X42 Rb Tb Ab Bb Eb Fb (bab.below hbX42) (bbb.below hbX42) (beb.below hbX42) (bfb.below hbX42)) (fun e X43 hR => ?_)
            obtain ⟨rfl, hbX43⟩ := hR
            refine ⟨(belowCall hHeld hbX43), fun hHeld => Mono.pt ?_⟩
            refine tkf 23 (some 244) ?_
            refine tkf 24 (some 0) ?_
            refine wpAnyH_done (by as_aux_lemma => kernel_rfl) ?_ _
            go_wp2
            go_ret
            exact ⟨rfl, belowCall r13 hHeld⟩
end Go.Proofs.YtdgodcgdlfjpaaaGreatDoor
