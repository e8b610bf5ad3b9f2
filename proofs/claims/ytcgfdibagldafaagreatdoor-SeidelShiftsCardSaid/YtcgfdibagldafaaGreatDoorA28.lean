/- Contracts of the program's fractions, lenses and rays, and a verified evaluator of the model. Part 28 of 30. No condition beside the row. -/
import Derived.Test.YtcgfdibagldafaaGreatDoorA17
import Derived.Test.YtcgfdibagldafaaGreatDoorA27
set_option linter.unusedVariables false
set_option linter.unusedSimpArgs false
set_option maxRecDepth 100000
set_option maxHeartbeats 4000000
namespace Go.Mono
theorem mul3_bd {o p : Int} (ho : In 3 o) (hp : In 1000000000 p) : -6000000000 ≤ 2 * o * p ∧ 2 * o * p ≤ 6000000000 := by
 obtain ⟨h1, h2⟩ := ho
 obtain ⟨h3, h4⟩ := hp
 rcases (by omega : o = -3 ∨ o = -2 ∨ o = -1 ∨ o = 0 ∨ o = 1 ∨ o = 2 ∨ o = 3) with rfl | rfl | rfl | rfl | rfl | rfl | rfl <;> omega
end Go.Mono
namespace Go.Proofs.YtcgfdibagldafaaGreatDoor
open Go.RowKit Go.Mono
theorem mustqx (q : Rat) (p : Option Addr) (k c : Nat) (p' : Option Addr) (k' c' : Nat) (w : World) :
  Calls Tryz.prog 56 #[.agg #[.bool (decide (q.num < 0)), .slice p k c, .bool false, .slice p' k' c'], .int .i64 0] w fun e w' => e = .returned (.agg #[.bool (decide (q.num < 0)), .slice p k c, .bool false, .slice p' k' c']) ∧ Below w.heap.size w w' :=
 mustq_ok _ rfl (by simp [Value.oneCell']) w
theorem curved_ok (a : Lns) (ha : a.opt) (q : Plc) (hchk : Chk a q) (s k : Nat) (w : World) (h : OptAt w a q) (s1 : s < a.ns) (k1 : k < a.nw)
  (hf1 : Fits (a.step k s)) (hf2 : Fits (a.cv s * a.step k s)) (hf3 : Fits (a.gr k s)) (hf4 : Fits (a.cv s * a.step k s - a.gr k s)) :
  Calls Tryz.prog 356 #[.agg (a.vvals q k), .int .i64 (s : Int)] w fun e w' => ∃ C, e = .returned (.agg C) ∧ QV w' (.agg C) (a.cv s * a.step k s - a.gr k s) ∧ Below w.heap.size w w' := by
 obtain ⟨b, off, hps, hbl, hcell⟩ := h.surfs.2.2 (by omega)
 dsimp only at hcell
 obtain ⟨bw, ow, hpw, hblw, hcellw⟩ := h.waves.2.2 (by omega)
 have fL : w.cell? ⟨bw, ow + k * 2, none⟩ = some (.int .i64 (a.L k)) := hcellw k 0 k1 (by omega)
 obtain ⟨L1, L2⟩ := ha.base.wl k k1
 have hO3 := fun W => pof_ok (a.L k) 10000000 (by decide) W (by omega) (by omega) (by decide) (by decide)
 have hor := (ha.base.sok s s1).order
 have hp0 := (ha.base.sok s s1).p0
 obtain ⟨m1, m2⟩ := mul3_bd hor hp0
 have hw1 : IntKind.i64.wrap (2 * (a.S s).order) = 2 * (a.S s).order := by obtain ⟨_, _⟩ := hor; rw [IntKind.wrap_i64]; omega
 have hw2 : IntKind.i64.wrap (2 * (a.S s).order * (a.S s).p0) = 2 * (a.S s).order * (a.S s).p0 := by rw [IntKind.wrap_i64]; omega
 have hO2 := fun W => pof_ok (2 * (a.S s).order * (a.S s).p0) 10000000 (by decide) W (by omega) (by omega) (by decide) (by decide)
 have k1' : (k : Int) < a.nw := by omega
 clear hcellw L1 L2 hor hp0 m1 m2
 have hsok := ha.base.sok s s1
 have hI1 := fun W (hW : Below w.heap.size w W) => index_ok a ha q hchk s k W (h.below hW) s1 k1
 have hI2 := fun W (hW : Below w.heap.size w W) => indexB_ok a ha q hchk s k W (h.below hW) s1 k1
 have hO1 := fun W => pof_ok (a.S s).curv 1000000000 (by decide) W (by have := hsok.curv.1; omega) (by have := hsok.curv.2; omega) (by decide) (by decide)
 rw [show Rat.divInt (a.S s).curv 1000000000 = a.cv s from rfl] at hO1
 have s0 : IntKind.i64.wrap ((s : Int) - 1) = (s : Int) - 1 := by have := ha.base.ns; rw [IntKind.wrap_i64]; omega
 have hsz : (Tryz.prog.info? 91).map (·.size) = some ((a.S s).cs (q.cp s) (q.cl s)).size := by kernel_rfl
 have hsl : (Tryz.prog.info? 91).map (·.size) = some ((a.S s).cs (q.cp s) (q.cl s)).toList.length := by kernel_rfl
 have g1 : ((a.S s).cs (q.cp s) (q.cl s)).all (·.oneCell') = true := by simp [Srf.cs, Value.oneCell']
 have gz : ((a.S s).cs (q.cp s) (q.cl s)).size = 22 := rfl
 have e1 : ((a.S s).cs (q.cp s) (q.cl s))[1]? = some (.int .i64 (a.S s).curv) := rfl
 have e11 : ((a.S s).cs (q.cp s) (q.cl s))[11]? = some (.int .i64 (a.S s).order) := rfl
 have e9 : ((a.S s).cs (q.cp s) (q.cl s))[9]? = some (.int .i64 (a.S s).p0) := rfl
 have hrange : ∀ W, Below w.heap.size w W → W.rangeAt b (off + s * 22) ((a.S s).cs (q.cp s) (q.cl s)).toList := fun W hW j v hv => by
  have hj : j < 22 := by
   have := (List.getElem?_eq_some_iff.1 hv).1
   simpa [gz] using this
  refine ((hW.cell (p := ⟨b, off + s * 22 + j, none⟩) hbl).trans (hcell s j s1 hj)).trans ?_
  rw [Array.getElem?_toList] at hv
  rw [Array.getD_eq_getD_getElem?, hv]
  rfl
 simp only [Lns.vvals] at hI1 hI2 ⊢
 rw [hps, hpw] at hI1 hI2 ⊢
 have s1' : (s : Int) < a.ns := by omega
 clear hcell hsok
 generalize (a.S s).cs (q.cp s) (q.cl s) = A at *
 go_enter Tryz.func356, Tryz.ntmps356
 go_step
 go_step
 go_step
 go_step
 go_step
 go_step
 go_step
 go_step
 go_step
 refine boxes2l fun W hB hs bV bR => ?_
 have cV := bV.cell
 have lV := bV.lt
 go_wp2_with first | (refine wpList_load_mid rfl 91 _ rfl b (off + s * 22) rfl A.toList _ (hrange W hB) Tryz.underlying91 rfl hsl ?_) | (refine wpList_new rfl 91 rfl _ alloc_surface ?_; intro W1 B1 hle hB1 b1) | (refine wpList_store_box rfl 91 (.tmp 5) (.tmp 15) rfl B1 0 91 _ A A rfl rfl b1 hsz (Nat.le_of_eq (by rw [gz]; rfl)) g1 (whole_new (by rw [gz]; rfl)) ?_; intro W2 hk2 bS)
 have hBW2 : Below W.heap.size W W2 := hk2.below hB1 hle hB1.size
 replace hB := belowCall hB hBW2
 replace bV := bV.below hBW2
 replace bR := bR.below hBW2
 have lB1 : w.heap.size + 2 ≤ B1 := by omega
 clear hk2 hB1 hle b1 hBW2 cV lV hrange hsl hsz hs
 have cV := bV.cell
 have lV := bV.lt
 simp only [Act.put, List.setIfInBounds_toArray, List.set_cons_zero, List.set_cons_succ]
 go_cut [6] (fun s6 wx => ∃ B6, s6 = .pointer (some ⟨B6, 0, none⟩) ∧ W2.heap.size ≤ B6 ∧ BoxQ wx B6 52 (a.nI k s - a.nB k s) ∧ Below W2.heap.size W2 wx)
 case first =>
  have hf1' : Fits (a.nI k s - a.nB k s) := hf1
  go_region_held3 (fun w' => (∀ b o, b < W2.heap.size → w'.cell? ⟨b, o, none⟩ = W2.cell? ⟨b, o, none⟩) ∧ Below W2.heap.size W2 w') ((refine belowS ?_; first | exact (Below.refl _ _).drew | (repeat' (first | exact And.right ‹_› | exact belowCall (And.right ‹_›) ‹_› | exact belowAlloc (And.right ‹_›) _ | exact belowAlloc ‹_› _ | refine belowSet ?_ (by omega) _ _)))) (first | (go_at_call 58; (with_reducible refine (hI1 _ (belowCall hB (And.right ‹_›))).mono ?_); rintro e W5 ⟨C5, rfl, R5, hb5⟩; have r5 := R5; obtain ⟨p5, k5, c5, p5', k5', c5', hC5, z5, y5⟩ := r5; cases hC5; clear z5 y5; (have hzhb5 := belowCall (And.right ‹_›) hb5); (have hshb5 := hzhb5.size); (first | (replace bn := bn.below hb5; clear cbn fbn lbn; have cbn := bn.cell; have fbn := bn.frozen; have lbn := bn.lt) | (have bn := (Box.new _ 52 _).below hb5; have cbn := bn.cell; have fbn := bn.frozen; have lbn := bn.lt) | (have bn := (Box.new _ 52 _).drew.below hb5; have cbn := bn.cell; have fbn := bn.frozen; have lbn := bn.lt) | skip)) | (go_at_call 58; (with_reducible refine (hI2 _ (belowCall hB (And.right ‹_›))).mono ?_); rintro e W6 ⟨C6, rfl, R6, hb6⟩; have r6 := R6; obtain ⟨p6, k6, c6, p6', k6', c6', hC6, z6, y6⟩ := r6; cases hC6; clear z6 y6; replace R5 := R5.ext (by first | exact .of_below hb6 | exact ((Ext.refl _).alloc _).below hb6 | exact ((Ext.refl _).alloc _).drew.below hb6); (have hzhb6 := belowCall (And.right ‹_›) hb6); (have hshb6 := hzhb6.size); (first | (replace bn := bn.below hb6; clear cbn fbn lbn; have cbn := bn.cell; have fbn := bn.frozen; have lbn := bn.lt) | (have bn := (Box.new _ 52 _).below hb6; have cbn := bn.cell; have fbn := bn.frozen; have lbn := bn.lt) | (have bn := (Box.new _ 52 _).drew.below hb6; have cbn := bn.cell; have fbn := bn.frozen; have lbn := bn.lt) | skip)) | (go_at_call 46; (with_reducible refine (sub_ok (a.nI k s) (a.nB k s) _ _ _ W6 (by first | exact Ext.refl _ | exact (Ext.refl _).alloc _ | exact ((Ext.refl _).alloc _).drew) R5 R6 hf1').mono ?_); rintro e W7 ⟨C7, rfl, R7, hb7⟩; have r7 := R7; obtain ⟨p7, k7, c7, p7', k7', c7', hC7, z7, y7⟩ := r7; subst hC7; clear z7 y7; (have hzhb7 := belowCall (And.right ‹_›) hb7); (have hshb7 := hzhb7.size); (first | (replace bn := bn.below hb7; clear cbn fbn lbn; have cbn := bn.cell; have fbn := bn.frozen; have lbn := bn.lt) | (have bn := (Box.new _ 52 _).below hb7; have cbn := bn.cell; have fbn := bn.frozen; have lbn := bn.lt) | (have bn := (Box.new _ 52 _).drew.below hb7; have cbn := bn.cell; have fbn := bn.frozen; have lbn := bn.lt) | skip)) | (go_at_call 56; (with_reducible refine (mustqx (a.nI k s - a.nB k s) p7 k7 c7 p7' k7' c7' _).mono ?_); rintro e W8 ⟨rfl, hb8⟩; replace R7 := R7.ext (by first | exact .of_below hb8 | exact ((Ext.refl _).alloc _).below hb8 | exact ((Ext.refl _).alloc _).drew.below hb8); (have hzhb8 := belowCall (And.right ‹_›) hb8); (have hshb8 := hzhb8.size); (first | (replace bn := bn.below hb8; clear cbn fbn lbn; have cbn := bn.cell; have fbn := bn.frozen; have lbn := bn.lt) | (have bn := (Box.new _ 52 _).below hb8; have cbn := bn.cell; have fbn := bn.frozen; have lbn := bn.lt) | (have bn := (Box.new _ 52 _).drew.below hb8; have cbn := bn.cell; have fbn := bn.frozen; have lbn := bn.lt) | skip)))
  all_goals
   go_wp2_with fail
   go_meet
   exact ⟨_, rfl, (by omega), (by first | exact boxq_new R7 | exact boxq_set (by decide) bn R7), And.right ‹_›⟩
 case rest =>
  obtain ⟨B6, rfl, hB6, hq6, hb⟩ := hcut
  replace hB := belowCall hB hb
  replace bV := bV.below hb
  replace bR := bR.below hb
  replace bS := bS.below hb
  obtain ⟨p9, k9, c9, p9', k9', c9', b6, R9⟩ := hq6
  have c6 := b6.cell
  have l6 := b6.lt
  have lS := bS.lt
  have lW := hb.size
  have fS1 := (bS.cell 1).trans e1
  clear cV lV hb hI1 hI2 hf1
  go_wp2_with fail
  go_cut [7] (fun s7 wx => ∃ B7, s7 = .pointer (some ⟨B7, 0, none⟩) ∧ wc.heap.size ≤ B7 ∧ BoxQ wx B7 52 (a.cv s * (a.nI k s - a.nB k s)) ∧ Below wc.heap.size wc wx)
  case first =>
   have hf2' : Fits (a.cv s * (a.nI k s - a.nB k s)) := hf2
   go_region_held3 (fun w' => (∀ b o, b < wc.heap.size → w'.cell? ⟨b, o, none⟩ = wc.cell? ⟨b, o, none⟩) ∧ Below wc.heap.size wc w') ((refine belowS ?_; first | exact (Below.refl _ _).drew | (repeat' (first | exact And.right ‹_› | exact belowCall (And.right ‹_›) ‹_› | exact belowAlloc (And.right ‹_›) _ | exact belowAlloc ‹_› _ | refine belowSet ?_ (by omega) _ _)))) (first | (go_at_call 94; (with_reducible refine (hO1 _).mono ?_); rintro e W5 ⟨C5, rfl, R5, hb5⟩; have r5 := R5; obtain ⟨p5, k5, c5, p5', k5', c5', hC5, z5, y5⟩ := r5; cases hC5; clear z5 y5; (have hzhb5 := belowCall (And.right ‹_›) hb5); (have hshb5 := hzhb5.size); (first | (replace bn := bn.below hb5; clear cbn fbn lbn; have cbn := bn.cell; have fbn := bn.frozen; have lbn := bn.lt) | (have bn := (Box.new _ 52 _).below hb5; have cbn := bn.cell; have fbn := bn.frozen; have lbn := bn.lt) | (have bn := (Box.new _ 52 _).drew.below hb5; have cbn := bn.cell; have fbn := bn.frozen; have lbn := bn.lt) | skip)) | (go_at_call 16; (with_reducible refine (mul_ok (a.cv s) (a.nI k s - a.nB k s) _ _ _ W5 (by first | exact Ext.refl _ | exact (Ext.refl _).alloc _ | exact ((Ext.refl _).alloc _).drew) R5 (R9.ext (.of_below hzhb5)) hf2').mono ?_); rintro e W6 ⟨C6, rfl, R6, hb6⟩; have r6 := R6; obtain ⟨p6, k6, c6, p6', k6', c6', hC6, z6, y6⟩ := r6; subst hC6; clear z6 y6; (have hzhb6 := belowCall (And.right ‹_›) hb6); (have hshb6 := hzhb6.size); (first | (replace bn := bn.below hb6; clear cbn fbn lbn; have cbn := bn.cell; have fbn := bn.frozen; have lbn := bn.lt) | (have bn := (Box.new _ 52 _).below hb6; have cbn := bn.cell; have fbn := bn.frozen; have lbn := bn.lt) | (have bn := (Box.new _ 52 _).drew.below hb6; have cbn := bn.cell; have fbn := bn.frozen; have lbn := bn.lt) | skip)) | (go_at_call 56; (with_reducible refine (mustqx (a.cv s * (a.nI k s - a.nB k s)) p6 k6 c6 p6' k6' c6' _).mono ?_); rintro e W7 ⟨rfl, hb7⟩; replace R6 := R6.ext (by first | exact .of_below hb7 | exact ((Ext.refl _).alloc _).below hb7 | exact ((Ext.refl _).alloc _).drew.below hb7); (have hzhb7 := belowCall (And.right ‹_›) hb7); (have hshb7 := hzhb7.size); (first | (replace bn := bn.below hb7; clear cbn fbn lbn; have cbn := bn.cell; have fbn := bn.frozen; have lbn := bn.lt) | (have bn := (Box.new _ 52 _).below hb7; have cbn := bn.cell; have fbn := bn.frozen; have lbn := bn.lt) | (have bn := (Box.new _ 52 _).drew.below hb7; have cbn := bn.cell; have fbn := bn.frozen; have lbn := bn.lt) | skip)))
   all_goals
    go_wp2_with fail
    go_meet
    exact ⟨_, rfl, (by omega), (by first | exact boxq_new R6 | exact boxq_set (by decide) bn R6), And.right ‹_›⟩
  case rest =>
   obtain ⟨B7, rfl, hB7, hq7, hb⟩ := hcut
   replace hB := belowCall hB hb
   replace bV := bV.below hb
   replace bR := bR.below hb
   replace bS := bS.below hb
   have lS := bS.lt
   have lW := hb.size
   have fS11 := (bS.cell 11).trans e11
   have fS9 := (bS.cell 9).trans e9
   have cV := bV.cell
   have lV := bV.lt
   have fL' := (hB.cell (p := ⟨bw, ow + k * 2, none⟩) hblw).trans fL
   have lL := Nat.lt_of_lt_of_le hblw hB.size
   clear hb c6 l6 b6 R9 hO1 fS1
   go_wp2_with fail
   go_cut [8] (fun s8 wx => ∃ B8, s8 = .pointer (some ⟨B8, 0, none⟩) ∧ wc.heap.size ≤ B8 ∧ BoxQ wx B8 52 (Rat.divInt (2 * (a.S s).order * (a.S s).p0) 10000000 * Rat.divInt (a.L k) 10000000) ∧ Below wc.heap.size wc wx)
   case first =>
    have hf3' : Fits (Rat.divInt (2 * (a.S s).order * (a.S s).p0) 10000000 * Rat.divInt (a.L k) 10000000) := hf3
    go_region_held3 (fun w' => (∀ b o, b < wc.heap.size → w'.cell? ⟨b, o, none⟩ = wc.cell? ⟨b, o, none⟩) ∧ Below wc.heap.size wc w') ((refine belowS ?_; first | exact (Below.refl _ _).drew | (repeat' (first | exact And.right ‹_› | exact belowCall (And.right ‹_›) ‹_› | exact belowAlloc (And.right ‹_›) _ | exact belowAlloc ‹_› _ | refine belowSet ?_ (by omega) _ _)))) (first | (go_at_call 94; (with_reducible refine (hO2 _).mono ?_); rintro e W5 ⟨C5, rfl, R5, hb5⟩; have r5 := R5; obtain ⟨p5, k5, c5, p5', k5', c5', hC5, z5, y5⟩ := r5; cases hC5; clear z5 y5; (have hzhb5 := belowCall (And.right ‹_›) hb5); (have hshb5 := hzhb5.size); (first | (replace bn := bn.below hb5; clear cbn fbn lbn; have cbn := bn.cell; have fbn := bn.frozen; have lbn := bn.lt) | (have bn := (Box.new _ 52 _).below hb5; have cbn := bn.cell; have fbn := bn.frozen; have lbn := bn.lt) | (have bn := (Box.new _ 52 _).drew.below hb5; have cbn := bn.cell; have fbn := bn.frozen; have lbn := bn.lt) | skip)) | (go_at_call 94; (with_reducible refine (hO3 _).mono ?_); rintro e W6 ⟨C6, rfl, R6, hb6⟩; have r6 := R6; obtain ⟨p6, k6, c6, p6', k6', c6', hC6, z6, y6⟩ := r6; cases hC6; clear z6 y6; replace R5 := R5.ext (by first | exact .of_below hb6 | exact ((Ext.refl _).alloc _).below hb6 | exact ((Ext.refl _).alloc _).drew.below hb6); (have hzhb6 := belowCall (And.right ‹_›) hb6); (have hshb6 := hzhb6.size); (first | (replace bn := bn.below hb6; clear cbn fbn lbn; have cbn := bn.cell; have fbn := bn.frozen; have lbn := bn.lt) | (have bn := (Box.new _ 52 _).below hb6; have cbn := bn.cell; have fbn := bn.frozen; have lbn := bn.lt) | (have bn := (Box.new _ 52 _).drew.below hb6; have cbn := bn.cell; have fbn := bn.frozen; have lbn := bn.lt) | skip)) | (go_at_call 16; (with_reducible refine (mul_ok (Rat.divInt (2 * (a.S s).order * (a.S s).p0) 10000000) (Rat.divInt (a.L k) 10000000) _ _ _ W6 (by first | exact Ext.refl _ | exact (Ext.refl _).alloc _ | exact ((Ext.refl _).alloc _).drew) R5 R6 hf3').mono ?_); rintro e W7 ⟨C7, rfl, R7, hb7⟩; have r7 := R7; obtain ⟨p7, k7, c7, p7', k7', c7', hC7, z7, y7⟩ := r7; subst hC7; clear z7 y7; (have hzhb7 := belowCall (And.right ‹_›) hb7); (have hshb7 := hzhb7.size); (first | (replace bn := bn.below hb7; clear cbn fbn lbn; have cbn := bn.cell; have fbn := bn.frozen; have lbn := bn.lt) | (have bn := (Box.new _ 52 _).below hb7; have cbn := bn.cell; have fbn := bn.frozen; have lbn := bn.lt) | (have bn := (Box.new _ 52 _).drew.below hb7; have cbn := bn.cell; have fbn := bn.frozen; have lbn := bn.lt) | skip)) | (go_at_call 56; (with_reducible refine (mustqx (Rat.divInt (2 * (a.S s).order * (a.S s).p0) 10000000 * Rat.divInt (a.L k) 10000000) p7 k7 c7 p7' k7' c7' _).mono ?_); rintro e W8 ⟨rfl, hb8⟩; replace R7 := R7.ext (by first | exact .of_below hb8 | exact ((Ext.refl _).alloc _).below hb8 | exact ((Ext.refl _).alloc _).drew.below hb8); (have hzhb8 := belowCall (And.right ‹_›) hb8); (have hshb8 := hzhb8.size); (first | (replace bn := bn.below hb8; clear cbn fbn lbn; have cbn := bn.cell; have fbn := bn.frozen; have lbn := bn.lt) | (have bn := (Box.new _ 52 _).below hb8; have cbn := bn.cell; have fbn := bn.frozen; have lbn := bn.lt) | (have bn := (Box.new _ 52 _).drew.below hb8; have cbn := bn.cell; have fbn := bn.frozen; have lbn := bn.lt) | skip)))
    all_goals
     go_wp2_with fail
     go_meet
     exact ⟨_, rfl, (by omega), (by first | exact boxq_new R7 | exact boxq_set (by decide) bn R7), And.right ‹_›⟩
   case rest =>
    obtain ⟨B8, rfl, hB8, hq8, hb⟩ := hcut
    replace hB := belowCall hB hb
    replace bR := bR.below hb
    replace hq7 := hq7.below hb
    obtain ⟨p7, k7, c7, p7', k7', c7', b7, R7⟩ := hq7
    obtain ⟨p8, k8, c8, p8', k8', c8', b8, R8⟩ := hq8
    have c7 := b7.cell
    have l7 := b7.lt
    have c8 := b8.cell
    have l8 := b8.lt
    have hf4' : Fits ((a.cv s * (a.nI k s - a.nB k s)) - (Rat.divInt (2 * (a.S s).order * (a.S s).p0) 10000000 * Rat.divInt (a.L k) 10000000)) := hf4
    go_wp2_with fail
    refine (sub_ok (a.cv s * (a.nI k s - a.nB k s)) (Rat.divInt (2 * (a.S s).order * (a.S s).p0) 10000000 * Rat.divInt (a.L k) 10000000) _ _ wc wc (Ext.refl _) R7 R8 hf4').mono ?_
    rintro e W1 ⟨C, rfl, R, hb1⟩
    obtain ⟨C', hC', hC, h1⟩ := R.cells
    subst hC'
    have hi : (Tryz.prog.info? 52).map (·.size) = some C'.size := by rw [hC]; exact sizeQuot
    replace hB := belowCall hB hb1
    replace bR := bR.below hb1
    go_wp2_with first | (go_at_call 56; refine (mustq_ok C' hC h1 _).mono ?_; rintro e W2 ⟨rfl, hb2⟩; have bR2 := bR.below hb2; have lR2 := bR2.lt) | (refine wpList_store_box rfl 52 (.tmp 4) (.tmp 62) rfl (w.heap.size + 1) 0 52 _ C' C' rfl rfl bR2 hi (Nat.le_of_eq (by rw [hC]; rfl)) h1 (whole_new (by rw [hC]; rfl)) ?_; intro W3 hk3 b3)
    refine bodyPost_ret (b3.results rfl _ _ rfl Tryz.underlying52 rfl hi) rfl ?_
    exact ⟨C', rfl, R.ext ((Ext.of_below hb2).trans (hk3.ext bR2 (by decide))), hk3.below (belowCall hB hb2) (by omega) (by have := hB.size; have := hb2.size; omega)⟩
end Go.Proofs.YtcgfdibagldafaaGreatDoor
