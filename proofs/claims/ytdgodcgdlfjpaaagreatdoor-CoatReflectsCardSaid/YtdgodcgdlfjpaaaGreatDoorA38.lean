/- Contracts of package coat and of the examples of its law, for the laws of layer 40. Part 38 of 40. No condition beside the row. -/
import Derived.Test.YtdgodcgdlfjpaaaGreatDoorA16
import Derived.Test.YtdgodcgdlfjpaaaGreatDoorA20
import Derived.Test.YtdgodcgdlfjpaaaGreatDoorA29
import Derived.Test.YtdgodcgdlfjpaaaGreatDoorA36
import Derived.Test.YtdgodcgdlfjpaaaGreatDoorA37
set_option linter.unusedVariables false
set_option linter.unusedSimpArgs false
set_option maxRecDepth 100000
set_option maxHeartbeats 4000000
namespace Go.Mono
open Go.RowKit
def cmM : Srf := { zS with thick := -1000000, glass := mirror }
def cmS (i : Nat) : Srf := if i = 0 then cmM else zS
def cmL : Lns := { nm := { data := #[65] }, di := 0, pu := 1000000, st := 0, pr := 0, nf := 1, X := fun _ => 0, Y := fun _ => 0, nw := 1, L := fun _ => 587562, W := fun _ => 1, ns := 2, S := cmS, ix := fun _ _ => 10000000 }
theorem cm_nameA : NameOk { data := #[65] } := ⟨by decide, by decide, fun i hi => by
 obtain rfl : i = 0 := by have : i < 1 := hi; omega
 unfold isLetter; decide +revert⟩
theorem cm_nameM : NameOk mirror := ⟨by decide, by decide, fun i hi => by
 have h6 : i < 6 := hi
 rcases (by omega : i = 0 ∨ i = 1 ∨ i = 2 ∨ i = 3 ∨ i = 4 ∨ i = 5) with rfl | rfl | rfl | rfl | rfl | rfl <;> (unfold isLetter; decide +revert)⟩
theorem cm_zS : zS.ok := by
 constructor
 case kept => rfl
 case glass => exact .inl rfl
 all_goals first | decide | (unfold In; decide) | (left; decide)
theorem cmM_ok : cmM.ok := by
 constructor
 case kept => rfl
 case glass => exact .inr cm_nameM
 all_goals first | decide | (unfold In; decide) | (left; decide)
theorem cmL_ok : cmL.ok := by
 constructor
 case name => exact cm_nameA
 case sok =>
  intro i _
  show (cmS i).ok
  unfold cmS
  split
  ·exact cmM_ok
  ·exact cm_zS
 case image => exact ⟨rfl, rfl, rfl, rfl⟩
 case stop => decide
 case fr => intro i _; show In 1000000 0 ∧ In 1000000 0; unfold In; decide
 case fd => intro i k h1 h2; have : i < 1 := h2; omega
 case wm => intro i h; have : i + 1 < 1 := h; omega
 case wl => intro i _; show (300000 : Int) ≤ 587562 ∧ (587562 : Int) ≤ 2500000; decide
 case ww => intro i _; show (1 : Int) ≤ 1 ∧ (1 : Int) ≤ 100; decide
 all_goals decide
theorem cmL_opt : cmL.opt := by
 refine ⟨cmL_ok, fun i j _ _ => ?_, fun i j hi ht _ => ?_, fun i j hi ht hg _ => rfl⟩
 ·show (10000000 : Int) ≤ 10000000 ∧ (10000000 : Int) ≤ 40000000
  decide
 ·show (10000000 : Int) = if i = 0 then 10000000 else 10000000
  split <;> rfl
end Go.Mono
namespace Go.Proofs.YtdgodcgdlfjpaaaGreatDoor
open Go.RowKit Go.Mono
theorem enters_surfX1 : ∀ args w, (callFunc 132 args).run Tryz.prog w = .ok (.enter 132 args) w := Go.Proofs.enters_of Tryz.func132 (by kernel_rfl) rfl
theorem sizeSurface : (Tryz.prog.info? 104).map (·.size) = some 22 := by kernel_rfl
theorem surfX1_mirror (q : Plc) (w : World) (h : OptAt w cmL q) (B0 B1 B2 : Nat) (b0 : Box w B0 96 (cmL.ovals q)) (b1 : Box w B1 3 #[.int .i64 0]) (b2 : Box w B2 3 #[.int .i64 0]) :
  Calls Tryz.prog 132 #[.pointer (some ⟨B0, 0, none⟩), .pointer (some ⟨B1, 0, none⟩), .pointer (some ⟨B2, 0, none⟩)] w fun e w' => ∃ C, e = .returned (.agg C) ∧ LV w' C (Rat.divInt 1 1) (Rat.divInt 0 1) ∧ Below w.heap.size w w' := by
 have hchk := fun W (hW : Below w.heap.size w W) => ocheck1 cmL cmL_opt rfl q W (h.below hW)
 have hsz : (Tryz.prog.info? 96).map (·.size) = some (cmL.ovals q).size := by kernel_rfl
 have hone := fun W => cof_ok 1 1 (by decide) W (by decide) (by decide) (by decide) (by decide)
 have hzero := fun W => cof_ok 0 1 (by decide) W (by decide) (by decide) (by decide) (by decide)
 obtain ⟨hc1, hn1, hx⟩ := h.surfs
 obtain ⟨b, off, hp, hb, hcell⟩ := hx (by decide)
 have c5 : (cmL.ovals q)[6]? = some (.slice q.pw 1 q.cw) := rfl
 have c6 : (cmL.ovals q)[7]? = some (.slice q.ps 2 q.cs) := rfl
 rw [hp] at c6
 have hA : (cmM.cs (q.cp 0) (q.cl 0)).size = 22 := rfl
 have hA9 : (cmM.cs (q.cp 0) (q.cl 0))[13]? = some (.string mirror) := rfl
 have hA1 : (cmM.cs (q.cp 0) (q.cl 0)).all (·.oneCell') = true := by simp [Srf.cs, Value.oneCell']
 have hrg : ∀ W, Below w.heap.size w W → W.rangeAt b off (cmM.cs (q.cp 0) (q.cl 0)).toList := fun W hW j v hv => by
  have hj : j < 22 := by
   have := (List.getElem?_eq_some_iff.1 hv).1
   simpa [hA] using this
  refine ((hW.cell (p := ⟨b, off + j, none⟩) hb).trans ?_)
  have := hcell 0 j (by decide) hj
  simp only [Nat.zero_mul, Nat.add_zero] at this
  rw [this]
  rw [Array.getElem?_toList] at hv
  rw [Array.getD_eq_getD_getElem?]
  show some (((cmS 0).cs (q.cp 0) (q.cl 0))[j]?.getD undef) = some v
  rw [show (cmS 0) = cmM from rfl, hv]
  rfl
 have hsA : (Tryz.prog.info? 104).map (·.size) = some (cmM.cs (q.cp 0) (q.cl 0)).size := by rw [hA]; exact sizeSurface
 have hsL : (Tryz.prog.info? 104).map (·.size) = some (cmM.cs (q.cp 0) (q.cl 0)).toList.length := by rw [Array.length_toList]; exact hsA
 clear hx hcell h hc1 hn1 hp
 generalize cmM.cs (q.cp 0) (q.cl 0) = A at *
 generalize cmL.ovals q = O at *
 have hmir : (mirror.toList == [77, 73, 82, 82, 79, 82]) = true := by decide +kernel
 go_enter Tryz.func132, Tryz.ntmps132
 go_wp2_with first | (refine wpList_new rfl 124 rfl _ alloc_light ?_; intro W BO hle hB bO; replace b0 := b0.below hB; have cb0 := (b0.cell 6).trans c5; have db0 := (b0.cell 7).trans c6; have lb0 := b0.lt; replace b1 := b1.below hB; have cb1 := b1.cell; have lb1 := b1.lt; replace b2 := b2.below hB; have cb2 := b2.cell; have lb2 := b2.lt) | (refine wpList_load_box rfl 96 (.tmp 0) rfl B0 rfl 96 O b0 _ Tryz.underlying96 rfl hsz ?_)
 refine (hchk W hB).mono ?_
 rintro e W1 ⟨rfl, hb1⟩
 replace hB := belowCall hB hb1
 replace b0 := b0.below hb1
 replace b1 := b1.below hb1
 replace b2 := b2.below hb1
 replace bO := bO.below hb1
 clear cb0 db0 lb0 cb1 lb1 cb2 lb2 hb1
 have cb0 := (b0.cell 6).trans c5
 have db0 := (b0.cell 7).trans c6
 have lb0 := b0.lt
 have cb1 := b1.cell
 have lb1 := b1.lt
 have cb2 := b2.cell
 have lb2 := b2.lt
 have lO := bO.lt
 have rA := hrg W1 hB
 have g9 : ∀ V B, Box V B 104 A → V.cell? ⟨B, 13, none⟩ = some (.string mirror) := fun V B b => (b.cell 13).trans hA9
 go_wp2_with first | (go_at_call 70; refine (crefuse_no _ _).mono ?_; rintro e w5 ⟨rfl, h5⟩; rw [h5]; clear h5 w5) | (refine wpList_load_mid rfl 104 _ rfl b off rfl A.toList _ rA Tryz.underlying104 rfl hsL ?_) | (refine wpList_new rfl 104 rfl _ alloc_surface ?_; intro W2 B5 hle5 hb2 b5) | (refine wpList_store_box rfl 104 _ _ rfl B5 0 104 _ A A rfl rfl b5 hsA (Nat.le_of_eq (by rw [hA]; rfl)) hA1 (whole_new (by rw [hA]; rfl)) ?_; intro W3 hk3 b53; have c59 := g9 _ _ b53; have l59 := b53.lt)
 have hb3 := hk3.below hb2 hle5 hb2.size
 have hB3 := belowCall hB hb3
 have bO3 := bO.below hb3
 refine (hone W3).mono ?_
 rintro e W4 ⟨C1, rfl, R1, h4⟩
 go_wp2_with fail
 refine (hzero W4).mono ?_
 rintro e W5 ⟨C2, rfl, R2, h5⟩
 have hB5 := belowCall (belowCall hB3 h4) h5
 have bO5 := (bO3.below h4).below h5
 have R15 := R1.ext (.of_below h5)
 obtain ⟨x0, x1, x2, x3, rfl, u0, u1, u2, u3⟩ := R15.four
 obtain ⟨y0, y1, y2, y3, rfl, v0, v1, v2, v3⟩ := R2.four
 have ho : (#[x0, x1, x2, x3, y0, y1, y2, y3] : Array Value).all (·.oneCell') = true := by simp [*]
 clear c59 l59 b53 b5 hk3 hb2 hle5 bO hB hb3 hB3 bO3 h4 h5 R1 u0 u1 u2 u3 v0 v1 v2 v3 hone hzero hchk hrg cb0 db0 lb0 cb1 lb1 cb2 lb2 b0 b1 b2 g9 rA
 go_wp2_with first | (refine wpList_build2 rfl 124 _ rfl #[x0, x1, x2, x3, y0, y1, y2, y3] (by as_aux_lemma => kernel_rfl) ?_) | (refine wpList_store_box rfl 124 _ _ rfl BO 0 124 _ #[x0, x1, x2, x3, y0, y1, y2, y3] #[x0, x1, x2, x3, y0, y1, y2, y3] rfl rfl bO5 sizeLight (Nat.le_of_eq rfl) ho (whole_new rfl) ?_; intro W6 hk6 bO6)
 refine bodyPost_ret (bO6.results rfl _ _ rfl Tryz.underlying124 rfl sizeLight) rfl ?_
 exact ⟨_, rfl, ⟨⟨_, _, _, _, _, _, _, _, rfl, R15.ext (hk6.ext bO5 (by decide)), R2.ext (hk6.ext bO5 (by decide))⟩⟩, hk6.below hB5 hle hB5.size⟩
section
attribute [local go_sem] Oper.semAt_some
theorem cmusti_ok (z : Int) (w : World) : Calls Tryz.prog 74 #[.int .i64 z, .int .i64 0] w fun e w' => e = .returned (.int .i64 z) ∧ w' = w := by
 go_enter Tryz.func74, Tryz.ntmps74
 go_wp2
 go_ret
 exact ⟨rfl, rfl⟩
def DInv (Ds : List Nat) (N : Nat) (V : World) : Prop := ∀ D ∈ Ds, D < N ∧ V.heap[D]? = some (.deferred (some []))
def BInv (wB : World) (B7 N : Nat) (ra rb : Rat) (F : Nat → Flm) (m long : Nat) (b0 : Bst) (Bl Bc : Nat) (pc : Option Addr) (cc : Nat) (i : Nat) (V : World) : Prop :=
 Below wB.heap.size wB V ∧ (∃ C, Box V B7 135 C ∧ BV N V C (bestIn ra rb F m long i b0)) ∧ Box V Bl 3 #[.int .i64 (long : Int)] ∧ Box V Bc 27 #[.slice pc m cc] ∧ FilmsAt V pc m cc F ∧ N ≤ V.heap.size
theorem crefuse_nob (b : Bool) (hb : b = false) (z : Int) (w : World) : Calls Tryz.prog 70 #[.bool b, .int .i64 z] w fun e w' => e = .returned (.tuple #[]) ∧ w' = w := by
 subst hb
 exact crefuse_no z w
theorem best1_ok (na nb : Int) (a1 : 10000000 ≤ na) (a2 : na ≤ 40000000) (b1 : 10000000 ≤ nb) (b2 : nb ≤ 40000000) (F : Nat → Flm) (m : Nat) (hm : m ≤ 6) (hF : ∀ i, i < m → (F i).ok) (most : Nat) (hmost : most ≤ 3) (pc : Option Addr) (cc : Nat) (w : World) (h : FilmsAt w pc m cc F)
  (P0 P1 P2 P3 : Nat) (p0 : Box w P0 3 #[.int .i64 na]) (p1 : Box w P1 3 #[.int .i64 nb]) (p2 : Box w P2 3 #[.int .i64 (most : Int)]) (p3 : Box w P3 27 #[.slice pc m cc]) :
  Calls Tryz.prog 69 #[.pointer (some ⟨P0, 0, none⟩), .pointer (some ⟨P1, 0, none⟩), .pointer (some ⟨P2, 0, none⟩), .pointer (some ⟨P3, 0, none⟩)] w fun e w' => ∃ C, e = .returned (.agg C) ∧ BV w.heap.size w' C (bestTo (idx na) (idx nb) F m most) ∧ Below w.heap.size w w' := by
 refine (callsIn_wide (n := 6)).1 ?_
 have hro : Fence.wide.round = none := rfl
 have hszF : (Tryz.prog.info? 24).map (·.size) = some 3 := by kernel_rfl
 have hi1 := fun W => cindex_ok na W
 have hi2 := fun W => cindex_ok nb W
 rw [decide_eq_true ⟨a1, a2⟩] at hi1
 rw [decide_eq_true ⟨b1, b2⟩] at hi2
 have hm6 : ¬ ((m : Int) > 6) := by omega
 have hmo1 : ¬ ((most : Int) < 0) := by omega
 have hmo2 : ¬ ((most : Int) > 3) := by omega
 refine callsIn_of_wp_marks Tryz.func69 rfl trivial ?_ hro
 simp only [Tryz.ntmps69, List.size_toArray, List.length_cons, List.length_nil, Nat.reduceAdd, Nat.reduceSub, Array.replicate_succ, Array.replicate_zero, List.push_toArray, List.append_toArray, List.nil_append, List.cons_append]
 refine wpIn_wide.2 ?_
 go_wp2_with (refine wpList_new rfl 135 rfl _ alloc_best ?_; intro W0 BO hleO hB0 bO; have q0 := p0.below hB0; have q1 := p1.below hB0; have q2 := p2.below hB0; have q3 := p3.below hB0; have c0 := q0.cell; have l0 := q0.lt; have c1 := q1.cell; have l1 := q1.lt; have c2 := q2.cell; have l2 := q2.lt; have c3 := q3.cell; have l3 := q3.lt)
 refine (hi1 W0).mono ?_
 rintro e w5 ⟨rfl, h5⟩
 rw [h5]
 clear h5 w5
 go_wp2_with fail
 refine (hi2 W0).mono ?_
 rintro e w5 ⟨rfl, h5⟩
 rw [h5]
 clear h5 w5
 go_wp2_with fail
 refine (crefuse_nob _ (by simp; try omega) _ W0).mono ?_
 rintro e w5 ⟨rfl, h5⟩
 rw [h5]
 clear h5 w5
 go_wp2_with fail
 refine (crefuse_nob _ (by simp; try omega) _ W0).mono ?_
 rintro e w5 ⟨rfl, h5⟩
 rw [h5]
 clear h5 w5
 go_wp2_with fail
 have lO := bO.lt
 clear hi1 hi2 hm6 hmo1 hmo2 q0 q1 q2 q3
 go_loopw [34] (fun x wr => ∃ k : Nat, k ≤ m ∧ x = .int .i64 (k : Int) ∧ Below W0.heap.size W0 wr) (fun x _ => (m - intOf x).toNat)
 case atStart => exact ⟨0, Nat.zero_le _, rfl, Below.refl _ _⟩
 case round =>
  obtain ⟨k, hk, rfl, hBr⟩ := hrel
  have hBw := belowCall hB0 hBr
  by_cases hkm : k < m
  ·obtain ⟨b, off, rfl, hbl, hrg0⟩ := h.range (by omega)
   have hrg := hrg0 k hkm wr hBw
   have hso := fun W => sound_ok (F k) W
   rw [decide_eq_true (hF k hkm)] at hso
   have hsz : (Tryz.prog.info? 24).map (·.size) = some (F k).vals.size := hszF
   have hsl : (Tryz.prog.info? 24).map (·.size) = some (F k).vals.toList.length := hszF
   have h1c := film_ones (F k)
   have hcs : (F k).vals.size = 3 := rfl
   have hkm' : (k : Int) < m := by omega
   have lbw := Nat.lt_of_lt_of_le hbl hBw.size
   clear hrg0
   generalize (F k).vals = A3 at *
   go_wp2_with first | (refine wpList_load_mid rfl 24 _ rfl b (off + k * 3) rfl A3.toList _ hrg Tryz.underlying24 rfl hsl ?_) | (refine wpList_new rfl 24 rfl _ alloc_film ?_; intro V1 B1 hle1 hb1 bf) | (refine wpList_store_box rfl 24 _ _ rfl B1 0 24 _ A3 A3 rfl rfl bf hsz (Nat.le_of_eq (by rw [hcs]; rfl)) h1c (whole_new (by rw [hcs]; rfl)) ?_; intro V2 hk2 bf2) | (refine wpList_load_box rfl 24 (.tmp 6) rfl B1 rfl 24 A3 bf2 _ Tryz.underlying24 rfl hsz ?_)
   refine (hso V2).mono ?_
   rintro e V3 ⟨rfl, hb3⟩
   have hb13 := belowCall (hk2.below hb1 hle1 hb1.size) hb3
   go_wp2_with fail
   refine (crefuse_no _ V3).mono ?_
   rintro e w5 ⟨rfl, h5⟩
   rw [h5]
   clear h5 w5
   go_wp2
   go_roundw
   case rel => exact ⟨k + 1, by omega, by simp, belowCall hBr hb13⟩
   case measure => simp [intOf]; omega
  ·obtain rfl : m = k := by omega
   obtain ⟨w9, hw9⟩ : ∃ w9, w9 = wr := ⟨wr, rfl⟩
   rw [← hw9] at hBr hBw ⊢
   clear hw9 hkm hk c0 l0 c1 l1 c2 l2 c3 l3
   have q0 := p0.below hBw
   have q1 := p1.below hBw
   have q2 := p2.below hBw
   have q3 := p3.below hBw
   have c0 := q0.cell
   have l0 := q0.lt
   have c1 := q1.cell
   have l1 := q1.lt
   replace bO := bO.below hBr
   go_wp2_with fail
   refine (creflect_films na nb a1 a2 b1 b2 F 0 (by omega) (fun i hi => by omega) none 0 w9 ⟨Nat.le_refl _, by omega, fun h => by omega⟩).mono ?_
   rintro e W2 ⟨CL, rfl, hL, hb2⟩
   obtain ⟨x0, x1, x2, x3, y0, y1, y2, y3, rfl, Rx, Ry⟩ := hL.parts
   have hB2 := belowCall hBw hb2
   have bO2 := bO.below hb2
   have lO2 := bO2.lt
   have hbv : BV w.heap.size W2 #[x0, x1, x2, x3, y0, y1, y2, y3, .slice none 0 0] (bestTo (idx na) (idx nb) F m 0) := ⟨⟨_, _, _, _, _, _, _, _, none, 0, rfl, Rx, Ry, (show FilmsAt W2 none 0 0 F from ⟨Nat.le_refl _, by omega, fun h => by omega⟩), fun a e => by cases e⟩⟩
   have hone := hbv.ones
   clear c0 l0 c1 l1 q0 q1 q2 q3
   go_wp2_with first | (refine wpList_build2 rfl 135 _ rfl #[x0, x1, x2, x3, y0, y1, y2, y3, .slice none 0 0] (by as_aux_lemma => kernel_rfl) ?_) | (refine wpList_new rfl 135 rfl _ alloc_best ?_; intro W3 B7 hle7 hb3 b7) | (refine wpList_store_box rfl 135 _ _ rfl B7 0 135 _ #[x0, x1, x2, x3, y0, y1, y2, y3, .slice none 0 0] #[x0, x1, x2, x3, y0, y1, y2, y3, .slice none 0 0] rfl rfl b7 sizeBest (Nat.le_of_eq rfl) hone (whole_new rfl) ?_; intro V hk4 b74)
   have hU : Below W2.heap.size W2 V := hk4.below hb3 hle7 hb3.size
   have hbv4 : BV (B7 + 1) V #[x0, x1, x2, x3, y0, y1, y2, y3, .slice none 0 0] (bestTo (idx na) (idx nb) F m 0) := ⟨⟨_, _, _, _, _, _, _, _, none, 0, rfl, Rx.ext (.of_below hU), Ry.ext (.of_below hU), (show FilmsAt V none 0 0 F from ⟨Nat.le_refl _, by omega, fun h => by omega⟩), fun a e => by cases e⟩⟩
   have hO7 : BO < B7 := by omega
   have hW27 : W2.heap.size ≤ B7 := hle7
   clear hbv hone hk4 b7 hb3 hle7 Rx Ry hb2 hL lO hBr hB0 bO
   generalize (#[x0, x1, x2, x3, y0, y1, y2, y3, .slice none 0 0] : Array Value) = CB at *
   have b7 := b74
   have hbv := hbv4
   clear b74 hbv4
   have hdd : ∀ D ∈ ([] : List Nat), V.heap[D]? = some (.deferred (some [])) := fun D hD => by cases hD
   refine wp_loop_rounds 4 ?_
   rw [rounds_succ]
   have hwV := belowCall hB2 hU
   have c2 := (p2.below hwV).cell
   have l2 := (p2.below hwV).lt
   have c3 := (p3.below hwV).cell
   have l3 := (p3.below hwV).lt
   by_cases hk1 : 1 ≤ most
   ·have hk' : (1 : Int) ≤ (most : Int) := by omega
    go_wp2_with fail
    refine (clists_ok pc m cc 1 V).mono ?_
    rintro e Va ⟨Bl, Bc, rfl, bl, bc, hba⟩
    have hUa := belowCall hU hba
    have b7a := b7.below hba
    have hbva := hbv.below hba
    have hFa := h.below (belowCall hB2 hUa)
    have hNa : B7 + 1 ≤ Va.heap.size := b7a.lt
    have hW2a := hUa.size
    have hdda : DInv [] Va.heap.size Va := fun D hD => ⟨Nat.lt_of_lt_of_le (lt_of_some (hdd D hD)) hba.size, (hba.block D (lt_of_some (hdd D hD))).trans (hdd D hD)⟩
    clear c2 l2 c3 l3 hk' hwV hba b7 hbv hU hdd
    go_wp2_with fail
    refine (wpIn_wide (n := 6)).1 ?_
    refine wpIn_range_allQ hro (by omega) (gf := 151) (fi := #[]) (lb := #[.pointer (some ⟨Bl, 0, none⟩), .pointer (some ⟨Bc, 0, none⟩)]) rfl trivial enters_lists1 (lists1_all F m 1 hm (by omega) pc cc Bl Bc (B7 + 1) 5 (by omega)) (fun i args V h => by obtain ⟨p, c, rfl, _⟩ := h; rfl)
     (fun i V => BInv W2 B7 (B7 + 1) (idx na) (idx nb) F m 1 (bestTo (idx na) (idx nb) F m 0) Bl Bc pc cc i V ∧ DInv [] Va.heap.size V) ?hI ?hK ?hIB ?h0 ?hround ?hdone
    case hI =>
     rintro i V V' row ⟨⟨hU, ⟨C, b7, hbv⟩, bl, bc, hFc, hNs⟩, hdd⟩ hg hr
     have hg2 := fun r e => (hr r e).2
     exact ⟨⟨hU.grown hg hU.size (fun k e => by have := (hr k e).1; omega), ⟨C, b7.grown hg hg2, hbv.grown hg hg2⟩, bl.grown hg hg2, bc.grown hg hg2, hFc.grown hg hg2, Nat.le_trans hNs hg.size⟩, fun D hD => ⟨(hdd D hD).1, (hg.block D (lt_of_some (hdd D hD).2) (fun e => by have := (hr D e.symm).1; have := (hdd D hD).1; omega)).trans (hdd D hD).2⟩⟩
    case hK =>
     rintro i V ⟨⟨hU, ⟨C, b7, hbv⟩, bl, bc, hFc, hNs⟩, hdd⟩
     exact ⟨bl, bc, hFc, hNs⟩
    case hIB =>
     rintro i V V' ⟨⟨hU, ⟨C, b7, hbv⟩, bl, bc, hFc, hNs⟩, hdd⟩ hb
     exact ⟨⟨belowCall hU hb, ⟨C, b7.below hb, hbv.below hb⟩, bl.below hb, bc.below hb, hFc.below hb, Nat.le_trans hNs hb.size⟩, fun D hD => ⟨(hdd D hD).1, (hb.block D (lt_of_some (hdd D hD).2)).trans (hdd D hD).2⟩⟩
    case h0 => exact ⟨⟨hUa, ⟨_, b7a, hbva⟩, bl, bc, hFa, hNa⟩, hdda⟩
    case hround =>
     rintro l i args V ⟨⟨hU, ⟨C, b7, hbv⟩, bl, bc, hFc, hNs⟩, hdd⟩ hi hl hVs ⟨p, c, rfl, hFl, hpN⟩
     gi_wp2
     refine ⟨KeepsOthers.refl V, KeepNew.refl _ V, fun V2 hg ho' => ?_⟩
     obtain ⟨o, ho, hoc⟩ := ho'
     have gr : ∀ r, some l = some r → ∃ o : Obj, V.heap[r]? = some o ∧ o.isCells = false := fun r e => by cases e; exact ⟨o, ho, hoc⟩
     replace hU : Below W2.heap.size W2 V2 := hU.grown hg hU.size (fun k e => by cases e; omega)
     replace b7 := b7.grown hg gr
     replace hbv := hbv.grown hg gr
     replace bl := bl.grown hg gr
     replace bc := bc.grown hg gr
     replace hFc := hFc.grown hg gr
     replace hFl := hFl.grown hg gr
     replace hNs := Nat.le_trans hNs hg.size
     replace hdd : DInv [] Va.heap.size V2 := fun D hD => ⟨(hdd D hD).1, (hg.block D (lt_of_some (hdd D hD).2) (fun e => by have e' := Option.some.inj e; have := (hdd D hD).1; omega)).trans (hdd D hD).2⟩
     clear hg ho hoc gr hVs
     have hwV := belowCall hB2 hU
     have hm0 : 0 < m := Nat.pos_of_ne_zero (by rintro rfl; simp at hi)
     have hrf := creflect_films na nb a1 a2 b1 b2 (pick F m 1 i) 1 (by omega) (fun j _ => pick_ok hF hm0 j) p c V2 hFl
     have c0 := (p0.below hwV).cell
     have l0 := (p0.below hwV).lt
     have c1 := (p1.below hwV).cell
     have l1 := (p1.below hwV).lt
     gi_wp2_with fail
     refine ⟨trivial, ?_⟩
     gi_at_call 60
     refine (CallsIn.inRound l (callsIn_wide.2 hrf)).mono ?_
     rintro e X1 ⟨CL, rfl, hL, hb1⟩
     clear hrf c0 l0 c1 l1 hwV
     obtain ⟨x0, x1, x2, x3, y0, y1, y2, y3, rfl, Rx, Ry⟩ := hL.parts
     have hone := hL.ones
     have hKO := keepsOthers_of_below hb1
     have hKN := KeepNew.of_below (base := Va.heap.size) hb1
     replace b7 := b7.below hb1
     replace hbv := hbv.below hb1
     replace bl := bl.below hb1
     replace bc := bc.below hb1
     replace hFc := hFc.below hb1
     replace hFl := hFl.below hb1
     replace hU := belowCall hU hb1
     replace hNs := Nat.le_trans hNs hb1.size
     clear hL hb1
     obtain ⟨z0, z1, z2, z3, z4, z5, z6, z7, pz, cz, hCe, Rz, Rt, hFz, hNz⟩ := hbv.parts
     have b7l := b7
     rw [hCe] at b7l
     gi_wp2_with first | (refine wpListIn_new rfl 124 rfl _ alloc_light ?_; intro X2 BX hleX hb2 bX) | (refine wpListIn_store_box rfl 124 _ _ rfl BX 0 124 _ #[x0, x1, x2, x3, y0, y1, y2, y3] #[x0, x1, x2, x3, y0, y1, y2, y3] rfl rfl bX sizeLight (Nat.le_of_eq rfl) hone (whole_new rfl) ?_; intro X3 hk3 ho3 bX3; have hb13 := hk3.below hb2 hleX hb2.size; have b73 := b7l.below hb13) | (refine wpListIn_load_mid rfl 37 _ rfl BX 0 rfl [x0, x1, x2, x3] _ (bX3.part 0 #[x0, x1, x2, x3] rfl) Tryz.underlying37 rfl sizeQuot ?_) | (refine wpListIn_load_mid rfl 37 _ rfl B7 0 rfl [z0, z1, z2, z3] _ (b73.part 0 #[z0, z1, z2, z3] rfl) Tryz.underlying37 rfl sizeQuot ?_)
     refine ⟨trivial, ?_⟩
     gi_at_call 22
     refine (CallsIn.inRound l (callsIn_wide.2 (qcmp_ok _ _ _ _ X3 (Rx.ext (.of_below hb13)) (Rz.ext (.of_below hb13))))).mono ?_
     rintro e X4 ⟨rfl, hb4⟩
     have hb14 := belowCall hb13 hb4
     have bX4 := bX3.below hb4
     have b74 := b73.below hb4
     have b7C := b7.below hb14
     replace Rx := Rx.ext (.of_below hb14)
     replace Ry := Ry.ext (.of_below hb14)
     replace hbv := hbv.below hb14
     replace bl := bl.below hb14
     replace bc := bc.below hb14
     replace hFl := hFl.below hb14
     replace hU := belowCall hU hb14
     replace hNs := Nat.le_trans hNs hb14.size
     replace hKO := hKO.trans (keepsOthers_of_below hb14)
     replace hKN := hKN.trans (KeepNew.of_below hb14)
     have hcn := cmpQ_neg (a := back (idx na) (idx nb) (stackN (pick F m 1 i) 1)) (b := (bestIn (idx na) (idx nb) F m 1 i (bestTo (idx na) (idx nb) F m 0)).r)
     have hdn : DInv [] Va.heap.size X4 := fun D hD => ⟨(hdd D hD).1, hKO.same D _ (hdd D hD).2 rfl⟩
     clear hdd hb14 hb4 b73 bX3 hb13 ho3 hk3 bX hb2 hleX b7 b7l hCe hFc Rz Rt hFz hNz
     gi_wp2_with fail
     refine ⟨trivial, ?_⟩
     gi_at_call 74
     refine (CallsIn.inRound l (callsIn_wide.2 (cmusti_ok _ X4))).mono ?_
     rintro e X5 ⟨rfl, h5⟩
     rw [h5]
     clear h5 X5
     by_cases hlt : back (idx na) (idx nb) (stackN (pick F m 1 i) 1) < (bestIn (idx na) (idx nb) F m 1 i (bestTo (idx na) (idx nb) F m 0)).r
     ·have hz := hcn.2 hlt
      have hst : bestIn (idx na) (idx nb) F m 1 (i + 1) (bestTo (idx na) (idx nb) F m 0) = ⟨back (idx na) (idx nb) (stackN (pick F m 1 i) 1), through (idx na) (idx nb) (stackN (pick F m 1 i) 1), 1, pick F m 1 i⟩ := by
       show bstep _ _ _ _ _ = _
       unfold bstep
       exact if_pos hlt
      have hbn : BV (B7 + 1) X4 #[x0, x1, x2, x3, y0, y1, y2, y3, .slice p 1 c] (bestIn (idx na) (idx nb) F m 1 (i + 1) (bestTo (idx na) (idx nb) F m 0)) := by
       rw [hst]
       exact ⟨⟨_, _, _, _, _, _, _, _, p, c, rfl, Rx, Ry, hFl, hpN⟩⟩
      have hon := hbn.ones
      clear hcn hst hlt hbv
      generalize cmpQ _ _ = zc at *
      gi_wp2_with first | (refine wpListIn_load_box rfl 124 _ rfl BX rfl 124 #[x0, x1, x2, x3, y0, y1, y2, y3] bX4 _ Tryz.underlying124 rfl sizeLight ?_) | (refine wpListIn_build2 rfl 135 _ rfl #[x0, x1, x2, x3, y0, y1, y2, y3, .slice p 1 c] (by as_aux_lemma => kernel_rfl) ?_) | (refine wpListIn_store_box rfl 135 _ _ rfl B7 0 135 _ #[x0, x1, x2, x3, y0, y1, y2, y3, .slice p 1 c] #[x0, x1, x2, x3, y0, y1, y2, y3, .slice p 1 c] rfl rfl b74 sizeBest (Nat.le_of_eq rfl) hon (whole_new rfl) ?_; intro X6 hk6 ho6 b76)
      have hU6 := hk6.below hU (by omega) hU.size
      exact ⟨hKO.trans ho6, hKN.trans (KeepNew.of_keepBut hk6 (by omega)), ⟨hU6, ⟨_, b76, hbn.keep hk6 (by omega) (hk6.ext b74 (by decide))⟩, hk6.box bl bl.lt (Box.ne bl b74 (by decide)), hk6.box bc bc.lt (Box.ne bc b74 (by decide)), h.below (belowCall hB2 hU6), Nat.le_trans hNs hk6.size⟩, fun D hD => ⟨(hdn D hD).1, ho6.same D _ (hdn D hD).2 rfl⟩⟩
     ·have hz : ¬ cmpQ (back (idx na) (idx nb) (stackN (pick F m 1 i) 1)) (bestIn (idx na) (idx nb) F m 1 i (bestTo (idx na) (idx nb) F m 0)).r < 0 := fun e => hlt (hcn.1 e)
      have hst : bestIn (idx na) (idx nb) F m 1 (i + 1) (bestTo (idx na) (idx nb) F m 0) = bestIn (idx na) (idx nb) F m 1 i (bestTo (idx na) (idx nb) F m 0) := by
       show bstep _ _ _ _ _ = _
       unfold bstep
       exact if_neg hlt
      rw [← hst] at hbv
      clear hcn hst hlt
      generalize cmpQ _ _ = zc at *
      gi_wp2
      first
       | exact ⟨hU, ⟨_, b7C, hbv⟩, bl, bc, h.below (belowCall hB2 hU), hNs⟩
       | exact ⟨⟨hU, ⟨_, b7C, hbv⟩, bl, bc, h.below (belowCall hB2 hU), hNs⟩, hdn⟩
       | exact ⟨hKO, hKN, ⟨hU, ⟨_, b7C, hbv⟩, bl, bc, h.below (belowCall hB2 hU), hNs⟩, hdn⟩
    case hdone =>
     rintro D1 V hDs ⟨⟨hU, ⟨CB, b7, hbv⟩, bl, bc, hFc, hNs⟩, hdd0⟩ hDk
     have hdd : ∀ D ∈ ([D1] : List Nat), V.heap[D]? = some (.deferred (some [])) := by
      intro D hD
      rcases List.mem_cons.1 hD with rfl | hD
      ·exact hDk
      ·exact (hdd0 D hD).2
     have hge1 : w.heap.size ≤ D1 := by have := hB2.size; have := hUa.size; omega
     have hlt1 : ∀ D ∈ ([] : List Nat), D < D1 := fun D hD => by have := (hdd0 D hD).1; omega
     have hbv' : BV (B7 + 1) V CB (bestTo (idx na) (idx nb) F m 1) := hbv
     clear hbv hdd0 hDk hDs bl bc hFc hNs hbva b7a hUa hFa hNa hW2a hdda
     have hbv := hbv'
     clear hbv'
     go_wp2
     rw [rounds_succ]
     have hwV := belowCall hB2 hU
     have c2 := (p2.below hwV).cell
     have l2 := (p2.below hwV).lt
     have c3 := (p3.below hwV).cell
     have l3 := (p3.below hwV).lt
     by_cases hk2 : 2 ≤ most
     ·have hk' : (2 : Int) ≤ (most : Int) := by omega
      go_wp2_with fail
      refine (clists_ok pc m cc 2 V).mono ?_
      rintro e Va ⟨Bl, Bc, rfl, bl, bc, hba⟩
      have hUa := belowCall hU hba
      have b7a := b7.below hba
      have hbva := hbv.below hba
      have hFa := h.below (belowCall hB2 hUa)
      have hNa : B7 + 1 ≤ Va.heap.size := b7a.lt
      have hW2a := hUa.size
      have hdda : DInv [D1] Va.heap.size Va := fun D hD => ⟨Nat.lt_of_lt_of_le (lt_of_some (hdd D hD)) hba.size, (hba.block D (lt_of_some (hdd D hD))).trans (hdd D hD)⟩
      clear c2 l2 c3 l3 hk' hwV hba b7 hbv hU hdd
      go_wp2_with fail
      refine (wpIn_wide (n := 6)).1 ?_
      refine wpIn_range_allQ hro (by omega) (gf := 151) (fi := #[]) (lb := #[.pointer (some ⟨Bl, 0, none⟩), .pointer (some ⟨Bc, 0, none⟩)]) rfl trivial enters_lists1 (lists1_all F m 2 hm (by omega) pc cc Bl Bc (B7 + 1) 5 (by omega)) (fun i args V h => by obtain ⟨p, c, rfl, _⟩ := h; rfl)
       (fun i V => BInv W2 B7 (B7 + 1) (idx na) (idx nb) F m 2 (bestTo (idx na) (idx nb) F m 1) Bl Bc pc cc i V ∧ DInv [D1] Va.heap.size V) ?hI ?hK ?hIB ?h0 ?hround ?hdone
      case hI =>
       rintro i V V' row ⟨⟨hU, ⟨C, b7, hbv⟩, bl, bc, hFc, hNs⟩, hdd⟩ hg hr
       have hg2 := fun r e => (hr r e).2
       exact ⟨⟨hU.grown hg hU.size (fun k e => by have := (hr k e).1; omega), ⟨C, b7.grown hg hg2, hbv.grown hg hg2⟩, bl.grown hg hg2, bc.grown hg hg2, hFc.grown hg hg2, Nat.le_trans hNs hg.size⟩, fun D hD => ⟨(hdd D hD).1, (hg.block D (lt_of_some (hdd D hD).2) (fun e => by have := (hr D e.symm).1; have := (hdd D hD).1; omega)).trans (hdd D hD).2⟩⟩
      case hK =>
       rintro i V ⟨⟨hU, ⟨C, b7, hbv⟩, bl, bc, hFc, hNs⟩, hdd⟩
       exact ⟨bl, bc, hFc, hNs⟩
      case hIB =>
       rintro i V V' ⟨⟨hU, ⟨C, b7, hbv⟩, bl, bc, hFc, hNs⟩, hdd⟩ hb
       exact ⟨⟨belowCall hU hb, ⟨C, b7.below hb, hbv.below hb⟩, bl.below hb, bc.below hb, hFc.below hb, Nat.le_trans hNs hb.size⟩, fun D hD => ⟨(hdd D hD).1, (hb.block D (lt_of_some (hdd D hD).2)).trans (hdd D hD).2⟩⟩
      case h0 => exact ⟨⟨hUa, ⟨_, b7a, hbva⟩, bl, bc, hFa, hNa⟩, hdda⟩
      case hround =>
       rintro l i args V ⟨⟨hU, ⟨C, b7, hbv⟩, bl, bc, hFc, hNs⟩, hdd⟩ hi hl hVs ⟨p, c, rfl, hFl, hpN⟩
       gi_wp2
       refine ⟨KeepsOthers.refl V, KeepNew.refl _ V, fun V2 hg ho' => ?_⟩
       obtain ⟨o, ho, hoc⟩ := ho'
       have gr : ∀ r, some l = some r → ∃ o : Obj, V.heap[r]? = some o ∧ o.isCells = false := fun r e => by cases e; exact ⟨o, ho, hoc⟩
       replace hU : Below W2.heap.size W2 V2 := hU.grown hg hU.size (fun k e => by cases e; omega)
       replace b7 := b7.grown hg gr
       replace hbv := hbv.grown hg gr
       replace bl := bl.grown hg gr
       replace bc := bc.grown hg gr
       replace hFc := hFc.grown hg gr
       replace hFl := hFl.grown hg gr
       replace hNs := Nat.le_trans hNs hg.size
       replace hdd : DInv [D1] Va.heap.size V2 := fun D hD => ⟨(hdd D hD).1, (hg.block D (lt_of_some (hdd D hD).2) (fun e => by have e' := Option.some.inj e; have := (hdd D hD).1; omega)).trans (hdd D hD).2⟩
       clear hg ho hoc gr hVs
       have hwV := belowCall hB2 hU
       have hm0 : 0 < m := Nat.pos_of_ne_zero (by rintro rfl; simp at hi)
       have hrf := creflect_films na nb a1 a2 b1 b2 (pick F m 2 i) 2 (by omega) (fun j _ => pick_ok hF hm0 j) p c V2 hFl
       have c0 := (p0.below hwV).cell
       have l0 := (p0.below hwV).lt
       have c1 := (p1.below hwV).cell
       have l1 := (p1.below hwV).lt
       gi_wp2_with fail
       refine ⟨trivial, ?_⟩
       gi_at_call 60
       refine (CallsIn.inRound l (callsIn_wide.2 hrf)).mono ?_
       rintro e X1 ⟨CL, rfl, hL, hb1⟩
       clear hrf c0 l0 c1 l1 hwV
       obtain ⟨x0, x1, x2, x3, y0, y1, y2, y3, rfl, Rx, Ry⟩ := hL.parts
       have hone := hL.ones
       have hKO := keepsOthers_of_below hb1
       have hKN := KeepNew.of_below (base := Va.heap.size) hb1
       replace b7 := b7.below hb1
       replace hbv := hbv.below hb1
       replace bl := bl.below hb1
       replace bc := bc.below hb1
       replace hFc := hFc.below hb1
       replace hFl := hFl.below hb1
       replace hU := belowCall hU hb1
       replace hNs := Nat.le_trans hNs hb1.size
       clear hL hb1
       obtain ⟨z0, z1, z2, z3, z4, z5, z6, z7, pz, cz, hCe, Rz, Rt, hFz, hNz⟩ := hbv.parts
       have b7l := b7
       rw [hCe] at b7l
       gi_wp2_with first | (refine wpListIn_new rfl 124 rfl _ alloc_light ?_; intro X2 BX hleX hb2 bX) | (refine wpListIn_store_box rfl 124 _ _ rfl BX 0 124 _ #[x0, x1, x2, x3, y0, y1, y2, y3] #[x0, x1, x2, x3, y0, y1, y2, y3] rfl rfl bX sizeLight (Nat.le_of_eq rfl) hone (whole_new rfl) ?_; intro X3 hk3 ho3 bX3; have hb13 := hk3.below hb2 hleX hb2.size; have b73 := b7l.below hb13) | (refine wpListIn_load_mid rfl 37 _ rfl BX 0 rfl [x0, x1, x2, x3] _ (bX3.part 0 #[x0, x1, x2, x3] rfl) Tryz.underlying37 rfl sizeQuot ?_) | (refine wpListIn_load_mid rfl 37 _ rfl B7 0 rfl [z0, z1, z2, z3] _ (b73.part 0 #[z0, z1, z2, z3] rfl) Tryz.underlying37 rfl sizeQuot ?_)
       refine ⟨trivial, ?_⟩
       gi_at_call 22
       refine (CallsIn.inRound l (callsIn_wide.2 (qcmp_ok _ _ _ _ X3 (Rx.ext (.of_below hb13)) (Rz.ext (.of_below hb13))))).mono ?_
       rintro e X4 ⟨rfl, hb4⟩
       have hb14 := belowCall hb13 hb4
       have bX4 := bX3.below hb4
       have b74 := b73.below hb4
       have b7C := b7.below hb14
       replace Rx := Rx.ext (.of_below hb14)
       replace Ry := Ry.ext (.of_below hb14)
       replace hbv := hbv.below hb14
       replace bl := bl.below hb14
       replace bc := bc.below hb14
       replace hFl := hFl.below hb14
       replace hU := belowCall hU hb14
       replace hNs := Nat.le_trans hNs hb14.size
       replace hKO := hKO.trans (keepsOthers_of_below hb14)
       replace hKN := hKN.trans (KeepNew.of_below hb14)
       have hcn := cmpQ_neg (a := back (idx na) (idx nb) (stackN (pick F m 2 i) 2)) (b := (bestIn (idx na) (idx nb) F m 2 i (bestTo (idx na) (idx nb) F m 1)).r)
       have hdn : DInv [D1] Va.heap.size X4 := fun D hD => ⟨(hdd D hD).1, hKO.same D _ (hdd D hD).2 rfl⟩
       clear hdd hb14 hb4 b73 bX3 hb13 ho3 hk3 bX hb2 hleX b7 b7l hCe hFc Rz Rt hFz hNz
       gi_wp2_with fail
       refine ⟨trivial, ?_⟩
       gi_at_call 74
       refine (CallsIn.inRound l (callsIn_wide.2 (cmusti_ok _ X4))).mono ?_
       rintro e X5 ⟨rfl, h5⟩
       rw [h5]
       clear h5 X5
       by_cases hlt : back (idx na) (idx nb) (stackN (pick F m 2 i) 2) < (bestIn (idx na) (idx nb) F m 2 i (bestTo (idx na) (idx nb) F m 1)).r
       ·have hz := hcn.2 hlt
        have hst : bestIn (idx na) (idx nb) F m 2 (i + 1) (bestTo (idx na) (idx nb) F m 1) = ⟨back (idx na) (idx nb) (stackN (pick F m 2 i) 2), through (idx na) (idx nb) (stackN (pick F m 2 i) 2), 2, pick F m 2 i⟩ := by
         show bstep _ _ _ _ _ = _
         unfold bstep
         exact if_pos hlt
        have hbn : BV (B7 + 1) X4 #[x0, x1, x2, x3, y0, y1, y2, y3, .slice p 2 c] (bestIn (idx na) (idx nb) F m 2 (i + 1) (bestTo (idx na) (idx nb) F m 1)) := by
         rw [hst]
         exact ⟨⟨_, _, _, _, _, _, _, _, p, c, rfl, Rx, Ry, hFl, hpN⟩⟩
        have hon := hbn.ones
        clear hcn hst hlt hbv
        generalize cmpQ _ _ = zc at *
        gi_wp2_with first | (refine wpListIn_load_box rfl 124 _ rfl BX rfl 124 #[x0, x1, x2, x3, y0, y1, y2, y3] bX4 _ Tryz.underlying124 rfl sizeLight ?_) | (refine wpListIn_build2 rfl 135 _ rfl #[x0, x1, x2, x3, y0, y1, y2, y3, .slice p 2 c] (by as_aux_lemma => kernel_rfl) ?_) | (refine wpListIn_store_box rfl 135 _ _ rfl B7 0 135 _ #[x0, x1, x2, x3, y0, y1, y2, y3, .slice p 2 c] #[x0, x1, x2, x3, y0, y1, y2, y3, .slice p 2 c] rfl rfl b74 sizeBest (Nat.le_of_eq rfl) hon (whole_new rfl) ?_; intro X6 hk6 ho6 b76)
        have hU6 := hk6.below hU (by omega) hU.size
        exact ⟨hKO.trans ho6, hKN.trans (KeepNew.of_keepBut hk6 (by omega)), ⟨hU6, ⟨_, b76, hbn.keep hk6 (by omega) (hk6.ext b74 (by decide))⟩, hk6.box bl bl.lt (Box.ne bl b74 (by decide)), hk6.box bc bc.lt (Box.ne bc b74 (by decide)), h.below (belowCall hB2 hU6), Nat.le_trans hNs hk6.size⟩, fun D hD => ⟨(hdn D hD).1, ho6.same D _ (hdn D hD).2 rfl⟩⟩
       ·have hz : ¬ cmpQ (back (idx na) (idx nb) (stackN (pick F m 2 i) 2)) (bestIn (idx na) (idx nb) F m 2 i (bestTo (idx na) (idx nb) F m 1)).r < 0 := fun e => hlt (hcn.1 e)
        have hst : bestIn (idx na) (idx nb) F m 2 (i + 1) (bestTo (idx na) (idx nb) F m 1) = bestIn (idx na) (idx nb) F m 2 i (bestTo (idx na) (idx nb) F m 1) := by
         show bstep _ _ _ _ _ = _
         unfold bstep
         exact if_neg hlt
        rw [← hst] at hbv
        clear hcn hst hlt
        generalize cmpQ _ _ = zc at *
        gi_wp2
        first
         | exact ⟨hU, ⟨_, b7C, hbv⟩, bl, bc, h.below (belowCall hB2 hU), hNs⟩
         | exact ⟨⟨hU, ⟨_, b7C, hbv⟩, bl, bc, h.below (belowCall hB2 hU), hNs⟩, hdn⟩
         | exact ⟨hKO, hKN, ⟨hU, ⟨_, b7C, hbv⟩, bl, bc, h.below (belowCall hB2 hU), hNs⟩, hdn⟩
      case hdone =>
       rintro D2 V hDs ⟨⟨hU, ⟨CB, b7, hbv⟩, bl, bc, hFc, hNs⟩, hdd0⟩ hDk
       have hdd : ∀ D ∈ ([D2, D1] : List Nat), V.heap[D]? = some (.deferred (some [])) := by
        intro D hD
        rcases List.mem_cons.1 hD with rfl | hD
        ·exact hDk
        ·exact (hdd0 D hD).2
       have hge2 : w.heap.size ≤ D2 := by have := hB2.size; have := hUa.size; omega
       have hlt2 : ∀ D ∈ ([D1] : List Nat), D < D2 := fun D hD => by have := (hdd0 D hD).1; omega
       have hbv' : BV (B7 + 1) V CB (bestTo (idx na) (idx nb) F m 2) := hbv
       clear hbv hdd0 hDk hDs bl bc hFc hNs hbva b7a hUa hFa hNa hW2a hdda
       have hbv := hbv'
       clear hbv'
       go_wp2
       rw [rounds_succ]
       have hwV := belowCall hB2 hU
       have c2 := (p2.below hwV).cell
       have l2 := (p2.below hwV).lt
       have c3 := (p3.below hwV).cell
       have l3 := (p3.below hwV).lt
       by_cases hk3 : 3 ≤ most
       ·have hk' : (3 : Int) ≤ (most : Int) := by omega
        go_wp2_with fail
        refine (clists_ok pc m cc 3 V).mono ?_
        rintro e Va ⟨Bl, Bc, rfl, bl, bc, hba⟩
        have hUa := belowCall hU hba
        have b7a := b7.below hba
        have hbva := hbv.below hba
        have hFa := h.below (belowCall hB2 hUa)
        have hNa : B7 + 1 ≤ Va.heap.size := b7a.lt
        have hW2a := hUa.size
        have hdda : DInv [D2, D1] Va.heap.size Va := fun D hD => ⟨Nat.lt_of_lt_of_le (lt_of_some (hdd D hD)) hba.size, (hba.block D (lt_of_some (hdd D hD))).trans (hdd D hD)⟩
        clear c2 l2 c3 l3 hk' hwV hba b7 hbv hU hdd
        go_wp2_with fail
        refine (wpIn_wide (n := 6)).1 ?_
        refine wpIn_range_allQ hro (by omega) (gf := 151) (fi := #[]) (lb := #[.pointer (some ⟨Bl, 0, none⟩), .pointer (some ⟨Bc, 0, none⟩)]) rfl trivial enters_lists1 (lists1_all F m 3 hm (by omega) pc cc Bl Bc (B7 + 1) 5 (by omega)) (fun i args V h => by obtain ⟨p, c, rfl, _⟩ := h; rfl)
         (fun i V => BInv W2 B7 (B7 + 1) (idx na) (idx nb) F m 3 (bestTo (idx na) (idx nb) F m 2) Bl Bc pc cc i V ∧ DInv [D2, D1] Va.heap.size V) ?hI ?hK ?hIB ?h0 ?hround ?hdone
        case hI =>
         rintro i V V' row ⟨⟨hU, ⟨C, b7, hbv⟩, bl, bc, hFc, hNs⟩, hdd⟩ hg hr
         have hg2 := fun r e => (hr r e).2
         exact ⟨⟨hU.grown hg hU.size (fun k e => by have := (hr k e).1; omega), ⟨C, b7.grown hg hg2, hbv.grown hg hg2⟩, bl.grown hg hg2, bc.grown hg hg2, hFc.grown hg hg2, Nat.le_trans hNs hg.size⟩, fun D hD => ⟨(hdd D hD).1, (hg.block D (lt_of_some (hdd D hD).2) (fun e => by have := (hr D e.symm).1; have := (hdd D hD).1; omega)).trans (hdd D hD).2⟩⟩
        case hK =>
         rintro i V ⟨⟨hU, ⟨C, b7, hbv⟩, bl, bc, hFc, hNs⟩, hdd⟩
         exact ⟨bl, bc, hFc, hNs⟩
        case hIB =>
         rintro i V V' ⟨⟨hU, ⟨C, b7, hbv⟩, bl, bc, hFc, hNs⟩, hdd⟩ hb
         exact ⟨⟨belowCall hU hb, ⟨C, b7.below hb, hbv.below hb⟩, bl.below hb, bc.below hb, hFc.below hb, Nat.le_trans hNs hb.size⟩, fun D hD => ⟨(hdd D hD).1, (hb.block D (lt_of_some (hdd D hD).2)).trans (hdd D hD).2⟩⟩
        case h0 => exact ⟨⟨hUa, ⟨_, b7a, hbva⟩, bl, bc, hFa, hNa⟩, hdda⟩
        case hround =>
         rintro l i args V ⟨⟨hU, ⟨C, b7, hbv⟩, bl, bc, hFc, hNs⟩, hdd⟩ hi hl hVs ⟨p, c, rfl, hFl, hpN⟩
         gi_wp2
         refine ⟨KeepsOthers.refl V, KeepNew.refl _ V, fun V2 hg ho' => ?_⟩
         obtain ⟨o, ho, hoc⟩ := ho'
         have gr : ∀ r, some l = some r → ∃ o : Obj, V.heap[r]? = some o ∧ o.isCells = false := fun r e => by cases e; exact ⟨o, ho, hoc⟩
         replace hU : Below W2.heap.size W2 V2 := hU.grown hg hU.size (fun k e => by cases e; omega)
         replace b7 := b7.grown hg gr
         replace hbv := hbv.grown hg gr
         replace bl := bl.grown hg gr
         replace bc := bc.grown hg gr
         replace hFc := hFc.grown hg gr
         replace hFl := hFl.grown hg gr
         replace hNs := Nat.le_trans hNs hg.size
         replace hdd : DInv [D2, D1] Va.heap.size V2 := fun D hD => ⟨(hdd D hD).1, (hg.block D (lt_of_some (hdd D hD).2) (fun e => by have e' := Option.some.inj e; have := (hdd D hD).1; omega)).trans (hdd D hD).2⟩
         clear hg ho hoc gr hVs
         have hwV := belowCall hB2 hU
         have hm0 : 0 < m := Nat.pos_of_ne_zero (by rintro rfl; simp at hi)
         have hrf := creflect_films na nb a1 a2 b1 b2 (pick F m 3 i) 3 (by omega) (fun j _ => pick_ok hF hm0 j) p c V2 hFl
         have c0 := (p0.below hwV).cell
         have l0 := (p0.below hwV).lt
         have c1 := (p1.below hwV).cell
         have l1 := (p1.below hwV).lt
         gi_wp2_with fail
         refine ⟨trivial, ?_⟩
         gi_at_call 60
         refine (CallsIn.inRound l (callsIn_wide.2 hrf)).mono ?_
         rintro e X1 ⟨CL, rfl, hL, hb1⟩
         clear hrf c0 l0 c1 l1 hwV
         obtain ⟨x0, x1, x2, x3, y0, y1, y2, y3, rfl, Rx, Ry⟩ := hL.parts
         have hone := hL.ones
         have hKO := keepsOthers_of_below hb1
         have hKN := KeepNew.of_below (base := Va.heap.size) hb1
         replace b7 := b7.below hb1
         replace hbv := hbv.below hb1
         replace bl := bl.below hb1
         replace bc := bc.below hb1
         replace hFc := hFc.below hb1
         replace hFl := hFl.below hb1
         replace hU := belowCall hU hb1
         replace hNs := Nat.le_trans hNs hb1.size
         clear hL hb1
         obtain ⟨z0, z1, z2, z3, z4, z5, z6, z7, pz, cz, hCe, Rz, Rt, hFz, hNz⟩ := hbv.parts
         have b7l := b7
         rw [hCe] at b7l
         gi_wp2_with first | (refine wpListIn_new rfl 124 rfl _ alloc_light ?_; intro X2 BX hleX hb2 bX) | (refine wpListIn_store_box rfl 124 _ _ rfl BX 0 124 _ #[x0, x1, x2, x3, y0, y1, y2, y3] #[x0, x1, x2, x3, y0, y1, y2, y3] rfl rfl bX sizeLight (Nat.le_of_eq rfl) hone (whole_new rfl) ?_; intro X3 hk3 ho3 bX3; have hb13 := hk3.below hb2 hleX hb2.size; have b73 := b7l.below hb13) | (refine wpListIn_load_mid rfl 37 _ rfl BX 0 rfl [x0, x1, x2, x3] _ (bX3.part 0 #[x0, x1, x2, x3] rfl) Tryz.underlying37 rfl sizeQuot ?_) | (refine wpListIn_load_mid rfl 37 _ rfl B7 0 rfl [z0, z1, z2, z3] _ (b73.part 0 #[z0, z1, z2, z3] rfl) Tryz.underlying37 rfl sizeQuot ?_)
         refine ⟨trivial, ?_⟩
         gi_at_call 22
         refine (CallsIn.inRound l (callsIn_wide.2 (qcmp_ok _ _ _ _ X3 (Rx.ext (.of_below hb13)) (Rz.ext (.of_below hb13))))).mono ?_
         rintro e X4 ⟨rfl, hb4⟩
         have hb14 := belowCall hb13 hb4
         have bX4 := bX3.below hb4
         have b74 := b73.below hb4
         have b7C := b7.below hb14
         replace Rx := Rx.ext (.of_below hb14)
         replace Ry := Ry.ext (.of_below hb14)
         replace hbv := hbv.below hb14
         replace bl := bl.below hb14
         replace bc := bc.below hb14
         replace hFl := hFl.below hb14
         replace hU := belowCall hU hb14
         replace hNs := Nat.le_trans hNs hb14.size
         replace hKO := hKO.trans (keepsOthers_of_below hb14)
         replace hKN := hKN.trans (KeepNew.of_below hb14)
         have hcn := cmpQ_neg (a := back (idx na) (idx nb) (stackN (pick F m 3 i) 3)) (b := (bestIn (idx na) (idx nb) F m 3 i (bestTo (idx na) (idx nb) F m 2)).r)
         have hdn : DInv [D2, D1] Va.heap.size X4 := fun D hD => ⟨(hdd D hD).1, hKO.same D _ (hdd D hD).2 rfl⟩
         clear hdd hb14 hb4 b73 bX3 hb13 ho3 hk3 bX hb2 hleX b7 b7l hCe hFc Rz Rt hFz hNz
         gi_wp2_with fail
         refine ⟨trivial, ?_⟩
         gi_at_call 74
         refine (CallsIn.inRound l (callsIn_wide.2 (cmusti_ok _ X4))).mono ?_
         rintro e X5 ⟨rfl, h5⟩
         rw [h5]
         clear h5 X5
         by_cases hlt : back (idx na) (idx nb) (stackN (pick F m 3 i) 3) < (bestIn (idx na) (idx nb) F m 3 i (bestTo (idx na) (idx nb) F m 2)).r
         ·have hz := hcn.2 hlt
          have hst : bestIn (idx na) (idx nb) F m 3 (i + 1) (bestTo (idx na) (idx nb) F m 2) = ⟨back (idx na) (idx nb) (stackN (pick F m 3 i) 3), through (idx na) (idx nb) (stackN (pick F m 3 i) 3), 3, pick F m 3 i⟩ := by
           show bstep _ _ _ _ _ = _
           unfold bstep
           exact if_pos hlt
          have hbn : BV (B7 + 1) X4 #[x0, x1, x2, x3, y0, y1, y2, y3, .slice p 3 c] (bestIn (idx na) (idx nb) F m 3 (i + 1) (bestTo (idx na) (idx nb) F m 2)) := by
           rw [hst]
           exact ⟨⟨_, _, _, _, _, _, _, _, p, c, rfl, Rx, Ry, hFl, hpN⟩⟩
          have hon := hbn.ones
          clear hcn hst hlt hbv
          generalize cmpQ _ _ = zc at *
          gi_wp2_with first | (refine wpListIn_load_box rfl 124 _ rfl BX rfl 124 #[x0, x1, x2, x3, y0, y1, y2, y3] bX4 _ Tryz.underlying124 rfl sizeLight ?_) | (refine wpListIn_build2 rfl 135 _ rfl #[x0, x1, x2, x3, y0, y1, y2, y3, .slice p 3 c] (by as_aux_lemma => kernel_rfl) ?_) | (refine wpListIn_store_box rfl 135 _ _ rfl B7 0 135 _ #[x0, x1, x2, x3, y0, y1, y2, y3, .slice p 3 c] #[x0, x1, x2, x3, y0, y1, y2, y3, .slice p 3 c] rfl rfl b74 sizeBest (Nat.le_of_eq rfl) hon (whole_new rfl) ?_; intro X6 hk6 ho6 b76)
          have hU6 := hk6.below hU (by omega) hU.size
          exact ⟨hKO.trans ho6, hKN.trans (KeepNew.of_keepBut hk6 (by omega)), ⟨hU6, ⟨_, b76, hbn.keep hk6 (by omega) (hk6.ext b74 (by decide))⟩, hk6.box bl bl.lt (Box.ne bl b74 (by decide)), hk6.box bc bc.lt (Box.ne bc b74 (by decide)), h.below (belowCall hB2 hU6), Nat.le_trans hNs hk6.size⟩, fun D hD => ⟨(hdn D hD).1, ho6.same D _ (hdn D hD).2 rfl⟩⟩
         ·have hz : ¬ cmpQ (back (idx na) (idx nb) (stackN (pick F m 3 i) 3)) (bestIn (idx na) (idx nb) F m 3 i (bestTo (idx na) (idx nb) F m 2)).r < 0 := fun e => hlt (hcn.1 e)
          have hst : bestIn (idx na) (idx nb) F m 3 (i + 1) (bestTo (idx na) (idx nb) F m 2) = bestIn (idx na) (idx nb) F m 3 i (bestTo (idx na) (idx nb) F m 2) := by
           show bstep _ _ _ _ _ = _
           unfold bstep
           exact if_neg hlt
          rw [← hst] at hbv
          clear hcn hst hlt
          generalize cmpQ _ _ = zc at *
          gi_wp2
          first
           | exact ⟨hU, ⟨_, b7C, hbv⟩, bl, bc, h.below (belowCall hB2 hU), hNs⟩
           | exact ⟨⟨hU, ⟨_, b7C, hbv⟩, bl, bc, h.below (belowCall hB2 hU), hNs⟩, hdn⟩
           | exact ⟨hKO, hKN, ⟨hU, ⟨_, b7C, hbv⟩, bl, bc, h.below (belowCall hB2 hU), hNs⟩, hdn⟩
        case hdone =>
         rintro D3 V hDs ⟨⟨hU, ⟨CB, b7, hbv⟩, bl, bc, hFc, hNs⟩, hdd0⟩ hDk
         have hdd : ∀ D ∈ ([D3, D2, D1] : List Nat), V.heap[D]? = some (.deferred (some [])) := by
          intro D hD
          rcases List.mem_cons.1 hD with rfl | hD
          ·exact hDk
          ·exact (hdd0 D hD).2
         have hge3 : w.heap.size ≤ D3 := by have := hB2.size; have := hUa.size; omega
         have hlt3 : ∀ D ∈ ([D2, D1] : List Nat), D < D3 := fun D hD => by have := (hdd0 D hD).1; omega
         have hbv' : BV (B7 + 1) V CB (bestTo (idx na) (idx nb) F m 3) := hbv
         clear hbv hdd0 hDk hDs bl bc hFc hNs hbva b7a hUa hFa hNa hW2a hdda
         have hbv := hbv'
         clear hbv'
         go_wp2
         rw [rounds_succ]
         have hwV := belowCall hB2 hU
         have c2 := (p2.below hwV).cell
         have l2 := (p2.below hwV).lt
         have c3 := (p3.below hwV).cell
         have l3 := (p3.below hwV).lt
         obtain rfl : most = 3 := by omega
         have bOV := bO2.below hU
         have hs9 := hbv.size
         have ho9 := hbv.ones
         have hi9 : (Tryz.prog.info? 135).map (·.size) = some CB.size := by rw [hs9]; exact sizeBest
         go_wp2_with first | (refine wpList_load_box rfl 135 (.tmp 7) rfl B7 rfl 135 CB b7 _ Tryz.underlying135 rfl hi9 ?_) | (refine wpList_store_box rfl 135 _ _ rfl BO 0 135 _ CB CB rfl rfl bOV hi9 (Nat.le_of_eq (by rw [hs9]; rfl)) ho9 (whole_new (by rw [hs9]; rfl)) ?_; intro Ve hke be)
         have hBE := hke.below (belowCall hB2 hU) hleO (belowCall hB2 hU).size
         have hbvE := hbv.keep hke (by omega) (hke.ext bOV (by decide))
         have hr3 : Ve.heap[D3]? = some (.deferred (some [])) := (hke.block D3 (lt_of_some (hdd D3 (by simp))) (fun e => by have h1 := hdd D3 (by simp); rw [e, bOV.blk] at h1; cases h1)).trans (hdd D3 (by simp))
         have hr2 : Ve.heap[D2]? = some (.deferred (some [])) := (hke.block D2 (lt_of_some (hdd D2 (by simp))) (fun e => by have h1 := hdd D2 (by simp); rw [e, bOV.blk] at h1; cases h1)).trans (hdd D2 (by simp))
         have hr1 : Ve.heap[D1]? = some (.deferred (some [])) := (hke.block D1 (lt_of_some (hdd D1 (by simp))) (fun e => by have h1 := hdd D1 (by simp); rw [e, bOV.blk] at h1; cases h1)).trans (hdd D1 (by simp))
         refine ⟨by simp, .inl ⟨_, _, rfl, run_takeDeferred hr3, ?_⟩⟩
         have hg2 : ∀ r, some D3 = some r → ∃ o : Obj, (Ve).heap[r]? = some o ∧ o.isCells = false := fun r e => by cases e; exact ⟨_, hr3, rfl⟩
         replace be := be.grown (grownBy_putObj' _ D3 (.deferred none)) hg2
         replace hbvE := hbvE.grown (grownBy_putObj' _ D3 (.deferred none)) hg2
         replace hBE := below_putObj hBE hge3 (.deferred none)
         clear hg2
         replace hr2 : (Ve.putObj D3 (.deferred none)).heap[D2]? = some (.deferred (some [])) := (World.putObj_heap_other (show D2 ≠ D3 by have := hlt3 D2 (by simp); omega)).trans hr2
         replace hr1 : (Ve.putObj D3 (.deferred none)).heap[D1]? = some (.deferred (some [])) := (World.putObj_heap_other (show D1 ≠ D3 by have := hlt3 D1 (by simp); omega)).trans hr1
         refine ⟨by simp, .inl ⟨_, _, rfl, run_takeDeferred hr2, ?_⟩⟩
         have hg2 : ∀ r, some D2 = some r → ∃ o : Obj, ((Ve.putObj D3 (.deferred none))).heap[r]? = some o ∧ o.isCells = false := fun r e => by cases e; exact ⟨_, hr2, rfl⟩
         replace be := be.grown (grownBy_putObj' _ D2 (.deferred none)) hg2
         replace hbvE := hbvE.grown (grownBy_putObj' _ D2 (.deferred none)) hg2
         replace hBE := below_putObj hBE hge2 (.deferred none)
         clear hg2
         replace hr1 : ((Ve.putObj D3 (.deferred none)).putObj D2 (.deferred none)).heap[D1]? = some (.deferred (some [])) := (World.putObj_heap_other (show D1 ≠ D2 by have := hlt2 D1 (by simp); omega)).trans hr1
         refine ⟨by simp, .inl ⟨_, _, rfl, run_takeDeferred hr1, ?_⟩⟩
         have hg2 : ∀ r, some D1 = some r → ∃ o : Obj, (((Ve.putObj D3 (.deferred none)).putObj D2 (.deferred none))).heap[r]? = some o ∧ o.isCells = false := fun r e => by cases e; exact ⟨_, hr1, rfl⟩
         replace be := be.grown (grownBy_putObj' _ D1 (.deferred none)) hg2
         replace hbvE := hbvE.grown (grownBy_putObj' _ D1 (.deferred none)) hg2
         replace hBE := below_putObj hBE hge1 (.deferred none)
         clear hg2
         exact ⟨.agg CB, be.results rfl _ _ rfl Tryz.underlying135 rfl hi9, CB, rfl, hbvE.mono (by omega), hBE⟩
       ·obtain rfl : most = 2 := by omega
        have bOV := bO2.below hU
        have hs9 := hbv.size
        have ho9 := hbv.ones
        have hi9 : (Tryz.prog.info? 135).map (·.size) = some CB.size := by rw [hs9]; exact sizeBest
        go_wp2_with first | (refine wpList_load_box rfl 135 (.tmp 7) rfl B7 rfl 135 CB b7 _ Tryz.underlying135 rfl hi9 ?_) | (refine wpList_store_box rfl 135 _ _ rfl BO 0 135 _ CB CB rfl rfl bOV hi9 (Nat.le_of_eq (by rw [hs9]; rfl)) ho9 (whole_new (by rw [hs9]; rfl)) ?_; intro Ve hke be)
        have hBE := hke.below (belowCall hB2 hU) hleO (belowCall hB2 hU).size
        have hbvE := hbv.keep hke (by omega) (hke.ext bOV (by decide))
        have hr2 : Ve.heap[D2]? = some (.deferred (some [])) := (hke.block D2 (lt_of_some (hdd D2 (by simp))) (fun e => by have h1 := hdd D2 (by simp); rw [e, bOV.blk] at h1; cases h1)).trans (hdd D2 (by simp))
        have hr1 : Ve.heap[D1]? = some (.deferred (some [])) := (hke.block D1 (lt_of_some (hdd D1 (by simp))) (fun e => by have h1 := hdd D1 (by simp); rw [e, bOV.blk] at h1; cases h1)).trans (hdd D1 (by simp))
        refine ⟨by simp, .inl ⟨_, _, rfl, run_takeDeferred hr2, ?_⟩⟩
        have hg2 : ∀ r, some D2 = some r → ∃ o : Obj, (Ve).heap[r]? = some o ∧ o.isCells = false := fun r e => by cases e; exact ⟨_, hr2, rfl⟩
        replace be := be.grown (grownBy_putObj' _ D2 (.deferred none)) hg2
        replace hbvE := hbvE.grown (grownBy_putObj' _ D2 (.deferred none)) hg2
        replace hBE := below_putObj hBE hge2 (.deferred none)
        clear hg2
        replace hr1 : (Ve.putObj D2 (.deferred none)).heap[D1]? = some (.deferred (some [])) := (World.putObj_heap_other (show D1 ≠ D2 by have := hlt2 D1 (by simp); omega)).trans hr1
        refine ⟨by simp, .inl ⟨_, _, rfl, run_takeDeferred hr1, ?_⟩⟩
        have hg2 : ∀ r, some D1 = some r → ∃ o : Obj, ((Ve.putObj D2 (.deferred none))).heap[r]? = some o ∧ o.isCells = false := fun r e => by cases e; exact ⟨_, hr1, rfl⟩
        replace be := be.grown (grownBy_putObj' _ D1 (.deferred none)) hg2
        replace hbvE := hbvE.grown (grownBy_putObj' _ D1 (.deferred none)) hg2
        replace hBE := below_putObj hBE hge1 (.deferred none)
        clear hg2
        exact ⟨.agg CB, be.results rfl _ _ rfl Tryz.underlying135 rfl hi9, CB, rfl, hbvE.mono (by omega), hBE⟩
     ·obtain rfl : most = 1 := by omega
      have bOV := bO2.below hU
      have hs9 := hbv.size
      have ho9 := hbv.ones
      have hi9 : (Tryz.prog.info? 135).map (·.size) = some CB.size := by rw [hs9]; exact sizeBest
      go_wp2_with first | (refine wpList_load_box rfl 135 (.tmp 7) rfl B7 rfl 135 CB b7 _ Tryz.underlying135 rfl hi9 ?_) | (refine wpList_store_box rfl 135 _ _ rfl BO 0 135 _ CB CB rfl rfl bOV hi9 (Nat.le_of_eq (by rw [hs9]; rfl)) ho9 (whole_new (by rw [hs9]; rfl)) ?_; intro Ve hke be)
      have hBE := hke.below (belowCall hB2 hU) hleO (belowCall hB2 hU).size
      have hbvE := hbv.keep hke (by omega) (hke.ext bOV (by decide))
      have hr1 : Ve.heap[D1]? = some (.deferred (some [])) := (hke.block D1 (lt_of_some (hdd D1 (by simp))) (fun e => by have h1 := hdd D1 (by simp); rw [e, bOV.blk] at h1; cases h1)).trans (hdd D1 (by simp))
      refine ⟨by simp, .inl ⟨_, _, rfl, run_takeDeferred hr1, ?_⟩⟩
      have hg2 : ∀ r, some D1 = some r → ∃ o : Obj, (Ve).heap[r]? = some o ∧ o.isCells = false := fun r e => by cases e; exact ⟨_, hr1, rfl⟩
      replace be := be.grown (grownBy_putObj' _ D1 (.deferred none)) hg2
      replace hbvE := hbvE.grown (grownBy_putObj' _ D1 (.deferred none)) hg2
      replace hBE := below_putObj hBE hge1 (.deferred none)
      clear hg2
      exact ⟨.agg CB, be.results rfl _ _ rfl Tryz.underlying135 rfl hi9, CB, rfl, hbvE.mono (by omega), hBE⟩
   ·obtain rfl : most = 0 := by omega
    have bOV := bO2.below hU
    have hs9 := hbv.size
    have ho9 := hbv.ones
    have hi9 : (Tryz.prog.info? 135).map (·.size) = some CB.size := by rw [hs9]; exact sizeBest
    go_wp2_with first | (refine wpList_load_box rfl 135 (.tmp 7) rfl B7 rfl 135 CB b7 _ Tryz.underlying135 rfl hi9 ?_) | (refine wpList_store_box rfl 135 _ _ rfl BO 0 135 _ CB CB rfl rfl bOV hi9 (Nat.le_of_eq (by rw [hs9]; rfl)) ho9 (whole_new (by rw [hs9]; rfl)) ?_; intro Ve hke be)
    have hBE := hke.below (belowCall hB2 hU) hleO (belowCall hB2 hU).size
    have hbvE := hbv.keep hke (by omega) (hke.ext bOV (by decide))
    exact ⟨.agg CB, be.results rfl _ _ rfl Tryz.underlying135 rfl hi9, CB, rfl, hbvE.mono (by omega), hBE⟩
end
theorem surfX_ret (a : Lns) (q : Plc) (k s : Int) (r t : Rat) (w : World)
  (hg : ∀ W Bo Bk Bs, Below w.heap.size w W → Box W Bo 96 (a.ovals q) → Box W Bk 3 #[.int .i64 k] → Box W Bs 3 #[.int .i64 s] → Calls Tryz.prog 132 #[.pointer (some ⟨Bo, 0, none⟩), .pointer (some ⟨Bk, 0, none⟩), .pointer (some ⟨Bs, 0, none⟩)] W fun e w' => ∃ C, e = .returned (.agg C) ∧ LV w' C r t ∧ Below W.heap.size W w') :
  Calls Tryz.prog 56 #[.agg (a.ovals q), .int .i64 k, .int .i64 s] w fun e w' => ∃ C D, e = .returned (.tuple #[.agg C, .agg D, .int .i64 0]) ∧ QV w' (.agg C) r ∧ QV w' (.agg D) t ∧ Below w.heap.size w w' := by
 simp only [Lns.ovals] at hg ⊢
 have hmf : ∀ (fn : Fn) (first cap : Array Value) (w : World), (Instr.makeFunc fn first cap).run Tryz.prog w = .ok (.func fn first cap) w := fun _ _ _ _ => rfl
 go_enter Tryz.func56, Tryz.ntmps56
 go_wp2_with fail
 refine boxes5k fun W hB hs b0 b1 b2 bR bT => ?_
 refine (caughtLi_ret 132 _ enters_surfX1 W (fun C w1 => LV w1 C r t) ?_ ?_).mono ?_
 ·intro C w1 w2 c0 _ hx _ _ h
  exact h.ext hx
 ·intro W2 hW2 hs2
  refine (hg W2 _ _ _ (belowCall hB hW2) (b0.below hW2) (b1.below hW2) (b2.below hW2)).mono ?_
  rintro e w' ⟨C, rfl, hC, hb⟩
  exact ⟨C, rfl, hC.size, hC.ones, hC, hb⟩
 rintro e W3 ⟨C, rfl, hs8, ho, hC, hb3⟩
 replace hB := belowCall hB hb3
 replace bR := bR.below hb3
 replace bT := bT.below hb3
 have hq : (Tryz.prog.info? 124).map (·.size) = some C.size := by rw [hs8]; exact sizeLight
 go_wp2_with first | (refine wpList_new rfl 124 rfl _ alloc_light ?_; intro W4 BL hleL hb4 bL) | (refine wpList_store_box rfl 124 _ _ rfl BL 0 124 _ C C rfl rfl bL hq (Nat.le_of_eq (by rw [hs8]; rfl)) ho (whole_new (by rw [hs8]; rfl)) ?_; intro W5 hk5 bL5)
 have hb35 := hk5.below hb4 hleL hb4.size
 replace hB := belowCall hB hb35
 replace bR := bR.below hb35
 replace bT := bT.below hb35
 replace hC := hC.ext (.of_below hb35)
 have hne : w.heap.size + 1 + 1 + 1 ≠ BL := by have := hb3.size; omega
 have hne2 : w.heap.size + 1 + 1 + 1 + 1 ≠ BL := by have := hb3.size; omega
 obtain ⟨x0, x1, x2, x3, y0, y1, y2, y3, rfl, Rx, Ry⟩ := hC.parts
 obtain ⟨s0, s1, s2, s3⟩ := Rx.ones
 obtain ⟨s4, s5, s6, s7⟩ := Ry.ones
 clear hb35 hk5 hb4 bL hC hq ho hs8
 refine wp_region_held_drew (S := fun w' => Box w' BL 124 #[x0, x1, x2, x3, y0, y1, y2, y3] ∧ Below w.heap.size w w') (by as_aux_lemma => kernel_rfl) ⟨bL5.drew, hB.drew⟩ (fun hHeld => ?_)
 refine tk 0 (some 15) ?_
 refine tl 1 (some 16) rfl (.agg #[x0, x1, x2, x3]) (exec_load 37 _ rfl BL 0 rfl #[x0, x1, x2, x3] (fun w h => h.1.part 0 #[x0, x1, x2, x3] rfl) _ Tryz.underlying37 rfl sizeQuot) ?_
 refine tk 2 (some 17) ?_
 refine tl 3 (some 18) rfl (.agg #[y0, y1, y2, y3]) (exec_load 37 _ rfl BL 4 rfl #[y0, y1, y2, y3] (fun w h => h.1.part 4 #[y0, y1, y2, y3] rfl) _ Tryz.underlying37 rfl sizeQuot) ?_
 refine tk 4 (some 19) ?_
 refine wpAnyH_storeB (w.heap.size + 1 + 1 + 1) 37 5 rfl rfl rfl rfl 0 #[x0, x1, x2, x3] _ #[x0, x1, x2, x3] (by as_aux_lemma => kernel_rfl) (fun w' i u hS => ⟨hS.1.other _ _ (Ne.symm hne), hS.2.setCell (p := ⟨w.heap.size + 1 + 1 + 1, i, none⟩) (by simp; omega) u⟩) rfl rfl bR.drew hHeld sizeQuot (Nat.le_of_eq rfl) (by simp [*]) (whole_new rfl) (fun Ws hk0 bs hHeld => ?_)
 have bT1 := hk0.box bT.drew bT.drew.lt (by omega)
 refine wpAnyH_storeB (w.heap.size + 1 + 1 + 1 + 1) 37 6 rfl rfl rfl rfl 0 #[y0, y1, y2, y3] _ #[y0, y1, y2, y3] (by as_aux_lemma => kernel_rfl) (fun w' i u hS => ⟨hS.1.other _ _ (Ne.symm hne2), hS.2.setCell (p := ⟨w.heap.size + 1 + 1 + 1 + 1, i, none⟩) (by simp; omega) u⟩) rfl rfl bT1 hHeld sizeQuot (Nat.le_of_eq rfl) (by simp [*]) (whole_new rfl) (fun Wt hk1 bt hHeld => ?_)
 have bs1 := hk1.box bs bs.lt (by omega)
 have hx := (hk0.ext bR.drew (by decide)).trans (hk1.ext bT1 (by decide))
 refine tk 7 (some 8) ?_
 refine wpAnyH_done (by as_aux_lemma => kernel_rfl) ?_ _
 go_wp2
 refine bodyPost_ret (bs1.results3c bt rfl _ _ rfl rfl Tryz.underlying37 rfl sizeQuot sizeQuot) rfl ?_
 exact ⟨_, _, rfl, Rx.ext ((Ext.of_below (Below.refl _ _).drew).trans hx), Ry.ext ((Ext.of_below (Below.refl _ _).drew).trans hx), hHeld.2⟩
end Go.Proofs.YtdgodcgdlfjpaaaGreatDoor
