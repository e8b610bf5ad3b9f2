/- Contracts of package coat and of the examples of its law, for the laws of layer 40. Part 39 of 40. No condition beside the row. -/
import Derived.Test.YtdgodcgdlfjpaaaGreatDoorA27
import Derived.Test.YtdgodcgdlfjpaaaGreatDoorA29
import Derived.Test.YtdgodcgdlfjpaaaGreatDoorA35
import Derived.Test.YtdgodcgdlfjpaaaGreatDoorA37
import Derived.Test.YtdgodcgdlfjpaaaGreatDoorA38
set_option linter.unusedVariables false
set_option linter.unusedSimpArgs false
set_option maxRecDepth 100000
set_option maxHeartbeats 4000000
namespace Go.Mono
open Go.Proofs.YtdgodcgdlfjpaaaGreatDoor
def fQ : Flm := ⟨15000000, 1, 1⟩
def fH : Flm := ⟨20000000, 1, 1⟩
def fH2 : Flm := ⟨20000000, 1, 2⟩
def QH (i : Nat) : Flm := if i = 0 then fQ else fH
theorem fH_mat : fH.mat.a = Rat.divInt 0 1 ∧ fH.mat.b = Rat.divInt 1 2 ∧ fH.mat.c = Rat.divInt 2 1 ∧ fH.mat.d = Rat.divInt 0 1 := by decide +kernel
theorem fH2_mat : fH2.mat.a = Rat.divInt 3 5 ∧ fH2.mat.b = Rat.divInt 2 5 ∧ fH2.mat.c = Rat.divInt 8 5 ∧ fH2.mat.d = Rat.divInt 3 5 := by decide +kernel
theorem bare_rt : back (idx 10000000) (idx 15000000) (stackN QH 0) = Rat.divInt 1 25 ∧ through (idx 10000000) (idx 15000000) (stackN QH 0) = Rat.divInt 24 25 := by decide +kernel
theorem quarter_rt : back (idx 10000000) (idx 22500000) (stackN QH 1) = Rat.divInt 0 1 ∧ through (idx 10000000) (idx 22500000) (stackN QH 1) = Rat.divInt 1 1 := by decide +kernel
theorem best_ex : (bestTo (idx 10000000) (idx 22500000) QH 2 2).n = 1 ∧ (bestTo (idx 10000000) (idx 22500000) QH 2 2).G 0 = fQ ∧ (bestTo (idx 10000000) (idx 22500000) QH 2 2).r = Rat.divInt 0 1 := by decide +kernel
theorem QH_ok : ∀ i, (QH i).ok := fun i => by unfold QH; split <;> decide
section
open Go.RowKit
theorem Box.resultsTCT {P : Program} {w : World} {B : Nat} {T : TypeId} {cs : Array Value} (b : Box w B T cs) {fn : Func} {p p1 p2 : Tmp} {ty : TypeId} (h : fn.results = #[.tmp p1, .cell p ty, .tmp p2]) (tmps : Array Value) (d : TypeDesc)
  (ht : tmps.getD p undef = .pointer (some ⟨B, 0, none⟩)) (hu : P.underlying ty = some d) (hd : d.isRow = true) (hi : (P.info? ty).map (·.size) = some cs.size) : (Go.results fn tmps).run P w = .ok (.tuple #[tmps.getD p1 undef, .agg cs, tmps.getD p2 undef]) w := by
 have hp' : tmps[p]?.getD undef = .pointer (some ⟨B, 0, none⟩) := by simpa using ht
 have hld := run_loadVar_row (P := P) w B T ty cs (0, 0) d b.blk hu (by cases d <;> simp_all [TypeDesc.isRow]) hi
 simp [Go.results, h, hp', asAddr, hld]
theorem BV.cells {N : Nat} {w w' : World} {C : Array Value} {b : Bst} (h : BV N w C b) (hx : Ext w w') (hs : w.heap.size ≤ w'.heap.size) (hc : ∀ k o, k < w.heap.size → N ≤ k → w'.cell? ⟨k, o, none⟩ = w.cell? ⟨k, o, none⟩) : BV N w' C b := by
 obtain ⟨a0, a1, a2, a3, b0, b1, b2, b3, p, c, rfl, h1, h2, h3, h4⟩ := h.parts
 refine ⟨⟨_, _, _, _, _, _, _, _, p, c, rfl, h1.ext hx, h2.ext hx, ?_, h4⟩⟩
 obtain ⟨g1, g2, g3⟩ := h3
 refine ⟨g1, g2, fun hn => ?_⟩
 obtain ⟨k, off, hp, hk, hcc⟩ := g3 hn
 refine ⟨k, off, hp, Nat.lt_of_lt_of_le hk hs, fun i j hi hj => ?_⟩
 rw [← hcc i j hi hj]
 exact hc k _ hk (h4 _ hp)
end
end Go.Mono
namespace Go.Proofs.YtdgodcgdlfjpaaaGreatDoor
open Go.RowKit Go.Mono
theorem enters_best1 : ∀ args w, (callFunc 69 args).run Tryz.prog w = .ok (.enter 69 args) w := Go.Proofs.enters_of Tryz.func69 (by kernel_rfl) rfl
theorem best_ok (na nb : Int) (a1 : 10000000 ≤ na) (a2 : na ≤ 40000000) (b1 : 10000000 ≤ nb) (b2 : nb ≤ 40000000) (F : Nat → Flm) (m : Nat) (hm : m ≤ 6) (hF : ∀ i, i < m → (F i).ok) (most : Nat) (hmost : most ≤ 3) (pc : Option Addr) (cc : Nat) (w : World) (h : FilmsAt w pc m cc F) :
  Calls Tryz.prog 18 #[.int .i64 na, .int .i64 nb, .slice pc m cc, .int .i64 (most : Int)] w fun e w' => ∃ p c D, e = .returned (.tuple #[.slice p (bestTo (idx na) (idx nb) F m most).n c, .agg D, .int .i64 0]) ∧ FilmsAt w' p (bestTo (idx na) (idx nb) F m most).n c (bestTo (idx na) (idx nb) F m most).G ∧ QV w' (.agg D) (bestTo (idx na) (idx nb) F m most).r ∧ Below w.heap.size w w' := by
 have hmf : ∀ (fn : Fn) (first cap : Array Value) (w : World), (Instr.makeFunc fn first cap).run Tryz.prog w = .ok (.func fn first cap) w := fun _ _ _ _ => rfl
 have hb1 := fun W (hW : Below w.heap.size w W) P0 P1 P2 P3 p0 p1 p2 p3 => best1_ok na nb a1 a2 b1 b2 F m hm hF most hmost pc cc W (h.below hW) P0 P1 P2 P3 p0 p1 p2 p3
 generalize bestTo (idx na) (idx nb) F m most = B at *
 obtain ⟨br, bt, bn, bG⟩ := B
 dsimp only
 go_enter Tryz.func18, Tryz.ntmps18
 go_wp2_with fail
 refine boxes5k fun W hB hs q0 q1 q2 q3 bR => ?_
 refine (caughtBe_ret 69 _ enters_best1 W (fun C w1 => BV (W.heap.size + 2) w1 C ⟨br, bt, bn, bG⟩) ?_ ?_).mono ?_
 ·intro C w1 w2 c0 _ hx hsz hc hv
  exact hv.cells hx hsz fun k o hk hN => hc k o hk (by omega) (by omega)
 ·intro W2 hW2 hs2
  refine (hb1 W2 (belowCall hB hW2) _ _ _ _ (q0.below hW2) (q1.below hW2) (q3.below hW2) (q2.below hW2)).mono ?_
  rintro e w' ⟨C, rfl, hC, hb⟩
  exact ⟨C, rfl, hC.size, hC.ones, hC.mono hs2, hb⟩
 rintro e W3 ⟨C, rfl, hs9, ho, hC, hb3⟩
 replace hB := belowCall hB hb3
 replace bR := bR.below hb3
 have hq : (Tryz.prog.info? 135).map (·.size) = some C.size := by rw [hs9]; exact sizeBest
 clear hb1 q0 q1 q2 q3
 go_wp2_with first | (refine wpList_new rfl 135 rfl _ alloc_best ?_; intro W4 BL hleL hb4 bL) | (refine wpList_store_box rfl 135 _ _ rfl BL 0 135 _ C C rfl rfl bL hq (Nat.le_of_eq (by rw [hs9]; rfl)) ho (whole_new (by rw [hs9]; rfl)) ?_; intro W5 hk5 bL5)
 have hb35 := hk5.below hb4 hleL hb4.size
 replace hB := belowCall hB hb35
 replace bR := bR.below hb35
 replace hC := hC.below hb35
 have hne : w.heap.size + 1 + 1 + 1 + 1 ≠ BL := by have := hb3.size; omega
 obtain ⟨x0, x1, x2, x3, y0, y1, y2, y3, p, c, rfl, Rx, Ry, hFl, hpN⟩ := hC.parts
 obtain ⟨s0, s1, s2, s3⟩ := Rx.ones
 have hs3 : w.heap.size + 5 ≤ W.heap.size := hs
 clear hb35 hk5 hb4 bL hC hq ho hs9
 dsimp only at *
 refine wp_region_held_drew (S := fun w' => w'.cell? ⟨BL, 8, none⟩ = some (.slice p bn c) ∧ Box w' BL 135 #[x0, x1, x2, x3, y0, y1, y2, y3, .slice p bn c] ∧ Below w.heap.size w w') (by as_aux_lemma => kernel_rfl) ⟨bL5.drew.cell 8, bL5.drew, hB.drew⟩ (fun hHeld => ?_)
 refine tk 0 (some 17) ?_
 refine tk 1 (some 18) ?_
 refine tk 2 (some 19) ?_
 refine tk 3 (some 20) ?_
 refine tl 4 (some 21) rfl (.agg #[x0, x1, x2, x3]) (exec_load 37 _ rfl BL 0 rfl #[x0, x1, x2, x3] (fun w h => h.2.1.part 0 #[x0, x1, x2, x3] rfl) _ Tryz.underlying37 rfl sizeQuot) ?_
 refine tk 5 (some 22) ?_
 refine tk 6 (some 8) ?_
 refine wpAnyH_storeB (w.heap.size + 1 + 1 + 1 + 1) 37 7 rfl rfl rfl rfl 0 #[x0, x1, x2, x3] _ #[x0, x1, x2, x3] (by as_aux_lemma => kernel_rfl) (fun w' i u hS => ⟨(hS.2.1.other _ _ (Ne.symm hne)).cell 8, hS.2.1.other _ _ (Ne.symm hne), hS.2.2.setCell (p := ⟨w.heap.size + 1 + 1 + 1 + 1, i, none⟩) (by simp; omega) u⟩) rfl rfl bR.drew hHeld sizeQuot (Nat.le_of_eq rfl) (by simp [*]) (whole_new rfl) (fun Ws hk0 bs hHeld => ?_)
 refine tk 8 (some 10) ?_
 refine wpAnyH_done (by as_aux_lemma => kernel_rfl) ?_ _
 go_wp2
 refine bodyPost_ret (bs.resultsTCT rfl _ _ rfl Tryz.underlying37 rfl sizeQuot) rfl ?_
 exact ⟨p, c, _, rfl, (hFl.below (Below.refl _ _).drew).keep hk0 (fun a e => by have := hpN a e; omega), Rx.ext ((Ext.of_below (Below.refl _ _).drew).trans (hk0.ext bR.drew (by decide))), hHeld.2.2⟩
theorem film_ex (f : Flm) (hf : f.ok) (w : World) : Calls Tryz.prog 24 #[.agg f.vals] w fun e w' => ∃ C, e = .returned (.tuple #[.agg C, .int .i64 0]) ∧ MV w' C f.mat ∧ Below w.heap.size w w' :=
 filmX_ret f.vals rfl (film_ones f) f.mat w fun W _ => layer_ok f hf W
theorem refl_ex (na nb : Int) (a1 : 10000000 ≤ na) (a2 : na ≤ 40000000) (b1 : 10000000 ≤ nb) (b2 : nb ≤ 40000000) (F : Nat → Flm) (n : Nat) (hn : n ≤ 8) (hF : ∀ i, i < n → (F i).ok) (p : Option Addr) (c : Nat) (w : World) (h : FilmsAt w p n c F) :
  Calls Tryz.prog 15 #[.int .i64 na, .int .i64 nb, .slice p n c] w fun e w' => ∃ C D, e = .returned (.tuple #[.agg C, .agg D, .int .i64 0]) ∧ QV w' (.agg C) (back (idx na) (idx nb) (stackN F n)) ∧ QV w' (.agg D) (through (idx na) (idx nb) (stackN F n)) ∧ Below w.heap.size w w' :=
 reflX_ret na nb p n c _ _ w fun W hW => creflect_films na nb a1 a2 b1 b2 F n hn hF p c W (h.below hW)
theorem surf_ex (q : Plc) (w : World) (h : OptAt w cmL q) :
  Calls Tryz.prog 56 #[.agg (cmL.ovals q), .int .i64 0, .int .i64 0] w fun e w' => ∃ C D, e = .returned (.tuple #[.agg C, .agg D, .int .i64 0]) ∧ QV w' (.agg C) (Rat.divInt 1 1) ∧ QV w' (.agg D) (Rat.divInt 0 1) ∧ Below w.heap.size w w' :=
 surfX_ret cmL q 0 0 _ _ w fun W Bo Bk Bs hW bo bk bs => surfX1_mirror q W (h.below hW) Bo Bk Bs bo bk bs
theorem films_box {W : World} {B : Nat} {T : TypeId} {cs : Array Value} (b : Box W B T cs) (n : Nat) (hn : n ≤ 1000) (F : Nat → Flm) (h : ∀ i j, i < n → j < 3 → cs[i * 3 + j]? = some ((F i).vals.getD j undef)) : FilmsAt W (some ⟨B, 0, none⟩) n n F :=
 ⟨Nat.le_refl _, by omega, fun _ => ⟨B, 0, rfl, b.lt, fun i j hi hj => by rw [b.cell, Nat.zero_add]; exact h i j hi hj⟩⟩
theorem films_nil (W : World) (F : Nat → Flm) (c : Nat) : FilmsAt W none 0 c F := ⟨Nat.zero_le _, by omega, fun h => by omega⟩
theorem eqfilm_b (p q : Option Addr) (n c1 c2 : Nat) (F G : Nat → Flm) (w : World) (h1 : FilmsAt w p n c1 F) (h2 : FilmsAt w q n c2 G) (he : ∀ i, i < n → F i = G i) :
  Calls Tryz.prog 57 #[.slice p n c1, .slice q n c2] w fun e w' => e = .returned (.bool true) ∧ Below w.heap.size w w' := by
 refine (eqfilm_true p q n c1 c2 F G w h1 h2 he).mono ?_
 rintro e w' ⟨rfl, k, rfl⟩
 exact ⟨rfl, below_drewK _ _⟩
end Go.Proofs.YtdgodcgdlfjpaaaGreatDoor
