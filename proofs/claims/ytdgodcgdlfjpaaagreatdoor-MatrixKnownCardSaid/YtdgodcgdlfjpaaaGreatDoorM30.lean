/- The law MatrixKnown: the examples of the ray transfer matrices, afocal lenses, mirrors and the order of errors; its walk by a verified evaluator of the model, and its card. Part 30 of 36. No condition beside the row. -/
import Derived.Laws.EntriesVeiled
import Derived.Test.YtdgodcgdlfjpaaaGreatDoorM23
import Derived.Test.YtdgodcgdlfjpaaaGreatDoorM25
import Derived.Test.YtdgodcgdlfjpaaaGreatDoorM26
import Derived.Test.YtdgodcgdlfjpaaaGreatDoorM27
import Derived.Test.YtdgodcgdlfjpaaaGreatDoorM29
set_option linter.unusedVariables false
set_option linter.unusedSimpArgs false
set_option maxRecDepth 100000
set_option maxHeartbeats 4000000
namespace Go.Proofs.YtdgodcgdlfjpaaaGreatDoor
open Go.RowKit Go.Mono
theorem lens_ok (a : Lns) (ha : a.ok) (q : Plc) (w : World) (h : LnsAt w a q) :
  Calls Tryz.prog 192 #[.agg (a.lvals q)] w fun e w' => e = .returned (.int .i64 0) ∧ Below w.heap.size w w' := by
 have hns := ha.ns
 have hst := ha.st
 obtain ⟨m, hm⟩ : ∃ m, a.ns = m + 1 := ⟨a.ns - 1, by omega⟩
 obtain ⟨k, hk⟩ : ∃ k : Nat, a.st = (k : Int) := ⟨a.st.toNat, by omega⟩
 have hsr := h.surfs
 obtain ⟨b, off, hps, _⟩ := hsr.2.2 (by omega)
 refine lenscheck_ok a.nm a.di a.pu a.st a.pr q.pf q.pw q.ps q.pc a.nf q.cf a.nw q.cw a.ns q.cs 0 q.cc w fun B W hB b0 => ?_
 have hW := h.below hB
 refine valid_ok B W (fun A W' hW' a0 => ?_) (fun A W' hW' a0 => ?_) (fun W' hW' => ?_) (fun W' hW' => ?_) (fun W' hW' => ?_) (fun W' hW' => ?_)
 ·exact valid1_ok A B a.nm W' a0 ((b0.below hW').cell 0) ha.name.1 ha.name.2.1 ha.name.2.2
 ·exact valid2_ok A B a.di a.pu W' a0 ((b0.below hW').cell 1) ((b0.below hW').cell 2) ha.di.1 ha.di.2 ha.pu.1 ha.pu.2
 ·exact fields_ok B a.nm a.di a.pu a.st a.pr q.pf q.pw q.ps q.pc a.nf q.cf a.nw q.cw a.ns q.cs 0 q.cc a.X a.Y W' (b0.below hW') (hW.below hW').fields ha.nf.1 ha.nf.2 _ rfl (fun i hi => ⟨(ha.fr i hi).1, (ha.fr i hi).2⟩) ha.fd
 ·exact waves_ok B a.nm a.di a.pu a.st a.pr q.pf q.pw q.ps q.pc a.nf q.cf a.nw q.cw a.ns q.cs 0 q.cc a.L a.W W' (b0.below hW') (hW.below hW').waves ha.nw.1 ha.nw.2 ha.pr.1 ha.pr.2 ha.wl ha.wm ha.ww
 ·have hr := (hW.below hW').surfs
  have hbx := b0.below hW'
  rw [hps, hm] at hr
  rw [hps, hm, hk] at hbx
  refine lsurfaces_parts B a.nm a.di a.pu a.pr k q.pf q.pw q.pc a.nf q.cf a.nw q.cw m q.cs q.cc b off (fun i => (a.S i).cs (q.cp i) (q.cl i)) (fun _ => rfl) W' hbx hr (by omega) (by omega) (by omega) (fun i hi W2 => scheck_ok (a.S i) (ha.sok i (by omega)) _ _ W2) (fun W2 => ?_) (a.S k).kind rfl ?_
  ·have hi := ha.image
   rw [hm, Nat.add_sub_cancel] at hi
   exact image_ok (a.S m) _ _ W2 hi.1 hi.2.1 hi.2.2.1 hi.2.2.2
  ·have := ha.stop
   rw [hk] at this
   simpa using this
 ·exact configs_ok B a.nm a.di a.pu a.st a.pr q.pf q.pw q.ps q.pc a.nf q.cf a.nw q.cw a.ns q.cs q.cc W' (b0.below hW')
end Go.Proofs.YtdgodcgdlfjpaaaGreatDoor
namespace Go.Mono
open Go.RowKit
section
section
variable {w : World} {T0 T1 T2 : TypeId} {c0 c1 c2 : Array Value}
variable {F : Fence} {n : Nat} {P : Program} {f : FuncId} {args : Array Value} {R : Ending → World → Prop}
theorem boxes2i (h : ∀ W, Below w.heap.size w W → w.heap.size + 2 ≤ W.heap.size → Box W w.heap.size T0 c0 → Box W (w.heap.size + 1) T1 c1 → CallsIn F n P f args W R) : CallsIn F n P f args ((w.alloc (.cells c0 T0)).alloc (.cells c1 T1)) R := by
 refine h _ (((Below.refl _ _).alloc (Nat.le_refl _) _).alloc (by simp) _) (by simp) ((Box.new _ _ _).alloc _) ?_
 have := Box.new (w.alloc (.cells c0 T0)) T1 c1
 rwa [World.size_alloc] at this
variable {c : Code} {Q : Exit → Act → World → Prop} {a : Act}
theorem boxes2w (h : ∀ W, Below w.heap.size w W → w.heap.size + 2 ≤ W.heap.size → Box W w.heap.size T0 c0 → Box W (w.heap.size + 1) T1 c1 → c.wpIn F n P Q a W) : c.wpIn F n P Q a ((w.alloc (.cells c0 T0)).alloc (.cells c1 T1)) := by
 refine h _ (((Below.refl _ _).alloc (Nat.le_refl _) _).alloc (by simp) _) (by simp) ((Box.new _ _ _).alloc _) ?_
 have := Box.new (w.alloc (.cells c0 T0)) T1 c1
 rwa [World.size_alloc] at this
end
end
end Go.Mono
namespace Go.Proofs.YtdgodcgdlfjpaaaGreatDoor
open Go.RowKit Go.Mono
section
attribute [local go_sem] Oper.semAt_some
theorem spaceKind_three (a : Lns) (i : Nat) : (spaceKind a i = 2 ∧ a.through i) ∨ (spaceKind a i = 0 ∧ ¬ a.through i ∧ (a.S i).glass = { data := #[] }) ∨ spaceKind a i = 1 := by
 by_cases h1 : a.through i
 ·exact .inl ⟨by unfold spaceKind; unfold Lns.through at h1; rw [if_pos h1], h1⟩
 ·by_cases h2 : (a.S i).glass = { data := #[] }
  ·exact .inr (.inl ⟨by unfold spaceKind; unfold Lns.through at h1; rw [if_neg h1, if_pos h2], h1, h2⟩)
  ·exact .inr (.inr (by unfold spaceKind; unfold Lns.through at h1; rw [if_neg h1, if_neg h2]))
theorem below_drewK (w : World) (k : Nat) : Below w.heap.size w (w.drewN k) := below_drewN (Below.refl _ _) k
theorem eqint_true (p q : Option Addr) (n c1 c2 : Nat) (f g : Nat → Int) (w : World) (h1 : RdF w p n c1 f) (h2 : RdF w q n c2 g) (he : ∀ i, i < n → f i = g i) :
  Calls Tryz.prog 155 #[.slice p n c1, .slice q n c2] w fun e w' => e = .returned (.bool true) ∧ Below w.heap.size w w' := by
 refine (eqint_rd p q n n c1 c2 f g w h1 h2).mono ?_
 rintro e w' ⟨r, rfl, hr, k, rfl⟩
 obtain rfl : r = true := hr.2 ⟨rfl, he⟩
 exact ⟨rfl, below_drewK _ _⟩
theorem ocheck_wide (a : Lns) (ha : a.opt) (q : Plc) (w : World) (h : OptAt w a q)
  (hair : ∀ M W, W.cell? ⟨M, 6, none⟩ = some (.slice q.pw a.nw q.cw) → Calls Tryz.prog 193 #[.pointer (some ⟨M, 0, none⟩)] W fun e w' => ∃ p' c', e = .returned (.slice p' a.nw c') ∧ RdF w' p' a.nw c' (fun _ => 10000000) ∧ Below W.heap.size W w') :
  CallsIn Fence.wide 6 Tryz.prog 133 #[.agg (a.ovals q)] w fun e w' => e = .returned (.int .i64 0) ∧ Below w.heap.size w w' := by
 have hro : Fence.wide.round = none := rfl
 have hmf : ∀ (fn : Fn) (first cap : Array Value) (w : World), (Instr.makeFunc fn first cap).run Tryz.prog w = .ok (.func fn first cap) w := fun _ _ _ _ => rfl
 have hlens := fun W (hW : Below w.heap.size w W) => lens_ok a ha.base q W (h.toLnsAt.below hW)
 simp only [Lns.lvals] at hlens
 simp only [Lns.ovals]
 refine callsIn_of_wp_marks Tryz.func133 rfl trivial ?_ hro
 simp only [Tryz.ntmps133, List.size_toArray, List.length_cons, List.length_nil, Nat.reduceAdd, Nat.reduceSub, Array.replicate_succ, Array.replicate_zero, List.push_toArray, List.append_toArray, List.nil_append, List.cons_append]
 gi_wp2_with fail
 refine ⟨trivial, boxes2i fun W hB hs bO bR => ?_⟩
 refine (callsIn_wide.2 (hlens W hB)).mono ?_
 rintro e W1 ⟨rfl, hb⟩
 have hB1 := belowCall hB hb
 replace bO := bO.below hb
 replace bR := bR.below hb
 have cO := bO.cell
 have lO := bO.lt
 gi_wp2_with fail
 refine ⟨trivial, boxes2i fun W2 hB2 hs2 bM bP => ?_⟩
 refine (callsIn_wide.2 (hair _ W2 (bM.cell 6))).mono ?_
 rintro e W3 ⟨p3, c3, rfl, r3, hb3⟩
 have hB3 := belowCall hB1 (belowCall hB2 hb3)
 replace bO := (bO.below hB2).below hb3
 replace bR := (bR.below hB2).below hb3
 replace bM := bM.below hb3
 replace bP := bP.below hb3
 have cP := bP.cell
 have lP := bP.lt
 have lM := bM.lt
 clear cO lO
 gi_wp2_with fail
 refine boxes2w fun W4 hB4 hs4 bA bF => ?_
 have hW3 : Below W3.heap.size W3 W4 := hB4
 have hns := ha.base.ns
 obtain ⟨bx, offx, hpi, hbx, hix⟩ := h.index.2.2 (by omega)
 rw [hpi] at bO
 have hair' := hair W1.heap.size
 clear hair hlens cP hB hs hB2 hs2 hb hb3 hB4
 refine wpIn_range_all hro (by omega) (gf := 195) (fi := #[.pointer (some ⟨W1.heap.size, 0, none⟩)]) (lb := #[]) rfl trivial (Go.Proofs.enters_of Tryz.func195 (by kernel_rfl) rfl)
  (spaces_all Fence.wide 5 trivial rfl (by omega) a ⟨by omega, by omega⟩ q W1.heap.size) (fun i => rfl)
  (fun i V => ∃ pA cA, Box V W3.heap.size 33 #[.slice pA a.nw cA] ∧ RdF W3 pA a.nw cA (a.ahead i) ∧ Below W3.heap.size W3 V ∧ Box V (W3.heap.size + 1) 129 #[.func (.func 194) #[] #[]])
  ?hI ?hK ?hIB ?h0 ?hround ?hdone
 case hI =>
  rintro i V V' row ⟨pA, cA, b1, r1, hV, b2⟩ hg hr
  exact ⟨pA, cA, b1.grown hg fun r e => (hr r e).2, r1, hV.grown hg hV.size (fun k e => by have := (hr k e).1; omega), b2.grown hg fun r e => (hr r e).2⟩
 case hK =>
  rintro i V ⟨pA, cA, b1, r1, hV, b2⟩
  exact ⟨(bM.below hV).cell 7, h.surfs.below (belowCall hB3 hV)⟩
 case hIB =>
  rintro i V V' ⟨pA, cA, b1, r1, hV, b2⟩ hb
  exact ⟨pA, cA, b1.below hb, r1, belowCall hV hb, b2.below hb⟩
 case h0 =>
  have e0 : a.ahead 0 = fun _ => 10000000 := by funext j; simp [Lns.ahead]
  exact ⟨p3, c3, bA, by rw [e0]; exact r3, hW3, bF⟩
 case hround =>
  rintro l i V ⟨pA, cA, b1, r1, hV, b2⟩ hi hl hV4
  gi_wp2
  refine ⟨KeepsOthers.alloc _ _, fun V2 hg o ho hoc => ?_⟩
  have bS := Box.new V 234 #[.int .i64 (i : Int), .int .i64 (spaceKind a i)]
  have hw3 : W3.heap.size ≤ V.heap.size := hV.size
  have gr : ∀ r, some l = some r → ∃ o : Obj, (V.alloc (Obj.cells #[.int .i64 (i : Int), .int .i64 (spaceKind a i)] 234)).heap[r]? = some o ∧ o.isCells = false := fun r e => by cases e; exact ⟨o, ho, hoc⟩
  replace bS := bS.grown hg gr
  replace b1 := (b1.alloc (.cells #[.int .i64 (i : Int), .int .i64 (spaceKind a i)] 234)).grown hg gr
  replace b2 := (b2.alloc (.cells #[.int .i64 (i : Int), .int .i64 (spaceKind a i)] 234)).grown hg gr
  have hV2 : Below W3.heap.size W3 V2 := (belowAlloc hV (.cells #[.int .i64 (i : Int), .int .i64 (spaceKind a i)] 234)).grown hg (Nat.le_trans hw3 (by simp)) (fun k e => by cases e; omega)
  clear hg ho hoc gr hV
  have hwV := belowCall hB3 hV2
  have cO := (bO.below hV2).cell
  have lO := (bO.below hV2).lt
  have cM := (bM.below hV2).cell
  have lMM := (bM.below hV2).lt
  have cP := (bP.below hV2).cell
  have lPP := (bP.below hV2).lt
  have c1 := b1.cell
  have l1 := b1.lt
  have f1 := b1.frozen
  have c2 := b2.cell
  have l2 := b2.lt
  have ci := (hwV.cell (p := ⟨bx, offx + i * 1 + 0, none⟩) hbx).trans (hix i 0 hi (by omega))
  simp only [Nat.mul_one, Nat.add_zero] at ci
  have hi' : (i : Int) < a.ns := by omega
  have rI := (h.row i hi).below hwV
  have rA := r1.below hV2
  have hev := every_ok a.nw (q.pI i) (q.cI i) (a.ix i) V2 rI (fun j hj => ha.ir i j hi hj)
  have rI3 := (h.row i hi).below hB3
  have hnext : a.ix i = a.ahead (i + 1) := by funext j; simp [Lns.ahead]
  rcases spaceKind_three a i with ⟨e, ht⟩ | ⟨e, ht, hg⟩ | e
  ·have heq := eqint_true (q.pI i) pA a.nw (q.cI i) cA (a.ix i) (a.ahead i) V2 rI rA (fun j hj => ha.it i j hi ht hj)
   rw [e] at bS
   have cS := bS.cell
   have lS := bS.lt
   gi_wp2_with first | (refine ⟨trivial, ?_⟩; gi_at_call 196; refine (CallsIn.inRound l (callsIn_wide.2 hev)).mono ?_; rintro e w5 ⟨rfl, h5⟩; rw [h5]; clear h5 w5 hev) | (refine ⟨trivial, ?_⟩; gi_at_call 155; refine (CallsIn.inRound l (callsIn_wide.2 heq)).mono ?_; rintro e w5 ⟨rfl, hb⟩; clear heq; have b15 := b1.below hb; have c15 := b15.cell; have l15 := b15.lt; have f15 := b15.frozen; have bS5 := bS.below hb; have cS5 := bS5.cell; have lS5 := bS5.lt)
   refine ⟨trivial, ?_⟩
   gi_wp2_with first | (refine ⟨trivial, ?_⟩; gi_at_call 196; refine (CallsIn.inRound l (callsIn_wide.2 hev)).mono ?_; rintro e w5 ⟨rfl, h5⟩; rw [h5]; clear h5 w5 hev) | (refine ⟨trivial, ?_⟩; gi_at_call 155; refine (CallsIn.inRound l (callsIn_wide.2 heq)).mono ?_; rintro e w5 ⟨rfl, hb⟩; clear heq; have b15 := b1.below hb; have c15 := b15.cell; have l15 := b15.lt; have f15 := b15.frozen; have bS5 := bS.below hb; have cS5 := bS5.cell; have lS5 := bS5.lt)
   refine ⟨trivial, ?_⟩
   gi_wp2_with first | (refine ⟨trivial, ?_⟩; gi_at_call 196; refine (CallsIn.inRound l (callsIn_wide.2 hev)).mono ?_; rintro e w5 ⟨rfl, h5⟩; rw [h5]; clear h5 w5 hev) | (refine ⟨trivial, ?_⟩; gi_at_call 155; refine (CallsIn.inRound l (callsIn_wide.2 heq)).mono ?_; rintro e w5 ⟨rfl, hb⟩; clear heq; have b15 := b1.below hb; have c15 := b15.cell; have l15 := b15.lt; have f15 := b15.frozen; have bS5 := bS.below hb; have cS5 := bS5.cell; have lS5 := bS5.lt)
   refine ⟨(keepsOthers_of_below hb).trans (KeepsOthers.setCell _ _ _), q.pI i, q.cI i, b15.set 0 _, by rw [← hnext]; exact rI3, (belowCall hV2 hb).setCell (p := ⟨W3.heap.size, 0, none⟩) (Nat.le_refl _) _, (b2.below hb).other _ _ (by simp)⟩
  ·rw [e] at bS
   have cS := bS.cell
   have lS := bS.lt
   gi_wp2_with first | (refine ⟨trivial, ?_⟩; gi_at_call 196; refine (CallsIn.inRound l (callsIn_wide.2 hev)).mono ?_; rintro e w5 ⟨rfl, h5⟩; rw [h5]; clear h5 w5 hev) | (refine ⟨trivial, ?_⟩; gi_at_call 193; refine (CallsIn.inRound l (callsIn_wide.2 (hair' V2 (cM 6)))).mono ?_; rintro e w6 ⟨p6, c6, rfl, r6, hb6⟩; clear hair') | (refine ⟨trivial, ?_⟩; gi_at_call 155; refine (CallsIn.inRound l (callsIn_wide.2 (eqint_true (q.pI i) p6 a.nw (q.cI i) c6 (a.ix i) (fun _ => 10000000) w6 (rI.below hb6) r6 (fun j hj => ha.ia i j hi ht hg hj)))).mono ?_; rintro e w5 ⟨rfl, hb7⟩; have hb := belowCall hb6 hb7; have b15 := b1.below hb; have c15 := b15.cell; have l15 := b15.lt; have f15 := b15.frozen; have bS5 := bS.below hb; have cS5 := bS5.cell; have lS5 := bS5.lt)
   refine ⟨trivial, ?_⟩
   gi_wp2_with first | (refine ⟨trivial, ?_⟩; gi_at_call 196; refine (CallsIn.inRound l (callsIn_wide.2 hev)).mono ?_; rintro e w5 ⟨rfl, h5⟩; rw [h5]; clear h5 w5 hev) | (refine ⟨trivial, ?_⟩; gi_at_call 193; refine (CallsIn.inRound l (callsIn_wide.2 (hair' V2 (cM 6)))).mono ?_; rintro e w6 ⟨p6, c6, rfl, r6, hb6⟩; clear hair') | (refine ⟨trivial, ?_⟩; gi_at_call 155; refine (CallsIn.inRound l (callsIn_wide.2 (eqint_true (q.pI i) p6 a.nw (q.cI i) c6 (a.ix i) (fun _ => 10000000) w6 (rI.below hb6) r6 (fun j hj => ha.ia i j hi ht hg hj)))).mono ?_; rintro e w5 ⟨rfl, hb7⟩; have hb := belowCall hb6 hb7; have b15 := b1.below hb; have c15 := b15.cell; have l15 := b15.lt; have f15 := b15.frozen; have bS5 := bS.below hb; have cS5 := bS5.cell; have lS5 := bS5.lt)
   refine ⟨(keepsOthers_of_below hb).trans (KeepsOthers.setCell _ _ _), q.pI i, q.cI i, b15.set 0 _, by rw [← hnext]; exact rI3, (belowCall hV2 hb).setCell (p := ⟨W3.heap.size, 0, none⟩) (Nat.le_refl _) _, (b2.below hb).other _ _ (by simp)⟩
  ·rw [e] at bS
   have cS := bS.cell
   have lS := bS.lt
   gi_wp2_with (refine ⟨trivial, ?_⟩; gi_at_call 196; refine (CallsIn.inRound l (callsIn_wide.2 hev)).mono ?_; rintro e w5 ⟨rfl, h5⟩; rw [h5]; clear h5 w5 hev)
   refine ⟨trivial, ?_⟩
   gi_wp2_with (refine ⟨trivial, ?_⟩; gi_at_call 196; refine (CallsIn.inRound l (callsIn_wide.2 hev)).mono ?_; rintro e w5 ⟨rfl, h5⟩; rw [h5]; clear h5 w5 hev)
   refine ⟨trivial, ?_⟩
   gi_wp2_with (refine ⟨trivial, ?_⟩; gi_at_call 196; refine (CallsIn.inRound l (callsIn_wide.2 hev)).mono ?_; rintro e w5 ⟨rfl, h5⟩; rw [h5]; clear h5 w5 hev)
   refine ⟨trivial, ?_⟩
   gi_wp2_with (refine ⟨trivial, ?_⟩; gi_at_call 196; refine (CallsIn.inRound l (callsIn_wide.2 hev)).mono ?_; rintro e w5 ⟨rfl, h5⟩; rw [h5]; clear h5 w5 hev)
   refine ⟨KeepsOthers.setCell _ _ _, q.pI i, q.cI i, b1.set 0 _, by rw [← hnext]; exact rI3, hV2.setCell (p := ⟨W3.heap.size, 0, none⟩) (Nat.le_refl _) _, b2.other _ _ (by simp)⟩
 case hdone =>
  rintro D V hD ⟨pA, cA, b1, r1, hV, b2⟩ hD2
  have cR := (bR.below hV).cell
  have lR := (bR.below hV).lt
  have fR := (bR.below hV).frozen
  gi_wp2
  have bR2 := (bR.below hV).set 0 (.int .i64 0)
  have hK' := (KeepsOthers.setCell V ⟨w.heap.size + 1, 0, none⟩ (.int .i64 0)).same D _ hD2 rfl
  refine ⟨by simp, .inl ⟨_, _, rfl, run_takeDeferred hK', ?_⟩⟩
  have bR3 := bR2.grown (grownBy_putObj' _ D (.deferred none)) (fun r e => by cases e; exact ⟨_, hK', rfl⟩)
  have cR3 := bR3.cell 0
  have hBD := belowCall hB3 hV
  have hDD : w.heap.size ≤ D := by have := hB3.size; omega
  refine ⟨.int .i64 0, ?_, rfl, below_putObj (hBD.setCell (p := ⟨w.heap.size + 1, 0, none⟩) (by simp) _) hDD _⟩
  simp [results, Tryz.f133, go_sem, cR3]
theorem ocheck_of (a : Lns) (ha : a.opt) (q : Plc) (w : World) (h : OptAt w a q)
  (hair : ∀ M W, W.cell? ⟨M, 6, none⟩ = some (.slice q.pw a.nw q.cw) → Calls Tryz.prog 193 #[.pointer (some ⟨M, 0, none⟩)] W fun e w' => ∃ p' c', e = .returned (.slice p' a.nw c') ∧ RdF w' p' a.nw c' (fun _ => 10000000) ∧ Below W.heap.size W w') :
  Calls Tryz.prog 133 #[.agg (a.ovals q)] w fun e w' => e = .returned (.int .i64 0) ∧ Below w.heap.size w w' :=
 (callsIn_wide (n := 6)).1 (ocheck_wide a ha q w h hair)
theorem ocheck1 (a : Lns) (ha : a.opt) (h1 : a.nw = 1) (q : Plc) (w : World) (h : OptAt w a q) :
  Calls Tryz.prog 133 #[.agg (a.ovals q)] w fun e w' => e = .returned (.int .i64 0) ∧ Below w.heap.size w w' :=
 ocheck_of a ha q w h fun M W hw => by
  rw [h1] at hw ⊢
  exact air1_ok M q.pw q.cw W hw
end
end Go.Proofs.YtdgodcgdlfjpaaaGreatDoor
