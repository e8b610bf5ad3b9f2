/- The law CoatJoins: two films of one index are one, and films of the outer indices change nothing: its walk and its card. Part 2 of 9. No condition beside the row. -/
import Derived.Test.YtdgodcgdlfjpaaaGreatDoorA02
import Derived.Test.YtdgodcgdlfjpaaaGreatDoorA03
import Derived.Test.YtdgodcgdlfjpaaaGreatDoorA11
import Derived.Test.YtdgodcgdlfjpaaaGreatDoorA26
set_option linter.unusedVariables false
set_option linter.unusedSimpArgs false
namespace Go.Mono
open Go.RowKit
section
variable {P : Program} {ops : Array Oper} {Q : Exit → Act → World → Prop} {md : Region.Mode} {S : World → Prop}
/-- three operations may come up -/
theorem fork3 (i j k : Nat) {oi oj ok : Oper} {fuel : Nat} {listed : Array Bool} {a : Act} {w : World}
  (h1 : ∀ K' : Act → World → Prop, Shut (∀ a w, S w → (S w → wpAnyH P md ops Q S fuel (listed.setIfInBounds i true) a w) → K' a w) → if Region.wanted oi (yielded ops a.tmps) = true then Oper.wp P oi a w K' Q else K' (a.put oi.dst undef) w)
  (h2 : ∀ K' : Act → World → Prop, Shut (∀ a w, S w → (S w → wpAnyH P md ops Q S fuel (listed.setIfInBounds j true) a w) → K' a w) → if Region.wanted oj (yielded ops a.tmps) = true then Oper.wp P oj a w K' Q else K' (a.put oj.dst undef) w)
  (h3 : ∀ K' : Act → World → Prop, Shut (∀ a w, S w → (S w → wpAnyH P md ops Q S fuel (listed.setIfInBounds k true) a w) → K' a w) → if Region.wanted ok (yielded ops a.tmps) = true then Oper.wp P ok a w K' Q else K' (a.put ok.dst undef) w)
  (ho1 : ops[i]? = some oi := by rfl) (ho2 : ops[j]? = some oj := by rfl) (ho3 : ops[k]? = some ok := by rfl) (hr : Region.ready md ops listed = [i, j, k] := by as_aux_lemma => kernel_rfl) : wpAnyH P md ops Q S (fuel + 1) listed a w :=
 wpAnyH_ready hr (by simp) (AllReadyH.cons ho1 h1 (AllReadyH.cons ho2 h2 (AllReadyH.cons ho3 h3 AllReadyH.nil)))
/-- the ways of a drawn region come together again: what stands behind is shown once -/
theorem join_at {α : Type} {fuel fuel' : Nat} {listed listed' : Array Bool} {a : Act} {w : World} (puts : α → Act → Act) (wd : α → World) (G : α → Prop)
  (h1 : ∀ x, G x → wpAnyH P md ops Q S fuel' listed' (puts x a) (wd x))
  (h2 : Hid (∀ x, G x → wpAnyH P md ops Q S fuel' listed' (puts x a) (wd x)) → wpAnyH P md ops Q S fuel listed a w) : wpAnyH P md ops Q S fuel listed a w := h2 h1
/-- one way comes to where they meet -/
theorem meet {fuel : Nat} {listed listed' : Array Bool} {a a' : Act} {w : World} (h : wpAnyH P md ops Q S fuel listed' a' w) (hl : listed = listed' := by rfl)
  (ha : a = a' := by (simp only [Act.put, List.setIfInBounds_toArray, List.set_cons_zero, List.set_cons_succ]; try rfl)) : wpAnyH P md ops Q S fuel listed a w := by
 subst ha; subst hl
 exact h
/-- a struct is stored into a box, the only operation that may come up -/
theorem sto (i : Nat) {o : Oper} {fuel : Nat} {listed : Array Bool} {a : Act} {w : World} (ty : TypeId) (x y : Operand) (B off : Nat) (T : TypeId) (old cells new : Array Value)
  (ho : ops[i]? = some o) (hop : o.op = .store ty x y) (hx : a.eval x = .pointer (some ⟨B, off, none⟩)) (hy : a.eval y = .agg cells)
  (hb : Box w B T old) (hi : (P.info? ty).map (·.size) = some cells.size) (hold : off + cells.size ≤ old.size) (h1 : cells.all (·.oneCell') = true)
  (hn : old.toList.take off ++ cells.toList ++ old.toList.drop (off + cells.size) = new.toList)
  (h : ∀ W, KeepBut B w.heap.size w W → Box W B T new → S W ∧ wpAnyH P md ops Q S fuel (listed.setIfInBounds i true) (a.put o.dst undef) W)
  (hr : Region.ready md ops listed = [i] := by as_aux_lemma => kernel_rfl) (hw : Region.wanted o (yielded ops a.tmps) = true := by as_aux_lemma => kernel_rfl) : wpAnyH P md ops Q S (fuel + 1) listed a w := by
 refine st i (fun K hK => ?_) ho hr
 rw [if_pos hw]
 have hz := h _ ((KeepBut.refl _ _).setCells cells.toList off _) (by
  have := Box.setCells cells.toList off w old hb (by simpa using hold)
  simpa [hn] using this)
 exact wp_store_mid ty x y hop B off cells hx hy (hb.there off cells.size hold) hi h1 (hK.out _ _ hz.1 fun _ => hz.2)
end
end Go.Mono
namespace Go.Proofs.YtdgodcgdlfjpaaaGreatDoor
open Go.RowKit Go.Mono
theorem madeI_ok (n : Int) (w : World) : Calls Tryz.prog 97 #[.int .i64 n, .int .i64 0] w fun e w' => e = .returned (.tuple #[.int .i64 n, .int .i64 0]) ∧ Below w.heap.size w w' := by
 go_enter Tryz.func97, Tryz.ntmps97
 go_wp2
 go_ret2
 exact ⟨rfl, Below.refl _ _⟩
set_option maxRecDepth 100000 in
theorem qsign_ok (a : Rat) (C : Array Value) (w : World) (h : QV w (.agg C) a) :
  Calls Tryz.prog 36 #[.agg C] w fun e w' => e = .returned (.tuple #[.int .i64 a.num.sign, .int .i64 0]) ∧ Below w.heap.size w w' := by
 have h' := h
 obtain ⟨p1, k1, c1, q1, l1, d1, eA, x1, x2⟩ := h
 cases eA
 have g1 := Sg.self a.num
 obtain ⟨zz, hzz⟩ : ∃ zz, a.num.sign = zz := ⟨_, rfl⟩
 rw [hzz]
 replace hzz := Lib.hid hzz
 generalize decide (a.num < 0) = sa at *
 go_enter Tryz.func36, Tryz.ntmps36
 go_wp2_with fail
 refine boxes1 (T0 := 37) fun W hB hs b0 => ?_
 refine wp_region_held_drew (S := fun w' => Below W.heap.size W w') (by as_aux_lemma => kernel_rfl) ((Below.refl _ _).drew) (fun hHeld => ?_)
 generalize W.drew = X0 at *
 refine tlf 0 (some 4) rfl (.agg #[.bool sa, .slice p1 k1 c1, .bool false, .slice q1 l1 d1]) (exec_load 37 _ rfl w.heap.size 0 (by as_aux_lemma => kernel_rfl) #[.bool sa, .slice p1 k1 c1, .bool false, .slice q1 l1 d1] (fun w h => (b0.below h).range) _ Tryz.underlying37 rfl sizeQuot) ?_
 refine tlf 4 (some 8) rfl (.agg #[.bool sa, .slice p1 k1 c1, .bool false, .slice q1 l1 d1]) (exec_load 37 _ rfl w.heap.size 0 (by as_aux_lemma => kernel_rfl) #[.bool sa, .slice p1 k1 c1, .bool false, .slice q1 l1 d1] (fun w h => (b0.below h).range) _ Tryz.underlying37 rfl sizeQuot) ?_
 refine Mono.stc 1 (some 5) (read_any sa false p1 q1 k1 c1 l1 d1 _) (fun e X1 hR => ?_)
 obtain ⟨rfl, hb1⟩ := hR
 refine ⟨(belowCall hHeld hb1), fun hHeld => Mono.pt ?_⟩
 have hX1 := hHeld
 refine tlf 2 (some 6) rfl (.agg #[.bool sa, .slice p1 k1 c1]) (fun w _ => by as_aux_lemma => kernel_rfl) ?_
 refine Mono.stc 3 (some 7) (wsign_ok sa 600 p1 k1 c1 a.num X1 ((x1.ext (.of_below hB)).ext (.of_below hX1)) g1) (fun e X2 hR => ?_)
 obtain ⟨rfl, hb2⟩ := hR
 refine ⟨(belowCall hHeld hb2), fun hHeld => Mono.pt ?_⟩
 rw [hzz.out]
 have hX2 := hHeld
 refine Mono.stc 5 (some 9) (qcheck_ok _ a X2 X2 (Ext.refl _) ((h'.ext (.of_below hB)).ext (.of_below hX2))) (fun e X3 hR => ?_)
 obtain ⟨rfl, hb3⟩ := hR
 refine ⟨(belowCall hHeld hb3), fun hHeld => Mono.pt ?_⟩
 refine Mono.stc 6 (some 10) (madeI_ok zz _) (fun e X4 hR => ?_)
 obtain ⟨rfl, hb4⟩ := hR
 refine ⟨(belowCall hHeld hb4), fun hHeld => Mono.pt ?_⟩
 refine tkf 7 (some 11) ?_
 refine tkf 8 (some 12) ?_
 refine tkf 9 (some 2) ?_
 refine tkf 10 (some 3) ?_
 refine wpAnyH_done (by as_aux_lemma => kernel_rfl) ?_ _
 go_wp2
 go_ret2
 exact ⟨rfl, belowCall hB hHeld⟩
end Go.Proofs.YtdgodcgdlfjpaaaGreatDoor
namespace Go.Mono
open Go.RowKit
section
variable {P : Program} {ops : Array Oper} {rest : List Oper} {o1 o2 o3 o4 : Oper} {a : Act} {w : World} {Q : Exit → Act → World → Prop}
/-- a variable is made and set -/
theorem wpList_put1 (T : TypeId) (d : Tmp) (y : Operand) (C zs : Array Value) (g1 : o1.guard = none) (h1 : o1.op = .alloc T) (e1 : o1.dst = some d) (g2 : o2.guard = none) (h2 : o2.op = .store T (.tmp d) y) (e2 : o2.dst = none)
  (hrun : ∀ w, (Instr.alloc T true (.tuple #[])).run P w = .ok (.pointer (some ⟨w.heap.size, 0, none⟩)) (w.alloc (.cells zs T)))
  (hx : ∀ p, (a.put (some d) p).eval (.tmp d) = p) (hy : ∀ p, (a.put (some d) p).eval y = .agg C) (hi : (P.info? T).map (·.size) = some C.size) (hs : zs.size = C.size) (ho : C.all (·.oneCell') = true)
  (h : ∀ W B, w.heap.size ≤ B → Below w.heap.size w W → Box W B T C → wpList P ops Q rest (a.put (some d) (.pointer (some ⟨B, 0, none⟩))) W) : wpList P ops Q (o1 :: o2 :: rest) a w := by
 refine wpList_new g1 T h1 zs hrun ?_
 intro W1 B hle hb b1
 rw [e1]
 refine wpList_store_box g2 T (.tmp d) y h2 B 0 T zs C C (hx _) (hy _) b1 hi (by rw [Nat.zero_add]; exact Nat.le_of_eq hs.symm) ho (whole_new hs) ?_
 intro W2 hk b2
 rw [e2]
 exact h W2 B hle (hk.below hb hle hb.size) b2
/-- two variables are made, then set -/
theorem wpList_put2 (T : TypeId) (d d' : Tmp) (y y' : Operand) (C C' zs : Array Value) (g1 : o1.guard = none) (h1 : o1.op = .alloc T) (e1 : o1.dst = some d) (g2 : o2.guard = none) (h2 : o2.op = .alloc T) (e2 : o2.dst = some d')
  (g3 : o3.guard = none) (h3 : o3.op = .store T (.tmp d) y) (e3 : o3.dst = none) (g4 : o4.guard = none) (h4 : o4.op = .store T (.tmp d') y') (e4 : o4.dst = none)
  (hrun : ∀ w, (Instr.alloc T true (.tuple #[])).run P w = .ok (.pointer (some ⟨w.heap.size, 0, none⟩)) (w.alloc (.cells zs T)))
  (hx : ∀ p p', ((a.put (some d) p).put (some d') p').eval (.tmp d) = p) (hx' : ∀ p p', ((a.put (some d) p).put (some d') p').eval (.tmp d') = p') (hy : ∀ p p', ((a.put (some d) p).put (some d') p').eval y = .agg C) (hy' : ∀ p p', ((a.put (some d) p).put (some d') p').eval y' = .agg C')
  (hi : (P.info? T).map (·.size) = some zs.size) (hs : zs.size = C.size) (hs' : zs.size = C'.size) (ho : C.all (·.oneCell') = true) (ho' : C'.all (·.oneCell') = true)
  (h : ∀ W B B', w.heap.size ≤ B → w.heap.size ≤ B' → B ≠ B' → Below w.heap.size w W → Box W B T C → Box W B' T C' → wpList P ops Q rest ((a.put (some d) (.pointer (some ⟨B, 0, none⟩))).put (some d') (.pointer (some ⟨B', 0, none⟩))) W) : wpList P ops Q (o1 :: o2 :: o3 :: o4 :: rest) a w := by
 refine wpList_new g1 T h1 zs hrun ?_
 intro W1 B hle hb b1
 rw [e1]
 have hB1 := b1.lt
 refine wpList_new g2 T h2 zs hrun ?_
 intro W2 B' hle' hb' b1'
 rw [e2]
 have hBB : B ≠ B' := by omega
 have b12 := b1.below hb'
 refine wpList_store_box g3 T (.tmp d) y h3 B 0 T zs C C (hx _ _) (hy _ _) b12 (by rw [← hs]; exact hi) (by rw [Nat.zero_add]; exact Nat.le_of_eq hs.symm) ho (whole_new hs) ?_
 intro W3 hk b2
 rw [e3]
 have b13 := hk.box b1' b1'.lt (fun h => hBB h.symm)
 refine wpList_store_box g4 T (.tmp d') y' h4 B' 0 T zs C' C' (hx' _ _) (hy' _ _) b13 (by rw [← hs']; exact hi) (by rw [Nat.zero_add]; exact Nat.le_of_eq hs'.symm) ho' (whole_new hs') ?_
 intro W4 hk4 b4
 rw [e4]
 have b5 := hk4.box b2 b2.lt hBB
 have hw1 := belowCall hb hb'
 have hw3 := hk.below hw1 hle hw1.size
 exact h W4 B B' hle (by have := hb.size; omega) hBB (hk4.below hw3 (by have := hb.size; omega) hw3.size) b5 b4
end
end Go.Mono
