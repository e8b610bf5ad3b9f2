/- Contracts of package coat and of the examples of its law, for the laws of layer 40. Part 25 of 40. No condition beside the row. -/
import Derived.Test.YtdgodcgdlfjpaaaGreatDoorA03
import Derived.Test.YtdgodcgdlfjpaaaGreatDoorA13
import Derived.Test.YtdgodcgdlfjpaaaGreatDoorA14
import Derived.Test.YtdgodcgdlfjpaaaGreatDoorA24
set_option linter.unusedVariables false
set_option linter.unusedSimpArgs false
set_option maxRecDepth 100000
set_option maxHeartbeats 4000000
namespace Go.Mono
open Go.RowKit
theorem QV.cells {w : World} {v : Value} {q : Rat} (h : QV w v q) : ∃ C : Array Value, v = .agg C ∧ C.size = 4 ∧ C.all (·.oneCell') = true := by
 obtain ⟨p, k, c, p', k', c', rfl, _, _⟩ := h
 exact ⟨_, rfl, rfl, by simp [Value.oneCell']⟩
end Go.Mono
namespace Go.Proofs.YtdgodcgdlfjpaaaGreatDoor
open Go.RowKit Go.Mono
theorem alloc_quot (w : World) : (Instr.alloc 37 true (.tuple #[])).run Tryz.prog w = .ok (.pointer (some ⟨w.heap.size, 0, none⟩)) (w.alloc (.cells #[.bool false, .slice none 0 0, .bool false, .slice none 0 0] 37)) := by
 go_simp
theorem sizeQuot : (Tryz.prog.info? 37).map (·.size) = some 4 := by kernel_rfl
end Go.Proofs.YtdgodcgdlfjpaaaGreatDoor
namespace Go.Mono
open Go.RowKit
section
section
variable {P : Program} {o : Oper} {a : Act} {w : World} {K : Act → World → Prop} {Q : Exit → Act → World → Prop}
end
section
variable {P : Program} {ops : Array Oper} {Q : Exit → Act → World → Prop} {md : Region.Mode} {S : World → Prop}
theorem wpAnyH_storeB (B : Nat) (T : TypeId) (i : Nat) {o : Oper} (hi : ops[i]? = some o) (hg : o.guard = none) (hd : o.dst = none) {ty : TypeId} {x y : Operand} (ho : o.op = .store ty x y) (off : Nat) (cells cs new : Array Value) {a : Act} {fuel : Nat} {listed : Array Bool} {w : World}
  (hr : Region.ready md ops listed = [i]) (hS : ∀ w i u, S w → S (w.setCell ⟨B, i, none⟩ u)) (hx : a.eval x = .pointer (some ⟨B, off, none⟩)) (hy : a.eval y = .agg cells)
  (hb : Box w B T cs) (hs : S w) (hi2 : (P.info? ty).map (·.size) = some cells.size) (hoff : off + cells.size ≤ cs.size) (h1 : cells.all (·.oneCell') = true)
  (hn : cs.toList.take off ++ cells.toList ++ cs.toList.drop (off + cells.size) = new.toList)
  (h : ∀ w', KeepBut B w.heap.size w w' → Box w' B T new → S w' → wpAnyH P md ops Q S fuel (listed.setIfInBounds i true) a w') : wpAnyH P md ops Q S (fuel + 1) listed a w := by
 refine wpAnyH_all hr (by simp) fun j hj => ?_
 obtain rfl : j = i := by simpa using hj
 unfold wpOp
 rw [hi]
 have hw : Region.wanted o (yielded ops a.tmps) = true := by simp [Region.wanted, hg]
 simp only [hw, if_true]
 left
 have hb2 := Box.setCells cells.toList off w cs hb (by simpa using hoff)
 have hb3 : Box (w.setCells B off cells.toList) B T new := by simpa [hn] using hb2
 have hs2 := setCells_keeps hS cells.toList off w hs
 refine wp_store_mid ty x y ho B off cells hx hy (hb.there off cells.size hoff) hi2 h1 ?_
 rw [hd]
 exact ⟨hs2, h _ ((KeepBut.refl _ _).setCells _ _ _) hb3 hs2⟩
end
end
section
section
variable {P : Program} {ops : Array Oper} {rest : List Oper} {a : Act} {w : World} {Q : Exit → Act → World → Prop} {T0 T1 T2 T3 : TypeId} {c0 c1 c2 c3 : Array Value}
theorem boxes3l (h : ∀ W, Below w.heap.size w W → w.heap.size + 3 ≤ W.heap.size → Box W w.heap.size T0 c0 → Box W (w.heap.size + 1) T1 c1 → Box W (w.heap.size + 1 + 1) T2 c2 → wpList P ops Q rest a W) :
  wpList P ops Q rest a (((w.alloc (.cells c0 T0)).alloc (.cells c1 T1)).alloc (.cells c2 T2)) := by
 have b1 := Box.new (w.alloc (.cells c0 T0)) T1 c1
 have b2 := Box.new ((w.alloc (.cells c0 T0)).alloc (.cells c1 T1)) T2 c2
 simp only [World.size_alloc] at b1 b2
 exact h _ ((((Below.refl _ _).alloc (Nat.le_refl _) _).alloc (by simp) _).alloc (by simp; omega) _) (by simp) (((Box.new _ _ _).alloc _).alloc _) (b1.alloc _) b2
end
end
theorem QV.four {w : World} {C : Array Value} {q : Rat} (h : QV w (.agg C) q) : ∃ x0 x1 x2 x3 : Value, C = #[x0, x1, x2, x3] ∧ x0.oneCell' = true ∧ x1.oneCell' = true ∧ x2.oneCell' = true ∧ x3.oneCell' = true := by
 obtain ⟨p, k, c, p', k', c', e, _, _⟩ := h
 cases e
 exact ⟨_, _, _, _, rfl, rfl, rfl, rfl, rfl⟩
theorem exec_build {P : Program} {S : World → Prop} {oi : Oper} {a : Act} (t : TypeId) (parts : Array (Nat × Operand)) (ho : oi.op = .build t parts) (cells : Array Value)
  (hc : P.built t (parts.map fun (i, x) => (i, a.eval x)).toList = some cells) : ∀ w, S w → (execOp a.eval oi).run P w = .ok (.value (.agg cells)) w := fun w _ => by
 unfold execOp
 have := run_build w t (parts.map fun (i, x) => (i, a.eval x)) cells hc
 simp only [ho, Sem.run_bind]
 first
  | (simp only [this, Result.andThen_ok, Sem.run_pure]; done)
  | (simp [this, Result.andThen_ok, Sem.run_pure])
def Flm.vals (f : Flm) : Array Value := #[.int .i64 f.ix, .int .i64 f.p, .int .i64 f.q]
structure MV (w : World) (C : Array Value) (m : Mat) : Prop where
 parts : ∃ a0 a1 a2 a3 b0 b1 b2 b3 c0 c1 c2 c3 d0 d1 d2 d3 : Value, C = #[a0, a1, a2, a3, b0, b1, b2, b3, c0, c1, c2, c3, d0, d1, d2, d3] ∧
  QV w (.agg #[a0, a1, a2, a3]) m.a ∧ QV w (.agg #[b0, b1, b2, b3]) m.b ∧ QV w (.agg #[c0, c1, c2, c3]) m.c ∧ QV w (.agg #[d0, d1, d2, d3]) m.d
theorem MV.ext {w w' : World} {C : Array Value} {m : Mat} (h : MV w C m) (hx : Ext w w') : MV w' C m := by
 obtain ⟨a0, a1, a2, a3, b0, b1, b2, b3, c0, c1, c2, c3, d0, d1, d2, d3, rfl, h1, h2, h3, h4⟩ := h.parts
 exact ⟨⟨_, _, _, _, _, _, _, _, _, _, _, _, _, _, _, _, rfl, h1.ext hx, h2.ext hx, h3.ext hx, h4.ext hx⟩⟩
theorem MV.size {w : World} {C : Array Value} {m : Mat} (h : MV w C m) : C.size = 16 := by
 obtain ⟨a0, a1, a2, a3, b0, b1, b2, b3, c0, c1, c2, c3, d0, d1, d2, d3, rfl, h1, h2, h3, h4⟩ := h.parts
 rfl
theorem QV.ones {w : World} {x0 x1 x2 x3 : Value} {q : Rat} (h : QV w (.agg #[x0, x1, x2, x3]) q) : x0.oneCell' = true ∧ x1.oneCell' = true ∧ x2.oneCell' = true ∧ x3.oneCell' = true := by
 obtain ⟨y0, y1, y2, y3, e, h0, h1, h2, h3⟩ := h.four
 cases e
 exact ⟨h0, h1, h2, h3⟩
theorem MV.ones {w : World} {C : Array Value} {m : Mat} (h : MV w C m) : C.all (·.oneCell') = true := by
 obtain ⟨a0, a1, a2, a3, b0, b1, b2, b3, c0, c1, c2, c3, d0, d1, d2, d3, rfl, h1, h2, h3, h4⟩ := h.parts
 obtain ⟨x0, x1, x2, x3⟩ := h1.ones
 obtain ⟨y0, y1, y2, y3⟩ := h2.ones
 obtain ⟨z0, z1, z2, z3⟩ := h3.ones
 obtain ⟨u0, u1, u2, u3⟩ := h4.ones
 simp [*]
theorem pw_ten (k : Nat) : pw k = ((10 ^ (9 * k) : Nat) : Int) := by
 induction k with
 | zero => rfl
 | succ k ih =>
   rw [pw_succ, ih, show 9 * (k + 1) = 9 * k + 9 from by omega, Nat.pow_add, Int.natCast_mul]
   rfl
theorem Hs.fits_of {k n : Nat} {x : Rat} (h : Hs k x) (hn : n = 9 * 600) (hk : k < n) : (x.num.natAbs : Int) < pw 600 ∧ (x.den : Int) < pw 600 := by
 have e : pw 600 = ((10 ^ n : Nat) : Int) := by rw [hn]; exact pw_ten 600
 have hlt : 10 ^ k < 10 ^ n := Nat.pow_lt_pow_right (by decide) hk
 rw [e]
 exact ⟨Int.ofNat_lt.2 (Nat.lt_of_le_of_lt h.1 hlt), Int.ofNat_lt.2 (Nat.lt_of_le_of_lt h.2 hlt)⟩
theorem Hs.fits {k : Nat} {x : Rat} (h : Hs k x) (hk : k ≤ 5399) : Fits x := by
 obtain ⟨n, hn⟩ : ∃ n, n = 9 * 600 := ⟨_, rfl⟩
 exact h.fits_of hn (by omega)
theorem Box.part {w : World} {B : Nat} {T : TypeId} {cs : Array Value} (b : Box w B T cs) (off : Nat) (part : Array Value) (h : (cs.toList.drop off).take part.size = part.toList) : w.rangeAt B off part.toList := fun j v hv => by
 rw [b.cell, ← Array.getElem?_toList]
 rw [← h, List.getElem?_take] at hv
 split at hv
 ·rw [List.getElem?_drop] at hv
  exact hv
 ·cases hv
structure MFits (x y : Mat) : Prop where
 pr : ∀ u v, (u = x.a ∨ u = x.b ∨ u = x.c ∨ u = x.d) → (v = y.a ∨ v = y.b ∨ v = y.c ∨ v = y.d) → Fits (u * v)
 a : Fits (x.mul y).a
 b : Fits (x.mul y).b
 c : Fits (x.mul y).c
 d : Fits (x.mul y).d
end Go.Mono
namespace Go.Proofs.YtdgodcgdlfjpaaaGreatDoor
open Go.RowKit Go.Mono
theorem cmustq_ok (C : Array Value) (hC : C.size = 4) (h1 : C.all (·.oneCell') = true) (w : World) :
  Calls Tryz.prog 197 #[.agg C, .int .i64 0] w fun e w' => e = .returned (.agg C) ∧ Below w.heap.size w w' := by
 have hi : (Tryz.prog.info? 37).map (·.size) = some C.size := by rw [hC]; exact sizeQuot
 go_enter Tryz.func197, Tryz.ntmps197
 go_step
 go_step
 go_step
 go_step
 go_step
 go_step
 go_step
 go_step
 go_step
 refine boxes2l fun W hB hsz b0 b1 => ?_
 go_wp2_with first | (refine wpList_load_box rfl 37 (.tmp 2) rfl w.heap.size rfl 37 C b0 _ Tryz.underlying37 rfl hi ?_) | (refine wpList_store_box rfl 37 (.tmp 4) (.tmp 10) rfl (w.heap.size + 1) 0 37 _ C C rfl rfl b1 hi (Nat.le_of_eq (by rw [hC]; rfl)) h1 (whole_new (by rw [hC]; rfl)) ?_; intro W2 hk2 b12)
 refine bodyPost_ret (b12.results rfl _ _ rfl Tryz.underlying37 rfl hi) rfl ?_
 exact ⟨rfl, hk2.below hB (by omega) (by omega)⟩
theorem cof_ok (n d : Int) (d0 : d ≠ 0) (w : World) (a1 : -9223372036854775808 ≤ n) (a2 : n ≤ 9223372036854775807) (b1 : -9223372036854775808 ≤ d) (b2 : d ≤ 9223372036854775807) :
  Calls Tryz.prog 134 #[.int .i64 n, .int .i64 d] w fun e w' => ∃ C, e = .returned (.agg C) ∧ QV w' (.agg C) (Rat.divInt n d) ∧ Below w.heap.size w w' := by
 go_enter Tryz.func134, Tryz.ntmps134
 go_wp2_with fail
 refine boxes1c fun W hB hs bR => ?_
 refine (qof_ok n d d0 W a1 a2 b1 b2).mono ?_
 rintro e W1 ⟨r, rfl, hr, hb⟩
 obtain ⟨C, rfl, hC, h1⟩ := hr.cells
 have hi : (Tryz.prog.info? 37).map (·.size) = some C.size := by rw [hC]; exact sizeQuot
 replace hB := belowCall hB hb
 replace bR := bR.below hb
 clear hb a1 a2 b1 b2 d0
 go_wp2_with first | (go_at_call 197; refine (cmustq_ok C hC h1 _).mono ?_; rintro e W2 ⟨rfl, hb2⟩; have bR2 := bR.below hb2; have lR := bR.lt) | (refine wpList_store_box rfl 37 (.tmp 4) (.tmp 10) rfl w.heap.size 0 37 _ C C rfl rfl bR2 hi (Nat.le_of_eq (by rw [hC]; rfl)) h1 (whole_new (by rw [hC]; rfl)) ?_; intro W3 hk3 b3)
 refine bodyPost_ret (b3.results rfl _ _ rfl Tryz.underlying37 rfl hi) rfl ?_
 exact ⟨C, rfl, hr.ext ((Ext.of_below hb2).trans (hk3.ext bR2 (by decide))), hk3.below (belowCall hB hb2) (by omega) (by have := hB.size; have := hb2.size; omega)⟩
theorem cadd_ok (a b : Rat) (Ca Cb : Array Value) (w : World) (ha : QV w (.agg Ca) a) (hb : QV w (.agg Cb) b) (hf : Fits (a + b)) :
  Calls Tryz.prog 140 #[.agg Ca, .agg Cb] w fun e w' => ∃ C, e = .returned (.agg C) ∧ QV w' (.agg C) (a + b) ∧ Below w.heap.size w w' := by
 obtain ⟨_, eA, zA, oA⟩ := ha.cells
 cases eA
 obtain ⟨_, eB, zB, oB⟩ := hb.cells
 cases eB
 have iA : (Tryz.prog.info? 37).map (·.size) = some Ca.size := by rw [zA]; exact sizeQuot
 have iB : (Tryz.prog.info? 37).map (·.size) = some Cb.size := by rw [zB]; exact sizeQuot
 have hop := fun W (hW : Below w.heap.size w W) => add_ok a b _ _ W w (.of_below hW) ha hb hf
 clear ha hb
 go_enter Tryz.func140, Tryz.ntmps140
 go_wp2_with first | (refine boxes3l fun W hB hs bA bB bR => ?_) | (refine wpList_load_box rfl 37 (.tmp 2) rfl w.heap.size rfl 37 Ca bA _ Tryz.underlying37 rfl iA ?_) | (refine wpList_load_box rfl 37 (.tmp 3) rfl (w.heap.size + 1) rfl 37 Cb bB _ Tryz.underlying37 rfl iB ?_)
 refine (hop W hB).mono ?_
 rintro e W1 ⟨r, rfl, hr, hb⟩
 obtain ⟨C, rfl, hC, h1⟩ := hr.cells
 have hi : (Tryz.prog.info? 37).map (·.size) = some C.size := by rw [hC]; exact sizeQuot
 replace hB := belowCall hB hb
 replace bR := bR.below hb
 clear hb
 go_wp2_with first | (go_at_call 197; refine (cmustq_ok C hC h1 _).mono ?_; rintro e W2 ⟨rfl, hb2⟩; have bR2 := bR.below hb2; have lR := bR.lt) | (refine wpList_store_box rfl 37 (.tmp 4) (.tmp 10) rfl (w.heap.size + 1 + 1) 0 37 _ C C rfl rfl bR2 hi (Nat.le_of_eq (by rw [hC]; rfl)) h1 (whole_new (by rw [hC]; rfl)) ?_; intro W3 hk3 b3)
 refine bodyPost_ret (b3.results rfl _ _ rfl Tryz.underlying37 rfl hi) rfl ?_
 exact ⟨C, rfl, hr.ext ((Ext.of_below hb2).trans (hk3.ext bR2 (by decide))), hk3.below (belowCall hB hb2) (by omega) (by have := hB.size; have := hb2.size; omega)⟩
theorem csub_ok (a b : Rat) (Ca Cb : Array Value) (w : World) (ha : QV w (.agg Ca) a) (hb : QV w (.agg Cb) b) (hf : Fits (a - b)) :
  Calls Tryz.prog 142 #[.agg Ca, .agg Cb] w fun e w' => ∃ C, e = .returned (.agg C) ∧ QV w' (.agg C) (a - b) ∧ Below w.heap.size w w' := by
 obtain ⟨_, eA, zA, oA⟩ := ha.cells
 cases eA
 obtain ⟨_, eB, zB, oB⟩ := hb.cells
 cases eB
 have iA : (Tryz.prog.info? 37).map (·.size) = some Ca.size := by rw [zA]; exact sizeQuot
 have iB : (Tryz.prog.info? 37).map (·.size) = some Cb.size := by rw [zB]; exact sizeQuot
 have hop := fun W (hW : Below w.heap.size w W) => sub_ok a b _ _ W w (.of_below hW) ha hb hf
 clear ha hb
 go_enter Tryz.func142, Tryz.ntmps142
 go_wp2_with first | (refine boxes3l fun W hB hs bA bB bR => ?_) | (refine wpList_load_box rfl 37 (.tmp 2) rfl w.heap.size rfl 37 Ca bA _ Tryz.underlying37 rfl iA ?_) | (refine wpList_load_box rfl 37 (.tmp 3) rfl (w.heap.size + 1) rfl 37 Cb bB _ Tryz.underlying37 rfl iB ?_)
 refine (hop W hB).mono ?_
 rintro e W1 ⟨r, rfl, hr, hb⟩
 obtain ⟨C, rfl, hC, h1⟩ := hr.cells
 have hi : (Tryz.prog.info? 37).map (·.size) = some C.size := by rw [hC]; exact sizeQuot
 replace hB := belowCall hB hb
 replace bR := bR.below hb
 clear hb
 go_wp2_with first | (go_at_call 197; refine (cmustq_ok C hC h1 _).mono ?_; rintro e W2 ⟨rfl, hb2⟩; have bR2 := bR.below hb2; have lR := bR.lt) | (refine wpList_store_box rfl 37 (.tmp 4) (.tmp 10) rfl (w.heap.size + 1 + 1) 0 37 _ C C rfl rfl bR2 hi (Nat.le_of_eq (by rw [hC]; rfl)) h1 (whole_new (by rw [hC]; rfl)) ?_; intro W3 hk3 b3)
 refine bodyPost_ret (b3.results rfl _ _ rfl Tryz.underlying37 rfl hi) rfl ?_
 exact ⟨C, rfl, hr.ext ((Ext.of_below hb2).trans (hk3.ext bR2 (by decide))), hk3.below (belowCall hB hb2) (by omega) (by have := hB.size; have := hb2.size; omega)⟩
theorem cmul_ok (a b : Rat) (Ca Cb : Array Value) (w : World) (ha : QV w (.agg Ca) a) (hb : QV w (.agg Cb) b) (hf : Fits (a * b)) :
  Calls Tryz.prog 138 #[.agg Ca, .agg Cb] w fun e w' => ∃ C, e = .returned (.agg C) ∧ QV w' (.agg C) (a * b) ∧ Below w.heap.size w w' := by
 obtain ⟨_, eA, zA, oA⟩ := ha.cells
 cases eA
 obtain ⟨_, eB, zB, oB⟩ := hb.cells
 cases eB
 have iA : (Tryz.prog.info? 37).map (·.size) = some Ca.size := by rw [zA]; exact sizeQuot
 have iB : (Tryz.prog.info? 37).map (·.size) = some Cb.size := by rw [zB]; exact sizeQuot
 have hop := fun W (hW : Below w.heap.size w W) => mul_ok a b _ _ W w (.of_below hW) ha hb hf
 clear ha hb
 go_enter Tryz.func138, Tryz.ntmps138
 go_wp2_with first | (refine boxes3l fun W hB hs bA bB bR => ?_) | (refine wpList_load_box rfl 37 (.tmp 2) rfl w.heap.size rfl 37 Ca bA _ Tryz.underlying37 rfl iA ?_) | (refine wpList_load_box rfl 37 (.tmp 3) rfl (w.heap.size + 1) rfl 37 Cb bB _ Tryz.underlying37 rfl iB ?_)
 refine (hop W hB).mono ?_
 rintro e W1 ⟨r, rfl, hr, hb⟩
 obtain ⟨C, rfl, hC, h1⟩ := hr.cells
 have hi : (Tryz.prog.info? 37).map (·.size) = some C.size := by rw [hC]; exact sizeQuot
 replace hB := belowCall hB hb
 replace bR := bR.below hb
 clear hb
 go_wp2_with first | (go_at_call 197; refine (cmustq_ok C hC h1 _).mono ?_; rintro e W2 ⟨rfl, hb2⟩; have bR2 := bR.below hb2; have lR := bR.lt) | (refine wpList_store_box rfl 37 (.tmp 4) (.tmp 10) rfl (w.heap.size + 1 + 1) 0 37 _ C C rfl rfl bR2 hi (Nat.le_of_eq (by rw [hC]; rfl)) h1 (whole_new (by rw [hC]; rfl)) ?_; intro W3 hk3 b3)
 refine bodyPost_ret (b3.results rfl _ _ rfl Tryz.underlying37 rfl hi) rfl ?_
 exact ⟨C, rfl, hr.ext ((Ext.of_below hb2).trans (hk3.ext bR2 (by decide))), hk3.below (belowCall hB hb2) (by omega) (by have := hB.size; have := hb2.size; omega)⟩
theorem cdiv_ok (a b : Rat) (Ca Cb : Array Value) (w : World) (ha : QV w (.agg Ca) a) (hb : QV w (.agg Cb) b) (h0 : b.num ≠ 0) (hf : Fits (a / b)) :
  Calls Tryz.prog 141 #[.agg Ca, .agg Cb] w fun e w' => ∃ C, e = .returned (.agg C) ∧ QV w' (.agg C) (a / b) ∧ Below w.heap.size w w' := by
 obtain ⟨_, eA, zA, oA⟩ := ha.cells
 cases eA
 obtain ⟨_, eB, zB, oB⟩ := hb.cells
 cases eB
 have iA : (Tryz.prog.info? 37).map (·.size) = some Ca.size := by rw [zA]; exact sizeQuot
 have iB : (Tryz.prog.info? 37).map (·.size) = some Cb.size := by rw [zB]; exact sizeQuot
 have hop := fun W (hW : Below w.heap.size w W) => div_ok a b _ _ W w (.of_below hW) ha hb h0 hf
 clear ha hb
 go_enter Tryz.func141, Tryz.ntmps141
 go_wp2_with first | (refine boxes3l fun W hB hs bA bB bR => ?_) | (refine wpList_load_box rfl 37 (.tmp 2) rfl w.heap.size rfl 37 Ca bA _ Tryz.underlying37 rfl iA ?_) | (refine wpList_load_box rfl 37 (.tmp 3) rfl (w.heap.size + 1) rfl 37 Cb bB _ Tryz.underlying37 rfl iB ?_)
 refine (hop W hB).mono ?_
 rintro e W1 ⟨r, rfl, hr, hb⟩
 obtain ⟨C, rfl, hC, h1⟩ := hr.cells
 have hi : (Tryz.prog.info? 37).map (·.size) = some C.size := by rw [hC]; exact sizeQuot
 replace hB := belowCall hB hb
 replace bR := bR.below hb
 clear hb
 go_wp2_with first | (go_at_call 197; refine (cmustq_ok C hC h1 _).mono ?_; rintro e W2 ⟨rfl, hb2⟩; have bR2 := bR.below hb2; have lR := bR.lt) | (refine wpList_store_box rfl 37 (.tmp 4) (.tmp 10) rfl (w.heap.size + 1 + 1) 0 37 _ C C rfl rfl bR2 hi (Nat.le_of_eq (by rw [hC]; rfl)) h1 (whole_new (by rw [hC]; rfl)) ?_; intro W3 hk3 b3)
 refine bodyPost_ret (b3.results rfl _ _ rfl Tryz.underlying37 rfl hi) rfl ?_
 exact ⟨C, rfl, hr.ext ((Ext.of_below hb2).trans (hk3.ext bR2 (by decide))), hk3.below (belowCall hB hb2) (by omega) (by have := hB.size; have := hb2.size; omega)⟩
end Go.Proofs.YtdgodcgdlfjpaaaGreatDoor
