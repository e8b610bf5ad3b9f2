/- Contracts of package coat and of the examples of its law, for the laws of layer 40. Part 37 of 40. No condition beside the row. -/
import Derived.Test.YtdgodcgdlfjpaaaGreatDoorA04
import Derived.Test.YtdgodcgdlfjpaaaGreatDoorA26
import Derived.Test.YtdgodcgdlfjpaaaGreatDoorA33
import Derived.Test.YtdgodcgdlfjpaaaGreatDoorA34
import Derived.Test.YtdgodcgdlfjpaaaGreatDoorA35
import Derived.Test.YtdgodcgdlfjpaaaGreatDoorA36
set_option linter.unusedVariables false
set_option linter.unusedSimpArgs false
set_option maxRecDepth 100000
set_option maxHeartbeats 4000000
namespace Go.Proofs.YtdgodcgdlfjpaaaGreatDoor
open Go.RowKit Go.Mono
theorem enters_filmX1 : ∀ args w, (callFunc 86 args).run Tryz.prog w = .ok (.enter 86 args) w := Go.Proofs.enters_of Tryz.func86 (by kernel_rfl) rfl
theorem filmX1_ret (A : Array Value) (hA : A.size = 3) (m : Mat) (w : World) (hg : ∀ W, Below w.heap.size w W → Calls Tryz.prog 87 #[.agg A] W fun e w' => ∃ C, e = .returned (.agg C) ∧ MV w' C m ∧ Below W.heap.size W w') (B : Nat) (b : Box w B 24 A) :
  Calls Tryz.prog 86 #[.pointer (some ⟨B, 0, none⟩)] w fun e w' => ∃ C, e = .returned (.agg C) ∧ MV w' C m ∧ Below w.heap.size w w' := by
 have hi : (Tryz.prog.info? 24).map (·.size) = some A.size := by rw [hA]; kernel_rfl
 go_enter Tryz.func86, Tryz.ntmps86
 go_wp2_with first | (refine wpList_new rfl 57 rfl _ alloc_quad ?_; intro W BO hle hB bO; replace b := b.below hB) | (refine wpList_load_box rfl 24 _ rfl B rfl 24 A b _ Tryz.underlying24 rfl hi ?_)
 refine (hg W hB).mono ?_
 rintro e W1 ⟨C, rfl, hC, hb⟩
 replace hB := belowCall hB hb
 replace bO := bO.below hb
 have hs := hC.size
 have ho := hC.ones
 have hq : (Tryz.prog.info? 57).map (·.size) = some C.size := by rw [hs]; exact sizeQuad
 go_wp2_with (refine wpList_store_box rfl 57 _ _ rfl BO 0 57 _ C C rfl rfl bO hq (Nat.le_of_eq (by rw [hs]; rfl)) ho (whole_new (by rw [hs]; rfl)) ?_; intro W2 hk2 b2)
 refine bodyPost_ret (b2.results rfl _ _ rfl Tryz.underlying57 rfl hq) rfl ?_
 exact ⟨C, rfl, hC.ext (hk2.ext bO (by decide)), hk2.below hB hle hB.size⟩
theorem filmX_ret (A : Array Value) (hA : A.size = 3) (h1A : A.all (·.oneCell') = true) (m : Mat) (w : World) (hg : ∀ W, Below w.heap.size w W → Calls Tryz.prog 87 #[.agg A] W fun e w' => ∃ C, e = .returned (.agg C) ∧ MV w' C m ∧ Below W.heap.size W w') :
  Calls Tryz.prog 24 #[.agg A] w fun e w' => ∃ C, e = .returned (.tuple #[.agg C, .int .i64 0]) ∧ MV w' C m ∧ Below w.heap.size w w' := by
 have hmf : ∀ (fn : Fn) (first cap : Array Value) (w : World), (Instr.makeFunc fn first cap).run Tryz.prog w = .ok (.func fn first cap) w := fun _ _ _ _ => rfl
 go_enter Tryz.func24, Tryz.ntmps24
 go_wp2_with first | (refine boxes1l fun W0 hB0 hs0 bF => ?_; refine wpList_new rfl 57 rfl _ alloc_quad ?_; intro W BO hle hBO bO; replace bF := bF.below hBO; have hB := belowCall hB0 hBO)
 refine (caughtQd_ret 86 _ enters_filmX1 W (fun C w1 => MV w1 C m) ?_ ?_).mono ?_
 ·intro C w1 w2 c0 _ hx _ _ h
  exact h.ext hx
 ·intro W2 hW2 hs2
  refine (filmX1_ret A hA m W2 (fun V hV => hg V (belowCall hB (belowCall hW2 hV))) _ (bF.below hW2)).mono ?_
  rintro e w' ⟨C, rfl, hC, hb⟩
  exact ⟨C, rfl, hC.size, hC.ones, hC, hb⟩
 rintro e W3 ⟨C, rfl, hs, ho, hC, hb3⟩
 replace hB := belowCall hB hb3
 replace bO := bO.below hb3
 have hq : (Tryz.prog.info? 57).map (·.size) = some C.size := by rw [hs]; exact sizeQuad
 go_wp2_with (refine wpList_store_box rfl 57 _ _ rfl BO 0 57 _ C C rfl rfl bO hq (Nat.le_of_eq (by rw [hs]; rfl)) ho (whole_new (by rw [hs]; rfl)) ?_; intro W5 hk5 b5)
 refine bodyPost_ret (b5.resultsT rfl _ _ rfl Tryz.underlying57 rfl hq) rfl ?_
 exact ⟨C, rfl, hC.ext (hk5.ext bO (by decide)), hk5.below hB (by omega) hB.size⟩
end Go.Proofs.YtdgodcgdlfjpaaaGreatDoor
namespace Go.Mono
open Go.RowKit
section
section
variable {F : Fence} {n : Nat} {P : Program} {ops : Array Oper} {rest : List Oper} {o : Oper} {a : Act} {w : World} {Q : Exit → Act → World → Prop}
theorem wpListIn_build2 (hg : o.guard = none) (t : TypeId) (parts : Array (Nat × Operand)) (ho : o.op = .build t parts) (cells : Array Value)
  (hc : P.built t (parts.map fun (i, x) => (i, a.eval x)).toList = some cells) (h : wpListIn F n P ops Q rest (a.put o.dst (.agg cells)) w) : wpListIn F n P ops Q (o :: rest) a w := by
 refine wpListIn_plain hg fun K hK => ?_
 unfold Oper.wpIn
 refine ⟨by simp [Oper.about, ho], ?_⟩
 rw [Oper.semAt_plain F _ _ (by rw [ho]; intro c hc'; cases hc')]
 unfold execOp
 have := run_build w t (parts.map fun (i, x) => (i, a.eval x)) cells hc
 simp only [ho, Sem.run_bind]
 first
  | (simp only [this, Result.andThen_ok, Sem.run_pure]; exact hK _ _ h)
  | (simp [this, Result.andThen_ok, Sem.run_pure]; exact hK _ _ h)
end
theorem FilmsAt.grown {w w' : World} {p : Option Addr} {n c : Nat} {F : Nat → Flm} (h : FilmsAt w p n c F) {row : Option Nat} (hg : w.grownBy w' row) (hr : ∀ r, row = some r → ∃ o : Obj, w.heap[r]? = some o ∧ o.isCells = false) : FilmsAt w' p n c F := by
 obtain ⟨h1, h2, h3⟩ := h
 refine ⟨h1, h2, fun hn => ?_⟩
 obtain ⟨b, off, hp, hb, hc⟩ := h3 hn
 obtain ⟨_, _, _, hsz, hbl⟩ := hg
 refine ⟨b, off, hp, Nat.lt_of_lt_of_le hb hsz, fun i j hi hj => ?_⟩
 rw [← hc i j hi hj]
 refine World.cell?_of_block (a := ⟨b, off + i * 3 + j, none⟩) (hbl b hb fun e => ?_)
 obtain ⟨o, ho, hoc⟩ := hr b e.symm
 have := hc i j hi hj
 simp only [World.cell?, ho] at this
 cases o <;> simp_all [Obj.isCells]
theorem FilmsAt.keep {W w : World} {R : Nat} {p : Option Addr} {n c : Nat} {F : Nat → Flm} (h : FilmsAt W p n c F) (hk : KeepBut R W.heap.size W w) (hR : ∀ a : Addr, p = some a → a.block ≠ R) : FilmsAt w p n c F := by
 obtain ⟨h1, h2, h3⟩ := h
 refine ⟨h1, h2, fun hn => ?_⟩
 obtain ⟨b, off, hp, hb, hc⟩ := h3 hn
 refine ⟨b, off, hp, Nat.lt_of_lt_of_le hb hk.size, fun i j hi hj => ?_⟩
 rw [← hc i j hi hj]
 exact hk.cell b _ hb (hR _ hp)
theorem KeepNew.of_keepBut {R base : Nat} {V V' : World} (hk : KeepBut R V.heap.size V V') (hR : R < base) : KeepNew base V V' := ⟨hk.size, fun k cs T fr hb hh => (hk.block k (lt_of_some hh) (by omega)).trans hh⟩
structure Bst where
 r : Rat
 t : Rat
 n : Nat
 G : Nat → Flm
def bstep (na nb : Rat) (n : Nat) (G : Nat → Flm) (b : Bst) : Bst := if back na nb (stackN G n) < b.r then ⟨back na nb (stackN G n), through na nb (stackN G n), n, G⟩ else b
def bestIn (na nb : Rat) (F : Nat → Flm) (m long : Nat) : Nat → Bst → Bst
 | 0, b => b
 | i + 1, b => bstep na nb long (pick F m long i) (bestIn na nb F m long i b)
def bestTo (na nb : Rat) (F : Nat → Flm) (m : Nat) : Nat → Bst
 | 0 => ⟨back na nb (stackN F 0), through na nb (stackN F 0), 0, F⟩
 | k + 1 => bestIn na nb F m (k + 1) (m ^ (k + 1)) (bestTo na nb F m k)
structure BV (N : Nat) (w : World) (C : Array Value) (b : Bst) : Prop where
 parts : ∃ a0 a1 a2 a3 b0 b1 b2 b3 : Value, ∃ p c, C = #[a0, a1, a2, a3, b0, b1, b2, b3, .slice p b.n c] ∧ QV w (.agg #[a0, a1, a2, a3]) b.r ∧ QV w (.agg #[b0, b1, b2, b3]) b.t ∧ FilmsAt w p b.n c b.G ∧ ∀ a : Addr, p = some a → N ≤ a.block
theorem BV.below {N : Nat} {w w' : World} {C : Array Value} {b : Bst} (h : BV N w C b) (hB : Below w.heap.size w w') : BV N w' C b := by
 obtain ⟨a0, a1, a2, a3, b0, b1, b2, b3, p, c, rfl, h1, h2, h3, h4⟩ := h.parts
 exact ⟨⟨_, _, _, _, _, _, _, _, p, c, rfl, h1.ext (.of_below hB), h2.ext (.of_below hB), h3.below hB, h4⟩⟩
theorem BV.grown {N : Nat} {w w' : World} {C : Array Value} {b : Bst} (h : BV N w C b) {row : Option Nat} (hg : w.grownBy w' row) (hr : ∀ r, row = some r → ∃ o : Obj, w.heap[r]? = some o ∧ o.isCells = false) : BV N w' C b := by
 obtain ⟨a0, a1, a2, a3, b0, b1, b2, b3, p, c, rfl, h1, h2, h3, h4⟩ := h.parts
 exact ⟨⟨_, _, _, _, _, _, _, _, p, c, rfl, h1.ext (.grownNo hg hr), h2.ext (.grownNo hg hr), h3.grown hg hr, h4⟩⟩
theorem BV.size {N : Nat} {w : World} {C : Array Value} {b : Bst} (h : BV N w C b) : C.size = 9 := by
 obtain ⟨a0, a1, a2, a3, b0, b1, b2, b3, p, c, rfl, h1, h2, h3, h4⟩ := h.parts
 rfl
theorem BV.ones {N : Nat} {w : World} {C : Array Value} {b : Bst} (h : BV N w C b) : C.all (·.oneCell') = true := by
 obtain ⟨a0, a1, a2, a3, b0, b1, b2, b3, p, c, rfl, h1, h2, h3, h4⟩ := h.parts
 obtain ⟨x0, x1, x2, x3⟩ := h1.ones
 obtain ⟨y0, y1, y2, y3⟩ := h2.ones
 have z : (Value.slice p b.n c).oneCell' = true := rfl
 simp [*]
theorem BV.mono {N N' : Nat} {w : World} {C : Array Value} {b : Bst} (h : BV N w C b) (hN : N' ≤ N) : BV N' w C b := by
 obtain ⟨a0, a1, a2, a3, b0, b1, b2, b3, p, c, rfl, h1, h2, h3, h4⟩ := h.parts
 exact ⟨⟨_, _, _, _, _, _, _, _, p, c, rfl, h1, h2, h3, fun a e => Nat.le_trans hN (h4 a e)⟩⟩
theorem BV.keep {N R : Nat} {w w' : World} {C : Array Value} {b : Bst} (h : BV N w C b) (hk : KeepBut R w.heap.size w w') (hR : R < N) (hx : Ext w w') : BV N w' C b := by
 obtain ⟨a0, a1, a2, a3, b0, b1, b2, b3, p, c, rfl, h1, h2, h3, h4⟩ := h.parts
 exact ⟨⟨_, _, _, _, _, _, _, _, p, c, rfl, h1.ext hx, h2.ext hx, h3.keep hk (fun a e => by have := h4 a e; omega), h4⟩⟩
theorem pick_ok {F : Nat → Flm} {m long i : Nat} (h : ∀ j, j < m → (F j).ok) (hm : 0 < m) (j : Nat) : (pick F m long i j).ok := h _ (Nat.mod_lt _ hm)
theorem idx_pos {n : Int} (h : 10000000 ≤ n) : 0 < idx n := by
 unfold idx
 rw [Rat.divInt_eq_div, Rat.div_def]
 refine Rat.mul_pos ?_ (Rat.inv_pos.2 (by decide +kernel))
 exact Rat.intCast_pos.2 (by omega)
end
end Go.Mono
namespace Go.Proofs.YtdgodcgdlfjpaaaGreatDoor
open Go.RowKit Go.Mono
theorem creflect_films (na nb : Int) (a1 : 10000000 ≤ na) (a2 : na ≤ 40000000) (b1 : 10000000 ≤ nb) (b2 : nb ≤ 40000000) (F : Nat → Flm) (n : Nat) (hn : n ≤ 8) (hF : ∀ i, i < n → (F i).ok) (p : Option Addr) (c : Nat) (w : World) (h : FilmsAt w p n c F) :
  Calls Tryz.prog 60 #[.int .i64 na, .int .i64 nb, .slice p n c] w fun e w' => ∃ C, e = .returned (.agg C) ∧ LV w' C (back (idx na) (idx nb) (stackN F n)) (through (idx na) (idx nb) (stackN F n)) ∧ Below w.heap.size w w' := by
 have hd : (stackN F n).det = 1 := stack_det (filmsN_ok hF)
 have hb := big_pos (idx na) (idx nb) (stackN F n) hd (idx_pos a1) (idx_pos b1)
 refine creflect_ok na nb a1 a2 b1 b2 p n c (stackN F n) w (fun W hW => cstack_ok F n hn hF p c W (h.below hW)) (rfits (idx_hs a1 a2) (idx_hs b1 b2) (stack_hs _ (filmsN_ok hF) (by rw [filmsN_length]; omega))) ?_
 intro e
 rw [Rat.num_eq_zero.1 e] at hb
 exact absurd hb (Rat.lt_irrefl)
theorem sizeBest : (Tryz.prog.info? 135).map (·.size) = some 9 := by kernel_rfl
theorem alloc_best (w : World) : (Instr.alloc 135 true (.tuple #[])).run Tryz.prog w = .ok (.pointer (some ⟨w.heap.size, 0, none⟩)) (w.alloc (.cells best0 135)) := by
 unfold best0
 go_simp
theorem clists_ok (p : Option Addr) (m c : Nat) (long : Int) (w : World) :
  Calls Tryz.prog 73 #[.slice p m c, .int .i64 long] w fun e w' => ∃ Bl Bc, e = .returned (.func (.func 151) #[] #[.pointer (some ⟨Bl, 0, none⟩), .pointer (some ⟨Bc, 0, none⟩)]) ∧ Box w' Bl 3 #[.int .i64 long] ∧ Box w' Bc 27 #[.slice p m c] ∧ Below w.heap.size w w' := by
 have hmf : ∀ (fn : Fn) (first cap : Array Value) (w : World), (Instr.makeFunc fn first cap).run Tryz.prog w = .ok (.func fn first cap) w := fun _ _ _ _ => rfl
 go_enter Tryz.func73, Tryz.ntmps73
 go_wp2
 go_ret
 have b1 := Box.new (w.alloc (.cells #[.slice p m c] 27)) 3 #[.int .i64 long]
 rw [World.size_alloc] at b1
 exact ⟨_, _, rfl, b1, (Box.new _ _ _).alloc _, ((Below.refl _ _).alloc (Nat.le_refl _) _).alloc (by simp) _⟩
end Go.Proofs.YtdgodcgdlfjpaaaGreatDoor
namespace Go.Mono
open Go.RowKit
section
theorem Box.results3c {P : Program} {w : World} {B B1 : Nat} {T T1 : TypeId} {cs cs1 : Array Value} (b : Box w B T cs) (b1 : Box w B1 T1 cs1) {fn : Func} {p p1 p2 : Tmp} {ty : TypeId} (h : fn.results = #[.cell p ty, .cell p1 ty, .tmp p2]) (tmps : Array Value) (d : TypeDesc)
  (ht : tmps.getD p undef = .pointer (some ⟨B, 0, none⟩)) (ht1 : tmps.getD p1 undef = .pointer (some ⟨B1, 0, none⟩)) (hu : P.underlying ty = some d) (hd : d.isRow = true) (hi : (P.info? ty).map (·.size) = some cs.size) (hi1 : (P.info? ty).map (·.size) = some cs1.size) :
  (Go.results fn tmps).run P w = .ok (.tuple #[.agg cs, .agg cs1, tmps.getD p2 undef]) w := by
 have hp' : tmps[p]?.getD undef = .pointer (some ⟨B, 0, none⟩) := by simpa using ht
 have hp1 : tmps[p1]?.getD undef = .pointer (some ⟨B1, 0, none⟩) := by simpa using ht1
 have hld := run_loadVar_row (P := P) w B T ty cs (0, 0) d b.blk hu (by cases d <;> simp_all [TypeDesc.isRow]) hi
 have hld1 := run_loadVar_row (P := P) w B1 T1 ty cs1 (0, 0) d b1.blk hu (by cases d <;> simp_all [TypeDesc.isRow]) hi1
 simp [Go.results, h, hp', hp1, asAddr, hld, hld1]
section
variable {P : Program} {f : FuncId} {args : Array Value} {R : Ending → World → Prop} {w : World} {T0 T1 T2 T3 T4 : TypeId} {c0 c1 c2 c3 c4 : Array Value}
theorem boxes5k (h : ∀ W, Below w.heap.size w W → w.heap.size + 5 ≤ W.heap.size → Box W w.heap.size T0 c0 → Box W (w.heap.size + 1) T1 c1 → Box W (w.heap.size + 1 + 1) T2 c2 → Box W (w.heap.size + 1 + 1 + 1) T3 c3 → Box W (w.heap.size + 1 + 1 + 1 + 1) T4 c4 → Calls P f args W R) :
  Calls P f args (((((w.alloc (.cells c0 T0)).alloc (.cells c1 T1)).alloc (.cells c2 T2)).alloc (.cells c3 T3)).alloc (.cells c4 T4)) R := by
 have b4 := Box.new ((((w.alloc (.cells c0 T0)).alloc (.cells c1 T1)).alloc (.cells c2 T2)).alloc (.cells c3 T3)) T4 c4
 simp only [World.size_alloc] at b4
 have b3 := Box.new (((w.alloc (.cells c0 T0)).alloc (.cells c1 T1)).alloc (.cells c2 T2)) T3 c3
 simp only [World.size_alloc] at b3
 have b2 := Box.new ((w.alloc (.cells c0 T0)).alloc (.cells c1 T1)) T2 c2
 simp only [World.size_alloc] at b2
 have b1 := Box.new (w.alloc (.cells c0 T0)) T1 c1
 simp only [World.size_alloc] at b1
 exact h _ ((((((Below.refl _ _).alloc (Nat.le_refl _) _).alloc (by simp) _).alloc (by simp; omega) _).alloc (by simp; omega) _).alloc (by simp; omega) _) (by simp) (((((Box.new _ _ _).alloc _).alloc _).alloc _).alloc _) (((b1.alloc _).alloc _).alloc _) ((b2.alloc _).alloc _) (b3.alloc _) b4
end
end
end Go.Mono
namespace Go.Proofs.YtdgodcgdlfjpaaaGreatDoor
open Go.RowKit Go.Mono
theorem enters_reflX1 : ∀ args w, (callFunc 59 args).run Tryz.prog w = .ok (.enter 59 args) w := Go.Proofs.enters_of Tryz.func59 (by kernel_rfl) rfl
theorem reflX1_ret (na nb : Int) (p : Option Addr) (n c : Nat) (r t : Rat) (w : World) (hg : ∀ W, Below w.heap.size w W → Calls Tryz.prog 60 #[.int .i64 na, .int .i64 nb, .slice p n c] W fun e w' => ∃ C, e = .returned (.agg C) ∧ LV w' C r t ∧ Below W.heap.size W w') (B0 B1 B2 : Nat) (b0 : Box w B0 3 #[.int .i64 na]) (b1 : Box w B1 3 #[.int .i64 nb]) (b2 : Box w B2 27 #[.slice p n c]) :
  Calls Tryz.prog 59 #[.pointer (some ⟨B0, 0, none⟩), .pointer (some ⟨B1, 0, none⟩), .pointer (some ⟨B2, 0, none⟩)] w fun e w' => ∃ C, e = .returned (.agg C) ∧ LV w' C r t ∧ Below w.heap.size w w' := by
 go_enter Tryz.func59, Tryz.ntmps59
 go_wp2_with (refine wpList_new rfl 124 rfl _ alloc_light ?_; intro W BO hle hB bO; replace b0 := b0.below hB; have cb0 := b0.cell; have lb0 := b0.lt; replace b1 := b1.below hB; have cb1 := b1.cell; have lb1 := b1.lt; replace b2 := b2.below hB; have cb2 := b2.cell; have lb2 := b2.lt)
 refine (hg W hB).mono ?_
 rintro e W1 ⟨C, rfl, hC, hb⟩
 replace hB := belowCall hB hb
 replace bO := bO.below hb
 have hs := hC.size
 have ho := hC.ones
 have hq : (Tryz.prog.info? 124).map (·.size) = some C.size := by rw [hs]; exact sizeLight
 go_wp2_with (refine wpList_store_box rfl 124 _ _ rfl BO 0 124 _ C C rfl rfl bO hq (Nat.le_of_eq (by rw [hs]; rfl)) ho (whole_new (by rw [hs]; rfl)) ?_; intro W2 hk2 b2')
 refine bodyPost_ret (b2'.results rfl _ _ rfl Tryz.underlying124 rfl hq) rfl ?_
 exact ⟨C, rfl, hC.ext (hk2.ext bO (by decide)), hk2.below hB hle hB.size⟩
theorem reflX1_panic (na nb : Int) (p : Option Addr) (n c : Nat) (z : Int) (w : World) (hg : ∀ W, Below w.heap.size w W → Calls Tryz.prog 60 #[.int .i64 na, .int .i64 nb, .slice p n c] W fun e w' => e = .panicked [{ v := .iface 194 (.agg #[.int .i64 z]), recovered := false }] ∧ Below W.heap.size W w') (B0 B1 B2 : Nat) (b0 : Box w B0 3 #[.int .i64 na]) (b1 : Box w B1 3 #[.int .i64 nb]) (b2 : Box w B2 27 #[.slice p n c]) :
  Calls Tryz.prog 59 #[.pointer (some ⟨B0, 0, none⟩), .pointer (some ⟨B1, 0, none⟩), .pointer (some ⟨B2, 0, none⟩)] w fun e w' => e = .panicked [{ v := .iface 194 (.agg #[.int .i64 z]), recovered := false }] ∧ Below w.heap.size w w' := by
 go_enter Tryz.func59, Tryz.ntmps59
 go_wp2_with (refine wpList_new rfl 124 rfl _ alloc_light ?_; intro W BO hle hB bO; replace b0 := b0.below hB; have cb0 := b0.cell; have lb0 := b0.lt; replace b1 := b1.below hB; have cb1 := b1.cell; have lb1 := b1.lt; replace b2 := b2.below hB; have cb2 := b2.cell; have lb2 := b2.lt)
 refine (hg W hB).mono ?_
 rintro e W1 ⟨rfl, hb⟩
 first
  | exact ⟨rfl, rfl, belowCall hB hb⟩
  | exact ⟨rfl, belowCall hB hb⟩
theorem reflX_ret (na nb : Int) (p : Option Addr) (n c : Nat) (r t : Rat) (w : World) (hg : ∀ W, Below w.heap.size w W → Calls Tryz.prog 60 #[.int .i64 na, .int .i64 nb, .slice p n c] W fun e w' => ∃ C, e = .returned (.agg C) ∧ LV w' C r t ∧ Below W.heap.size W w') :
  Calls Tryz.prog 15 #[.int .i64 na, .int .i64 nb, .slice p n c] w fun e w' => ∃ C D, e = .returned (.tuple #[.agg C, .agg D, .int .i64 0]) ∧ QV w' (.agg C) r ∧ QV w' (.agg D) t ∧ Below w.heap.size w w' := by
 have hmf : ∀ (fn : Fn) (first cap : Array Value) (w : World), (Instr.makeFunc fn first cap).run Tryz.prog w = .ok (.func fn first cap) w := fun _ _ _ _ => rfl
 go_enter Tryz.func15, Tryz.ntmps15
 go_wp2_with fail
 refine boxes5k fun W hB hs b0 b1 b2 bR bT => ?_
 refine (caughtLi_ret 59 _ enters_reflX1 W (fun C w1 => LV w1 C r t) ?_ ?_).mono ?_
 ·intro C w1 w2 c0 _ hx _ _ h
  exact h.ext hx
 ·intro W2 hW2 hs2
  refine (reflX1_ret na nb p n c r t W2 (fun V hV => hg V (belowCall hB (belowCall hW2 hV))) _ _ _ (b0.below hW2) (b1.below hW2) (b2.below hW2)).mono ?_
  rintro e w' ⟨C, rfl, hC, hb⟩
  exact ⟨C, rfl, hC.size, hC.ones, hC, hb⟩
 rintro e W3 ⟨C, rfl, hs8, ho, hC, hb3⟩
 replace hB := belowCall hB hb3
 replace bR := bR.below hb3
 replace bT := bT.below hb3
 have hq : (Tryz.prog.info? 124).map (·.size) = some C.size := by rw [hs8]; exact sizeLight
 go_wp2_with first | (refine wpList_new rfl 124 rfl _ alloc_light ?_; intro W4 BL hleL hb4 bL) | (refine wpList_store_box rfl 124 _ _ rfl BL 0 124 _ C C rfl rfl bL hq (Nat.le_of_eq (by rw [hs8]; rfl)) ho (whole_new (by rw [hs8]; rfl)) ?_; intro W5 hk5 bL5)
 have hb35 := hk5.below hb4 hleL hb4.size
 replace hB := belowCall hB hb35
 replace bR := bR.below hb35
 replace bT := bT.below hb35
 replace hC := hC.ext (.of_below hb35)
 have hne : w.heap.size + 1 + 1 + 1 ≠ BL := by have := hb3.size; omega
 have hne2 : w.heap.size + 1 + 1 + 1 + 1 ≠ BL := by have := hb3.size; omega
 obtain ⟨x0, x1, x2, x3, y0, y1, y2, y3, rfl, Rx, Ry⟩ := hC.parts
 obtain ⟨s0, s1, s2, s3⟩ := Rx.ones
 obtain ⟨s4, s5, s6, s7⟩ := Ry.ones
 clear hb35 hk5 hb4 bL hC hq ho hs8
 refine wp_region_held_drew (S := fun w' => Box w' BL 124 #[x0, x1, x2, x3, y0, y1, y2, y3] ∧ Below w.heap.size w w') (by as_aux_lemma => kernel_rfl) ⟨bL5.drew, hB.drew⟩ (fun hHeld => ?_)
 refine tk 0 (some 15) ?_
 refine tl 1 (some 16) rfl (.agg #[x0, x1, x2, x3]) (exec_load 37 _ rfl BL 0 rfl #[x0, x1, x2, x3] (fun w h => h.1.part 0 #[x0, x1, x2, x3] rfl) _ Tryz.underlying37 rfl sizeQuot) ?_
 refine tk 2 (some 17) ?_
 refine tl 3 (some 18) rfl (.agg #[y0, y1, y2, y3]) (exec_load 37 _ rfl BL 4 rfl #[y0, y1, y2, y3] (fun w h => h.1.part 4 #[y0, y1, y2, y3] rfl) _ Tryz.underlying37 rfl sizeQuot) ?_
 refine tk 4 (some 19) ?_
 refine wpAnyH_storeB (w.heap.size + 1 + 1 + 1) 37 5 rfl rfl rfl rfl 0 #[x0, x1, x2, x3] _ #[x0, x1, x2, x3] (by as_aux_lemma => kernel_rfl) (fun w' i u hS => ⟨hS.1.other _ _ (Ne.symm hne), hS.2.setCell (p := ⟨w.heap.size + 1 + 1 + 1, i, none⟩) (by simp; omega) u⟩) rfl rfl bR.drew hHeld sizeQuot (Nat.le_of_eq rfl) (by simp [*]) (whole_new rfl) (fun Ws hk0 bs hHeld => ?_)
 have bT1 := hk0.box bT.drew bT.drew.lt (by omega)
 refine wpAnyH_storeB (w.heap.size + 1 + 1 + 1 + 1) 37 6 rfl rfl rfl rfl 0 #[y0, y1, y2, y3] _ #[y0, y1, y2, y3] (by as_aux_lemma => kernel_rfl) (fun w' i u hS => ⟨hS.1.other _ _ (Ne.symm hne2), hS.2.setCell (p := ⟨w.heap.size + 1 + 1 + 1 + 1, i, none⟩) (by simp; omega) u⟩) rfl rfl bT1 hHeld sizeQuot (Nat.le_of_eq rfl) (by simp [*]) (whole_new rfl) (fun Wt hk1 bt hHeld => ?_)
 have bs1 := hk1.box bs bs.lt (by omega)
 have hx := (hk0.ext bR.drew (by decide)).trans (hk1.ext bT1 (by decide))
 refine tk 7 (some 8) ?_
 refine wpAnyH_done (by as_aux_lemma => kernel_rfl) ?_ _
 go_wp2
 refine bodyPost_ret (bs1.results3c bt rfl _ _ rfl rfl Tryz.underlying37 rfl sizeQuot sizeQuot) rfl ?_
 exact ⟨_, _, rfl, Rx.ext ((Ext.of_below (Below.refl _ _).drew).trans hx), Ry.ext ((Ext.of_below (Below.refl _ _).drew).trans hx), hHeld.2⟩
end Go.Proofs.YtdgodcgdlfjpaaaGreatDoor
