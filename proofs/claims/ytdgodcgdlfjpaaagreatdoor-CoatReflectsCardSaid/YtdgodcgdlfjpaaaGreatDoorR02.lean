/- The law CoatReflects: Reflect equals the reference, its walk by a verified evaluator, and its card. Part 2 of 4. No condition beside the row. -/
import Derived.Deep.Slices
import Derived.OpenShut
import Derived.Carry
import Derived.SizedLaws
import Derived.Test.YtdgodcgdlfjpaaaGreatDoorE01
import Derived.Test.YtdgodcgdlfjpaaaGreatDoorE08
import Derived.Test.YtdgodcgdlfjpaaaGreatDoorR01
set_option linter.unusedVariables false
set_option linter.unusedSimpArgs false
set_option maxRecDepth 100000
set_option maxHeartbeats 4000000
namespace Go.Proofs.YtdgodcgdlfjpaaaGreatDoor
open Go Go.ChangeShapes Go.WideShapes Go.ChangeAt Go.RowKit Go.Mono
section
theorem laidOut40 : laidOutB Tryz.prog = true := by kernel_rfl
theorem trodAll_below {P : Program} (hl : laidOutB P = true) {H : Type} {enc : TypeId × Value → H} {W W' : World} (hb : Below W.heap.size W W') : ∀ (ts : List TypeId) (vs : List Value) (ds : List (DataW H)) (ps : List MemPlace),
  (ts.all fun t => P.readableRec t && decide (t < P.types.size)) = true → DataW.TrodAll enc P W 0 (fun _ => true) true ts vs ds ps → (∀ x ∈ ps, x.block < W.heap.size) → DataW.TrodAll enc P W' 0 (fun b => decide (b < W.heap.size)) true ts vs ds ps := by
 intro ts
 induction ts with
 | nil =>
   intro vs ds ps _ h _
   obtain ⟨rfl, rfl, rfl⟩ := trodAll_nil h
   exact rfl
 | cons t ts ih =>
   intro vs ds ps hr h hlt
   obtain ⟨v, vs1, d, ds1, a, b, rfl, rfl, rfl, h1, h2⟩ := trodAll_cons h
   rw [List.all_cons, Bool.and_eq_true, Bool.and_eq_true, decide_eq_true_eq] at hr
   exact ⟨a, b, Below.trod hl hr.1.1 hr.1.2 h1 hb (fun x hx => hlt x (List.mem_append_left _ hx)), ih _ _ _ hr.2 h2 (fun x hx => hlt x (List.mem_append_right _ hx)), rfl⟩
section
variable {H : Type} {enc : TypeId × Value → H} {W : World} {base : Nat} {r : Reach} {v : Value} {d : DataW H} {p : List MemPlace}
theorem open_small (hv : Value.okWide Tryz.prog W r base 25 v) (h : DataW.Trod enc Tryz.prog W 0 (fun _ => true) true 25 v d p) :
  ∃ s0 s1 : Int, v = .agg #[.int .u8 s0, .int .u8 s1] ∧ (0 ≤ s0 ∧ s0 ≤ 255) ∧ (0 ≤ s1 ∧ s1 ≤ 255) := by
 have hc : Tryz.prog.cellsOf 25 = 2 := by kernel_rfl
 have h1 : Tryz.prog.cellsOf 5 = 1 := by kernel_rfl
 obtain ⟨cs, rfl, hs⟩ : ∃ cs, v = .agg cs ∧ cs.size = 2 := by
  simp only [Value.okWide, Tryz.underlying25] at hv
  obtain ⟨cs, e, hs, _⟩ := hv
  exact ⟨cs, e, hs.trans hc⟩
 obtain ⟨fuel, hf⟩ := h
 obtain ⟨xs, m, rfl, _, _, hx, hel⟩ := DataW.trod_array Tryz.underlying25 hf
 match cs, hs, xs, hx with
 | ⟨[c0, c1]⟩, _, [x0, x1], _ =>
   have e0 := hel 0 (by omega)
   have e1 := hel 1 (by omega)
   simp [h1, Value.cells] at e0 e1
   obtain ⟨s0, k0, _, w0⟩ := DataW.trod_int Tryz.underlying5 e0
   obtain ⟨s1, k1, _, w1⟩ := DataW.trod_int Tryz.underlying5 e1
   cases k0; cases k1
   exact ⟨s0, s1, rfl, bounds_u8 w0, bounds_u8 w1⟩
theorem thin_cells {fuel : Nat} {cs : List Value} {x : DataW H × List MemPlace} (h : DataW.trod enc Tryz.prog W 0 (fun _ => true) true fuel 112 cs = some x) : ∃ t : Thn, t.ok ∧ cs = t.vals.toList := by
 have hc : Tryz.prog.cellsOf 112 = 3 := by kernel_rfl
 have h1 : Tryz.prog.cellsOf 5 = 1 := by kernel_rfl
 obtain ⟨xs, m, rfl, _, hl, hx, hel⟩ := DataW.trod_struct Tryz.underlying112 h
 rw [hc] at hl
 match cs, hl, xs, hx with
 | [c0, c1, c2], _, [x0, x1, x2], _ =>
   have e0 := hel 0 _ rfl
   have e1 := hel 1 _ rfl
   have e2 := hel 2 _ rfl
   simp [h1] at e0 e1 e2
   obtain ⟨s0, k0, _, w0⟩ := DataW.trod_int Tryz.underlying5 e0
   obtain ⟨s1, k1, _, w1⟩ := DataW.trod_int Tryz.underlying5 e1
   obtain ⟨s2, k2, _, w2⟩ := DataW.trod_int Tryz.underlying5 e2
   cases k0; cases k1; cases k2
   exact ⟨⟨s0, s1, s2⟩, ⟨bounds_u8 w0, bounds_u8 w1, bounds_u8 w2⟩, rfl⟩
theorem cell_lt {w : World} {a : Addr} {u : Value} (h : w.cell? a = some u) : a.block < w.heap.size := by
 by_cases hb : a.block < w.heap.size
 ·exact hb
 ·rw [World.cell?, Array.getElem?_eq_none (by omega)] at h
  cases h
theorem open_thins (hv : Value.okWide Tryz.prog W r base 22 v) (h : DataW.Trod enc Tryz.prog W 0 (fun _ => true) true 22 v d p) (hsz : ∀ n ∈ d.weights Tryz.prog 22, n ≤ reachBytes) :
  ∃ (q : Option Addr) (n c : Nat) (G : Nat → Thn), v = .slice q n c ∧ (∀ i, i < n → (G i).ok) ∧ ThinsAt W q n c G := by
 have hc : Tryz.prog.cellsOf 112 = 3 := by kernel_rfl
 have hby : Tryz.prog.bytesOf 112 = 3 := by kernel_rfl
 obtain ⟨a0, len, cap, rfl⟩ := okWide_slice Tryz.underlying22 hv
 obtain ⟨fuel, hf⟩ := h
 rcases Go.Deep.open_slice Tryz.underlying22 hf with ⟨hcs, hx⟩ | ⟨a, len', cap', m, n, D, Pl, hcs, _, hl, hmx, hm, hx, hel⟩
 ·simp [Value.cells] at hcs
  obtain ⟨rfl, rfl, rfl⟩ := hcs
  exact ⟨none, 0, 0, fun _ => ⟨0, 0, 0⟩, rfl, fun i hi => absurd hi (Nat.not_lt_zero _), Nat.le_refl _, by omega, fun h => absurd h (Nat.not_lt_zero _)⟩
 ·simp [Value.cells] at hcs
  obtain ⟨rfl, rfl, rfl⟩ := hcs
  simp only [if_true] at hm
  simp only [Prod.mk.injEq] at hx
  obtain ⟨rfl, _⟩ := hx
  have hw := hsz _ (by rw [DataW.weights, Tryz.underlying22]; exact List.mem_cons_self ..)
  rw [List.length_map, List.length_map, List.length_range, List.length_range, hby] at hw
  have hr : reachBytes = 140737488351232 := rfl
  have hel' : ∀ i, i < len → ∃ t : Thn, t.ok ∧ W.cells? 0 (a.add (i * 3)) 3 = some t.vals.toList := fun i hi => by
   obtain ⟨cs', h1, h2⟩ := hel i (by omega)
   obtain ⟨t, ht, rfl⟩ := thin_cells h2
   rw [hc] at h1
   exact ⟨t, ht, h1⟩
  haveI : Inhabited Thn := ⟨⟨0, 0, 0⟩⟩
  obtain ⟨G, hG⟩ := Go.Deep.choose_lt hel'
  refine ⟨some a, len, cap, G, rfl, fun i hi => (hG i hi).1, hl, by omega, fun h0 => ?_⟩
  obtain ⟨b, off, spot⟩ := a
  have hcell : ∀ i j, i < len → j < 3 → W.cell? ((Addr.mk b off spot).add (i * 3 + j)) = some ((G i).vals.getD j undef) := fun i j hi hj => by
   obtain ⟨_, _, h3⟩ := World.cells?_some (hG i hi).2
   rw [← Go.Deep.add_add, h3 j hj]
   rcases (by omega : j = 0 ∨ j = 1 ∨ j = 2) with rfl | rfl | rfl <;> rfl
  have hspot : spot = none := by simpa [Addr.add] using World.cell?_spot (hcell 0 0 h0 (by omega))
  subst hspot
  refine ⟨b, off, rfl, cell_lt (hcell 0 0 h0 (by omega)), fun i j hi hj => ?_⟩
  rw [← hcell i j hi hj, Addr.add_lit, Nat.add_assoc]
end
end
section
open Go.Ev
theorem refl_arg0 (na nb : Int) (hbad : ¬ ((10000000 ≤ na ∧ na ≤ 40000000) ∧ (10000000 ≤ nb ∧ nb ≤ 40000000))) (p : Option Addr) (n c : Nat) (w : World) :
  Calls Tryz.prog 15 #[.int .i64 na, .int .i64 nb, .slice p n c] w fun e w' => e = .returned (.tuple #[.agg quot0, .agg quot0, .int .i64 2]) ∧ Below w.heap.size w w' :=
 reflX_panic na nb p n c 2 w fun W _ => creflect_arg na nb hbad p n c W
theorem refl_no0 (na nb : Int) (a1 : 10000000 ≤ na ∧ na ≤ 40000000) (b1 : 10000000 ≤ nb ∧ nb ≤ 40000000) (F : Nat → Flm) (n m : Nat) (hn : n ≤ 8) (hm : m < n) (hF : ∀ i, i < m → (F i).ok) (hbad : ¬ (F m).ok) (p : Option Addr) (c : Nat) (w : World) (h : FilmsAt w p n c F) :
  Calls Tryz.prog 15 #[.int .i64 na, .int .i64 nb, .slice p n c] w fun e w' => e = .returned (.tuple #[.agg quot0, .agg quot0, .int .i64 400]) ∧ Below w.heap.size w w' :=
 reflX_panic na nb p n c 400 w fun W hW => creflect_stack na nb a1 b1 p n c 400 W fun V hV => cstack_bad F n m hn hm hF hbad p c V ((h.below hW).below hV)
theorem first_badF {F : Nat → Flm} {n : Nat} (h : ¬ okAll (filmsN F n)) : ∃ j, j < n ∧ (∀ i, i < j → (F i).ok) ∧ ¬ (F j).ok := by
 have hex : ∃ j, j < n ∧ ¬ (F j).ok := by
  apply Classical.byContradiction
  intro hno
  exact h (okAll_films.2 fun i hi => Classical.byContradiction fun hb => hno ⟨i, hi, hb⟩)
 obtain ⟨j, ⟨hj, hb⟩, hmin⟩ := exists_least hex
 refine ⟨j, hj, fun i hi => ?_, hb⟩
 apply Classical.byContradiction
 intro hb2
 have := hmin i ⟨by omega, hb2⟩
 omega
def specReflP (w0 : World) (X : Nat → Prop) : Ctr qDen Tryz.prog w0 X := reflSpec w0 X 15
 (fun na nb ha hb F n hn hF p c w h _ => (refl_ex na nb ha.1 ha.2 hb.1 hb.2 F n hn hF p c w h).mono fun e w' ⟨C, D, he, h1, h2, hbl⟩ => ⟨_, fun _ => none, he, light_den h1 h2, hbl⟩)
 (fun na nb hbad F n hn p c w => refl_arg0 na nb hbad p n c w)
 (fun na nb ha hb F n hn hF p c w h => by
  obtain ⟨j, hj, h1, h2⟩ := first_badF hF
  exact refl_no0 na nb ha hb F n j hn hj h1 h2 p c w h)
def specReflR (w0 : World) (X : Nat → Prop) : Ctr qDen Tryz.prog w0 X := reflSpec w0 X 16 r40refl_ok r40refl_arg r40refl_no
def law2Sps (w : World) (p : Option Addr) (n c : Nat) (G : Nat → Thn) (hG : ∀ i, i < n → (G i).ok) (h : ThinsAt w p n c G) (most m : Nat) (hmost : most ≤ 9) (hm : min n most = m)
    (f : Flm) (k : Int) (hk : 0 ≤ k ∧ k ≤ 255) (j : Nat) (hj : k % (m + 1) = (j : Int)) (hm9 : m ≤ 9) (m' : Nat) (hm' : m' = if j < m then m else m + 1) : List (Ctr qDen Tryz.prog w (fun _ => False)) :=
 [specWorks w _, someFilms w p n c G hG h most m hmost hm, specWith w (filmOf G) m f k hk j hj hm9 m' hm', specReflP w _, specReflR w _, specSame04 w _]
def pairO (bk by_ : Bool) : List (Option Bool) := if bk then [some true, some by_, some true, some by_] ++ (if by_ then yes 2 else []) else [some false, some false]
def reflectsO (ba bb b : Bool) : List (Option Bool) := (pairO true true ++ pairO true b) ++ ((pairO ba true ++ pairO ba b) ++ ((pairO bb true ++ pairO bb b) ++ (pairO true true ++ pairO true b)))
end
section
section
variable {H : Type} {enc : TypeId × Value → H} {W : World} {base : Nat} {r : Reach} {v : Value} {d : DataW H} {p : List MemPlace}
theorem open_oct (hv : Value.okWide Tryz.prog W r base 5 v) (h : DataW.Trod enc Tryz.prog W 0 (fun _ => true) true 5 v d p) : ∃ o : Int, v = .int .u8 o ∧ (0 ≤ o ∧ o ≤ 255) := by
 obtain ⟨x, rfl, rfl, rfl, wx⟩ := open_int Tryz.underlying5 hv h
 exact ⟨x, rfl, bounds_u8 wx⟩
end
end
end Go.Proofs.YtdgodcgdlfjpaaaGreatDoor
