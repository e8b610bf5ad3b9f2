/- CoatLeast returns true for every list of thin films, every list of octets and every two small numbers. Part 6 of 7. No condition beside the row. -/
import Derived.Deep.Slices
import Derived.OpenShut
import Derived.Carry
import Derived.SizedLaws
import Derived.Test.YtdgodcgdlfjpaaaGreatDoorA39
import Derived.Test.YtdgodcgdlfjpaaaGreatDoorL01
import Derived.Test.YtdgodcgdlfjpaaaGreatDoorL02
import Derived.Test.YtdgodcgdlfjpaaaGreatDoorL05
set_option linter.unusedVariables false
set_option linter.unusedSimpArgs false
namespace Go.Proofs.YtdgodcgdlfjpaaaGreatDoor
open Go Go.ChangeShapes Go.WideShapes Go.ChangeAt Go.RowKit Go.Mono
theorem laidOut40 : laidOutB Tryz.prog = true := by kernel_rfl
/-- arguments that the call has not turned read as before -/
theorem trodAll_below {P : Program} (hl : laidOutB P = true) {H : Type} {enc : TypeId × Value → H} {W W' : World} (hb : Below W.heap.size W W') : ∀ (ts : List TypeId) (vs : List Value) (ds : List (DataW H)) (ps : List MemPlace),
    (ts.all fun t => P.readableRec t && decide (t < P.types.size)) = true → DataW.TrodAll enc P W 0 (fun _ => true) true ts vs ds ps → (∀ x ∈ ps, x.block < W.heap.size) → DataW.TrodAll enc P W' 0 (fun b => decide (b < W.heap.size)) true ts vs ds ps := by
  intro ts
  induction ts with
  | nil =>
    intro vs ds ps _ h _
    obtain ⟨rfl, rfl, rfl⟩ := trodAll_nil h
    exact rfl
  | cons t ts ih =>
    intro vs ds ps hr h hlt
    obtain ⟨v, vs1, d, ds1, a, b, rfl, rfl, rfl, h1, h2⟩ := trodAll_cons h
    rw [List.all_cons, Bool.and_eq_true, Bool.and_eq_true, decide_eq_true_eq] at hr
    exact ⟨a, b, Below.trod hl hr.1.1 hr.1.2 h1 hb (fun x hx => hlt x (List.mem_append_left _ hx)), ih _ _ _ hr.2 h2 (fun x hx => hlt x (List.mem_append_right _ hx)), rfl⟩
section
variable {H : Type} {enc : TypeId × Value → H} {W : World} {base : Nat} {r : Reach} {v : Value} {d : DataW H} {p : List MemPlace}
set_option maxRecDepth 100000 in
theorem open_small (hv : Value.okWide Tryz.prog W r base 25 v) (h : DataW.Trod enc Tryz.prog W 0 (fun _ => true) true 25 v d p) :
    ∃ s0 s1 : Int, v = .agg #[.int .u8 s0, .int .u8 s1] ∧ (0 ≤ s0 ∧ s0 ≤ 255) ∧ (0 ≤ s1 ∧ s1 ≤ 255) := by
  have hc : Tryz.prog.cellsOf 25 = 2 := by kernel_rfl
  have h1 : Tryz.prog.cellsOf 5 = 1 := by kernel_rfl
  obtain ⟨cs, rfl, hs⟩ : ∃ cs, v = .agg cs ∧ cs.size = 2 := by
    simp only [Value.okWide, Tryz.underlying25] at hv
    obtain ⟨cs, e, hs, _⟩ := hv
    exact ⟨cs, e, hs.trans hc⟩
  obtain ⟨fuel, hf⟩ := h
  obtain ⟨xs, m, rfl, _, _, hx, hel⟩ := DataW.trod_array Tryz.underlying25 hf
  match cs, hs, xs, hx with
  | ⟨[c0, c1]⟩, _, [x0, x1], _ =>
    have e0 := hel 0 (by omega)
    have e1 := hel 1 (by omega)
    simp [h1, Value.cells] at e0 e1
    obtain ⟨s0, k0, _, w0⟩ := DataW.trod_int Tryz.underlying5 e0
    obtain ⟨s1, k1, _, w1⟩ := DataW.trod_int Tryz.underlying5 e1
    cases k0; cases k1
    exact ⟨s0, s1, rfl, bounds_u8 w0, bounds_u8 w1⟩
set_option maxRecDepth 100000 in
theorem thin_cells {fuel : Nat} {cs : List Value} {x : DataW H × List MemPlace} (h : DataW.trod enc Tryz.prog W 0 (fun _ => true) true fuel 112 cs = some x) : ∃ t : Thn, t.ok ∧ cs = t.vals.toList := by
  have hc : Tryz.prog.cellsOf 112 = 3 := by kernel_rfl
  have h1 : Tryz.prog.cellsOf 5 = 1 := by kernel_rfl
  obtain ⟨xs, m, rfl, _, hl, hx, hel⟩ := DataW.trod_struct Tryz.underlying112 h
  rw [hc] at hl
  match cs, hl, xs, hx with
  | [c0, c1, c2], _, [x0, x1, x2], _ =>
    have e0 := hel 0 _ rfl
    have e1 := hel 1 _ rfl
    have e2 := hel 2 _ rfl
    simp [h1] at e0 e1 e2
    obtain ⟨s0, k0, _, w0⟩ := DataW.trod_int Tryz.underlying5 e0
    obtain ⟨s1, k1, _, w1⟩ := DataW.trod_int Tryz.underlying5 e1
    obtain ⟨s2, k2, _, w2⟩ := DataW.trod_int Tryz.underlying5 e2
    cases k0; cases k1; cases k2
    exact ⟨⟨s0, s1, s2⟩, ⟨bounds_u8 w0, bounds_u8 w1, bounds_u8 w2⟩, rfl⟩
set_option maxRecDepth 100000 in
theorem open_thin (hv : Value.okWide Tryz.prog W r base 112 v) (h : DataW.Trod enc Tryz.prog W 0 (fun _ => true) true 112 v d p) : ∃ t : Thn, t.ok ∧ v = .agg t.vals := by
  obtain ⟨cs, rfl, _⟩ := okWide_struct Tryz.underlying112 hv
  obtain ⟨fuel, hf⟩ := h
  obtain ⟨t, ht, hc⟩ := thin_cells hf
  refine ⟨t, ht, ?_⟩
  rw [show cs = t.vals from Array.ext' hc]
theorem cell_lt {w : World} {a : Addr} {u : Value} (h : w.cell? a = some u) : a.block < w.heap.size := by
  by_cases hb : a.block < w.heap.size
  · exact hb
  · rw [World.cell?, Array.getElem?_eq_none (by omega)] at h
    cases h
set_option maxRecDepth 100000 in
theorem open_thins (hv : Value.okWide Tryz.prog W r base 22 v) (h : DataW.Trod enc Tryz.prog W 0 (fun _ => true) true 22 v d p) (hsz : ∀ n ∈ d.weights Tryz.prog 22, n ≤ reachBytes) :
    ∃ (q : Option Addr) (n c : Nat) (G : Nat → Thn), v = .slice q n c ∧ (∀ i, i < n → (G i).ok) ∧ ThinsAt W q n c G := by
  have hc : Tryz.prog.cellsOf 112 = 3 := by kernel_rfl
  have hby : Tryz.prog.bytesOf 112 = 3 := by kernel_rfl
  obtain ⟨a0, len, cap, rfl⟩ := okWide_slice Tryz.underlying22 hv
  obtain ⟨fuel, hf⟩ := h
  rcases Go.Deep.open_slice Tryz.underlying22 hf with ⟨hcs, hx⟩ | ⟨a, len', cap', m, n, D, Pl, hcs, _, hl, hmx, hm, hx, hel⟩
  · simp [Value.cells] at hcs
    obtain ⟨rfl, rfl, rfl⟩ := hcs
    exact ⟨none, 0, 0, fun _ => ⟨0, 0, 0⟩, rfl, fun i hi => absurd hi (Nat.not_lt_zero _), Nat.le_refl _, by omega, fun h => absurd h (Nat.not_lt_zero _)⟩
  · simp [Value.cells] at hcs
    obtain ⟨rfl, rfl, rfl⟩ := hcs
    simp only [if_true] at hm
    simp only [Prod.mk.injEq] at hx
    obtain ⟨rfl, _⟩ := hx
    have hw := hsz _ (by rw [DataW.weights, Tryz.underlying22]; exact List.mem_cons_self ..)
    rw [List.length_map, List.length_map, List.length_range, List.length_range, hby] at hw
    have hr : reachBytes = 140737488351232 := rfl
    have hel' : ∀ i, i < len → ∃ t : Thn, t.ok ∧ W.cells? 0 (a.add (i * 3)) 3 = some t.vals.toList := fun i hi => by
      obtain ⟨cs', h1, h2⟩ := hel i (by omega)
      obtain ⟨t, ht, rfl⟩ := thin_cells h2
      rw [hc] at h1
      exact ⟨t, ht, h1⟩
    haveI : Inhabited Thn := ⟨⟨0, 0, 0⟩⟩
    obtain ⟨G, hG⟩ := Go.Deep.choose_lt hel'
    refine ⟨some a, len, cap, G, rfl, fun i hi => (hG i hi).1, hl, by omega, fun h0 => ?_⟩
    obtain ⟨b, off, spot⟩ := a
    have hcell : ∀ i j, i < len → j < 3 → W.cell? ((Addr.mk b off spot).add (i * 3 + j)) = some ((G i).vals.getD j undef) := fun i j hi hj => by
      obtain ⟨_, _, h3⟩ := World.cells?_some (hG i hi).2
      rw [← Go.Deep.add_add, h3 j hj]
      rcases (by omega : j = 0 ∨ j = 1 ∨ j = 2) with rfl | rfl | rfl <;> rfl
    have hspot : spot = none := by simpa [Addr.add] using World.cell?_spot (hcell 0 0 h0 (by omega))
    subst hspot
    refine ⟨b, off, rfl, cell_lt (hcell 0 0 h0 (by omega)), fun i j hi hj => ?_⟩
    rw [← hcell i j hi hj, Addr.add_lit, Nat.add_assoc]
end
end Go.Proofs.YtdgodcgdlfjpaaaGreatDoor
namespace Go.Proofs.YtdgodcgdlfjpaaaGreatDoor
open Go.RowKit Go.Mono
theorem vleast_ok (p : Option Addr) (n c : Nat) (G : Nat → Thn) (hG : ∀ i, i < n → (G i).ok) (q : Option Addr) (m c2 : Nat) (O : Nat → Int) (hO : ∀ i, i < m → 0 ≤ O i ∧ O i ≤ 255) (s0 s1 : Int) (hs0 : 0 ≤ s0 ∧ s0 ≤ 255) (hs1 : 0 ≤ s1 ∧ s1 ≤ 255) (w : World) (h : ThinsAt w p n c G) (hq : OctsAt w q m c2 O) :
    Calls Tryz.prog 5 #[.slice p n c, .slice q m c2, .agg #[.int .u8 s0, .int .u8 s1]] w fun e w' => e = .returned (.bool true) ∧ Below w.heap.size w w' :=
  vleast_of (Lib.hid fun w => vworks_ok w) p n c G hG q m c2 O hO s0 s1 hs0 hs1 w h hq
end Go.Proofs.YtdgodcgdlfjpaaaGreatDoor
namespace Go.Proofs.YtdgodcgdlfjpaaaGreatDoor
open Go Go.ChangeShapes Go.WideShapes Go.ChangeAt Go.RowKit Go.Mono
section
variable {H : Type} {enc : TypeId × Value → H} {W : World} {base : Nat} {r : Reach} {v : Value} {d : DataW H} {p : List MemPlace}
set_option maxRecDepth 100000 in
theorem open_oct (hv : Value.okWide Tryz.prog W r base 5 v) (h : DataW.Trod enc Tryz.prog W 0 (fun _ => true) true 5 v d p) : ∃ o : Int, v = .int .u8 o ∧ (0 ≤ o ∧ o ≤ 255) := by
  obtain ⟨x, rfl, rfl, rfl, wx⟩ := open_int Tryz.underlying5 hv h
  exact ⟨x, rfl, bounds_u8 wx⟩
set_option maxRecDepth 100000 in
theorem open_octs (hv : Value.okWide Tryz.prog W r base 50 v) (h : DataW.Trod enc Tryz.prog W 0 (fun _ => true) true 50 v d p) (hsz : ∀ n ∈ d.weights Tryz.prog 50, n ≤ reachBytes) :
    ∃ (q : Option Addr) (n c : Nat) (O : Nat → Int), v = .slice q n c ∧ (∀ i, i < n → 0 ≤ O i ∧ O i ≤ 255) ∧ OctsAt W q n c O := by
  have hc : Tryz.prog.cellsOf 5 = 1 := by kernel_rfl
  have hby : Tryz.prog.bytesOf 5 = 1 := by kernel_rfl
  obtain ⟨a0, len, cap, rfl⟩ := okWide_slice Tryz.underlying50 hv
  obtain ⟨fuel, hf⟩ := h
  rcases Go.Deep.open_slice Tryz.underlying50 hf with ⟨hcs, hx⟩ | ⟨a, len', cap', m, n, D, Pl, hcs, _, hl, hmx, hm, hx, hel⟩
  · simp [Value.cells] at hcs
    obtain ⟨rfl, rfl, rfl⟩ := hcs
    exact ⟨none, 0, 0, fun _ => 0, rfl, fun i hi => absurd hi (Nat.not_lt_zero _), Nat.le_refl _, by omega, fun h => absurd h (Nat.not_lt_zero _)⟩
  · simp [Value.cells] at hcs
    obtain ⟨rfl, rfl, rfl⟩ := hcs
    simp only [if_true] at hm
    simp only [Prod.mk.injEq] at hx
    obtain ⟨rfl, _⟩ := hx
    have hw := hsz _ (by rw [DataW.weights, Tryz.underlying50]; exact List.mem_cons_self ..)
    rw [List.length_map, List.length_map, List.length_range, List.length_range, hby] at hw
    have hr : reachBytes = 140737488351232 := rfl
    have hel' : ∀ i, i < len → ∃ o : Int, (0 ≤ o ∧ o ≤ 255) ∧ W.cell? (a.add i) = some (.int .u8 o) := fun i hi => by
      obtain ⟨cs', h1, h2⟩ := hel i (by omega)
      obtain ⟨o, rfl, _, wo⟩ := DataW.trod_int Tryz.underlying5 h2
      rw [hc, Nat.mul_one] at h1
      exact ⟨o, bounds_u8 wo, cell_of_cells?_one h1⟩
    obtain ⟨O, hO⟩ := Go.Deep.choose_lt hel'
    refine ⟨some a, len, cap, O, rfl, fun i hi => (hO i hi).1, hl, by omega, fun h0 => ?_⟩
    obtain ⟨b, off, spot⟩ := a
    have hspot : spot = none := by simpa [Addr.add] using World.cell?_spot (hO 0 h0).2
    subst hspot
    refine ⟨b, off, rfl, cell_lt (hO 0 h0).2, fun i j hi hj => ?_⟩
    obtain rfl : j = 0 := by omega
    rw [← (hO i hi).2, Addr.add_lit]
    simp
end
end Go.Proofs.YtdgodcgdlfjpaaaGreatDoor
