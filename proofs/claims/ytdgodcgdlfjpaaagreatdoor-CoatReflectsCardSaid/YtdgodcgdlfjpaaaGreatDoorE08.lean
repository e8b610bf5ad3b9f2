/- A verified evaluator of the model, and the references of layer 40 by it. Part 8 of 8. No condition beside the row. -/
import Derived.Laws.AppendOwnNone
import Derived.Test.YtdgodcgdlfjpaaaGreatDoorA34
import Derived.Test.YtdgodcgdlfjpaaaGreatDoorA39
import Derived.Test.YtdgodcgdlfjpaaaGreatDoorA40
import Derived.Test.YtdgodcgdlfjpaaaGreatDoorE02
import Derived.Test.YtdgodcgdlfjpaaaGreatDoorE06
import Derived.Test.YtdgodcgdlfjpaaaGreatDoorE07
set_option linter.unusedVariables false
set_option linter.unusedSimpArgs false
set_option maxRecDepth 100000
set_option maxHeartbeats 4000000
namespace Go.Proofs.YtdgodcgdlfjpaaaGreatDoor
open Go.RowKit Go.Mono Go.Ev
def qDen : Den where
 R := fun w q cs => QV w (.agg cs.toArray) q
 ext := fun h hx => h.ext hx
 len := fun h => by
  obtain ⟨p, k, c, p', k', c', e, _⟩ := h
  have := congrArg Value.cells e
  simp only [Value.cells] at this
  have := congrArg Array.size this
  simpa using this
 one := fun h => by
  obtain ⟨p, k, c, p', k', c', e, _⟩ := h
  have := congrArg Value.cells e
  simp only [Value.cells] at this
  have := congrArg Array.toList this
  simp only [List.toList_toArray] at this
  rw [this]
  simp [Value.oneCell']
theorem den_quo {ρ : Nm} {w : World} {q : Rat} {v : Value} : denA qDen ρ w (.agg [.quo q]) v ↔ QV w v q := by
 constructor
 ·rintro ⟨cs, e, c, d, e2, hc, hd⟩
  obtain rfl : d = [] := hd
  rw [List.append_nil] at e2
  subst e2
  rw [e]
  exact hc
 ·intro h
  obtain ⟨p, k, c, p', k', c', e, h2⟩ := h
  refine ⟨[.bool (decide (q.num < 0)), .slice p k c, .bool false, .slice p' k' c'], e, _, [], (List.append_nil _).symm, ?_, rfl⟩
  exact ⟨p, k, c, p', k', c', rfl, h2⟩
theorem QV.agg {w : World} {v : Value} {q : Rat} (h : QV w v q) : ∃ C : Array Value, v = .agg C := by
 obtain ⟨p, k, c, p', k', c', e, h2⟩ := h
 exact ⟨_, e⟩
def okSums (bk : List (Nat × Blk)) (k : Nat) : Bool :=
 match bk.lookup k with
 | some b => match b.cells with
   | [.val (.int .i64 e)] => Nat.beq b.T 131 && (e == 0) && !b.ro
   | _ => false
 | none => false
theorem okSums_box {ρ : Nm} {w : World} {bk : List (Nat × Blk)} {k : Nat} (h : okSums bk k = true) (hb : BkOk qDen ρ w w bk) : ∃ B, ρ k = some B ∧ B.base = 0 ∧ Box w B.blk 131 #[.int .i64 0] := by
 unfold okSums at h
 split at h
 ·rename_i b hk
  split at h
  ·rename_i e hc
   rw [Bool.and_eq_true, Bool.and_eq_true] at h
   obtain ⟨⟨hT, he⟩, hro⟩ := h
   obtain ⟨B, cs, h1, h2, h3, h4⟩ := hb k b hk
   replace hT := Nat.eq_of_beq_eq_true hT
   replace he : e = 0 := by simpa using he
   subst he
   rw [hc] at h3
   obtain ⟨c, d, rfl, ⟨rfl, _⟩, hd⟩ := h3
   obtain rfl : d = [] := hd
   rcases h2 with ⟨g, _⟩ | ⟨_, g0, g⟩
   ·rw [h4] at g; rw [g] at hro; cases hro
   ·rw [hT] at g
    exact ⟨B, h1, g0, g⟩
  ·cases h
 ·cases h
def sumsRun (op : Rat → Rat → SV × List Prop) (args : List SA) (bk : List (Nat × Blk)) (orc : List (Option Bool)) : Option (SV × List Prop × List (Option Bool)) :=
 match args with
 | [.one (.ptr k 0), .agg [.quo a], .agg [.quo b]] => if okSums bk k then some ((op a b).1, (op a b).2, orc) else none
 | _ => none
def sumsSpec (w0 : World) (X : Nat → Prop) (f : FuncId) (op : Rat → Rat → Rat) (side : Rat → Rat → List Prop)
    (h : ∀ (Ca Cb : Array Value) (a b : Rat) (Bs : Nat) (w : World), (∀ p ∈ side a b, p) → Box w Bs 131 #[.int .i64 0] → QV w (.agg Ca) a → QV w (.agg Cb) b →
     Calls Tryz.prog f #[.pointer (some ⟨Bs, 0, none⟩), .agg Ca, .agg Cb] w fun e w' => ∃ C, e = .returned (.agg C) ∧ QV w' (.agg C) (op a b) ∧ Below w.heap.size w w') : Ctr qDen Tryz.prog w0 X := .plain (f) (sumsRun fun a b => (.a (.agg [.quo (op a b)]), side a b)) <| by
    intro args bk orc v obl orc' hr hobl ρ w vals hfr hb hargs
    unfold sumsRun at hr
    split at hr
    ·rename_i k a b
     split at hr
     ·rename_i hk
      cases hr
      obtain ⟨v1, r1, rfl, h1, v2, r2, rfl, h2, v3, r3, rfl, h3, h4⟩ := hargs
      obtain rfl : r3 = [] := h4
      obtain ⟨B, hB, hbase, bx⟩ := okSums_box hk hb
      obtain ⟨B', hB', e1⟩ := h1
      cases hB.symm.trans hB'
      have e2 : v1 = .pointer (some ⟨B.blk, 0, none⟩) := by rw [hbase] at e1; simpa using e1
      subst e2
      have q2 := den_quo.1 h2
      have q3 := den_quo.1 h3
      obtain ⟨C2, rfl⟩ := QV.agg q2
      obtain ⟨C3, rfl⟩ := QV.agg q3
      refine (h C2 C3 a b B.blk w hobl bx q2 q3).mono ?_
      rintro e w' ⟨C, rfl, hC, hbl⟩
      exact ⟨_, rfl, den_quo.2 hC, hbl⟩
     ·cases hr
    ·cases hr
def specAdd (w0 : World) (X : Nat → Prop) : Ctr qDen Tryz.prog w0 X := sumsSpec w0 X 65 (fun a b => a + b) (fun a b => [Fits (a + b)]) fun Ca Cb a b Bs w hs bs h1 h2 => sadd_ok Bs w bs h1 h2 (hs _ (by simp))
def specSub (w0 : World) (X : Nat → Prop) : Ctr qDen Tryz.prog w0 X := sumsSpec w0 X 64 (fun a b => a - b) (fun a b => [Fits (a - b)]) fun Ca Cb a b Bs w hs bs h1 h2 => ssub_ok Bs w bs h1 h2 (hs _ (by simp))
def specMul (w0 : World) (X : Nat → Prop) : Ctr qDen Tryz.prog w0 X := sumsSpec w0 X 63 (fun a b => a * b) (fun a b => [Fits (a * b)]) fun Ca Cb a b Bs w hs bs h1 h2 => smul_ok Bs w bs h1 h2 (hs _ (by simp))
def specDiv (w0 : World) (X : Nat → Prop) : Ctr qDen Tryz.prog w0 X := sumsSpec w0 X 66 (fun a b => a / b) (fun a b => [0 < b, Fits (a / b)]) fun Ca Cb a b Bs w hs bs h1 h2 => sdiv_ok Bs w bs h1 h2 (hs _ (by simp)) (hs _ (by simp))
def of17Run (args : List SA) (bk : List (Nat × Blk)) (orc : List (Option Bool)) : Option (SV × List Prop × List (Option Bool)) :=
 match args with
 | [x, y] => match intOf (some (.a x)), intOf (some (.a y)) with
   | some (n, _), some (d, _) => some (.a (.agg [.quo (Rat.divInt n d)]), [inR n, 0 < d ∧ d ≤ 9223372036854775807], orc)
   | _, _ => none
 | _ => none
def specOf17 (w0 : World) (X : Nat → Prop) : Ctr qDen Tryz.prog w0 X := .plain (62) (of17Run) <| by
    intro args bk orc v obl orc' hr hobl ρ w vals hfr hb hargs
    unfold of17Run at hr
    split at hr
    ·rename_i x y
     split at hr
     ·rename_i n s d s' hx hy
      cases hr
      obtain ⟨v1, r1, rfl, h1, v2, r2, rfl, h2, h3⟩ := hargs
      obtain rfl : r2 = [] := h3
      obtain rfl := intOf_ok (D := qDen) (ρ := ρ) (w := w) hx h1
      obtain rfl := intOf_ok (D := qDen) (ρ := ρ) (w := w) hy h2
      obtain ⟨a1, a2⟩ := hobl (inR n) (by simp)
      obtain ⟨hd, b2⟩ := hobl (0 < d ∧ d ≤ 9223372036854775807) (by simp)
      refine (r17of_ok n d w hd a1 a2 b2).mono ?_
      rintro e w' ⟨C, rfl, hC, hbl⟩
      exact ⟨_, rfl, den_quo.2 (hC.mono (by decide)).qv, hbl⟩
     ·cases hr
    ·cases hr
def same04Run (args : List SA) (bk : List (Nat × Blk)) (orc : List (Option Bool)) : Option (SV × List Prop × List (Option Bool)) :=
 match args with
 | [.agg [.quo a], .agg [.quo b]] => some (.a (.one (.tst (decide (a = b)))), [], orc)
 | _ => none
def specSame04 (w0 : World) (X : Nat → Prop) : Ctr qDen Tryz.prog w0 X := .plain (17) (same04Run) <| by
    intro args bk orc v obl orc' hr hobl ρ w vals hfr hb hargs
    unfold same04Run at hr
    split at hr
    ·rename_i a b
     cases hr
     obtain ⟨v1, r1, rfl, h1, v2, r2, rfl, h2, h3⟩ := hargs
     obtain rfl : r2 = [] := h3
     refine (r4same_ok w (den_quo.1 h1).qt (den_quo.1 h2).qt).mono ?_
     rintro e w' ⟨rfl, hbl⟩
     exact ⟨_, rfl, rfl, hbl⟩
    ·cases hr
theorem wide_ : Tryz.prog.follows .mixedOrders = true := by kernel_rfl
theorem idx_pos0 {n : Int} (h : 10000000 ≤ n) : 0 < idx n := by
 unfold idx
 rw [Rat.divInt_eq_div, Rat.div_def]
 refine Rat.mul_pos ?_ (Rat.inv_pos.2 (by decide +kernel))
 exact Rat.intCast_pos.2 (by omega)
theorem den_film {ρ : Nm} {w : World} (f : Flm) : denA qDen ρ w (.agg [.sym f.ix, .sym f.p, .sym f.q]) (.agg f.vals) :=
 ⟨[.int .i64 f.ix, .int .i64 f.p, .int .i64 f.q], rfl, [.int .i64 f.ix], _, rfl, rfl, [.int .i64 f.p], _, rfl, rfl, [.int .i64 f.q], _, rfl, rfl, rfl⟩
theorem film_den {ρ : Nm} {w : World} {a b c : Int} {v : Value} (h : denA qDen ρ w (.agg [.sym a, .sym b, .sym c]) v) : v = .agg (Flm.vals ⟨a, b, c⟩) := by
 obtain ⟨cs, rfl, x1, r1, rfl, h1, x2, r2, rfl, h2, x3, r3, rfl, h3, h4⟩ := h
 obtain rfl : r3 = [] := h4
 rw [show x1 = _ from h1, show x2 = _ from h2, show x3 = _ from h3]
 rfl
theorem den_mat {ρ : Nm} {w : World} {m : Mat} {v : Value} : denA qDen ρ w (.agg [.quo m.a, .quo m.b, .quo m.c, .quo m.d]) v ↔ ∃ C, v = .agg C ∧ MV w C m := by
 constructor
 ·rintro ⟨cs, rfl, x1, r1, rfl, h1, x2, r2, rfl, h2, x3, r3, rfl, h3, x4, r4, rfl, h4, h5⟩
  obtain rfl : r4 = [] := h5
  obtain ⟨a0, a1, a2, a3, rfl⟩ : ∃ a0 a1 a2 a3, x1 = [a0, a1, a2, a3] := by have := qDen.len h1; match x1, this with | [a, b, c, d], _ => exact ⟨_, _, _, _, rfl⟩
  obtain ⟨b0, b1, b2, b3, rfl⟩ : ∃ a0 a1 a2 a3, x2 = [a0, a1, a2, a3] := by have := qDen.len h2; match x2, this with | [a, b, c, d], _ => exact ⟨_, _, _, _, rfl⟩
  obtain ⟨c0, c1, c2, c3, rfl⟩ : ∃ a0 a1 a2 a3, x3 = [a0, a1, a2, a3] := by have := qDen.len h3; match x3, this with | [a, b, c, d], _ => exact ⟨_, _, _, _, rfl⟩
  obtain ⟨d0, d1, d2, d3, rfl⟩ : ∃ a0 a1 a2 a3, x4 = [a0, a1, a2, a3] := by have := qDen.len h4; match x4, this with | [a, b, c, d], _ => exact ⟨_, _, _, _, rfl⟩
  exact ⟨_, rfl, ⟨⟨_, _, _, _, _, _, _, _, _, _, _, _, _, _, _, _, rfl, h1, h2, h3, h4⟩⟩⟩
 ·rintro ⟨C, rfl, h⟩
  obtain ⟨a0, a1, a2, a3, b0, b1, b2, b3, c0, c1, c2, c3, d0, d1, d2, d3, rfl, h1, h2, h3, h4⟩ := h.parts
  exact ⟨_, rfl, [a0, a1, a2, a3], _, rfl, h1, [b0, b1, b2, b3], _, rfl, h2, [c0, c1, c2, c3], _, rfl, h3, [d0, d1, d2, d3], [], rfl, h4, rfl⟩
theorem run11 (f : Flm) (w : World) (orc : List (Option Bool)) (b : Bool) (L : List Prop)
  (h : (evF Tryz.prog ([] : List (Ctr qDen Tryz.prog w fun _ => False)) 2 75 [.agg [.sym f.ix, .sym f.p, .sym f.q]] [] 0 orc).map (fun r => (r.v, r.obl)) = some (.a (.one (.val (.bool b))), L)) (hL : AllP L) :
  Calls Tryz.prog 75 #[.agg f.vals] w fun e w' => e = .returned (.bool b) ∧ Below w.heap.size w w' := by
 refine (evRun0 wide_ _ _ L h hL (vals := [.agg f.vals]) ⟨_, _, rfl, den_film f, rfl⟩).mono ?_
 rintro e w' ⟨v, ρ', rfl, hv, hb⟩
 exact ⟨by rw [show v = .bool b by simpa using hv.1], hb⟩
theorem r11film_ok (f : Flm) (w : World) : Calls Tryz.prog 75 #[.agg f.vals] w fun e w' => e = .returned (.bool (decide f.ok)) ∧ Below w.heap.size w w' := by
 by_cases h1 : f.ix ≥ 10000000
 rotate_left
 ·rw [decide_eq_false (fun hf : f.ok => h1 (by unfold Flm.ok at hf; omega))]
  exact run11 f w [some false] false [decide (f.ix ≥ 10000000) = false] (by kernel_rfl) ⟨decide_eq_false h1, trivial⟩
 by_cases h2 : f.ix ≤ 40000000
 rotate_left
 ·rw [decide_eq_false (fun hf : f.ok => h2 (by unfold Flm.ok at hf; omega))]
  exact run11 f w [some true, some false] false [decide (f.ix ≥ 10000000) = true, decide (f.ix ≤ 40000000) = false] (by kernel_rfl) ⟨decide_eq_true h1, decide_eq_false h2, trivial⟩
 by_cases h3 : f.p ≥ 0
 rotate_left
 ·rw [decide_eq_false (fun hf : f.ok => h3 (by unfold Flm.ok at hf; omega))]
  exact run11 f w [some true, some true, some false] false [decide (f.ix ≥ 10000000) = true, decide (f.ix ≤ 40000000) = true, decide (f.p ≥ 0) = false] (by kernel_rfl) ⟨decide_eq_true h1, decide_eq_true h2, decide_eq_false h3, trivial⟩
 by_cases h4 : f.p ≤ 1000
 rotate_left
 ·rw [decide_eq_false (fun hf : f.ok => h4 (by unfold Flm.ok at hf; omega))]
  exact run11 f w [some true, some true, some true, some false] false [decide (f.ix ≥ 10000000) = true, decide (f.ix ≤ 40000000) = true, decide (f.p ≥ 0) = true, decide (f.p ≤ 1000) = false] (by kernel_rfl) ⟨decide_eq_true h1, decide_eq_true h2, decide_eq_true h3, decide_eq_false h4, trivial⟩
 by_cases h5 : f.q ≥ 1
 rotate_left
 ·rw [decide_eq_false (fun hf : f.ok => h5 (by unfold Flm.ok at hf; omega))]
  exact run11 f w [some true, some true, some true, some true, some false] false [decide (f.ix ≥ 10000000) = true, decide (f.ix ≤ 40000000) = true, decide (f.p ≥ 0) = true, decide (f.p ≤ 1000) = true, decide (f.q ≥ 1) = false] (by kernel_rfl) ⟨decide_eq_true h1, decide_eq_true h2, decide_eq_true h3, decide_eq_true h4, decide_eq_false h5, trivial⟩
 by_cases h6 : f.q ≤ 1000
 rotate_left
 ·rw [decide_eq_false (fun hf : f.ok => h6 (by unfold Flm.ok at hf; omega))]
  exact run11 f w [some true, some true, some true, some true, some true, some false] false [decide (f.ix ≥ 10000000) = true, decide (f.ix ≤ 40000000) = true, decide (f.p ≥ 0) = true, decide (f.p ≤ 1000) = true, decide (f.q ≥ 1) = true, decide (f.q ≤ 1000) = false] (by kernel_rfl) ⟨decide_eq_true h1, decide_eq_true h2, decide_eq_true h3, decide_eq_true h4, decide_eq_true h5, decide_eq_false h6, trivial⟩
 rw [decide_eq_true (show f.ok by unfold Flm.ok; omega)]
 exact run11 f w [some true, some true, some true, some true, some true, some true] true [decide (f.ix ≥ 10000000) = true, decide (f.ix ≤ 40000000) = true, decide (f.p ≥ 0) = true, decide (f.p ≤ 1000) = true, decide (f.q ≥ 1) = true, decide (f.q ≤ 1000) = true] (by kernel_rfl) ⟨decide_eq_true h1, decide_eq_true h2, decide_eq_true h3, decide_eq_true h4, decide_eq_true h5, decide_eq_true h6, trivial⟩
def film11Run (args : List SA) (bk : List (Nat × Blk)) (orc : List (Option Bool)) : Option (SV × List Prop × List (Option Bool)) :=
 match args with
 | [.agg [.sym a, .sym b, .sym c]] => some (.a (.one (.tst (decide (Flm.ok ⟨a, b, c⟩)))), [], orc)
 | _ => none
def specFilm11 (w0 : World) (X : Nat → Prop) : Ctr qDen Tryz.prog w0 X := .plain (75) (film11Run) <| by
    intro args bk orc v obl orc' hr hobl ρ w vals hfr hb hargs
    unfold film11Run at hr
    split at hr
    ·rename_i a b c
     cases hr
     obtain ⟨v1, r1, rfl, h1, h2⟩ := hargs
     obtain rfl : r1 = [] := h2
     obtain rfl := film_den h1
     refine (r11film_ok ⟨a, b, c⟩ w).mono ?_
     rintro e w' ⟨rfl, hbl⟩
     exact ⟨_, rfl, rfl, hbl⟩
    ·cases hr
def sums (w0 : World) (X : Nat → Prop) : List (Ctr qDen Tryz.prog w0 X) := [specAdd w0 X, specSub w0 X, specMul w0 X, specDiv w0 X, specOf17 w0 X, specFilm11 w0 X]
theorem r40times_ok (x y : Mat) (hf : MFits x y) (Cx Cy : Array Value) (Bs : Nat) (w : World) (bs : Box w Bs 131 #[.int .i64 0]) (hx : MV w Cx x) (hy : MV w Cy y) :
  Calls Tryz.prog 91 #[.pointer (some ⟨Bs, 0, none⟩), .agg Cx, .agg Cy] w fun e w' => ∃ C, e = .returned (.agg C) ∧ MV w' C (x.mul y) ∧ Below w.heap.size w w' := by
 have h0 : ∀ k B, (fun k => if k = 0 then some (⟨Bs, 0, false⟩ : Pl) else none : Nm) k = some B → k = 0 ∧ B = ⟨Bs, 0, false⟩ := by
  intro k B hk
  dsimp only at hk
  split at hk
  ·rename_i e; cases hk; exact ⟨e, rfl⟩
  ·cases hk
 refine (evRun (w := w) (X := fun i => i = Bs) (d := 3) (orc := []) (c := 1) (bk := [(0, ⟨131, [.val (.int .i64 0)], false⟩)]) (args := [.one (.ptr 0 0), .agg [.quo x.a, .quo x.b, .quo x.c, .quo x.d], .agg [.quo y.a, .quo y.b, .quo y.c, .quo y.d]]) wide_ (sums w _)
  (.a (.agg [.quo (x.mul y).a, .quo (x.mul y).b, .quo (x.mul y).c, .quo (x.mul y).d])) [Fits (x.a * y.a), Fits (x.b * y.c), Fits (x.a * y.a - x.b * y.c), Fits (x.a * y.b), Fits (x.b * y.d), Fits (x.a * y.b + x.b * y.d), Fits (x.c * y.a), Fits (x.d * y.c), Fits (x.c * y.a + x.d * y.c), Fits (x.d * y.d), Fits (x.c * y.b), Fits (x.d * y.d - x.c * y.b)]
  (fun k => if k = 0 then some ⟨Bs, 0, false⟩ else none) (by kernel_rfl) ?_ (fun k hk => ?_) (fun k k' B B' h1 h2 _ => ?_) (fun k B h1 => ?_) (fun k bl hk => ?_) (vals := [.pointer (some ⟨Bs, 0, none⟩), .agg Cx, .agg Cy]) ⟨_, _, rfl, ⟨⟨Bs, 0, false⟩, rfl, rfl⟩, _, _, rfl, den_mat.2 ⟨Cx, rfl, hx⟩, _, _, rfl, den_mat.2 ⟨Cy, rfl, hy⟩, rfl⟩).mono ?_
 ·exact ⟨hf.pr _ _ (by simp) (by simp), hf.pr _ _ (by simp) (by simp), hf.a, hf.pr _ _ (by simp) (by simp), hf.pr _ _ (by simp) (by simp), hf.b, hf.pr _ _ (by simp) (by simp), hf.pr _ _ (by simp) (by simp), hf.c, hf.pr _ _ (by simp) (by simp), hf.pr _ _ (by simp) (by simp), hf.d, trivial⟩
 ·show (if k = 0 then _ else none) = none
  rw [if_neg (by omega)]
 ·obtain ⟨rfl, _⟩ := h0 k B h1
  obtain ⟨rfl, _⟩ := h0 k' B' h2
  exact .inl rfl
 ·obtain ⟨_, rfl⟩ := h0 k B h1
  exact bs.lt
 ·rw [lookup_cons] at hk
  split at hk
  ·rename_i e
   cases hk
   subst e
   exact ⟨by omega, ⟨Bs, 0, false⟩, [.int .i64 0], rfl, rfl, .inr ⟨rfl, rfl, bs⟩, ⟨_, _, rfl, ⟨rfl, rfl⟩, rfl⟩, fun _ => ⟨rfl, rfl⟩⟩
  ·simp at hk
 ·rintro e w' ⟨v, ρ', rfl, hv, hb⟩
  obtain ⟨C, rfl, hC⟩ := den_mat.1 hv
  exact ⟨C, rfl, hC, hb⟩
theorem r40film_ok (f : Flm) (hf : f.ok) (w : World) : Calls Tryz.prog 25 #[.agg f.vals] w fun e w' => ∃ C, e = .returned (.tuple #[.agg C, .int .i64 0]) ∧ MV w' C f.mat ∧ Below w.heap.size w w' := by
 obtain ⟨hm, hsin, hcos, hix⟩ := film_hs hf
 have fits_b := hm.2.1.fits (by decide)
 have fits_c := hm.2.2.1.fits (by decide)
 have hn0 : 0 < Rat.divInt f.ix 10000000 := idx_pos0 hf.1
 have hf' := hf
 obtain ⟨i1, i2, p1, p2, q1, q2⟩ := hf
 have pq : (f.p * f.q).natAbs ≤ 1000 * 1000 := mul_in (by omega) (by omega)
 have pp : (f.p * f.p).natAbs ≤ 1000 * 1000 := mul_in (by omega) (by omega)
 have qq : (f.q * f.q).natAbs ≤ 1000 * 1000 := mul_in (by omega) (by omega)
 have pq2 : 2 * f.p * f.q = 2 * (f.p * f.q) := by grind
 have hq0 : 0 < f.q * f.q := Int.mul_pos (by omega) (by omega)
 have hp0 : 0 ≤ f.p * f.p := Int.mul_nonneg (by omega) (by omega)
 refine (evRun0 (d := 3) (orc := [some true]) (args := [.agg [.sym f.ix, .sym f.p, .sym f.q]]) wide_ (sums w _) (.tup [.agg [.quo f.mat.a, .quo f.mat.b, .quo f.mat.c, .quo f.mat.d], .one (.val (.int .i64 0))])
  [decide f.ok = true, inR (f.q * f.q), inR (f.p * f.p), inR (f.q * f.q + f.p * f.p), inR (f.q * f.q), inR (f.p * f.p), inR (f.q * f.q - f.p * f.p), inR (f.q * f.q - f.p * f.p), 0 < f.q * f.q + f.p * f.p ∧ f.q * f.q + f.p * f.p ≤ 9223372036854775807,
   inR (2 * f.p), inR (2 * f.p * f.q), inR (2 * f.p * f.q), 0 < f.q * f.q + f.p * f.p ∧ f.q * f.q + f.p * f.p ≤ 9223372036854775807, inR f.ix, (0 : Int) < 10000000 ∧ (10000000 : Int) ≤ 9223372036854775807, 0 < Rat.divInt f.ix 10000000, Fits f.mat.b, Fits f.mat.c]
  (by kernel_rfl) ?_ (vals := [.agg f.vals]) ⟨_, _, rfl, den_film f, rfl⟩).mono ?_
 ·unfold inR
  exact ⟨decide_eq_true hf', by omega, by omega, by omega, by omega, by omega, by omega, by omega, by omega, by omega, by omega, by omega, by omega, by omega, by omega, hn0, fits_b, fits_c, trivial⟩
 ·rintro e w' ⟨v, ρ', rfl, ⟨vs, rfl, v1, r1, rfl, h1, v2, r2, rfl, h2, h3⟩, hb⟩
  obtain rfl : r2 = [] := h3
  obtain ⟨C, rfl, hC⟩ := den_mat.1 h1
  refine ⟨C, ?_, hC, hb⟩
  rw [show v2 = .int .i64 0 by simpa using h2.1]
def film40Run (args : List SA) (bk : List (Nat × Blk)) (orc : List (Option Bool)) : Option (SV × List Prop × List (Option Bool)) :=
 match args with
 | [.agg [.sym a, .sym b, .sym c]] => some (.tup [.agg [.quo (Flm.mat ⟨a, b, c⟩).a, .quo (Flm.mat ⟨a, b, c⟩).b, .quo (Flm.mat ⟨a, b, c⟩).c, .quo (Flm.mat ⟨a, b, c⟩).d], .one (.val (.int .i64 0))], [Flm.ok ⟨a, b, c⟩], orc)
 | _ => none
theorem den_tup2 {ρ : Nm} {w : World} {a b : SA} {u v : Value} (h1 : denA qDen ρ w a u) (h2 : denA qDen ρ w b v) : denV qDen ρ w (.tup [a, b]) (.tuple #[u, v]) := ⟨[u, v], rfl, u, [v], rfl, h1, v, [], rfl, h2, rfl⟩
def specFilm40 (w0 : World) (X : Nat → Prop) : Ctr qDen Tryz.prog w0 X := .plain (25) (film40Run) <| by
    intro args bk orc v obl orc' hr hobl ρ w vals hfr hb hargs
    unfold film40Run at hr
    split at hr
    ·rename_i a b c
     cases hr
     obtain ⟨v1, r1, rfl, h1, h2⟩ := hargs
     obtain rfl : r1 = [] := h2
     obtain rfl := film_den h1
     refine (r40film_ok ⟨a, b, c⟩ (hobl _ (List.mem_singleton.2 rfl)) w).mono ?_
     rintro e w' ⟨C, rfl, hC, hbl⟩
     exact ⟨_, rfl, den_tup2 (den_mat.2 ⟨C, rfl, hC⟩) ⟨rfl, rfl⟩, hbl⟩
    ·cases hr
def timesRun (args : List SA) (bk : List (Nat × Blk)) (orc : List (Option Bool)) : Option (SV × List Prop × List (Option Bool)) :=
 match args with
 | [.one (.ptr k 0), .agg [.quo a, .quo b, .quo c, .quo d], .agg [.quo a', .quo b', .quo c', .quo d']] => if okSums bk k then
   some (.a (.agg [.quo (Mat.mul ⟨a, b, c, d⟩ ⟨a', b', c', d'⟩).a, .quo (Mat.mul ⟨a, b, c, d⟩ ⟨a', b', c', d'⟩).b, .quo (Mat.mul ⟨a, b, c, d⟩ ⟨a', b', c', d'⟩).c, .quo (Mat.mul ⟨a, b, c, d⟩ ⟨a', b', c', d'⟩).d]), [MFits ⟨a, b, c, d⟩ ⟨a', b', c', d'⟩], orc) else none
 | _ => none
def specTimes40 (w0 : World) (X : Nat → Prop) : Ctr qDen Tryz.prog w0 X := .plain (91) (timesRun) <| by
    intro args bk orc v obl orc' hr hobl ρ w vals hfr hb hargs
    unfold timesRun at hr
    split at hr
    ·rename_i k a b c d a' b' c' d'
     split at hr
     ·rename_i hk
      cases hr
      obtain ⟨v1, r1, rfl, h1, v2, r2, rfl, h2, v3, r3, rfl, h3, h4⟩ := hargs
      obtain rfl : r3 = [] := h4
      obtain ⟨B, hB, hbase, bx⟩ := okSums_box hk hb
      obtain ⟨B', hB', e1⟩ := h1
      cases hB.symm.trans hB'
      have e2 : v1 = .pointer (some ⟨B.blk, 0, none⟩) := by rw [hbase] at e1; simpa using e1
      subst e2
      obtain ⟨C2, rfl, q2⟩ := (den_mat (m := ⟨a, b, c, d⟩)).1 h2
      obtain ⟨C3, rfl, q3⟩ := (den_mat (m := ⟨a', b', c', d'⟩)).1 h3
      refine (r40times_ok ⟨a, b, c, d⟩ ⟨a', b', c', d'⟩ (hobl _ (List.mem_singleton.2 rfl)) C2 C3 B.blk w bx q2 q3).mono ?_
      rintro e w' ⟨C, rfl, hC, hbl⟩
      exact ⟨_, rfl, den_mat.2 ⟨C, rfl, hC⟩, hbl⟩
     ·cases hr
    ·cases hr
def stackSp (w0 : World) (X : Nat → Prop) : List (Ctr qDen Tryz.prog w0 X) := [specTimes40 w0 X, specFilm40 w0 X, specFilm11 w0 X, specOf17 w0 X]
def stackE (F : Nat → Flm) : Nat → Mat
 | 0 => ⟨Rat.divInt 1 1, Rat.divInt 0 1, Rat.divInt 0 1, Rat.divInt 1 1⟩
 | k + 1 => Mat.mul ⟨(stackE F k).a, (stackE F k).b, (stackE F k).c, (stackE F k).d⟩ ⟨(Flm.mat ⟨(F k).ix, (F k).p, (F k).q⟩).a, (Flm.mat ⟨(F k).ix, (F k).p, (F k).q⟩).b, (Flm.mat ⟨(F k).ix, (F k).p, (F k).q⟩).c, (Flm.mat ⟨(F k).ix, (F k).p, (F k).q⟩).d⟩
theorem stackE_eq (F : Nat → Flm) : ∀ n, stackE F n = stackN F n
 | 0 => by
   show (⟨Rat.divInt 1 1, Rat.divInt 0 1, Rat.divInt 0 1, Rat.divInt 1 1⟩ : Mat) = Mat.one
   rw [show Rat.divInt 1 1 = 1 from by decide +kernel, show Rat.divInt 0 1 = 0 from by decide +kernel]
   rfl
 | k + 1 => by
   rw [stackN_succ, ← stackE_eq F k]
   rfl
def filmU (F : Nat → Flm) (n : Nat) : List U := (List.range n).flatMap fun i => [.sym (F i).ix, .sym (F i).p, .sym (F i).q]
def matU (m : Mat) : SA := .agg [.quo m.a, .quo m.b, .quo m.c, .quo m.d]
def stackL (F : Nat → Flm) (n : Nat) : List Prop :=
 (List.range n).map (fun i => decide (Flm.ok ⟨(F i).ix, (F i).p, (F i).q⟩) = true) ++ ([inR 1, (0 : Int) < 1 ∧ (1 : Int) ≤ 9223372036854775807, inR 0, (0 : Int) < 1 ∧ (1 : Int) ≤ 9223372036854775807] ++
  (List.range n).flatMap fun i => [Flm.ok ⟨(F i).ix, (F i).p, (F i).q⟩, MFits ⟨(stackE F i).a, (stackE F i).b, (stackE F i).c, (stackE F i).d⟩ ⟨(Flm.mat ⟨(F i).ix, (F i).p, (F i).q⟩).a, (Flm.mat ⟨(F i).ix, (F i).p, (F i).q⟩).b, (Flm.mat ⟨(F i).ix, (F i).p, (F i).q⟩).c, (Flm.mat ⟨(F i).ix, (F i).p, (F i).q⟩).d⟩])
def yes (n : Nat) : List (Option Bool) := List.replicate n (some true)
def filmVs (F : Nat → Flm) (n : Nat) : List Value := (List.range n).flatMap fun i => [.int .i64 (F i).ix, .int .i64 (F i).p, .int .i64 (F i).q]
theorem filmVs_len (F : Nat → Flm) : ∀ n, (filmVs F n).length = n * 3
 | 0 => rfl
 | n + 1 => by
   have ih := filmVs_len F n
   unfold filmVs at ih ⊢
   rw [List.range_succ, List.flatMap_append, List.length_append, ih]
   simp
   omega
theorem filmU_den (F : Nat → Flm) (ρ : Nm) (w : World) : ∀ n, denL qDen ρ w (filmU F n) (filmVs F n)
 | 0 => rfl
 | n + 1 => by
   have ih := filmU_den F ρ w n
   unfold filmU filmVs at ih ⊢
   rw [List.range_succ, List.flatMap_append, List.flatMap_append]
   refine ih.append ?_
   exact ⟨[.int .i64 (F n).ix], _, rfl, rfl, [.int .i64 (F n).p], _, rfl, rfl, [.int .i64 (F n).q], [], rfl, rfl, rfl⟩
theorem rangeAt_app {w : World} {b o : Nat} {l m : List Value} (h : w.rangeAt b o l) (g : w.rangeAt b (o + l.length) m) : w.rangeAt b o (l ++ m) := by
 intro j v hj
 by_cases hl : j < l.length
 ·rw [List.getElem?_append_left hl] at hj
  exact h j v hj
 ·rw [List.getElem?_append_right (by omega)] at hj
  have := g _ v hj
  rwa [show o + l.length + (j - l.length) = o + j by omega] at this
theorem films_view {w : World} {F : Nat → Flm} {n c : Nat} {p : Option Addr} (hn : 0 < n) (h : FilmsAt w p n c F) :
  ∃ b off, p = some ⟨b, off, none⟩ ∧ b < w.heap.size ∧ w.rangeAt b off (filmVs F n) := by
 obtain ⟨b, off, hp, hb, hr⟩ := h.range hn
 refine ⟨b, off, hp, hb, ?_⟩
 have key : ∀ m, m ≤ n → w.rangeAt b off (filmVs F m) := by
  intro m
  induction m with
  | zero => intro _ j v hj; simp [filmVs] at hj
  | succ m ih =>
    intro hm
    have h1 := ih (by omega)
    have h2 := hr m (by omega) w (Below.refl _ _)
    have e : filmVs F (m + 1) = filmVs F m ++ (F m).vals.toList := by
     unfold filmVs
     rw [List.range_succ, List.flatMap_append]
     simp [Flm.vals]
    rw [e]
    exact rangeAt_app h1 (by rw [filmVs_len]; exact h2)
 exact key n (Nat.le_refl n)
def filmBk (F : Nat → Flm) (n : Nat) : List (Nat × Blk) := [(0, ⟨24, filmU F n, true⟩)]
theorem evRunF {w : World} (sp : List (Ctr qDen Tryz.prog w (fun _ => False))) {F : Nat → Flm} {n c : Nat} {p : Option Addr} (hn : 0 < n) (h : FilmsAt w p n c F) {f : FuncId} {d : Nat} {args : List SA} {orc : List (Option Bool)} (V : SV) (L : List Prop)
  (hev : (evF Tryz.prog sp d f args (filmBk F n) 1 orc).map (fun r => (r.v, r.obl, fin (filmBk F n) r.wr)) = some (V, L, ini (filmBk F n))) (hL : AllP L) {vals : List Value}
  (hargs : ∀ ρ : Nm, (∃ B, ρ 0 = some B ∧ p = some ⟨B.blk, B.base, none⟩) → denAs qDen ρ w args vals) :
  Calls Tryz.prog f vals.toArray w fun e w' => ∃ v ρ', e = .returned v ∧ denV qDen ρ' w' V v ∧ Below w.heap.size w w' := by
 obtain ⟨b, off, hp, hb, hr⟩ := films_view hn h
 have h0 : ∀ k B, (fun k => if k = 0 then some (⟨b, off, true⟩ : Pl) else none : Nm) k = some B → k = 0 ∧ B = ⟨b, off, true⟩ := by
  intro k B hk
  dsimp only at hk
  split at hk
  ·rename_i e; cases hk; exact ⟨e, rfl⟩
  ·cases hk
 refine evRun wide_ sp V L (fun k => if k = 0 then some ⟨b, off, true⟩ else none) hev hL (fun k hk => ?_) (fun k k' B B' h1 h2 _ => ?_) (fun k B h1 => ?_) (fun k bl hk => ?_) (hargs _ ⟨⟨b, off, true⟩, rfl, hp⟩)
 ·show (if k = 0 then _ else none) = none
  rw [if_neg (by omega)]
 ·obtain ⟨rfl, _⟩ := h0 k B h1
  obtain ⟨rfl, _⟩ := h0 k' B' h2
  exact .inl rfl
 ·obtain ⟨_, rfl⟩ := h0 k B h1
  exact hb
 ·unfold filmBk at hk
  rw [lookup_cons] at hk
  split at hk
  ·rename_i e
   cases hk
   subst e
   exact ⟨by omega, ⟨b, off, true⟩, filmVs F n, rfl, rfl, .inl ⟨rfl, hr⟩, filmU_den F _ w n, fun hh => by cases hh⟩
  ·simp at hk
theorem AllP.of : ∀ {l : List Prop}, (∀ p ∈ l, p) → AllP l
 | [], _ => trivial
 | p :: r, h => ⟨h p (by simp), AllP.of fun q hq => h q (by simp [hq])⟩
theorem stack_run (w : World) (F : Nat → Flm) (n c : Nat) (h0 : 0 < n) (hn : n ≤ 8) : (evF Tryz.prog (stackSp w (fun _ => False)) 3 28 [.one (.slc 0 0 n c)] (filmBk F n) 1 (yes n)).map (fun r => (r.v, r.obl, fin (filmBk F n) r.wr)) = some (.tup [matU (stackE F n), .one (.val (.int .i64 0))], stackL F n, ini (filmBk F n)) := by
 rcases (show n = 1 ∨ n = 2 ∨ n = 3 ∨ n = 4 ∨ n = 5 ∨ n = 6 ∨ n = 7 ∨ n = 8 by omega) with rfl | rfl | rfl | rfl | rfl | rfl | rfl | rfl <;> kernel_rfl
theorem stackL_ok (F : Nat → Flm) (n : Nat) (hn : n ≤ 8) (hF : ∀ i, i < n → (F i).ok) : AllP (stackL F n) := by
 apply AllP.of
 intro p hp
 unfold stackL at hp
 rcases List.mem_append.1 hp with hp | hp
 ·obtain ⟨i, hi, rfl⟩ := List.mem_map.1 hp
  exact decide_eq_true (hF i (List.mem_range.1 hi))
 ·rcases List.mem_append.1 hp with hp | hp
  ·simp only [List.mem_cons, List.not_mem_nil, or_false] at hp
   rcases hp with rfl | rfl | rfl | rfl <;> first | (unfold inR; decide) | decide
  ·obtain ⟨i, hi, hp⟩ := List.mem_flatMap.1 hp
   have hi := List.mem_range.1 hi
   simp only [List.mem_cons, List.not_mem_nil, or_false] at hp
   rcases hp with rfl | rfl
   ·exact hF i hi
   ·have := mfitsN (F := F) (n := i) (fun j hj => hF j (by omega)) (by omega)
    rw [← stackE_eq] at this
    exact this
theorem r40stack_ok (F : Nat → Flm) (n : Nat) (hn : n ≤ 8) (hF : ∀ i, i < n → (F i).ok) (p : Option Addr) (c : Nat) (w : World) (h : FilmsAt w p n c F) :
  Calls Tryz.prog 28 #[.slice p n c] w fun e w' => ∃ C, e = .returned (.tuple #[.agg C, .int .i64 0]) ∧ MV w' C (stackN F n) ∧ Below w.heap.size w w' := by
 have fini : ∀ {e : Ending} {w' : World}, (∃ v ρ', e = .returned v ∧ denV qDen ρ' w' (.tup [matU (stackE F n), .one (.val (.int .i64 0))]) v ∧ Below w.heap.size w w') → ∃ C, e = .returned (.tuple #[.agg C, .int .i64 0]) ∧ MV w' C (stackN F n) ∧ Below w.heap.size w w' := by
  rintro e w' ⟨v, ρ', rfl, ⟨vs, rfl, v1, r1, rfl, h1, v2, r2, rfl, h2, h3⟩, hb⟩
  obtain rfl : r2 = [] := h3
  obtain ⟨C, rfl, hC⟩ := den_mat.1 h1
  refine ⟨C, ?_, by rw [← stackE_eq]; exact hC, hb⟩
  rw [show v2 = .int .i64 0 by simpa using h2.1]
 by_cases h0 : 0 < n
 ·refine (evRunF (stackSp w _) h0 h _ _ (stack_run w F n c h0 hn) (stackL_ok F n hn hF) (vals := [.slice p n c]) ?_).mono fun e w' h => fini h
  rintro ρ ⟨B, hB, rfl⟩
  exact ⟨_, _, rfl, ⟨B, hB, rfl⟩, rfl⟩
 ·obtain rfl : n = 0 := by omega
  refine (evRun0 (d := 3) (orc := []) (args := [.one (.val (.slice p 0 c))]) wide_ (stackSp w _) _ (stackL F 0) (by kernel_rfl) (stackL_ok F 0 (by omega) (fun i hi => by omega)) (vals := [.slice p 0 c]) ⟨_, _, rfl, ⟨rfl, rfl⟩, rfl⟩).mono fun e w' h => fini h
theorem r40stack_long (F : Nat → Flm) (n : Nat) (hn : n = 9 ∨ n = 10) (p : Option Addr) (c : Nat) (w : World) :
  Calls Tryz.prog 28 #[.slice p n c] w fun e w' => e = .returned (.tuple #[.agg quad0, .int .i64 3]) ∧ Below w.heap.size w w' := by
 have hev : (evF Tryz.prog (stackSp w (fun _ => False)) 3 28 [.one (.val (.slice p n c))] [] 0 []).map (fun r => (r.v, r.obl)) = some (.tup [.agg (quad0.toList.map .val), .one (.val (.int .i64 3))], []) := by
  rcases hn with rfl | rfl <;> kernel_rfl
 refine (evRun0 wide_ _ _ _ hev trivial (vals := [.slice p n c]) ⟨_, _, rfl, ⟨rfl, rfl⟩, rfl⟩).mono ?_
 rintro e w' ⟨v, ρ', rfl, ⟨vs, rfl, v1, r1, rfl, h1, v2, r2, rfl, h2, h3⟩, hb⟩
 obtain rfl : r2 = [] := h3
 have hr : realA (.agg (quad0.toList.map .val)) = some (.agg quad0) := rfl
 rw [realA_den hr h1, show v2 = .int .i64 3 by simpa using h2.1]
 exact ⟨rfl, hb⟩
def badL (F : Nat → Flm) (j : Nat) : List Prop := (List.range j).map (fun i => decide (Flm.ok ⟨(F i).ix, (F i).p, (F i).q⟩) = true) ++ [decide (Flm.ok ⟨(F j).ix, (F j).p, (F j).q⟩) = false]
theorem stack_bad (w : World) (F : Nat → Flm) (n c j : Nat) (hj : j < n) (hn : n ≤ 8) : (evF Tryz.prog (stackSp w (fun _ => False)) 3 28 [.one (.slc 0 0 n c)] (filmBk F n) 1 (yes j ++ [some false])).map (fun r => (r.v, r.obl, fin (filmBk F n) r.wr)) = some (.tup [.agg (quad0.toList.map .val), .one (.val (.int .i64 400))], badL F j, ini (filmBk F n)) := by
 rcases (show n = 1 ∨ n = 2 ∨ n = 3 ∨ n = 4 ∨ n = 5 ∨ n = 6 ∨ n = 7 ∨ n = 8 by omega) with rfl | rfl | rfl | rfl | rfl | rfl | rfl | rfl <;>
  rcases (show j = 0 ∨ j = 1 ∨ j = 2 ∨ j = 3 ∨ j = 4 ∨ j = 5 ∨ j = 6 ∨ j = 7 by omega) with rfl | rfl | rfl | rfl | rfl | rfl | rfl | rfl <;> first | (exfalso; omega) | kernel_rfl
theorem r40stack_bad (F : Nat → Flm) (n j : Nat) (hn : n ≤ 8) (hj : j < n) (hF : ∀ i, i < j → (F i).ok) (hb : ¬ (F j).ok) (p : Option Addr) (c : Nat) (w : World) (h : FilmsAt w p n c F) :
  Calls Tryz.prog 28 #[.slice p n c] w fun e w' => e = .returned (.tuple #[.agg quad0, .int .i64 400]) ∧ Below w.heap.size w w' := by
 have hL : AllP (badL F j) := by
  apply AllP.of
  intro p hp
  rcases List.mem_append.1 hp with hp | hp
  ·obtain ⟨i, hi, rfl⟩ := List.mem_map.1 hp
   exact decide_eq_true (hF i (List.mem_range.1 hi))
  ·obtain rfl := List.mem_singleton.1 hp
   exact decide_eq_false hb
 refine (evRunF (stackSp w _) (by omega) h _ _ (stack_bad w F n c j hj hn) hL (vals := [.slice p n c]) ?_).mono ?_
 ·rintro ρ ⟨B, hB, rfl⟩
  exact ⟨_, _, rfl, ⟨B, hB, rfl⟩, rfl⟩
 ·rintro e w' ⟨v, ρ', rfl, ⟨vs, rfl, v1, r1, rfl, h1, v2, r2, rfl, h2, h3⟩, hb⟩
  obtain rfl : r2 = [] := h3
  have hr : realA (.agg (quad0.toList.map .val)) = some (.agg quad0) := rfl
  rw [realA_den hr h1, show v2 = .int .i64 400 by simpa using h2.1]
  exact ⟨rfl, hb⟩
def cat (F : Nat → Flm) (n : Nat) (H : Nat → Flm) (i : Nat) : Flm := if i < n then F i else H (i - n)
theorem frow_cat (F H : Nat → Flm) (n : Nat) : ∀ m, frow F n ++ frow H m = frow (cat F n H) (n + m)
 | 0 => by
   rw [frow_congr (G := F) (H := cat F n H) (fun i hi => by unfold cat; rw [if_pos hi])]
   simp [frow]
 | m + 1 => by
   show frow F n ++ (frow H m ++ (H m).vals.toList) = frow (cat F n H) (n + m) ++ (cat F n H (n + m)).vals.toList
   rw [← List.append_assoc, frow_cat F H n m]
   congr 2
   unfold cat
   rw [if_neg (by omega), Nat.add_sub_cancel_left]
theorem exec_append0 {P : Program} {w w' : World} {o : Oper} {a : Act} {v' : Value} (s x : Operand) (t tn : TypeId) (ho : o.op = .call { callee := .builtin .append, args := #[s, x], argTypes := #[t, tn] }) (vs vx : Value) (hs : a.eval s = vs) (hx : a.eval x = vx)
  (hr : (Builtin.append_ #[t, tn] o.type #[vs, vx]).run P w = .ok v' w') : (execOp a.eval o).run P w = .ok (.value v') w' := by
 unfold execOp
 simp only [ho, resolve, invoke, builtin, Sem.run_bind, Sem.run_pure, Result.andThen_ok, List.map_toArray, List.map_cons, List.map_nil, hs, hx, hr]
theorem app_films0 (ty : TypeId) (V : World) (base : Nat) (v : Value) (n : Nat) (F : Nat → Flm) (hown : V.ownsRow base 24 3 v n (frow F n)) (q : Option Addr) (m c : Nat) (H : Nat → Flm) (hq : FilmsAt V q m c H) (hnil : q = none → m = 0 ∧ c = 0) (hbase : base ≤ V.heap.size) (hnm : n + m ≤ 1000) :
  ∃ p' c' W, (Builtin.append_ #[27, 27] ty #[v, .slice q m c]).run Tryz.prog V = .ok (.slice p' (n + m) c') W ∧ W.ownsRow base 24 3 (.slice p' (n + m) c') (n + m) (frow (cat F n H) (n + m)) ∧ Below base V W ∧ V.grownBy W v.ownBlock := by
 obtain ⟨ti, hti1, htz, hts, htb⟩ := info_parts infoFilm
 have hf := frow_cat F H n m
 cases q with
 | none =>
   obtain ⟨rfl, rfl⟩ := hnil rfl
   have hrun := run_append_owned_none (P := Tryz.prog) (w := V) base 27 ty 24 ti 3 Tryz.underlying27 hti1 v n _ hown
   obtain ⟨p', c', rfl⟩ := ownsRow_slice hown
   refine ⟨p', c', V, hrun, ?_, Below.refl _ _, ⟨rfl, rfl, rfl, Nat.le_refl _, fun _ _ _ => rfl⟩⟩
   rw [← hf]
   simpa [frow] using hown
 | some b =>
   obtain ⟨v', W, hr, h1, h2, _⟩ := run_append_own (P := Tryz.prog) V base 27 ty 24 ti _ 3 24 Tryz.underlying27 hti1 htz hts htb rfl (by decide) v n _ hown b m c (frow H m) (frow_length H m) (films_cells hq) (frow_ones H m) (by simp [maxLen]; omega) (by omega) hbase
   obtain ⟨p', c', rfl⟩ := ownsRow_slice h1
   rw [hf] at h1
   exact ⟨p', c', W, hr, h1, (Below.refl _ _).grown h2 hbase fun k e' => (hown.lt k e').1, h2⟩
theorem films_box0 {V : World} {N : Nat} {T : TypeId} {H : Nat → Flm} {m : Nat} (hm : m ≤ 1000) (b : Box V N T (frow H m).toArray) : FilmsAt V (some ⟨N, 0, none⟩) m m H := by
 refine ⟨Nat.le_refl _, by omega, fun _ => ⟨N, 0, rfl, b.lt, fun i j hi hj => ?_⟩⟩
 rw [b.cell, Nat.zero_add]
 have := frow_get H m i j hi hj
 simpa using this
theorem wpList_exec {P : Program} {ops : Array Oper} {Q : Exit → Act → World → Prop} {o : Oper} {rest : List Oper} {a : Act} {w w' : World} {v : Value} (hg : o.guard = none) (hx : (execOp a.eval o).run P w = .ok (.value v) w') (h : wpList P ops Q rest (a.put o.dst v) w') : wpList P ops Q (o :: rest) a w := by
 refine wpList_plain hg fun K hK => ?_
 unfold Oper.wp
 rw [hx, Oper.upon_value]
 exact hK _ _ h
def upd (F : Nat → Flm) (j : Nat) (f : Flm) (i : Nat) : Flm := if i = j then f else F i
theorem frow_upd (F : Nat → Flm) (f : Flm) (j : Nat) : ∀ n, j < n → (frow F n).take (j * 3) ++ f.vals.toList ++ (frow F n).drop (j * 3 + 3) = frow (upd F j f) n
 | 0, h => by omega
 | n + 1, h => by
   have hl := frow_length F n
   have hv : (F n).vals.toList.length = 3 := rfl
   by_cases e : j = n
   ·subst e
    show (frow F j ++ (F j).vals.toList).take (j * 3) ++ f.vals.toList ++ (frow F j ++ (F j).vals.toList).drop (j * 3 + 3) = frow (upd F j f) j ++ (upd F j f j).vals.toList
    rw [List.take_left' hl, List.drop_of_length_le (by rw [List.length_append, hl, hv]; omega), List.append_nil]
    rw [frow_congr (G := F) (H := upd F j f) (fun i hi => by unfold upd; rw [if_neg (by omega)])]
    simp [upd]
   ·have ih := frow_upd F f j n (by omega)
    show (frow F n ++ (F n).vals.toList).take (j * 3) ++ f.vals.toList ++ (frow F n ++ (F n).vals.toList).drop (j * 3 + 3) = frow (upd F j f) n ++ (upd F j f n).vals.toList
    rw [List.take_append_of_le_length (by omega), List.drop_append_of_le_length (by omega), ← List.append_assoc, ih]
    congr 2
    unfold upd
    rw [if_neg (by omega)]
theorem owns_upd {W : World} {base g n cap j : Nat} {F : Nat → Flm} {f : Flm} {cur new : Array Value} (hb : base ≤ g) (hc : n ≤ cap) (hm : cap ≤ maxLen) (hs : cur.size = cap * 3) (ht : cur.toList.take (n * 3) = frow F n) (hj : j < n)
  (hnew : new = (cur.toList.take (j * 3) ++ f.vals.toList ++ cur.toList.drop (j * 3 + 3)).toArray) (hW : Box W g 24 new) :
  W.ownsRow base 24 3 (.slice (some ⟨g, 0, none⟩) n cap) n (frow (upd F j f) n) := by
 refine ⟨frow_length _ _, .inr ⟨g, cap, new, rfl, hb, hW.blk, hc, hm, ?_, ?_⟩⟩
 ·rw [hnew]
  simp [Flm.vals]
  omega
 ·rw [hnew, ← frow_upd F f j n hj, ← ht]
  have hl : (cur.toList.take (j * 3)).length = j * 3 := by rw [List.length_take, Array.length_toList]; omega
  have hv : f.vals.toList.length = 3 := rfl
  show (cur.toList.take (j * 3) ++ f.vals.toList ++ cur.toList.drop (j * 3 + 3)).take (n * 3) = _
  rw [List.take_append, List.take_of_length_le (by rw [List.length_append, hl, hv]; omega), List.length_append, hl, hv, List.take_take, List.drop_take, Nat.min_eq_left (by omega)]
theorem with_ok (p : Option Addr) (n c : Nat) (F : Nat → Flm) (f : Flm) (k : Int) (hk : 0 ≤ k ∧ k ≤ 255) (jn : Nat) (hjn : k % (n + 1) = (jn : Int)) (hn : n ≤ 9) (hnil : p = none → n = 0 ∧ c = 0) (w : World) (h : FilmsAt w p n c F) :
  Calls Tryz.prog 14 #[.slice p n c, .agg f.vals, .int .u8 k] w fun e w' => ∃ p' m c', e = .returned (.slice p' m c') ∧ m = (if jn < n then n else n + 1) ∧ w'.ownsRow w.heap.size 24 3 (.slice p' m c') m (frow (upd F jn f) m) ∧ Below w.heap.size w w' := by
 have e0 : IntKind.i64.wrap k = k := by rw [IntKind.wrap_i64]; omega
 have e1 : IntKind.i64.wrap ((n : Int) + 1) = (n : Int) + 1 := by rw [IntKind.wrap_i64]; omega
 have e2 : k.tmod ((n : Int) + 1) = (jn : Int) := by rw [Int.tmod_eq_emod_of_nonneg hk.1, hjn]
 have hn0 : ((n : Int) + 1) ≠ 0 := by omega
 have hjle : jn ≤ n := by
  have := Int.emod_lt_of_pos k (show (0 : Int) < n + 1 by omega)
  omega
 have hfs : (Tryz.prog.info? 24).map (·.size) = some 3 := by kernel_rfl
 -- the first append
 have hV : Below w.heap.size w ((w.alloc (.cells f.vals 24)).alloc (.cells #[] 24)) := belowAlloc (belowAlloc (Below.refl _ _) _) _
 have hown0 : ((w.alloc (.cells f.vals 24)).alloc (.cells #[] 24)).ownsRow w.heap.size 24 3 (.slice (some ⟨w.heap.size + 1, 0, none⟩) 0 0) 0 (frow F 0) := by
  have hb := Box.new (w.alloc (.cells f.vals 24)) 24 #[]
  simp only [World.size_alloc] at hb
  exact ⟨rfl, .inr ⟨w.heap.size + 1, 0, #[], rfl, by omega, hb.blk, Nat.le_refl _, by decide, rfl, rfl⟩⟩
 obtain ⟨p1, c1, W1, hrun1, hown1, hB1, hg1⟩ := app_films0 27 _ w.heap.size _ 0 F hown0 p n c F (h.below hV) hnil hV.size (by omega)
 rw [Nat.zero_add] at hrun1 hown1
 rw [frow_congr (H := F) (fun i hi => by unfold cat; rw [if_neg (by omega)]; simp)] at hown1
 have hbw : Below w.heap.size w W1 := hV.trans hB1
 have bf : Box W1 w.heap.size 24 f.vals := by
  have hb := Box.new w 24 f.vals
  refine ⟨?_⟩
  have := hg1.block w.heap.size (by simp only [World.size_alloc]; omega) (by simp [Value.ownBlock])
  rw [this]
  exact (hb.alloc _).blk
 have cf := bf.cell
 have lf := bf.lt
 have hrun1' := Lib.hid hrun1
 clear hrun1 hown0 hV hB1 hg1 h hnil hjn
 by_cases hj : jn < n
 ·have hj' : (jn : Int) < n := by omega
  obtain ⟨hl1, ⟨_, rfl⟩ | ⟨g, cap, cur, hv, hbg, hgc, hcc, hcm, hcs, hct⟩⟩ := id hown1
  ·omega
  cases hv
  have bg : Box W1 g 24 cur := ⟨hgc⟩
  have hsz : jn * 3 + f.vals.size ≤ cur.size := by show jn * 3 + 3 ≤ cur.size; omega
  have h1f := film_ones f
  have hfs' : (Tryz.prog.info? 24).map (·.size) = some f.vals.size := hfs
  have lg := bg.lt
  go_enter Tryz.func14, Tryz.ntmps14
  go_wp2_with first | (refine wpList_exec rfl (exec_append0 _ _ _ _ rfl _ _ rfl rfl hrun1'.out) ?_) | (refine wpList_load_box rfl 24 _ rfl w.heap.size rfl 24 f.vals bf _ Tryz.underlying24 rfl hfs' ?_) | (refine wpList_store_box rfl 24 _ _ rfl g (jn * 3) 24 cur f.vals (cur.toList.take (jn * 3) ++ f.vals.toList ++ cur.toList.drop (jn * 3 + 3)).toArray rfl rfl bg hfs' hsz h1f rfl ?_; intro W2 hk2 b2)
  go_ret
  exact ⟨_, _, _, rfl, rfl, owns_upd hbg hcc hcm hcs hct hj rfl b2, hk2.below hbw hbg hbw.size⟩
 ·have hj' : ¬ (jn : Int) < n := by omega
  obtain rfl : jn = n := by omega
  have b2 : Below W1.heap.size W1 (W1.alloc (.cells f.vals 24)) := belowAlloc (Below.refl _ _) _
  have hown2 := ownsRow_below hown1 b2
  have hbx : Box (W1.alloc (.cells f.vals 24)) W1.heap.size 24 (frow ((fun _ => f)) 1).toArray := Box.new _ _ _
  obtain ⟨p2, c2, W2, hrun2, hown3, hB2, hg2⟩ := app_films0 27 _ w.heap.size _ jn F hown2 (some ⟨W1.heap.size, 0, none⟩) 1 1 ((fun _ => f)) (films_box0 (by decide) hbx) (fun h => by cases h) (Nat.le_trans hbw.size b2.size) (by omega)
  rw [frow_congr (H := upd F jn f) (fun i hi => by
   unfold cat upd
   by_cases e : i < jn
   ·rw [if_pos e, if_neg (by omega)]
   ·rw [if_neg e, if_pos (by omega)])] at hown3
  have hbw2 : Below w.heap.size w W2 := (belowCall hbw b2).trans hB2
  have hrun2' := Lib.hid hrun2
  clear hrun2 hg2 hB2 hbx hown2 b2
  obtain ⟨f0, f1, f2⟩ := f
  unfold Flm.vals at hrun1' hrun2' bf cf ⊢
  dsimp only at hrun1' hrun2' bf cf ⊢
  go_enter Tryz.func14, Tryz.ntmps14
  go_wp2_with first | (refine wpList_exec rfl (exec_append0 _ _ _ _ rfl _ _ rfl rfl hrun1'.out) ?_) | (refine wpList_exec rfl (exec_append0 _ _ _ _ rfl _ _ rfl rfl hrun2'.out) ?_) | (refine wpList_load_box rfl 24 _ rfl w.heap.size rfl 24 #[.int .i64 f0, .int .i64 f1, .int .i64 f2] bf _ Tryz.underlying24 rfl hfs ?_)
  go_ret
  exact ⟨_, _, _, rfl, rfl, hown3, hbw2⟩
theorem cell_lt0 {w : World} {a : Addr} {u : Value} (h : w.cell? a = some u) : a.block < w.heap.size := by
 unfold World.cell? at h
 cases hb : w.heap[a.block]? with
 | none => rw [hb] at h; cases h
 | some o => exact lt_of_some hb
def triples : List U → Option (List Flm)
 | [] => some []
 | .sym a :: .sym b :: .sym c :: r => (triples r).map (⟨a, b, c⟩ :: ·)
 | _ => none
def zF : Flm := ⟨0, 0, 0⟩
def asF (fs : List Flm) (i : Nat) : Flm := fs.getD i zF
theorem filmsN_asF (fs : List Flm) : filmsN (asF fs) fs.length = fs := by
 unfold filmsN asF
 apply List.ext_getElem?
 intro i
 rw [List.getElem?_map]
 by_cases h : i < fs.length
 ·simp [h]
 ·simp [h]
theorem triples_den {ρ : Nm} {w : World} : ∀ {l : List U} {fs : List Flm} {cs : List Value}, triples l = some fs → denL qDen ρ w l cs → cs = frow (asF fs) fs.length
 | [], fs, cs, h, hd => by
   cases h
   exact hd
 | .sym a :: .sym b :: .sym c :: r, fs, cs, h, hd => by
   simp only [triples] at h
   obtain ⟨q, hq, rfl⟩ := Option.map_eq_some_iff.1 h
   obtain ⟨x1, r1, rfl, h1, x2, r2, rfl, h2, x3, r3, rfl, h3, h4⟩ := hd
   have ih := triples_den hq h4
   rw [show x1 = _ from h1, show x2 = _ from h2, show x3 = _ from h3, ih]
   have key : ∀ n, n ≤ q.length → [Value.int .i64 a] ++ ([Value.int .i64 b] ++ ([Value.int .i64 c] ++ frow (asF q) n)) = frow (asF (⟨a, b, c⟩ :: q)) (n + 1) := by
    intro n
    induction n with
    | zero => intro _; rfl
    | succ n ih2 =>
      intro hn
      show _ = frow (asF (⟨a, b, c⟩ :: q)) (n + 1) ++ (asF (⟨a, b, c⟩ :: q) (n + 1)).vals.toList
      rw [← ih2 (by omega)]
      simp [frow, asF]
   exact key _ (Nat.le_refl _)
 | .val _ :: _, _, _, h, _ => by simp [triples] at h
 | .raw _ _ :: _, _, _, h, _ => by simp [triples] at h
 | .ptr _ _ :: _, _, _, h, _ => by simp [triples] at h
 | .slc _ _ _ _ :: _, _, _, h, _ => by simp [triples] at h
 | .clo _ _ :: _, _, _, h, _ => by simp [triples] at h
 | .quo _ :: _, _, _, h, _ => by simp [triples] at h
 | .tst _ :: _, _, _, h, _ => by simp [triples] at h
 | .sli _ _ _ :: _, _, _, h, _ => by simp [triples] at h
 | .emp :: _, _, _, h, _ => by simp [triples] at h
 | [.sym _], _, _, h, _ => by simp [triples] at h
 | .sym _ :: .val _ :: _, _, _, h, _ => by simp [triples] at h
 | .sym _ :: .raw _ _ :: _, _, _, h, _ => by simp [triples] at h
 | .sym _ :: .ptr _ _ :: _, _, _, h, _ => by simp [triples] at h
 | .sym _ :: .slc _ _ _ _ :: _, _, _, h, _ => by simp [triples] at h
 | .sym _ :: .clo _ _ :: _, _, _, h, _ => by simp [triples] at h
 | .sym _ :: .quo _ :: _, _, _, h, _ => by simp [triples] at h
 | .sym _ :: .tst _ :: _, _, _, h, _ => by simp [triples] at h
 | .sym _ :: .sli _ _ _ :: _, _, _, h, _ => by simp [triples] at h
 | .sym _ :: .emp :: _, _, _, h, _ => by simp [triples] at h
 | [.sym _, .sym _], _, _, h, _ => by simp [triples] at h
 | .sym _ :: .sym _ :: .val _ :: _, _, _, h, _ => by simp [triples] at h
 | .sym _ :: .sym _ :: .raw _ _ :: _, _, _, h, _ => by simp [triples] at h
 | .sym _ :: .sym _ :: .ptr _ _ :: _, _, _, h, _ => by simp [triples] at h
 | .sym _ :: .sym _ :: .slc _ _ _ _ :: _, _, _, h, _ => by simp [triples] at h
 | .sym _ :: .sym _ :: .clo _ _ :: _, _, _, h, _ => by simp [triples] at h
 | .sym _ :: .sym _ :: .quo _ :: _, _, _, h, _ => by simp [triples] at h
 | .sym _ :: .sym _ :: .tst _ :: _, _, _, h, _ => by simp [triples] at h
 | .sym _ :: .sym _ :: .sli _ _ _ :: _, _, _, h, _ => by simp [triples] at h
 | .sym _ :: .sym _ :: .emp :: _, _, _, h, _ => by simp [triples] at h
def listOf (x : SA) (bk : List (Nat × Blk)) : Option (List Flm) :=
 match x with
 | .one .emp => some []
 | .one (.sli k 0 n) => match bk.lookup k with
   | some b => match triples b.cells with
     | some fs => if Nat.beq fs.length n && Nat.ble n 1000 then some fs else none
     | none => none
   | none => none
 | _ => none
theorem listOf_ok {ρ : Nm} {w : World} {x : SA} {bk : List (Nat × Blk)} {fs : List Flm} {v : Value} (h : listOf x bk = some fs) (hb : BkOk qDen ρ w w bk) (hv : denA qDen ρ w x v) :
  ∃ p c, v = .slice p fs.length c ∧ FilmsAt w p fs.length c (asF fs) ∧ (p = none → fs.length = 0 ∧ c = 0) := by
 unfold listOf at h
 split at h
 ·cases h
  obtain ⟨p, c, hp, e⟩ := hv
  refine ⟨p, c, by simpa using e, ⟨Nat.zero_le _, by simp, fun h => absurd h (by simp)⟩, fun h => ⟨rfl, hp h⟩⟩
 ·rename_i k n
  split at h
  ·rename_i b hk
   split at h
   ·rename_i fs' ht
    split at h
    ·rename_i hc
     cases h
     rw [Bool.and_eq_true] at hc
     have hn := Nat.eq_of_beq_eq_true hc.1
     have hn2 := Nat.le_of_ble_eq_true hc.2
     obtain ⟨B, cs, h1, h2, h3, h4⟩ := hb k b hk
     obtain ⟨B', c, hB', hcc, e⟩ := hv
     cases h1.symm.trans hB'
     obtain rfl := triples_den ht h3
     subst hn
     refine ⟨some ⟨B.blk, B.base, none⟩, c, by simpa using e, ⟨hcc, by omega, fun hpos => ⟨B.blk, B.base, rfl, ?_, fun i j hi hj => ?_⟩⟩, fun h => by cases h⟩
     ·have h0 : (frow (asF fs) fs.length)[0]? = some ((asF fs 0).vals.getD 0 undef) := by simpa using frow_get (asF fs) fs.length 0 0 hpos (by omega)
      have := h2.cell h0
      exact cell_lt0 this
     ·have := h2.cell (frow_get (asF fs) fs.length i j hi hj)
      rwa [← Nat.add_assoc] at this
    ·cases h
   ·cases h
  ·cases h
 ·cases h
def okAll (fs : List Flm) : Prop := ∀ f ∈ fs, f.ok
theorem okAll_at {fs : List Flm} (h : okAll fs) : ∀ i, i < fs.length → (asF fs i).ok := fun i hi => by
 unfold asF
 rw [List.getD_eq_getElem?_getD, List.getElem?_eq_getElem hi, Option.getD_some]
 exact h _ (List.getElem_mem hi)
theorem first_bad {fs : List Flm} (h : ¬ okAll fs) : ∃ j, j < fs.length ∧ (∀ i, i < j → (asF fs i).ok) ∧ ¬ (asF fs j).ok := by
 have hex : ∃ j, j < fs.length ∧ ¬ (asF fs j).ok := by
  apply Classical.byContradiction
  intro hno
  apply h
  intro f hf
  obtain ⟨i, hi, rfl⟩ := List.getElem_of_mem hf
  apply Classical.byContradiction
  intro hb
  refine hno ⟨i, hi, ?_⟩
  unfold asF
  rw [List.getD_eq_getElem?_getD, List.getElem?_eq_getElem hi, Option.getD_some]
  exact hb
 obtain ⟨j, ⟨hj, hb⟩, hmin⟩ := exists_least hex
 refine ⟨j, hj, fun i hi => ?_, hb⟩
 apply Classical.byContradiction
 intro hb2
 have := hmin i ⟨by omega, hb2⟩
 omega
def badSV (z : Int) : SV := .tup [.agg (quad0.toList.map .val), .one (.val (.int .i64 z))]
theorem bad_den {ρ : Nm} {w : World} {z : Int} : denV qDen ρ w (badSV z) (.tuple #[.agg quad0, .int .i64 z]) := by
 refine den_tup2 ⟨quad0.toList, by simp, denL_vals _ ?_⟩ ⟨rfl, rfl⟩
 unfold quad0
 simp [Value.oneCell']
def goodSV (m : Mat) : SV := .tup [.agg [.quo m.a, .quo m.b, .quo m.c, .quo m.d], .one (.val (.int .i64 0))]
theorem good_den {ρ : Nm} {w : World} {m : Mat} {C : Array Value} (h : MV w C m) : denV qDen ρ w (goodSV m) (.tuple #[.agg C, .int .i64 0]) := den_tup2 (den_mat.2 ⟨C, rfl, h⟩) ⟨rfl, rfl⟩
def stackRun (args : List SA) (bk : List (Nat × Blk)) (orc : List (Option Bool)) : Option (SV × List Prop × List (Option Bool)) :=
 match args with
 | [x] => match listOf x bk with
   | some fs => if Nat.ble fs.length 8 then (match orc with
     | some true :: r => some (goodSV (stackM fs), [okAll fs], r)
     | some false :: r => some (badSV 400, [¬ okAll fs], r)
     | _ => none) else if Nat.ble fs.length 10 then some (badSV 3, [], orc) else none
   | none => none
 | _ => none
def stackSpec (w0 : World) (X : Nat → Prop) (f : FuncId)
    (h1 : ∀ (F : Nat → Flm) (n : Nat) (_ : n ≤ 8) (_ : ∀ i, i < n → (F i).ok) (p : Option Addr) (c : Nat) (w : World) (_ : FilmsAt w p n c F), Calls Tryz.prog f #[.slice p n c] w fun e w' => ∃ C, e = .returned (.tuple #[.agg C, .int .i64 0]) ∧ MV w' C (stackN F n) ∧ Below w.heap.size w w')
    (h2 : ∀ (F : Nat → Flm) (n m : Nat) (_ : n ≤ 8) (_ : m < n) (_ : ∀ i, i < m → (F i).ok) (_ : ¬ (F m).ok) (p : Option Addr) (c : Nat) (w : World) (_ : FilmsAt w p n c F), Calls Tryz.prog f #[.slice p n c] w fun e w' => e = .returned (.tuple #[.agg quad0, .int .i64 400]) ∧ Below w.heap.size w w')
    (h3 : ∀ (n : Nat) (_ : n = 9 ∨ n = 10) (p : Option Addr) (c : Nat) (w : World), Calls Tryz.prog f #[.slice p n c] w fun e w' => e = .returned (.tuple #[.agg quad0, .int .i64 3]) ∧ Below w.heap.size w w') : Ctr qDen Tryz.prog w0 X := .plain f stackRun <| by
 intro args bk orc v obl orc' hr hobl ρ w vals hfr hb hargs
 unfold stackRun at hr
 split at hr
 ·rename_i x
  obtain ⟨v1, r1, rfl, k1, k2⟩ := hargs
  obtain rfl : r1 = [] := k2
  split at hr
  ·rename_i fs hfs
   obtain ⟨p, c, rfl, hF, _⟩ := listOf_ok hfs hb k1
   split at hr
   ·rename_i h8
    have h8 := Nat.le_of_ble_eq_true h8
    split at hr
    ·cases hr
     refine (h1 (asF fs) fs.length h8 (okAll_at (hobl _ (List.mem_singleton.2 rfl))) p c w hF).mono ?_
     rintro e w' ⟨C, rfl, hC, hbl⟩
     refine ⟨_, rfl, good_den (m := stackM fs) ?_, hbl⟩
     unfold stackN at hC
     rw [filmsN_asF] at hC
     exact hC
    ·cases hr
     obtain ⟨j, hj, g1, g2⟩ := first_bad (hobl (¬ okAll fs) (List.mem_singleton.2 rfl))
     refine (h2 (asF fs) fs.length j h8 hj g1 g2 p c w hF).mono ?_
     rintro e w' ⟨rfl, hbl⟩
     exact ⟨_, rfl, bad_den, hbl⟩
    ·cases hr
   ·rename_i h8
    split at hr
    ·rename_i h10
     cases hr
     have h10 := Nat.le_of_ble_eq_true h10
     have h8' : 8 < fs.length := by
      apply Nat.lt_of_not_le
      intro hh
      exact h8 (Nat.ble_eq_true_of_le hh)
     refine (h3 fs.length (by omega) p c w).mono ?_
     rintro e w' ⟨rfl, hbl⟩
     exact ⟨_, rfl, bad_den, hbl⟩
    ·cases hr
  ·cases hr
 ·cases hr
def specWorks (w0 : World) (X : Nat → Prop) : Ctr qDen Tryz.prog w0 X := .plain 12 (fun args _ orc => match args with
 | [] => some (.a (.one (.val (.bool true))), [], orc)
 | _ => none) <| by
 intro args bk orc v obl orc' hr hobl ρ w vals hfr hb hargs
 split at hr
 ·cases hr
  obtain rfl : vals = [] := hargs
  refine (vworks_ok w).mono ?_
  rintro e w' ⟨rfl, hbl⟩
  exact ⟨_, rfl, ⟨rfl, rfl⟩, hbl⟩
 ·cases hr
def specFilms (w : World) (p : Option Addr) (n c : Nat) (G : Nat → Thn) (hG : ∀ i, i < n → (G i).ok) (h : ThinsAt w p n c G) (most m : Nat) (hmost : most ≤ 9) (hm : min n most = m) (hm0 : 0 < m) : Ctr qDen Tryz.prog w (fun _ => False) :=
 .list 13 24 (fun args _ orc => match args with
  | [.one (.val v), .one (.val (.int .i64 z))] => some (m, filmU (fun i => (G i).film) m, [v = .slice p n c ∧ z = (most : Int)], orc)
  | _ => none) <| by
 intro args bk orc m' l obl orc' hr hobl ρ w1 vals hfr hb hargs
 split at hr
 ·rename_i v z
  cases hr
  obtain ⟨v1, r1, rfl, k1, v2, r2, rfl, k2, k3⟩ := hargs
  obtain rfl : r2 = [] := k3
  obtain ⟨rfl, rfl⟩ := hobl _ (List.mem_singleton.2 rfl)
  obtain rfl : v1 = .slice p n c := by simpa using k1.1
  obtain rfl : v2 = .int .i64 (most : Int) := by simpa using k2.1
  refine (films_ok p n c G hG most hmost w1 (RdC.below h hfr.below)).mono ?_
  rintro e w' ⟨p', c', rfl, hown, hbl⟩
  rw [hm] at hown ⊢
  have hF := ownsRow_films hown (by omega)
  obtain ⟨b, off, rfl, hbw, hrg⟩ := films_view hm0 hF
  exact ⟨b, off, c', _, rfl, hF.1, ownsRow_block hown, hbw, hrg, filmU_den _ ρ w' m, hbl⟩
 ·cases hr
def specFilms0 (w : World) (p : Option Addr) (n c : Nat) (G : Nat → Thn) (hG : ∀ i, i < n → (G i).ok) (h : ThinsAt w p n c G) (most : Nat) (hmost : most ≤ 9) (hm : min n most = 0) : Ctr qDen Tryz.prog w (fun _ => False) :=
 .plain 13 (fun args _ orc => match args with
  | [.one (.val v), .one (.val (.int .i64 z))] => some (.a (.one .emp), [v = .slice p n c ∧ z = (most : Int)], orc)
  | _ => none) <| by
 intro args bk orc v' obl orc' hr hobl ρ w1 vals hfr hb hargs
 split at hr
 ·rename_i v z
  cases hr
  obtain ⟨v1, r1, rfl, k1, v2, r2, rfl, k2, k3⟩ := hargs
  obtain rfl : r2 = [] := k3
  obtain ⟨rfl, rfl⟩ := hobl _ (List.mem_singleton.2 rfl)
  obtain rfl : v1 = .slice p n c := by simpa using k1.1
  obtain rfl : v2 = .int .i64 (most : Int) := by simpa using k2.1
  refine (films_ok p n c G hG most hmost w1 (RdC.below h hfr.below)).mono ?_
  rintro e w' ⟨p', c', rfl, hown, hbl⟩
  rw [hm] at hown ⊢
  refine ⟨_, rfl, ⟨p', c', fun hp => ?_, rfl⟩, hbl⟩
  obtain ⟨_, ⟨h1, _⟩ | ⟨g, cap, cur, h1, _⟩⟩ := hown
  ·cases h1; rfl
  ·rw [hp] at h1; cases h1
 ·cases hr
def specWith (w : World) (F : Nat → Flm) (m : Nat) (f : Flm) (k : Int) (hk : 0 ≤ k ∧ k ≤ 255) (j : Nat) (hj : k % (m + 1) = (j : Int)) (hm : m ≤ 9) (m' : Nat) (hm' : m' = if j < m then m else m + 1) : Ctr qDen Tryz.prog w (fun _ => False) :=
 .list 14 24 (fun args bk orc => match args with
  | [x, .agg [.sym a, .sym b, .sym c], .one (.val v)] => match listOf x bk with
    | some fs => some (m', filmU (upd F j f) m', [fs = filmsN F m ∧ Flm.mk a b c = f ∧ v = .int .u8 k], orc)
    | none => none
  | _ => none) <| by
 intro args bk orc m2 l obl orc' hr hobl ρ w1 vals hfr hb hargs
 split at hr
 ·rename_i x a b c v
  split at hr
  ·rename_i fs hfs
   cases hr
   obtain ⟨v1, r1, rfl, k1, v2, r2, rfl, k2, v3, r3, rfl, k3, k4⟩ := hargs
   obtain rfl : r3 = [] := k4
   obtain ⟨rfl, rfl, rfl⟩ := hobl _ (List.mem_singleton.2 rfl)
   obtain rfl := film_den k2
   obtain rfl : v3 = .int .u8 k := by simpa using k3.1
   obtain ⟨p, c', rfl, hF, hnil⟩ := listOf_ok hfs hb k1
   rw [filmsN_length] at hF hnil
   rw [filmsN_length]
   refine (with_ok p m c' (asF (filmsN F m)) ⟨a, b, c⟩ k hk j hj hm hnil w1 hF).mono ?_
   rintro e w' ⟨p', m2, c2, rfl, hm2, hown, hbl⟩
   rw [← hm'] at hm2
   subst hm2
   have hpos : 0 < m2 := by
    rw [hm']
    split <;> omega
   have hle : m2 ≤ m + 1 := by
    rw [hm']
    split <;> omega
   have hjm : j ≤ m := by
    have := Int.emod_lt_of_pos k (show (0 : Int) < m + 1 by omega)
    omega
   rw [frow_congr (H := upd F j ⟨a, b, c⟩) (fun i hi => by
    unfold upd
    by_cases e : i = j
    ·rw [if_pos e, if_pos e]
    ·rw [if_neg e, if_neg e]
     unfold asF filmsN
     have him : i < m := by
      rw [hm'] at hi
      split at hi <;> omega
     simp [him])] at hown
   have hF2 := ownsRow_films hown (by omega)
   obtain ⟨b', off, rfl, hbw, hrg⟩ := films_view hpos hF2
   exact ⟨b', off, c2, _, rfl, hF2.1, ownsRow_block hown, hbw, hrg, filmU_den _ ρ w' m2, hbl⟩
  ·cases hr
 ·cases hr
def someFilms (w : World) (p : Option Addr) (n c : Nat) (G : Nat → Thn) (hG : ∀ i, i < n → (G i).ok) (h : ThinsAt w p n c G) (most m : Nat) (hmost : most ≤ 9) (hm : min n most = m) : Ctr qDen Tryz.prog w (fun _ => False) :=
 if h0 : m = 0 then specFilms0 w p n c G hG h most hmost (hm.trans h0) else specFilms w p n c G hG h most m hmost hm (Nat.pos_of_ne_zero h0)
def filmOf (G : Nat → Thn) (i : Nat) : Flm := (G i).film
def okOr (b : Bool) (p : Prop) : Prop := if b then p else ¬ p
theorem okOr_of {b : Bool} {p : Prop} (h : b = true ↔ p) : okOr b p := by
 unfold okOr
 cases b
 ·simp only [Bool.false_eq_true, if_false]
  exact fun hp => by have := h.2 hp; cases this
 ·simpa using h
theorem okAll_films {F : Nat → Flm} {m : Nat} : okAll (filmsN F m) ↔ ∀ i, i < m → (F i).ok := by
 unfold okAll filmsN
 constructor
 ·intro h i hi
  exact h _ (List.mem_map.2 ⟨i, List.mem_range.2 hi, rfl⟩)
 ·intro h f hf
  obtain ⟨i, hi, rfl⟩ := List.mem_map.1 hf
  exact h i (List.mem_range.1 hi)
theorem okAll_upd {F : Nat → Flm} {f : Flm} {m j m' : Nat} (hF : ∀ i, i < m → (F i).ok) (hj : j ≤ m) (hm' : m' = if j < m then m else m + 1) : okAll (filmsN (upd F j f) m') ↔ f.ok := by
 rw [okAll_films]
 constructor
 ·intro h
  have := h j (by rw [hm']; split <;> omega)
  unfold upd at this
  rwa [if_pos rfl] at this
 ·intro hf i hi
  unfold upd
  by_cases e : i = j
  ·rw [if_pos e]; exact hf
  ·rw [if_neg e]
   refine hF i ?_
   rw [hm'] at hi
   split at hi <;> omega
end Go.Proofs.YtdgodcgdlfjpaaaGreatDoor
