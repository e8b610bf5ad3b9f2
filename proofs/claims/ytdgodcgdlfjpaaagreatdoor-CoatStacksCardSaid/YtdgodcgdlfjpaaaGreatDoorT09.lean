/- The law CoatStacks: Film and Stack equal the reference, its walk by a verified evaluator, and its card. Part 9 of 11. No condition beside the row. -/
import Derived.Laws.AppendOwnNone
import Derived.Test.YtdgodcgdlfjpaaaGreatDoorT02
import Derived.Test.YtdgodcgdlfjpaaaGreatDoorT08
set_option linter.unusedVariables false
set_option linter.unusedSimpArgs false
namespace Go.Proofs.YtdgodcgdlfjpaaaGreatDoor
open Go.RowKit Go.Mono Go.Ev
def cat (F : Nat → Flm) (n : Nat) (H : Nat → Flm) (i : Nat) : Flm := if i < n then F i else H (i - n)
theorem frow_cat (F H : Nat → Flm) (n : Nat) : ∀ m, frow F n ++ frow H m = frow (cat F n H) (n + m)
 | 0 => by
   rw [frow_congr (G := F) (H := cat F n H) (fun i hi => by unfold cat; rw [if_pos hi])]
   simp [frow]
 | m + 1 => by
   show frow F n ++ (frow H m ++ (H m).vals.toList) = frow (cat F n H) (n + m) ++ (cat F n H (n + m)).vals.toList
   rw [← List.append_assoc, frow_cat F H n m]
   congr 2
   unfold cat
   rw [if_neg (by omega), Nat.add_sub_cancel_left]
theorem exec_append0 {P : Program} {w w' : World} {o : Oper} {a : Act} {v' : Value} (s x : Operand) (t tn : TypeId) (ho : o.op = .call { callee := .builtin .append, args := #[s, x], argTypes := #[t, tn] }) (vs vx : Value) (hs : a.eval s = vs) (hx : a.eval x = vx)
  (hr : (Builtin.append_ #[t, tn] o.type #[vs, vx]).run P w = .ok v' w') : (execOp a.eval o).run P w = .ok (.value v') w' := by
 unfold execOp
 simp only [ho, resolve, invoke, builtin, Sem.run_bind, Sem.run_pure, Result.andThen_ok, List.map_toArray, List.map_cons, List.map_nil, hs, hx, hr]
theorem app_films0 (ty : TypeId) (V : World) (base : Nat) (v : Value) (n : Nat) (F : Nat → Flm) (hown : V.ownsRow base 24 3 v n (frow F n)) (q : Option Addr) (m c : Nat) (H : Nat → Flm) (hq : FilmsAt V q m c H) (hnil : q = none → m = 0 ∧ c = 0) (hbase : base ≤ V.heap.size) (hnm : n + m ≤ 1000) :
  ∃ p' c' W, (Builtin.append_ #[27, 27] ty #[v, .slice q m c]).run Tryz.prog V = .ok (.slice p' (n + m) c') W ∧ W.ownsRow base 24 3 (.slice p' (n + m) c') (n + m) (frow (cat F n H) (n + m)) ∧ Below base V W ∧ V.grownBy W v.ownBlock := by
 obtain ⟨ti, hti1, htz, hts, htb⟩ := info_parts infoFilm
 have hf := frow_cat F H n m
 cases q with
 | none =>
   obtain ⟨rfl, rfl⟩ := hnil rfl
   have hrun := run_append_owned_none (P := Tryz.prog) (w := V) base 27 ty 24 ti 3 Tryz.underlying27 hti1 v n _ hown
   obtain ⟨p', c', rfl⟩ := ownsRow_slice hown
   refine ⟨p', c', V, hrun, ?_, Below.refl _ _, ⟨rfl, rfl, rfl, Nat.le_refl _, fun _ _ _ => rfl⟩⟩
   rw [← hf]
   simpa [frow] using hown
 | some b =>
   obtain ⟨v', W, hr, h1, h2, _⟩ := run_append_own (P := Tryz.prog) V base 27 ty 24 ti _ 3 24 Tryz.underlying27 hti1 htz hts htb rfl (by decide) v n _ hown b m c (frow H m) (frow_length H m) (films_cells hq) (frow_ones H m) (by simp [maxLen]; omega) (by omega) hbase
   obtain ⟨p', c', rfl⟩ := ownsRow_slice h1
   rw [hf] at h1
   exact ⟨p', c', W, hr, h1, (Below.refl _ _).grown h2 hbase fun k e' => (hown.lt k e').1, h2⟩
theorem films_box0 {V : World} {N : Nat} {T : TypeId} {H : Nat → Flm} {m : Nat} (hm : m ≤ 1000) (b : Box V N T (frow H m).toArray) : FilmsAt V (some ⟨N, 0, none⟩) m m H := by
 refine ⟨Nat.le_refl _, by omega, fun _ => ⟨N, 0, rfl, b.lt, fun i j hi hj => ?_⟩⟩
 rw [b.cell, Nat.zero_add]
 have := frow_get H m i j hi hj
 simpa using this
theorem wpList_exec {P : Program} {ops : Array Oper} {Q : Exit → Act → World → Prop} {o : Oper} {rest : List Oper} {a : Act} {w w' : World} {v : Value} (hg : o.guard = none) (hx : (execOp a.eval o).run P w = .ok (.value v) w') (h : wpList P ops Q rest (a.put o.dst v) w') : wpList P ops Q (o :: rest) a w := by
 refine wpList_plain hg fun K hK => ?_
 unfold Oper.wp
 rw [hx, Oper.upon_value]
 exact hK _ _ h
def upd (F : Nat → Flm) (j : Nat) (f : Flm) (i : Nat) : Flm := if i = j then f else F i
theorem frow_upd (F : Nat → Flm) (f : Flm) (j : Nat) : ∀ n, j < n → (frow F n).take (j * 3) ++ f.vals.toList ++ (frow F n).drop (j * 3 + 3) = frow (upd F j f) n
 | 0, h => by omega
 | n + 1, h => by
   have hl := frow_length F n
   have hv : (F n).vals.toList.length = 3 := rfl
   by_cases e : j = n
   ·subst e
    show (frow F j ++ (F j).vals.toList).take (j * 3) ++ f.vals.toList ++ (frow F j ++ (F j).vals.toList).drop (j * 3 + 3) = frow (upd F j f) j ++ (upd F j f j).vals.toList
    rw [List.take_left' hl, List.drop_of_length_le (by rw [List.length_append, hl, hv]; omega), List.append_nil]
    rw [frow_congr (G := F) (H := upd F j f) (fun i hi => by unfold upd; rw [if_neg (by omega)])]
    simp [upd]
   ·have ih := frow_upd F f j n (by omega)
    show (frow F n ++ (F n).vals.toList).take (j * 3) ++ f.vals.toList ++ (frow F n ++ (F n).vals.toList).drop (j * 3 + 3) = frow (upd F j f) n ++ (upd F j f n).vals.toList
    rw [List.take_append_of_le_length (by omega), List.drop_append_of_le_length (by omega), ← List.append_assoc, ih]
    congr 2
    unfold upd
    rw [if_neg (by omega)]
theorem owns_upd {W : World} {base g n cap j : Nat} {F : Nat → Flm} {f : Flm} {cur new : Array Value} (hb : base ≤ g) (hc : n ≤ cap) (hm : cap ≤ maxLen) (hs : cur.size = cap * 3) (ht : cur.toList.take (n * 3) = frow F n) (hj : j < n)
  (hnew : new = (cur.toList.take (j * 3) ++ f.vals.toList ++ cur.toList.drop (j * 3 + 3)).toArray) (hW : Box W g 24 new) :
  W.ownsRow base 24 3 (.slice (some ⟨g, 0, none⟩) n cap) n (frow (upd F j f) n) := by
 refine ⟨frow_length _ _, .inr ⟨g, cap, new, rfl, hb, hW.blk, hc, hm, ?_, ?_⟩⟩
 ·rw [hnew]
  simp [Flm.vals]
  omega
 ·rw [hnew, ← frow_upd F f j n hj, ← ht]
  have hl : (cur.toList.take (j * 3)).length = j * 3 := by rw [List.length_take, Array.length_toList]; omega
  have hv : f.vals.toList.length = 3 := rfl
  show (cur.toList.take (j * 3) ++ f.vals.toList ++ cur.toList.drop (j * 3 + 3)).take (n * 3) = _
  rw [List.take_append, List.take_of_length_le (by rw [List.length_append, hl, hv]; omega), List.length_append, hl, hv, List.take_take, List.drop_take, Nat.min_eq_left (by omega)]
set_option maxRecDepth 100000 in
set_option maxHeartbeats 2000000 in
theorem with_ok (p : Option Addr) (n c : Nat) (F : Nat → Flm) (f : Flm) (k : Int) (hk : 0 ≤ k ∧ k ≤ 255) (jn : Nat) (hjn : k % (n + 1) = (jn : Int)) (hn : n ≤ 9) (hnil : p = none → n = 0 ∧ c = 0) (w : World) (h : FilmsAt w p n c F) :
  Calls Tryz.prog 14 #[.slice p n c, .agg f.vals, .int .u8 k] w fun e w' => ∃ p' m c', e = .returned (.slice p' m c') ∧ m = (if jn < n then n else n + 1) ∧ w'.ownsRow w.heap.size 24 3 (.slice p' m c') m (frow (upd F jn f) m) ∧ Below w.heap.size w w' := by
 have e0 : IntKind.i64.wrap k = k := by rw [IntKind.wrap_i64]; omega
 have e1 : IntKind.i64.wrap ((n : Int) + 1) = (n : Int) + 1 := by rw [IntKind.wrap_i64]; omega
 have e2 : k.tmod ((n : Int) + 1) = (jn : Int) := by rw [Int.tmod_eq_emod_of_nonneg hk.1, hjn]
 have hn0 : ((n : Int) + 1) ≠ 0 := by omega
 have hjle : jn ≤ n := by
  have := Int.emod_lt_of_pos k (show (0 : Int) < n + 1 by omega)
  omega
 have hfs : (Tryz.prog.info? 24).map (·.size) = some 3 := by kernel_rfl
 -- the first append
 have hV : Below w.heap.size w ((w.alloc (.cells f.vals 24)).alloc (.cells #[] 24)) := belowAlloc (belowAlloc (Below.refl _ _) _) _
 have hown0 : ((w.alloc (.cells f.vals 24)).alloc (.cells #[] 24)).ownsRow w.heap.size 24 3 (.slice (some ⟨w.heap.size + 1, 0, none⟩) 0 0) 0 (frow F 0) := by
  have hb := Box.new (w.alloc (.cells f.vals 24)) 24 #[]
  simp only [World.size_alloc] at hb
  exact ⟨rfl, .inr ⟨w.heap.size + 1, 0, #[], rfl, by omega, hb.blk, Nat.le_refl _, by decide, rfl, rfl⟩⟩
 obtain ⟨p1, c1, W1, hrun1, hown1, hB1, hg1⟩ := app_films0 27 _ w.heap.size _ 0 F hown0 p n c F (h.below hV) hnil hV.size (by omega)
 rw [Nat.zero_add] at hrun1 hown1
 rw [frow_congr (H := F) (fun i hi => by unfold cat; rw [if_neg (by omega)]; simp)] at hown1
 have hbw : Below w.heap.size w W1 := hV.trans hB1
 have bf : Box W1 w.heap.size 24 f.vals := by
  have hb := Box.new w 24 f.vals
  refine ⟨?_⟩
  have := hg1.block w.heap.size (by simp only [World.size_alloc]; omega) (by simp [Value.ownBlock])
  rw [this]
  exact (hb.alloc _).blk
 have cf := bf.cell
 have lf := bf.lt
 have hrun1' := Lib.hid hrun1
 clear hrun1 hown0 hV hB1 hg1 h hnil hjn
 by_cases hj : jn < n
 ·have hj' : (jn : Int) < n := by omega
  obtain ⟨hl1, ⟨_, rfl⟩ | ⟨g, cap, cur, hv, hbg, hgc, hcc, hcm, hcs, hct⟩⟩ := id hown1
  ·omega
  cases hv
  have bg : Box W1 g 24 cur := ⟨hgc⟩
  have hsz : jn * 3 + f.vals.size ≤ cur.size := by show jn * 3 + 3 ≤ cur.size; omega
  have h1f := film_ones f
  have hfs' : (Tryz.prog.info? 24).map (·.size) = some f.vals.size := hfs
  have lg := bg.lt
  go_enter Tryz.func14, Tryz.ntmps14
  go_wp2_with first | (refine wpList_exec rfl (exec_append0 _ _ _ _ rfl _ _ rfl rfl hrun1'.out) ?_) | (refine wpList_load_box rfl 24 _ rfl w.heap.size rfl 24 f.vals bf _ Tryz.underlying24 rfl hfs' ?_) | (refine wpList_store_box rfl 24 _ _ rfl g (jn * 3) 24 cur f.vals (cur.toList.take (jn * 3) ++ f.vals.toList ++ cur.toList.drop (jn * 3 + 3)).toArray rfl rfl bg hfs' hsz h1f rfl ?_; intro W2 hk2 b2)
  go_ret
  exact ⟨_, _, _, rfl, rfl, owns_upd hbg hcc hcm hcs hct hj rfl b2, hk2.below hbw hbg hbw.size⟩
 ·have hj' : ¬ (jn : Int) < n := by omega
  obtain rfl : jn = n := by omega
  have b2 : Below W1.heap.size W1 (W1.alloc (.cells f.vals 24)) := belowAlloc (Below.refl _ _) _
  have hown2 := ownsRow_below hown1 b2
  have hbx : Box (W1.alloc (.cells f.vals 24)) W1.heap.size 24 (frow ((fun _ => f)) 1).toArray := Box.new _ _ _
  obtain ⟨p2, c2, W2, hrun2, hown3, hB2, hg2⟩ := app_films0 27 _ w.heap.size _ jn F hown2 (some ⟨W1.heap.size, 0, none⟩) 1 1 ((fun _ => f)) (films_box0 (by decide) hbx) (fun h => by cases h) (Nat.le_trans hbw.size b2.size) (by omega)
  rw [frow_congr (H := upd F jn f) (fun i hi => by
   unfold cat upd
   by_cases e : i < jn
   ·rw [if_pos e, if_neg (by omega)]
   ·rw [if_neg e, if_pos (by omega)])] at hown3
  have hbw2 : Below w.heap.size w W2 := (belowCall hbw b2).trans hB2
  have hrun2' := Lib.hid hrun2
  clear hrun2 hg2 hB2 hbx hown2 b2
  obtain ⟨f0, f1, f2⟩ := f
  unfold Flm.vals at hrun1' hrun2' bf cf ⊢
  dsimp only at hrun1' hrun2' bf cf ⊢
  go_enter Tryz.func14, Tryz.ntmps14
  go_wp2_with first | (refine wpList_exec rfl (exec_append0 _ _ _ _ rfl _ _ rfl rfl hrun1'.out) ?_) | (refine wpList_exec rfl (exec_append0 _ _ _ _ rfl _ _ rfl rfl hrun2'.out) ?_) | (refine wpList_load_box rfl 24 _ rfl w.heap.size rfl 24 #[.int .i64 f0, .int .i64 f1, .int .i64 f2] bf _ Tryz.underlying24 rfl hfs ?_)
  go_ret
  exact ⟨_, _, _, rfl, rfl, hown3, hbw2⟩
end Go.Proofs.YtdgodcgdlfjpaaaGreatDoor
