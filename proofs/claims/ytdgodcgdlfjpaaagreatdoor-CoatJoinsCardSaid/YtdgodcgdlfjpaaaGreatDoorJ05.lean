/- The law CoatJoins: two films of one index are one, and films of the outer indices change nothing: its walk and its card. Part 5 of 9. No condition beside the row. -/
import Derived.Deep.Slices
import Derived.OpenShut
import Derived.Carry
import Derived.SizedLaws
import Derived.Laws.CopyOwn
import Derived.Laws.Externs
import Derived.Lib.Overlaps
import Derived.Lib.AppendZeros
import Derived.Lib.AppendZerosOnto
import Derived.Laws.NewBlocks
import Derived.Shelf.RegionOpenPlain
import Derived.Test.YtdgodcgdlfjpaaaGreatDoorA02
import Derived.Test.YtdgodcgdlfjpaaaGreatDoorJ01
import Derived.Test.YtdgodcgdlfjpaaaGreatDoorJ03
set_option linter.unusedVariables false
set_option linter.unusedSimpArgs false
namespace Go.Proofs.YtdgodcgdlfjpaaaGreatDoor
open Go Go.ChangeShapes Go.WideShapes Go.ChangeAt Go.RowKit Go.Mono
theorem laidOut40 : laidOutB Tryz.prog = true := by kernel_rfl
/-- arguments that the call has not turned read as before -/
theorem trodAll_below {P : Program} (hl : laidOutB P = true) {H : Type} {enc : TypeId × Value → H} {W W' : World} (hb : Below W.heap.size W W') : ∀ (ts : List TypeId) (vs : List Value) (ds : List (DataW H)) (ps : List MemPlace),
  (ts.all fun t => P.readableRec t && decide (t < P.types.size)) = true → DataW.TrodAll enc P W 0 (fun _ => true) true ts vs ds ps → (∀ x ∈ ps, x.block < W.heap.size) → DataW.TrodAll enc P W' 0 (fun b => decide (b < W.heap.size)) true ts vs ds ps := by
 intro ts
 induction ts with
 | nil =>
   intro vs ds ps _ h _
   obtain ⟨rfl, rfl, rfl⟩ := trodAll_nil h
   exact rfl
 | cons t ts ih =>
   intro vs ds ps hr h hlt
   obtain ⟨v, vs1, d, ds1, a, b, rfl, rfl, rfl, h1, h2⟩ := trodAll_cons h
   rw [List.all_cons, Bool.and_eq_true, Bool.and_eq_true, decide_eq_true_eq] at hr
   exact ⟨a, b, Below.trod hl hr.1.1 hr.1.2 h1 hb (fun x hx => hlt x (List.mem_append_left _ hx)), ih _ _ _ hr.2 h2 (fun x hx => hlt x (List.mem_append_right _ hx)), rfl⟩
section
variable {H : Type} {enc : TypeId × Value → H} {W : World} {base : Nat} {r : Reach} {v : Value} {d : DataW H} {p : List MemPlace}
set_option maxRecDepth 100000 in
theorem open_small (hv : Value.okWide Tryz.prog W r base 25 v) (h : DataW.Trod enc Tryz.prog W 0 (fun _ => true) true 25 v d p) :
  ∃ s0 s1 : Int, v = .agg #[.int .u8 s0, .int .u8 s1] ∧ (0 ≤ s0 ∧ s0 ≤ 255) ∧ (0 ≤ s1 ∧ s1 ≤ 255) := by
 have hc : Tryz.prog.cellsOf 25 = 2 := by kernel_rfl
 have h1 : Tryz.prog.cellsOf 5 = 1 := by kernel_rfl
 obtain ⟨cs, rfl, hs⟩ : ∃ cs, v = .agg cs ∧ cs.size = 2 := by
  simp only [Value.okWide, Tryz.underlying25] at hv
  obtain ⟨cs, e, hs, _⟩ := hv
  exact ⟨cs, e, hs.trans hc⟩
 obtain ⟨fuel, hf⟩ := h
 obtain ⟨xs, m, rfl, _, _, hx, hel⟩ := DataW.trod_array Tryz.underlying25 hf
 match cs, hs, xs, hx with
 | ⟨[c0, c1]⟩, _, [x0, x1], _ =>
   have e0 := hel 0 (by omega)
   have e1 := hel 1 (by omega)
   simp [h1, Value.cells] at e0 e1
   obtain ⟨s0, k0, _, w0⟩ := DataW.trod_int Tryz.underlying5 e0
   obtain ⟨s1, k1, _, w1⟩ := DataW.trod_int Tryz.underlying5 e1
   cases k0; cases k1
   exact ⟨s0, s1, rfl, bounds_u8 w0, bounds_u8 w1⟩
set_option maxRecDepth 100000 in
theorem thin_cells {fuel : Nat} {cs : List Value} {x : DataW H × List MemPlace} (h : DataW.trod enc Tryz.prog W 0 (fun _ => true) true fuel 112 cs = some x) : ∃ t : Thn, t.ok ∧ cs = t.vals.toList := by
 have hc : Tryz.prog.cellsOf 112 = 3 := by kernel_rfl
 have h1 : Tryz.prog.cellsOf 5 = 1 := by kernel_rfl
 obtain ⟨xs, m, rfl, _, hl, hx, hel⟩ := DataW.trod_struct Tryz.underlying112 h
 rw [hc] at hl
 match cs, hl, xs, hx with
 | [c0, c1, c2], _, [x0, x1, x2], _ =>
   have e0 := hel 0 _ rfl
   have e1 := hel 1 _ rfl
   have e2 := hel 2 _ rfl
   simp [h1] at e0 e1 e2
   obtain ⟨s0, k0, _, w0⟩ := DataW.trod_int Tryz.underlying5 e0
   obtain ⟨s1, k1, _, w1⟩ := DataW.trod_int Tryz.underlying5 e1
   obtain ⟨s2, k2, _, w2⟩ := DataW.trod_int Tryz.underlying5 e2
   cases k0; cases k1; cases k2
   exact ⟨⟨s0, s1, s2⟩, ⟨bounds_u8 w0, bounds_u8 w1, bounds_u8 w2⟩, rfl⟩
set_option maxRecDepth 100000 in
theorem open_thin (hv : Value.okWide Tryz.prog W r base 112 v) (h : DataW.Trod enc Tryz.prog W 0 (fun _ => true) true 112 v d p) : ∃ t : Thn, t.ok ∧ v = .agg t.vals := by
 obtain ⟨cs, rfl, _⟩ := okWide_struct Tryz.underlying112 hv
 obtain ⟨fuel, hf⟩ := h
 obtain ⟨t, ht, hc⟩ := thin_cells hf
 refine ⟨t, ht, ?_⟩
 rw [show cs = t.vals from Array.ext' hc]
theorem cell_lt {w : World} {a : Addr} {u : Value} (h : w.cell? a = some u) : a.block < w.heap.size := by
 by_cases hb : a.block < w.heap.size
 ·exact hb
 ·rw [World.cell?, Array.getElem?_eq_none (by omega)] at h
  cases h
set_option maxRecDepth 100000 in
theorem open_thins (hv : Value.okWide Tryz.prog W r base 22 v) (h : DataW.Trod enc Tryz.prog W 0 (fun _ => true) true 22 v d p) (hsz : ∀ n ∈ d.weights Tryz.prog 22, n ≤ reachBytes) :
  ∃ (q : Option Addr) (n c : Nat) (G : Nat → Thn), v = .slice q n c ∧ (∀ i, i < n → (G i).ok) ∧ ThinsAt W q n c G := by
 have hc : Tryz.prog.cellsOf 112 = 3 := by kernel_rfl
 have hby : Tryz.prog.bytesOf 112 = 3 := by kernel_rfl
 obtain ⟨a0, len, cap, rfl⟩ := okWide_slice Tryz.underlying22 hv
 obtain ⟨fuel, hf⟩ := h
 rcases Go.Deep.open_slice Tryz.underlying22 hf with ⟨hcs, hx⟩ | ⟨a, len', cap', m, n, D, Pl, hcs, _, hl, hmx, hm, hx, hel⟩
 ·simp [Value.cells] at hcs
  obtain ⟨rfl, rfl, rfl⟩ := hcs
  exact ⟨none, 0, 0, fun _ => ⟨0, 0, 0⟩, rfl, fun i hi => absurd hi (Nat.not_lt_zero _), Nat.le_refl _, by omega, fun h => absurd h (Nat.not_lt_zero _)⟩
 ·simp [Value.cells] at hcs
  obtain ⟨rfl, rfl, rfl⟩ := hcs
  simp only [if_true] at hm
  simp only [Prod.mk.injEq] at hx
  obtain ⟨rfl, _⟩ := hx
  have hw := hsz _ (by rw [DataW.weights, Tryz.underlying22]; exact List.mem_cons_self ..)
  rw [List.length_map, List.length_map, List.length_range, List.length_range, hby] at hw
  have hr : reachBytes = 140737488351232 := rfl
  have hel' : ∀ i, i < len → ∃ t : Thn, t.ok ∧ W.cells? 0 (a.add (i * 3)) 3 = some t.vals.toList := fun i hi => by
   obtain ⟨cs', h1, h2⟩ := hel i (by omega)
   obtain ⟨t, ht, rfl⟩ := thin_cells h2
   rw [hc] at h1
   exact ⟨t, ht, h1⟩
  haveI : Inhabited Thn := ⟨⟨0, 0, 0⟩⟩
  obtain ⟨G, hG⟩ := Go.Deep.choose_lt hel'
  refine ⟨some a, len, cap, G, rfl, fun i hi => (hG i hi).1, hl, by omega, fun h0 => ?_⟩
  obtain ⟨b, off, spot⟩ := a
  have hcell : ∀ i j, i < len → j < 3 → W.cell? ((Addr.mk b off spot).add (i * 3 + j)) = some ((G i).vals.getD j undef) := fun i j hi hj => by
   obtain ⟨_, _, h3⟩ := World.cells?_some (hG i hi).2
   rw [← Go.Deep.add_add, h3 j hj]
   rcases (by omega : j = 0 ∨ j = 1 ∨ j = 2) with rfl | rfl | rfl <;> rfl
  have hspot : spot = none := by simpa [Addr.add] using World.cell?_spot (hcell 0 0 h0 (by omega))
  subst hspot
  refine ⟨b, off, rfl, cell_lt (hcell 0 0 h0 (by omega)), fun i j hi hj => ?_⟩
  rw [← hcell i j hi hj, Addr.add_lit, Nat.add_assoc]
end
end Go.Proofs.YtdgodcgdlfjpaaaGreatDoor
namespace Go.Mono
open Go.RowKit
section
variable {P : Program}
theorem run_copy_rowN (w : World) (dT sT ty elem : TypeId) (size g o dLen dCap : Nat) (a : Addr) (sLen sCap : Nat) (cur : Array Value) (t : TypeId) (cs : List Value)
  (hu : P.underlying dT = some (.slice elem)) (hs : (P.info? elem).map (·.size) = some size)
  (hg : w.heap[g]? = some (.cells cur t (0, 0))) (hn : cs.length = Nat.min sLen dLen * size)
  (hsrc : ∀ j v, cs[j]? = some v → w.cell? (a.add j) = some v) (hfit : o + cs.length ≤ cur.size) (h1 : ∀ v ∈ cs, v.oneCell' = true) :
  ∃ n, (Builtin.copy_ #[dT, sT] ty #[.slice (some ⟨g, o, none⟩) dLen dCap, .slice (some a) sLen sCap]).run P w =
    .ok (goInt n) (w.setRow g (cur.toList.take o ++ cs ++ cur.toList.drop (o + cs.length)).toArray) := by
 refine ⟨Nat.min sLen dLen, ?_⟩
 have hl := run_loadCells_list (P := P) w a cs hsrc
 have hst := run_storeCells_at P g o t cs 0 cur w hg (by simpa using hfit) h1
 cases hq : P.info? elem with
 | none => simp [hq] at hs
 | some i =>
   have hi : i.size = size := by simpa [hq] using hs
   simp [Builtin.copy_, run_underlying hu, Builtin.lenOf, Builtin.firstCells, sizeOf, typeInfo, hq, hi, ← hn, hl, hst]
/-- copy into a row that is known whole, elements of any size: the row behind it, the others as they were -/
theorem wp_copy_sp {w : World} {o : Oper} {a : Act} {K : Act → World → Prop} {Q : Exit → Act → World → Prop} (d s : Operand) (dT sT : TypeId)
  (ho : o.op = .call { callee := .builtin .copy, args := #[d, s], argTypes := #[dT, sT] }) (elem : TypeId) (hu : P.underlying dT = some (.slice elem)) (size : Nat) (hsz : (P.info? elem).map (·.size) = some size)
  (g off dLen dCap : Nat) (ad : Addr) (sLen sCap : Nat) (hd : a.eval d = .slice (some ⟨g, off, none⟩) dLen dCap) (hs : a.eval s = .slice (some ad) sLen sCap)
  (cur : List Value) (t : TypeId) (hg : w.heap[g]? = some (.cells cur.toArray t (0, 0))) (cs : List Value) (hn : cs.length = Nat.min sLen dLen * size)
  (hsrc : ∀ j v, cs[j]? = some v → w.cell? (ad.add j) = some v) (hfit : off + cs.length ≤ cur.length) (h1 : ∀ v ∈ cs, v.oneCell' = true)
  (B : Nat) (w0 : World) (hb : Below B w0 w) (hBg : B ≤ g)
  (h : ∀ n w', Hid (w'.heap[g]? = some (.cells (splice cur off cs).toArray t (0, 0))) → Below B w0 w' → Hid (∀ k, k ≠ g → w'.heap[k]? = w.heap[k]?) → K (a.put o.dst (goInt n)) w') : o.wp P a w K Q := by
 obtain ⟨n, hrun⟩ := run_copy_rowN (P := P) w dT sT o.type elem size g off dLen dCap ad sLen sCap cur.toArray t cs hu hsz hg hn hsrc (by simpa using hfit) h1
 unfold Oper.wp
 simp [execOp, ho, resolve, invoke, builtin, hd, hs, hrun, Result.andThen]
 exact h _ _ (show _ = _ by simpa [splice] using setRow_heap w g _ _ t _ hg) (below_setRow hb hBg _) (show ∀ k, k ≠ g → _ from fun k hk => setRow_other w g k _ hk)
theorem wpList_copy_sp {w : World} {ops : Array Oper} {rest : List Oper} {o : Oper} {a : Act} {Q : Exit → Act → World → Prop} (hgd : o.guard = none) (d s : Operand) (dT sT : TypeId)
  (ho : o.op = .call { callee := .builtin .copy, args := #[d, s], argTypes := #[dT, sT] }) (elem : TypeId) (hu : P.underlying dT = some (.slice elem)) (size : Nat) (hsz : (P.info? elem).map (·.size) = some size)
  (g off dLen dCap : Nat) (ad : Addr) (sLen sCap : Nat) (hd : a.eval d = .slice (some ⟨g, off, none⟩) dLen dCap) (hs : a.eval s = .slice (some ad) sLen sCap)
  (cur : List Value) (t : TypeId) (hg : w.heap[g]? = some (.cells cur.toArray t (0, 0))) (cs : List Value) (hn : cs.length = Nat.min sLen dLen * size)
  (hsrc : ∀ j v, cs[j]? = some v → w.cell? (ad.add j) = some v) (hfit : off + cs.length ≤ cur.length) (h1 : ∀ v ∈ cs, v.oneCell' = true)
  (B : Nat) (w0 : World) (hb : Below B w0 w) (hBg : B ≤ g)
  (h : ∀ n w', Hid (w'.heap[g]? = some (.cells (splice cur off cs).toArray t (0, 0))) → Below B w0 w' → Hid (∀ k, k ≠ g → w'.heap[k]? = w.heap[k]?) → wpList P ops Q rest (a.put o.dst (goInt n)) w') :
  wpList P ops Q (o :: rest) a w :=
 wpList_plain hgd fun _ hK => wp_copy_sp d s dT sT ho elem hu size hsz g off dLen dCap ad sLen sCap hd hs cur t hg cs hn hsrc hfit h1 B w0 hb hBg fun n w' r1 r2 r3 => hK _ _ (h n w' r1 r2 r3)
theorem step_copy_sp {ops : Array Oper} {o : Oper} {a : Act} {w : World} {K : Act → World → Prop} {Q : Exit → Act → World → Prop} {E : Prop} (hgd : o.guard = none) (d s : Operand) (dT sT : TypeId)
  (ho : o.op = .call { callee := .builtin .copy, args := #[d, s], argTypes := #[dT, sT] }) (elem : TypeId) (hu : P.underlying dT = some (.slice elem)) (size : Nat) (hsz : (P.info? elem).map (·.size) = some size)
  (g off dLen dCap : Nat) (ad : Addr) (sLen sCap : Nat) (hd : a.eval d = .slice (some ⟨g, off, none⟩) dLen dCap) (hs : a.eval s = .slice (some ad) sLen sCap)
  (cur : List Value) (t : TypeId) (hg : w.heap[g]? = some (.cells cur.toArray t (0, 0))) (cs : List Value) (hn : cs.length = Nat.min sLen dLen * size)
  (hsrc : ∀ j v, cs[j]? = some v → w.cell? (ad.add j) = some v) (hfit : off + cs.length ≤ cur.length) (h1 : ∀ v ∈ cs, v.oneCell' = true)
  (B : Nat) (w0 : World) (hb : Below B w0 w) (hBg : B ≤ g)
  (h : ∀ n w', Hid (w'.heap[g]? = some (.cells (splice cur off cs).toArray t (0, 0))) → Below B w0 w' → Hid (∀ k, k ≠ g → w'.heap[k]? = w.heap[k]?) → K (a.put o.dst (goInt n)) w') :
  if Region.wanted o (yielded ops a.tmps) = true then Oper.wp P o a w K Q else E := by
 have hw : Region.wanted o (yielded ops a.tmps) = true := by simp [Region.wanted, hgd]
 rw [if_pos hw]
 exact wp_copy_sp d s dT sT ho elem hu size hsz g off dLen dCap ad sLen sCap hd hs cur t hg cs hn hsrc hfit h1 B w0 hb hBg h
end
end Go.Mono
namespace Go.Proofs.YtdgodcgdlfjpaaaGreatDoor
open Go.RowKit Go.Mono
theorem filmSize : (Tryz.prog.info? 24).map (·.size) = some 3 := by kernel_rfl
set_option maxRecDepth 100000 in
set_option maxHeartbeats 2000000 in
theorem insert_end (p : Option Addr) (n c : Nat) (xs : List Value) (ad : Addr) (m cv : Nat) (hm : 0 < m) (hnm : n + m ≤ 1000) (ys : List Value) (base : Nat) (w : World)
  (hown : w.ownsRow base 24 3 (.slice p n c) n xs) (hbase : base ≤ w.heap.size) (hl : ys.length = m * 3) (hys : ∀ j u, ys[j]? = some u → w.cell? (ad.add j) = some u) (h1y : ∀ u ∈ ys, u.oneCell' = true) :
  Calls Tryz.prog 54 #[.slice p n c, .int .i64 (n : Int), .slice (some ad) m cv] w fun e w' => ∃ p' c', e = .returned (.slice p' (n + m) c') ∧ w'.ownsRow base 24 3 (.slice p' (n + m) c') (n + m) (xs ++ ys) ∧ Below base w w' := by
 obtain ⟨ti, hti1, htz, hts, htb⟩ := info_parts infoFilm
 have hz1 : ¬ ((m : Int) = 0) := by omega
 have hb1 : Below base w w := Below.refl _ _
 replace hys := Lib.hid hys
 by_cases hcn : c = n <;>
 ·go_enter Tryz.func54, Tryz.ntmps54
  go_wp2_with first | (at_builtin; refine wpList_append_own _ rfl _ _ 27 rfl base 24 ti _ 3 24 Tryz.underlying27 hti1 htz hts htb rfl (by decide) _ _ _ rfl hown ad m cv ys rfl hl hys.out h1y (by simp [maxLen]; omega) (by omega) hbase ?_; intro v' W3 hown3 hgrow _)
  have hB3 := hb1.grown hgrow hbase fun k e' => (hown.lt k e').1
  obtain ⟨p', c', rfl⟩ := ownsRow_slice hown3
  go_wp2
  go_ret
  exact ⟨p', c', rfl, hown3, hB3⟩
set_option maxRecDepth 100000 in
set_option maxHeartbeats 4000000 in
theorem insert_room (g n c i : Nat) (hi : i < n) (xs : List Value) (ad : Addr) (m cv : Nat) (hm : 0 < m) (hroom : n + m ≤ c) (hnm : n + m ≤ 1000) (hc63 : c ≤ maxLen) (ys : List Value) (base : Nat) (w : World) (cur : List Value)
  (hbg : base ≤ g) (hg : w.heap[g]? = some (.cells cur.toArray 24 (0, 0))) (hcs : cur.length = c * 3) (hcx : cur.take (n * 3) = xs) (hxl : xs.length = n * 3) (h1x : ∀ u ∈ xs, u.oneCell' = true)
  (hl : ys.length = m * 3) (hys : ∀ j u, ys[j]? = some u → w.cell? (ad.add j) = some u) (h1y : ∀ u ∈ ys, u.oneCell' = true) (hne : ad.block ≠ g) (curv : Array Value) (tv : TypeId) (hgv : w.heap[ad.block]? = some (.cells curv tv (0, 0))) :
  Calls Tryz.prog 54 #[.slice (some ⟨g, 0, none⟩) n c, .int .i64 (i : Int), .slice (some ad) m cv] w fun e w' => e = .returned (.slice (some ⟨g, 0, none⟩) (n + m) c) ∧ w'.ownsRow base 24 3 (.slice (some ⟨g, 0, none⟩) (n + m) c) (n + m) (xs.take (i * 3) ++ (ys ++ xs.drop (i * 3))) ∧ Below base w w' := by
 have hz1 : ¬ ((m : Int) = 0) := by omega
 have hz2 : ¬ ((i : Int) = (n : Int)) := by omega
 have hb1 : Below base w w := Below.refl _ _
 have hw1 : IntKind.i64.wrap ((i : Int) + (m : Int)) = (i : Int) + (m : Int) := by rw [IntKind.wrap_i64]; omega
 have hb1' : (0 : Int) ≤ (i : Int) + (m : Int) := by omega
 have hin : i ≤ n := by omega
 have htn : ((i : Int) + (m : Int)).toNat = i + m := by omega
 have hb2 : ¬ (c = i + m) := by omega
 have hb3 : (i : Int) ≤ (n : Int) + (m : Int) := by omega
 have hb4 : ¬ (c = i) := by omega
 have hov : ∀ off lb cb, (callFunc 129 #[.slice (some ad) m cv, .slice (some ⟨g, off, none⟩) lb cb]).run Tryz.prog w = .ok (.value (.bool false)) w := fun off lb cb => by
  rw [run_callFunc_extern Tryz.func129 (by kernel_rfl) (by kernel_rfl) (by kernel_rfl) (e := Extern.SlicesOverlaps.overlaps #[27, 27] #[4]) (by kernel_rfl),
   Lib.run_overlaps_apart w 27 4 24 Tryz.underlying27 3 (fun w => by kernel_rfl) ad ⟨g, off, none⟩ m cv lb cb hne tv 24 curv.size cur.length (by simp [World.shape?, hgv]) (by simp [World.shape?, hg]) (by omega) (by simp [World.frozen?, hgv]) (by simp [World.frozen?, hgv])]
  rfl
 have hkX : i * 3 ≤ xs.length := by omega
 have hdl : (xs.drop (i * 3)).length = (n - i) * 3 := by rw [List.length_drop, hxl]; omega
 have h1d : ∀ u ∈ xs.drop (i * 3), u.oneCell' = true := fun u hu => h1x u (List.mem_of_mem_drop hu)
 have hsrc : ∀ j v, (xs.drop (i * 3))[j]? = some v → w.drew.cell? ((⟨g, i * 3, none⟩ : Addr).add j) = some v := fun j v hj => by
  have hlt := (List.getElem?_eq_some_iff.1 hj).1
  rw [List.getElem?_drop, ← hcx, List.getElem?_take_of_lt (by omega)] at hj
  rw [Addr.add_lit]
  exact ((Box.mk (w := w) hg).cell (i * 3 + j)).trans (by simpa using hj)
 have hres := splice_shift cur xs ys (i * 3) hkX (by rw [hxl]; exact hcx) (by omega)
 rw [hl, hxl] at hres
 obtain ⟨xd, hxd⟩ : ∃ xd, xd = xs.drop (i * 3) := ⟨_, rfl⟩
 rw [← hxd] at hdl h1d hsrc hres ⊢
 replace h1d := Lib.hid h1d
 replace hres := Lib.hid hres
 replace hsrc := Lib.hid hsrc
 replace h1x := Lib.hid h1x
 replace hcx := Lib.hid hcx
 replace hxd := Lib.hid hxd
 replace h1y := Lib.hid h1y
 have hg' : Hid (w.drew.heap[g]? = some (.cells cur.toArray 24 (0, 0))) := hg
 replace hg := Lib.hid hg
 replace hgv := Lib.hid hgv
 replace hys := Lib.hid hys
 have hbd : Below base w w.drew := below_drewN hb1 1
 have mixed : Tryz.prog.follows .mixedOrders = true := by kernel_rfl
 go_enter Tryz.func54, Tryz.ntmps54
 go_wp2_with (simp only [hov])
 go_region_law_o (refine step_copy_sp rfl (.tmp 73) (.tmp 76) 27 27 rfl 24 Tryz.underlying27 3 filmSize g ((i + m) * 3) (n + m - (i + m)) (c - (i + m)) ⟨g, i * 3, none⟩ (n + m - i) (c - i) (by simp [Act.eval, Act.put]) (by simp [Act.eval, Act.put]) cur 24 hg'.out xd (by rw [hdl]; simp only [Nat.min_def]; split <;> omega) hsrc.out (by rw [hdl]; omega) h1d.out base w hbd hbg ?_; intro n1 w1 hg1 hB1 ho1)
 have hys1 : ∀ j u, ys[j]? = some u → w1.cell? (ad.add j) = some u := fun j u hj => (World.cell?_of_block (ho1.out _ (by rw [show (ad.add j).block = ad.block from by unfold Addr.add; split <;> rfl]; exact hne))).trans (hys.out j u hj)
 replace hys1 := Lib.hid hys1
 go_wp2_with first | (refine wpList_copy_sp rfl (.tmp 80) (.tmp 81) 27 27 rfl 24 Tryz.underlying27 3 filmSize g (i * 3) (n + m - i) (c - i) ad m cv rfl rfl _ 24 hg1.out ys (by rw [hl]; simp only [Nat.min_def]; split <;> omega) hys1.out (by rw [length_splice _ _ _ (by omega)]; omega) h1y.out base w hB1 hbg ?_; intro n2 w2 hg2 hB2 ho2)
 go_wp2
 go_ret
 refine ⟨rfl, ⟨?_, .inr ⟨g, c, _, rfl, hbg, hg2.out, hroom, hc63, ?_, ?_⟩⟩, hB2⟩
 ·rw [List.length_append, List.length_append, List.length_take]; omega
 ·rw [List.size_toArray, length_splice _ _ _ (by rw [length_splice _ _ _ (by omega)]; omega), length_splice _ _ _ (by omega)]; exact hcs
 ·rw [Nat.add_mul, Nat.add_mul]; exact hres.out
set_option maxRecDepth 100000 in
set_option maxHeartbeats 4000000 in
theorem insert_grow (g n c i : Nat) (hi : i < n) (xs : List Value) (ad : Addr) (m cv : Nat) (hm : 0 < m) (hnc : n ≤ c) (hroom : c < n + m) (hnm : n + m ≤ 1000) (ys : List Value) (base : Nat) (w : World)
  (hbase : base ≤ w.heap.size) (hx : ∀ j u, xs[j]? = some u → w.cell? ((⟨g, 0, none⟩ : Addr).add j) = some u) (hxl : xs.length = n * 3) (h1x : ∀ u ∈ xs, u.oneCell' = true)
  (hl : ys.length = m * 3) (hys : ∀ j u, ys[j]? = some u → w.cell? (ad.add j) = some u) (h1y : ∀ u ∈ ys, u.oneCell' = true) :
  Calls Tryz.prog 54 #[.slice (some ⟨g, 0, none⟩) n c, .int .i64 (i : Int), .slice (some ad) m cv] w fun e w' => ∃ p' c', e = .returned (.slice p' (n + m) c') ∧ w'.ownsRow base 24 3 (.slice p' (n + m) c') (n + m) (xs.take (i * 3) ++ (ys ++ xs.drop (i * 3))) ∧ Below base w w' := by
 obtain ⟨ti, hti1, htz, hts, htb⟩ := info_parts infoFilm
 have hz1 : ¬ ((m : Int) = 0) := by omega
 have hz2 : ¬ ((i : Int) = (n : Int)) := by omega
 have hz3 : (c : Int) < (n : Int) + (m : Int) := by omega
 have hw1 : IntKind.i64.wrap ((i : Int) + (m : Int)) = (i : Int) + (m : Int) := by rw [IntKind.wrap_i64]; omega
 have hb1' : (0 : Int) ≤ (i : Int) + (m : Int) := by omega
 have hin : i ≤ n := by omega
 have htn : ((i : Int) + (m : Int)).toNat = i + m := by omega
 have hb3 : (i : Int) ≤ (n : Int) := by omega
 have hb4 : ¬ (c = i) := by omega
 have hkk : (n : Int) + (m : Int) - (i : Int) = ((n + m - i : Nat) : Int) := by omega
 have hik : i + (n + m - i) = n + m := by omega
 have htl : (xs.take (i * 3)).length = i * 3 := by rw [List.length_take]; omega
 have hold : (Builtin.firstCells ti.size i (.slice (some ⟨g, 0, none⟩) i c)).run Tryz.prog w.drew = .ok (xs.take (i * 3)).toArray w.drew := by
  rw [hts]
  exact run_firstCells_some w.drew 3 i ⟨g, 0, none⟩ i c (xs.take (i * 3)) htl (fun j v hj => by
   rw [List.getElem?_take] at hj
   split at hj
   ·exact hx j v hj
   ·cases hj)
 obtain ⟨z, hz⟩ : ∃ z : Value, z = .agg #[.int .i64 0, .int .i64 0, .int .i64 0] := ⟨_, rfl⟩
 rw [← hz] at htz
 have hrz : ∀ ty, ∃ ROW G, ((Builtin.append_ #[27, 3] ty #[.slice (some ⟨g, 0, none⟩) i c, .int .i64 ((n : Int) + (m : Int) - (i : Int))]).run Tryz.prog w =
   .ok (.slice (some ⟨w.heap.size, 0, none⟩) (n + m) G) (w.drew.alloc (.cells ROW 24))) ∧ n + m ≤ G ∧ G ≤ maxLen ∧ ROW.size = G * 3 ∧ ∃ Z : List Value, ROW.toList = xs.take (i * 3) ++ Z := fun ty => by
  have h := Lib.run_append_grow_zeros w 27 3 ty 24 ti z .i64 .i64 Tryz.underlying27 Tryz.underlying3 hti1 htz (some ⟨g, 0, none⟩) i c (xs.take (i * 3)) hold (n + m - i) (by omega) (by omega) (by omega) (by omega) (by rw [htb]; omega) (by rw [htb, hik]; exact growslice_fits hroom (by omega))
  rw [hik] at h
  rw [hkk]
  have hGn := grownCap_ge w (n + m) c 24
  have hGm := grownCap_le_maxLen w (n + m) c 24 (by unfold maxLen; omega)
  refine ⟨_, _, h, hGn, hGm, ?_, _, by rw [Array.toList_append, Array.toList_append, List.append_assoc]⟩
  subst hz
  simp [Builtin.zeroCells, Value.cells]
  omega
 obtain ⟨ROW, G, hrz, hGn, hGm, hRl, Z, hRZ⟩ := hrz 27
 obtain ⟨W1, hW1⟩ : ∃ W1, W1 = w.drew.alloc (.cells ROW 24) := ⟨_, rfl⟩
 rw [← hW1] at hrz
 have hg1 : W1.heap[w.heap.size]? = some (.cells ROW 24 (0, 0)) := by rw [hW1]; exact heap_alloc_new w.drew _
 have hg1' : Hid (W1.heap[w.heap.size]? = some (.cells (xs.take (i * 3) ++ Z).toArray 24 (0, 0))) := by rw [← hRZ]; exact hg1
 have hB1 : Below w.heap.size w W1 := by rw [hW1]; exact belowAlloc (below_drewN (Below.refl _ w) 1) _
 clear hW1 hg1 hkk hik hold hti1 htz hz
 have hG63 : G ≤ 9223372036854775807 := hGm
 have hGi : ¬ (G = i) := by omega
 have hGim : ¬ (G = i + m) := by omega
 have hgw : g < w.heap.size := by
  have := hx 0 _ (List.getElem?_eq_getElem (show 0 < xs.length by omega))
  rw [Addr.add_lit] at this
  exact block_lt_of_cell this
 have hvw : ad.block < w.heap.size := by
  have h0 := hys 0 _ (List.getElem?_eq_getElem (show 0 < ys.length by omega))
  have := World.block_lt_of_cell? w _ h0
  rwa [show (ad.add 0).block = ad.block from by unfold Addr.add; split <;> rfl] at this
 have hkX : i * 3 ≤ xs.length := by omega
 have hdl : (xs.drop (i * 3)).length = (n - i) * 3 := by rw [List.length_drop, hxl]; omega
 have h1d : ∀ u ∈ xs.drop (i * 3), u.oneCell' = true := fun u hu => h1x u (List.mem_of_mem_drop hu)
 have hRZl : (xs.take (i * 3) ++ Z).length = G * 3 := by rw [← hRZ, Array.length_toList, hRl]
 have hres := splice_fill xs Z ys (i * 3) hkX (by rw [List.length_append, htl] at hRZl; omega)
 rw [hl, hxl] at hres
 have hsrc : ∀ W, Below w.heap.size w W → ∀ j v, (xs.drop (i * 3))[j]? = some v → W.cell? ((⟨g, i * 3, none⟩ : Addr).add j) = some v := fun W hW j v hj => by
  rw [List.getElem?_drop] at hj
  have := hx _ _ hj
  rw [Addr.add_lit] at this ⊢
  rw [Nat.zero_add] at this
  exact (World.cell?_of_block (hW.block g hgw)).trans this
 have hysW : ∀ W, Below w.heap.size w W → ∀ j v, ys[j]? = some v → W.cell? (ad.add j) = some v := fun W hW j v hj => by
  refine (World.cell?_of_block (hW.block _ ?_)).trans (hys j v hj)
  rwa [show (ad.add j).block = ad.block from by unfold Addr.add; split <;> rfl]
 obtain ⟨xt, hxt⟩ : ∃ xt, xt = xs.take (i * 3) := ⟨_, rfl⟩
 obtain ⟨xd, hxd⟩ : ∃ xd, xd = xs.drop (i * 3) := ⟨_, rfl⟩
 rw [← hxd] at hdl h1d hsrc
 rw [← hxt] at htl hRZl hg1' hRZ
 rw [← hxd, ← hxt] at hres ⊢
 obtain ⟨row0, hrow0⟩ : ∃ r, r = xt ++ Z := ⟨_, rfl⟩
 rw [← hrow0] at hRZl hg1' hres
 replace hrow0 := Lib.hid hrow0
 replace hRZ := Lib.hid hRZ
 replace hxt := Lib.hid hxt
 replace hxd := Lib.hid hxd
 replace h1d := Lib.hid h1d
 replace hres := Lib.hid hres
 replace hsrc := Lib.hid hsrc
 replace hysW := Lib.hid hysW
 replace h1x := Lib.hid h1x
 replace h1y := Lib.hid h1y
 replace hys := Lib.hid hys
 replace hx := Lib.hid hx
 have mixed : Tryz.prog.follows .mixedOrders = true := by kernel_rfl
 go_enter Tryz.func54, Tryz.ntmps54
 go_wp2_with first
  | (at_builtin; refine Lib.wpList_append_run _ rfl _ _ _ _ rfl _ _ rfl rfl _ _ hrz ?_)
  | (refine wpList_copy_sp rfl (.tmp 43) (.tmp 44) 27 27 rfl 24 Tryz.underlying27 3 filmSize w.heap.size (i * 3) (n + m - i) (G - i) ad m cv rfl rfl row0 24 hg1'.out ys (by rw [hl]; simp only [Nat.min_def]; split <;> omega) (hysW.out _ hB1) (by rw [hl]; omega) h1y.out w.heap.size w hB1 (Nat.le_refl _) ?_; intro n2 w2 hg2 hB2 ho2)
 have hg2' : Hid (w2.drew.heap[w.heap.size]? = some (.cells (splice row0 (i * 3) ys).toArray 24 (0, 0))) := hg2
 have hl2 : (splice row0 (i * 3) ys).length = G * 3 := by rw [length_splice _ _ _ (by omega)]; exact hRZl
 obtain ⟨row2, hrow2⟩ : ∃ r, r = splice row0 (i * 3) ys := ⟨_, rfl⟩
 rw [← hrow2] at hg2' hl2 hg2 hres
 replace hrow2 := Lib.hid hrow2
 have hbd : Below w.heap.size w w2.drew := below_drewN hB2 1
 go_region_law_o (refine step_copy_sp rfl (.tmp 50) (.tmp 53) 27 27 rfl 24 Tryz.underlying27 3 filmSize w.heap.size ((i + m) * 3) (n + m - (i + m)) (G - (i + m)) ⟨g, i * 3, none⟩ (n - i) (c - i) (by simp [Act.eval, Act.put]) (by simp [Act.eval, Act.put]) row2 24 hg2'.out xd (by rw [hdl]; simp only [Nat.min_def]; split <;> omega) (hsrc.out _ hbd) (by rw [hdl]; omega) h1d.out w.heap.size w hbd (Nat.le_refl _) ?_; intro n3 w3 hg3 hB3 ho3)
 go_wp2
 go_ret
 refine ⟨_, _, rfl, ⟨?_, .inr ⟨w.heap.size, G, _, rfl, hbase, hg3.out, hGn, hGm, ?_, ?_⟩⟩, ⟨hB3.os, hB3.tape, hB3.output, hB3.size, fun k hk => hB3.block k (by omega)⟩⟩
 ·rw [List.length_append, List.length_append]; omega
 ·rw [List.size_toArray, length_splice _ _ _ (by omega)]; exact hl2
 ·rw [Nat.add_mul, Nat.add_mul]; exact hres.out
theorem insertF_own (p : Option Addr) (n c i : Nat) (hi : i ≤ n) (xs : List Value) (h1x : ∀ u ∈ xs, u.oneCell' = true) (ad : Addr) (m cv : Nat) (hm : 0 < m) (hnm : n + m ≤ 1000) (ys : List Value) (base : Nat) (w : World)
  (hown : w.ownsRow base 24 3 (.slice p n c) n xs) (hbase : base ≤ w.heap.size) (hl : ys.length = m * 3) (hys : ∀ j u, ys[j]? = some u → w.cell? (ad.add j) = some u) (h1y : ∀ u ∈ ys, u.oneCell' = true)
  (hne : ∀ a, p = some a → ad.block ≠ a.block) (curv : Array Value) (tv : TypeId) (hgv : w.heap[ad.block]? = some (.cells curv tv (0, 0))) :
  Calls Tryz.prog 54 #[.slice p n c, .int .i64 (i : Int), .slice (some ad) m cv] w fun e w' => ∃ p' c', e = .returned (.slice p' (n + m) c') ∧ w'.ownsRow base 24 3 (.slice p' (n + m) c') (n + m) (xs.take (i * 3) ++ (ys ++ xs.drop (i * 3))) ∧ Below base w w' := by
 have hxl := hown.1
 by_cases hin : i = n
 ·subst hin
  refine (insert_end p i c xs ad m cv hm hnm ys base w hown hbase hl hys h1y).mono ?_
  rintro e w' ⟨p', c', rfl, h1, h2⟩
  refine ⟨p', c', rfl, ?_, h2⟩
  rw [← hxl, List.take_length, List.drop_length, List.append_nil]
  exact h1
 ·have hown' := hown
  obtain ⟨_, ⟨h1, h0⟩ | ⟨g, cap, cur, hv, hbg, hg, h1, h2, h3, h4⟩⟩ := hown
  ·omega
  ·cases hv
   by_cases hroom : n + m ≤ c
   ·refine (insert_room g n c i (by omega) xs ad m cv hm hroom hnm h2 ys base w cur.toList hbg hg (by rw [Array.length_toList]; exact h3) h4 hxl h1x hl hys h1y (hne _ rfl) curv tv hgv).mono ?_
    rintro e w' ⟨rfl, r1, r2⟩
    exact ⟨_, _, rfl, r1, r2⟩
   ·exact insert_grow g n c i (by omega) xs ad m cv hm h1 (by omega) hnm ys base w hbase (ownsRow_cells hown') hxl h1x hl hys h1y
/-- m films of H put into those of F at i -/
def ins (F : Nat → Flm) (i : Nat) (H : Nat → Flm) (m : Nat) (j : Nat) : Flm := if j < i then F j else if j < i + m then H (j - i) else F (j - m)
theorem frow_ins (F H : Nat → Flm) (n m i : Nat) (hi : i ≤ n) : (frow F n).take (i * 3) ++ (frow H m ++ (frow F n).drop (i * 3)) = frow (ins F i H m) (n + m) := by
 refine List.ext_getElem? fun j => ?_
 rw [ins_get _ _ _ (by rw [frow_length]; omega), frow_length]
 by_cases hj : j < (n + m) * 3
 ·have h := frow_get (ins F i H m) (n + m) (j / 3) (j % 3) (by omega) (by omega)
  rw [show j / 3 * 3 + j % 3 = j by omega] at h
  rw [h]
  by_cases a1 : j < i * 3
  ·have h1 := frow_get F n (j / 3) (j % 3) (by omega) (by omega)
   rw [show j / 3 * 3 + j % 3 = j by omega] at h1
   rw [if_pos a1, h1, ins, if_pos (by omega)]
  ·by_cases a2 : j < i * 3 + m * 3
   ·have h1 := frow_get H m (j / 3 - i) (j % 3) (by omega) (by omega)
    rw [show (j / 3 - i) * 3 + j % 3 = j - i * 3 by omega] at h1
    rw [if_neg a1, if_pos a2, h1, ins, if_neg (by omega), if_pos (by omega)]
   ·have h1 := frow_get F n (j / 3 - m) (j % 3) (by omega) (by omega)
    rw [show (j / 3 - m) * 3 + j % 3 = j - m * 3 by omega] at h1
    rw [if_neg a1, if_neg a2, h1, ins, if_neg (by omega), if_neg (by omega)]
 ·rw [if_neg (by omega), if_neg (by omega), List.getElem?_eq_none (by rw [frow_length]; omega), List.getElem?_eq_none (by rw [frow_length]; omega)]
theorem insertF_ok (p : Option Addr) (n c i : Nat) (hi : i ≤ n) (F : Nat → Flm) (ad : Addr) (m cv : Nat) (hm : 0 < m) (hnm : n + m ≤ 1000) (H : Nat → Flm) (base : Nat) (w : World)
  (hown : w.ownsRow base 24 3 (.slice p n c) n (frow F n)) (hbase : base ≤ w.heap.size) (hH : FilmsAt w (some ad) m cv H)
  (hne : ∀ a, p = some a → ad.block ≠ a.block) (curv : Array Value) (tv : TypeId) (hgv : w.heap[ad.block]? = some (.cells curv tv (0, 0))) :
  Calls Tryz.prog 54 #[.slice p n c, .int .i64 (i : Int), .slice (some ad) m cv] w fun e w' => ∃ p' c', e = .returned (.slice p' (n + m) c') ∧ FilmsAt w' p' (n + m) c' (ins F i H m) ∧ Below base w w' := by
 refine (insertF_own p n c i hi (frow F n) (frow_ones F n) ad m cv hm hnm (frow H m) base w hown hbase (frow_length H m) (films_cells hH) (frow_ones H m) hne curv tv hgv).mono ?_
 rintro e w' ⟨p', c', rfl, r1, r2⟩
 rw [frow_ins F H n m i hi] at r1
 exact ⟨p', c', rfl, ownsRow_films r1 hnm, r2⟩
end Go.Proofs.YtdgodcgdlfjpaaaGreatDoor
