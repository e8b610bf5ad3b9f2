/- The law CoatStacks: Film and Stack equal the reference, its walk by a verified evaluator, and its card. Part 3 of 11. No condition beside the row. -/
import Derived.Deep.Slices
import Derived.OpenShut
import Derived.Carry
import Derived.SizedLaws
import Derived.Scope
import Derived.Test.YtdgodcgdlfjpaaaGreatDoorA09
import Derived.Test.YtdgodcgdlfjpaaaGreatDoorT01
import Derived.Test.YtdgodcgdlfjpaaaGreatDoorT02
set_option linter.unusedVariables false
set_option linter.unusedSimpArgs false
namespace Go.Proofs.YtdgodcgdlfjpaaaGreatDoor
open Go Go.ChangeShapes Go.WideShapes Go.ChangeAt Go.RowKit Go.Mono
theorem laidOut40 : laidOutB Tryz.prog = true := by kernel_rfl
theorem trodAll_below {P : Program} (hl : laidOutB P = true) {H : Type} {enc : TypeId × Value → H} {W W' : World} (hb : Below W.heap.size W W') : ∀ (ts : List TypeId) (vs : List Value) (ds : List (DataW H)) (ps : List MemPlace),
  (ts.all fun t => P.readableRec t && decide (t < P.types.size)) = true → DataW.TrodAll enc P W 0 (fun _ => true) true ts vs ds ps → (∀ x ∈ ps, x.block < W.heap.size) → DataW.TrodAll enc P W' 0 (fun b => decide (b < W.heap.size)) true ts vs ds ps := by
 intro ts
 induction ts with
 | nil =>
   intro vs ds ps _ h _
   obtain ⟨rfl, rfl, rfl⟩ := trodAll_nil h
   exact rfl
 | cons t ts ih =>
   intro vs ds ps hr h hlt
   obtain ⟨v, vs1, d, ds1, a, b, rfl, rfl, rfl, h1, h2⟩ := trodAll_cons h
   rw [List.all_cons, Bool.and_eq_true, Bool.and_eq_true, decide_eq_true_eq] at hr
   exact ⟨a, b, Below.trod hl hr.1.1 hr.1.2 h1 hb (fun x hx => hlt x (List.mem_append_left _ hx)), ih _ _ _ hr.2 h2 (fun x hx => hlt x (List.mem_append_right _ hx)), rfl⟩
section
variable {H : Type} {enc : TypeId × Value → H} {W : World} {base : Nat} {r : Reach} {v : Value} {d : DataW H} {p : List MemPlace}
set_option maxRecDepth 100000 in
theorem open_small (hv : Value.okWide Tryz.prog W r base 25 v) (h : DataW.Trod enc Tryz.prog W 0 (fun _ => true) true 25 v d p) :
  ∃ s0 s1 : Int, v = .agg #[.int .u8 s0, .int .u8 s1] ∧ (0 ≤ s0 ∧ s0 ≤ 255) ∧ (0 ≤ s1 ∧ s1 ≤ 255) := by
 have hc : Tryz.prog.cellsOf 25 = 2 := by kernel_rfl
 have h1 : Tryz.prog.cellsOf 5 = 1 := by kernel_rfl
 obtain ⟨cs, rfl, hs⟩ : ∃ cs, v = .agg cs ∧ cs.size = 2 := by
  simp only [Value.okWide, Tryz.underlying25] at hv
  obtain ⟨cs, e, hs, _⟩ := hv
  exact ⟨cs, e, hs.trans hc⟩
 obtain ⟨fuel, hf⟩ := h
 obtain ⟨xs, m, rfl, _, _, hx, hel⟩ := DataW.trod_array Tryz.underlying25 hf
 match cs, hs, xs, hx with
 | ⟨[c0, c1]⟩, _, [x0, x1], _ =>
   have e0 := hel 0 (by omega)
   have e1 := hel 1 (by omega)
   simp [h1, Value.cells] at e0 e1
   obtain ⟨s0, k0, _, w0⟩ := DataW.trod_int Tryz.underlying5 e0
   obtain ⟨s1, k1, _, w1⟩ := DataW.trod_int Tryz.underlying5 e1
   cases k0; cases k1
   exact ⟨s0, s1, rfl, bounds_u8 w0, bounds_u8 w1⟩
set_option maxRecDepth 100000 in
theorem thin_cells {fuel : Nat} {cs : List Value} {x : DataW H × List MemPlace} (h : DataW.trod enc Tryz.prog W 0 (fun _ => true) true fuel 112 cs = some x) : ∃ t : Thn, t.ok ∧ cs = t.vals.toList := by
 have hc : Tryz.prog.cellsOf 112 = 3 := by kernel_rfl
 have h1 : Tryz.prog.cellsOf 5 = 1 := by kernel_rfl
 obtain ⟨xs, m, rfl, _, hl, hx, hel⟩ := DataW.trod_struct Tryz.underlying112 h
 rw [hc] at hl
 match cs, hl, xs, hx with
 | [c0, c1, c2], _, [x0, x1, x2], _ =>
   have e0 := hel 0 _ rfl
   have e1 := hel 1 _ rfl
   have e2 := hel 2 _ rfl
   simp [h1] at e0 e1 e2
   obtain ⟨s0, k0, _, w0⟩ := DataW.trod_int Tryz.underlying5 e0
   obtain ⟨s1, k1, _, w1⟩ := DataW.trod_int Tryz.underlying5 e1
   obtain ⟨s2, k2, _, w2⟩ := DataW.trod_int Tryz.underlying5 e2
   cases k0; cases k1; cases k2
   exact ⟨⟨s0, s1, s2⟩, ⟨bounds_u8 w0, bounds_u8 w1, bounds_u8 w2⟩, rfl⟩
set_option maxRecDepth 100000 in
theorem open_thin (hv : Value.okWide Tryz.prog W r base 112 v) (h : DataW.Trod enc Tryz.prog W 0 (fun _ => true) true 112 v d p) : ∃ t : Thn, t.ok ∧ v = .agg t.vals := by
 obtain ⟨cs, rfl, _⟩ := okWide_struct Tryz.underlying112 hv
 obtain ⟨fuel, hf⟩ := h
 obtain ⟨t, ht, hc⟩ := thin_cells hf
 refine ⟨t, ht, ?_⟩
 rw [show cs = t.vals from Array.ext' hc]
theorem cell_lt {w : World} {a : Addr} {u : Value} (h : w.cell? a = some u) : a.block < w.heap.size := by
 by_cases hb : a.block < w.heap.size
 ·exact hb
 ·rw [World.cell?, Array.getElem?_eq_none (by omega)] at h
  cases h
set_option maxRecDepth 100000 in
theorem open_thins (hv : Value.okWide Tryz.prog W r base 22 v) (h : DataW.Trod enc Tryz.prog W 0 (fun _ => true) true 22 v d p) (hsz : ∀ n ∈ d.weights Tryz.prog 22, n ≤ reachBytes) :
  ∃ (q : Option Addr) (n c : Nat) (G : Nat → Thn), v = .slice q n c ∧ (∀ i, i < n → (G i).ok) ∧ ThinsAt W q n c G := by
 have hc : Tryz.prog.cellsOf 112 = 3 := by kernel_rfl
 have hby : Tryz.prog.bytesOf 112 = 3 := by kernel_rfl
 obtain ⟨a0, len, cap, rfl⟩ := okWide_slice Tryz.underlying22 hv
 obtain ⟨fuel, hf⟩ := h
 rcases Go.Deep.open_slice Tryz.underlying22 hf with ⟨hcs, hx⟩ | ⟨a, len', cap', m, n, D, Pl, hcs, _, hl, hmx, hm, hx, hel⟩
 ·simp [Value.cells] at hcs
  obtain ⟨rfl, rfl, rfl⟩ := hcs
  exact ⟨none, 0, 0, fun _ => ⟨0, 0, 0⟩, rfl, fun i hi => absurd hi (Nat.not_lt_zero _), Nat.le_refl _, by omega, fun h => absurd h (Nat.not_lt_zero _)⟩
 ·simp [Value.cells] at hcs
  obtain ⟨rfl, rfl, rfl⟩ := hcs
  simp only [if_true] at hm
  simp only [Prod.mk.injEq] at hx
  obtain ⟨rfl, _⟩ := hx
  have hw := hsz _ (by rw [DataW.weights, Tryz.underlying22]; exact List.mem_cons_self ..)
  rw [List.length_map, List.length_map, List.length_range, List.length_range, hby] at hw
  have hr : reachBytes = 140737488351232 := rfl
  have hel' : ∀ i, i < len → ∃ t : Thn, t.ok ∧ W.cells? 0 (a.add (i * 3)) 3 = some t.vals.toList := fun i hi => by
   obtain ⟨cs', h1, h2⟩ := hel i (by omega)
   obtain ⟨t, ht, rfl⟩ := thin_cells h2
   rw [hc] at h1
   exact ⟨t, ht, h1⟩
  haveI : Inhabited Thn := ⟨⟨0, 0, 0⟩⟩
  obtain ⟨G, hG⟩ := Go.Deep.choose_lt hel'
  refine ⟨some a, len, cap, G, rfl, fun i hi => (hG i hi).1, hl, by omega, fun h0 => ?_⟩
  obtain ⟨b, off, spot⟩ := a
  have hcell : ∀ i j, i < len → j < 3 → W.cell? ((Addr.mk b off spot).add (i * 3 + j)) = some ((G i).vals.getD j undef) := fun i j hi hj => by
   obtain ⟨_, _, h3⟩ := World.cells?_some (hG i hi).2
   rw [← Go.Deep.add_add, h3 j hj]
   rcases (by omega : j = 0 ∨ j = 1 ∨ j = 2) with rfl | rfl | rfl <;> rfl
  have hspot : spot = none := by simpa [Addr.add] using World.cell?_spot (hcell 0 0 h0 (by omega))
  subst hspot
  refine ⟨b, off, rfl, cell_lt (hcell 0 0 h0 (by omega)), fun i j hi hj => ?_⟩
  rw [← hcell i j hi hj, Addr.add_lit, Nat.add_assoc]
end
end Go.Proofs.YtdgodcgdlfjpaaaGreatDoor
namespace Go.Ev
open Go.RowKit Go.Mono
theorem lookup_append {α : Type} (l m : List (Nat × α)) (k : Nat) : (l ++ m).lookup k = (l.lookup k).or (m.lookup k) := by
 induction l with
 | nil => simp
 | cons p r ih =>
   obtain ⟨k', x⟩ := p
   rw [List.cons_append, lookup_cons, lookup_cons, ih]
   split <;> rfl
def Sub {α : Type} (l m : List (Nat × α)) : Prop := ∀ k x, l.lookup k = some x → m.lookup k = some x
section
variable {D : Den} {w0 : World} {X : Nat → Prop} {th t' : Nat} {ρ ρ' : Nm} {wc w wc' w' : World} {bk bkR wr : List (Nat × Blk)} {c c' : Nat}
theorem Sat.sub (h : Sat D w0 X th ρ wc w bk) (hs : Sub bkR bk) : Sat D w0 X th ρ wc w bkR := ⟨h.fr, h.ext, h.inj, h.lt, fun k b hk => h.box k b (hs k b hk)⟩
theorem Sat.frame (h : Sat D w0 X th ρ wc w bk) (hs : Sub bkR bk) (hf : ∀ k b, bk.lookup k = some b → k < th) (g : Sat D w0 X t' ρ' wc' w' (wr ++ bkR)) (e : Evo ρ wc w bkR c c' ρ' wc' w' (wr ++ bkR)) (hc : c' ≤ th) :
  Sat D w0 X th ρ' wc' w' (wr ++ bk) ∧ Evo ρ wc w bk c c' ρ' wc' w' (wr ++ bk) := by
 have hids : ∀ k b, (wr ++ bk).lookup k = some b → (bk.lookup k).isSome = true ∨ (c ≤ k ∧ k < c' ∧ ∃ B, ρ' k = some B ∧ (B.ro = true ∨ w.heap.size ≤ B.blk)) := fun k b hk => by
  rw [lookup_append] at hk
  cases hw : wr.lookup k with
  | none =>
    rw [hw, Option.none_or] at hk
    exact .inl (by rw [hk]; rfl)
  | some b' =>
    rcases e.ids k b' (by rw [lookup_append, hw]; rfl) with h1 | h1
    ·obtain ⟨x, hx⟩ := Option.isSome_iff_exists.1 h1
     exact .inl (by rw [hs k x hx]; rfl)
    ·exact .inr h1
 have hlt : ∀ k b, (wr ++ bk).lookup k = some b → k < th := fun k b hk => by
  rcases hids k b hk with h1 | ⟨_, h2, _⟩
  ·obtain ⟨x, hx⟩ := Option.isSome_iff_exists.1 h1
   exact hf k x hx
  ·omega
 refine ⟨⟨g.fr, g.ext, g.inj, g.lt, ?_⟩, ⟨e.rho, e.ext, e.size, e.os, e.tape, e.output, ?_, hids, e.cc, e.dom⟩⟩
 ·intro k b hk
  have hkt := hlt k b hk
  rw [lookup_append] at hk
  have old : (wr ++ bkR).lookup k = some b → ∃ B cs, ρ' k = some B ∧ Holds w' B b.T cs ∧ denL D ρ' wc' b.cells cs ∧ (b.ro = false → w0.heap.size ≤ B.blk ∨ X B.blk) ∧ (th ≤ k → wc'.heap.size ≤ B.blk) ∧ B.ro = b.ro := fun hh => by
   obtain ⟨B, cs, h1, h2, h3, h4, h5, h6⟩ := g.box k b hh
   exact ⟨B, cs, h1, h2, h3, h4, fun hx => absurd hx (by omega), h6⟩
  cases hw : wr.lookup k with
  | some b' =>
    rw [hw, Option.some_or] at hk
    exact old (by rw [lookup_append, hw, Option.some_or]; exact hk)
  | none =>
    rw [hw, Option.none_or] at hk
    cases hR : bkR.lookup k with
    | some b' =>
      have := hs k b' hR
      rw [hk] at this
      cases this
      exact old (by rw [lookup_append, hw, Option.none_or]; exact hR)
    | none =>
      obtain ⟨B, cs, h1, h2, h3, h4, h5, h6⟩ := h.box k b hk
      refine ⟨B, cs, e.rho k B h1, h2.of_block (e.loc B.blk (h.lt k B h1) fun k2 b2 B2 hk2 hB hro he => ?_), h3.mono e.rho e.ext, h4, fun hx => absurd hx (by omega), h6⟩
      rcases h.inj k2 k B2 B hB h1 he with h7 | h7
      ·subst h7
       rw [hR] at hk2
       cases hk2
      ·rw [hro] at h7; cases h7.1
 ·intro i hi hn
  exact e.loc i hi fun k b B hk => hn k b B (hs k b hk)
end
structure OpR where
 v : SV
 wr : List (Nat × Blk)
 obl : List Prop
 orc : List (Option Bool)
 c : Nat
abbrev CallS := FuncId → List SA → List (Nat × Blk) → Nat → List (Option Bool) → Option OpR
def CallOk (D : Den) (P : Program) (w0 : World) (X : Nat → Prop) (cs : CallS) : Prop :=
 ∀ f args bk c orc r, cs f args bk c orc = some r → (∀ p ∈ r.obl, p) → ∀ ρ wc w vals, Sat D w0 X c ρ wc w bk → (∀ k b, bk.lookup k = some b → k < c) → (∀ k, c ≤ k → k < r.c → ρ k = none) → denAs D ρ wc args vals →
   Calls P f vals.toArray w fun e w' => ∃ v ρ' wc', e = .returned v ∧ denV D ρ' wc' r.v v ∧ Sat D w0 X r.c ρ' wc' w' (r.wr ++ bk) ∧ Evo ρ wc w bk c r.c ρ' wc' w' (r.wr ++ bk)
def zerosU (P : Program) (e : TypeId) (n : Nat) : Option (List U) :=
 match (P.info? e).bind (·.zero) with
 | some z => (fun l : List Value => if l.all (·.oneCell') then some (l.map .val) else none) ((Array.range n).map (z.cells[· % z.cells.size]!)).toList
 | none => none
def effS (P : Program) (o : Oper) (get : Operand → Option SV) (bk : List (Nat × Blk)) (th c : Nat) : Option (SV × List (Nat × Blk) × Nat) :=
 match o.op with
 | .alloc T => (zeroU P T).map fun l => (.a (.one (.ptr c 0)), [(c, ⟨T, l, false⟩)], c + 1)
 | .box T x => match get x with
   | some (.a s) => some (.a (.one (.ptr c 0)), [(c, ⟨T, unitsA s, false⟩)], c + 1)
   | _ => none
 | .buildSlice t len parts => match P.underlying t with
   | some (.slice e) => match szOf P e, partsS get parts.toList with
     | some s, some ps => if len * s ≤ 2 ^ 24 && len * s != 0 then
       match zerosU P e (len * s) with
       | some z => (fillS (fun i => some (i * s, s)) z ps).map fun m => (.a (.one (.slc c 0 len len)), [(c, ⟨e, m, false⟩)], c + 1)
       | none => none
       else none
     | _, _ => none
   | _ => none
 | .store t x y => match get x, get y with
   | some (.a (.one (.ptr k off))), some (.a s) => match bk.lookup k with
     | some b => if (szOf P t).any (· == widths (unitsA s)) && (b.T != 3 || th ≤ k) && !b.ro then (putU b.cells off (unitsA s)).map fun l => (.tup [], [(k, ⟨b.T, l, false⟩)], c) else none
     | none => none
   | _, _ => none
 | _ => (evPure P o get bk).map fun x => (x, [], c)
theorem denA_cell1 {D : Den} {ρ : Nm} {w : World} {x : SA} {v : Value} (h : denA D ρ w x v) : (∃ cs : Array Value, v = .agg cs) ∨ v.oneCell' = true := by
 cases x with
 | one u => exact .inr (denU.ones h v (by simp))
 | agg l => obtain ⟨cs, e, _⟩ := h; exact .inl ⟨_, e⟩
theorem run_storeAt_any {P : Program} (w : World) (b o : Nat) (ty : TypeId) (v : Value) (hv : (∃ cs : Array Value, v = .agg cs) ∨ v.oneCell' = true) (ht : w.there b o v.cells.size) (hi : (P.info? ty).map (·.size) = some v.cells.size)
  (h1 : ∀ u ∈ v.cells.toList, u.oneCell' = true) : (Instr.storeAt ty (.pointer (some ⟨b, o, none⟩)) v).run P w = .ok () (w.setCells b o v.cells.toList) := by
 rcases hv with ⟨cs, rfl⟩ | hv
 ·exact run_storeAt_mid w b o ty cs ht hi (by rw [Array.all_eq_true_iff_forall_mem]; intro u hu; exact h1 u (by simpa [Value.cells] using hu))
 ·rw [oneCell_cells hv] at ht hi ⊢
  have := run_storeAt_mid (P := P) w b o ty #[v] ht hi (by simpa using hv)
  rw [← this]
  unfold Instr.storeAt storeVar
  rw [oneCell_cells hv]
  rfl
section
variable {D : Den} {P : Program} {w0 : World} {X : Nat → Prop} {th : Nat} {ρ : Nm} {wc w : World} {bk bkR : List (Nat × Blk)} {c : Nat} {get : Operand → Option SV} {a : Act}
theorem effS_ok (h : Sat D w0 X th ρ wc w bk) (hs : Sub bkR bk) (hg : ∀ x z, get x = some z → denV D ρ wc z (a.eval x)) {o : Oper} {x : SV} {wr : List (Nat × Blk)} {c' : Nat}
  (he : effS P o get bkR th c = some (x, wr, c')) (hn : ∀ k, c ≤ k → k < c' → ρ k = none) {K : Act → World → Prop} {Q : Exit → Act → World → Prop}
  (hK : ∀ ρ' w' v, denV D ρ' wc x v → Sat D w0 X th ρ' wc w' (wr ++ bk) → Evo ρ wc w bk c c' ρ' wc w' (wr ++ bk) → K (a.put o.dst v) w') : o.wp P a w K Q := by
 have fresh : ∀ {T : TypeId} {l : List U} {cells : Array Value} {s : Sem Value} {n : Nat} (mk : Addr → Value) (x : SV), (∀ B, denV D (addNm ρ c B) wc x (mk ⟨B, 0, none⟩)) → s.run P w = .ok (mk ⟨w.heap.size, 0, none⟩) (w.alloc (.cells cells T)) → denL D ρ wc l cells.toList →
   (execOp a.eval o = do pure (Next.value (← s))) → c' = c + 1 → (∀ ρ' w' v, denV D ρ' wc x v → Sat D w0 X th ρ' wc w' ((c, ⟨T, l, false⟩) :: bk) → Evo ρ wc w bk c c' ρ' wc w' ((c, ⟨T, l, false⟩) :: bk) → K (a.put o.dst v) w') → o.wp P a w K Q := by
  intro T l cells s n mk x hx hrun hl hex hc hK
  have hk : ρ c = none := hn c (Nat.le_refl _) (by omega)
  obtain ⟨k1, k2, k3⟩ := h.alloc hk T hl
  unfold Oper.wp
  rw [hex]
  simp only [Sem.run_bind, hrun, Result.andThen_ok, Sem.run_pure, Oper.upon_value]
  subst hc
  rw [Array.toArray_toList] at k1 k2
  exact hK _ _ _ (hx _) k1 k2
 have nm : ∀ B, addNm ρ c B c = some ⟨B, 0, false⟩ := fun B => by simp [addNm]
 unfold effS at he
 split at he
 ·rename_i T ho
  obtain ⟨l, hl, e⟩ := Option.map_eq_some_iff.1 he
  cases e
  obtain ⟨i, z, h1, h2, h3⟩ := zeroU_ok hl D ρ wc
  refine fresh (n := 0) (fun p => .pointer (some p)) (.a (.one (.ptr c 0))) (fun B => ⟨_, nm B, rfl⟩) ?_ h3 (s := Instr.alloc T true (.tuple #[])) (by unfold execOp; rw [ho]) rfl hK
  simp [Instr.alloc, zeroValue, typeInfo, h1, h2, newVar, newRow]
 ·rename_i T y ho
  split at he
  ·rename_i s hy
   cases he
   have hd := hg _ _ hy
   refine fresh (n := 0) (fun p => .pointer (some p)) (.a (.one (.ptr c 0))) (fun B => ⟨_, nm B, rfl⟩) ?_ (denA_cells hd) (s := Instr.box T (a.eval y)) (by unfold execOp; rw [ho]) rfl hK
   simp [Instr.box, newVar, newRow]
  ·cases he
 ·rename_i t len parts ho
  split at he
  ·rename_i e hu
   split at he
   ·rename_i s ps hz hp
    split at he
    ·rename_i hlen
     rw [Bool.and_eq_true] at hlen
     split at he
     ·rename_i z hzs
      obtain ⟨m, hm, e1⟩ := Option.map_eq_some_iff.1 he
      cases e1
      unfold zerosU at hzs
      split at hzs
      ·rename_i zv hzv
       obtain ⟨ie, hie, hze⟩ := Option.bind_eq_some_iff.1 hzv
       dsimp only at hzs
       split at hzs
       ·rename_i hall
        cases hzs
        have hps := partsS_ok (D := D) (ρ := ρ) (w := wc) hg hp
        obtain ⟨cells, hf1, hf2⟩ := fillS_ok _ hm (denL_vals _ fun v hv => List.all_eq_true.1 hall v hv) hps
        obtain ⟨ie', hie', rfl⟩ := Option.map_eq_some_iff.1 hz
        cases hie.symm.trans hie'
        refine fresh (n := 0) (fun p => .slice (some p) len len) (.a (.one (.slc c 0 len len))) (fun B => ⟨_, nm B, rfl⟩) ?_ hf2 (s := Instr.buildSlice t len (parts.map fun (i, x) => (i, a.eval x))) (by unfold execOp; rw [ho]) rfl hK
        refine run_buildSlice w t e len _ cells ie zv hu hie hze (by have := hlen.1; simp only [decide_eq_true_eq] at this; omega) (by simpa using hlen.2) ?_
        rw [← hf1]
        congr 1
        simp
       ·cases hzs
      ·cases hzs
     ·cases he
    ·cases he
   ·cases he
  ·cases he
 ·rename_i t y z ho
  split at he
  ·rename_i k off s hy hz
   split at he
   ·rename_i b hb
    split at he
    ·rename_i hc
     rw [Bool.and_eq_true, Bool.and_eq_true] at hc
     obtain ⟨hc, hro⟩ := hc
     obtain ⟨l, hl, e⟩ := Option.map_eq_some_iff.1 he
     cases e
     obtain ⟨B, hB, e1⟩ := hg _ _ hy
     have e2 : a.eval y = .pointer (some ⟨B.blk, B.base + off, none⟩) := by simpa using e1
     have hd := hg _ _ hz
     have hcs := denA_cells hd
     obtain ⟨sz, hsz, hw⟩ := Option.any_eq_true_iff_get .. |>.1 hc.1 |> fun ⟨h1, h2⟩ => (⟨_, Option.some_get h1 |>.symm, by simpa using h2⟩ : ∃ sz, szOf P t = some sz ∧ sz = widths (unitsA s))
     obtain ⟨k1, k2, k3, hbase⟩ := h.store (hs k b hb) (by simpa using hro) hl hcs (by
      have := hc.2
      simp only [Bool.or_eq_true, bne_iff_ne, decide_eq_true_eq] at this
      exact this) hB c
     rw [hbase, Nat.zero_add] at e2
     have hrun := run_storeAt_any (P := P) w B.blk off t (a.eval z) (denA_cell1 hd) (by rw [← Array.length_toList]; exact k3) (by rw [← Array.length_toList, hcs.len, ← hw]; exact hsz) hcs.ones
     unfold Oper.wp execOp
     rw [ho]
     simp only [e2, Sem.run_bind, hrun, Result.andThen_ok, Sem.run_pure, Oper.upon_skip]
     exact hK ρ _ undef ⟨[], rfl, rfl⟩ k1 k2
    ·cases he
   ·cases he
  ·cases he
 ·obtain ⟨y, hy, e⟩ := Option.map_eq_some_iff.1 he
  cases e
  obtain ⟨v, h1, h2⟩ := evPure_ok (P := P) hg (fun k b hk => h.bkOk k b (hs k b hk)) hy
  unfold Oper.wp
  rw [h1, Oper.upon_value]
  exact hK ρ w v h2 h (Evo.refl _ _ _ _ _)
end
end Go.Ev
namespace Go.Ev
open Go.RowKit Go.Mono
def sargs (get : Operand → Option SV) : List Operand → Option (List SA)
 | [] => some []
 | x :: r => match get x with
   | some (.a s) => (sargs get r).map (s :: ·)
   | _ => none
def capsA (caps : List (Nat × Nat)) : List SA := caps.map fun p => .one (.ptr p.1 p.2)
def entersB (P : Program) (f : FuncId) : Bool :=
 match P.funcs[f]? with
 | some fn => !(fn.name == "runtime.NumGoroutine") && fn.body.isSome
 | none => false
theorem enters_run {P : Program} {f : FuncId} (h : entersB P f = true) (args : Array Value) (w : World) : (callFunc f args).run P w = .ok (.enter f args) w := by
 unfold entersB at h
 split at h
 ·rename_i fn hf
  rw [Bool.and_eq_true] at h
  obtain ⟨h1, h2⟩ := h
  unfold callFunc
  have e1 : (fn.name == "runtime.NumGoroutine") = false := by simpa using h1
  have e2 : fn.body.isNone = false := by cases hb : fn.body <;> simp_all
  simp only [Sem.run_bind, run_program, Result.andThen_ok, hf, e1, e2, Bool.false_eq_true, if_false, Sem.run_pure]
 ·cases h
section
variable {D : Den} {P : Program} {ρ : Nm} {wc w : World} {get : Operand → Option SV} {ev : Operand → Value}
theorem denAs.append : ∀ {l m : List SA} {vs us : List Value}, denAs D ρ w l vs → denAs D ρ w m us → denAs D ρ w (l ++ m) (vs ++ us)
 | [], m, vs, us, e, hm => by rw [show vs = [] from e]; exact hm
 | x :: l, m, _, us, ⟨v, r, e, hv, hr⟩, hm => ⟨v, r ++ us, by rw [e, List.cons_append], hv, denAs.append hr hm⟩
theorem sargs_ok (hg : ∀ x z, get x = some z → denV D ρ wc z (ev x)) : ∀ {l : List Operand} {s : List SA}, sargs get l = some s → denAs D ρ wc s (l.map ev)
 | [], s, h => by cases h; rfl
 | x :: r, s, h => by
   unfold sargs at h
   split at h
   ·rename_i y hy
    obtain ⟨q, hq, rfl⟩ := Option.map_eq_some_iff.1 h
    exact ⟨_, _, rfl, hg _ _ hy, sargs_ok hg hq⟩
   ·cases h
theorem capsA_ok : ∀ {l : List (Nat × Nat)} {vs : List Value}, adrs ρ l vs → denAs D ρ w (capsA l) vs
 | [], vs, e => e
 | p :: r, vs, ⟨B, v', hB, e, hr⟩ => ⟨_, v', e, ⟨B, hB, rfl⟩, capsA_ok hr⟩
end
def ans (b : Bool) : List (Option Bool) → Bool × List Prop × List (Option Bool)
 | some x :: r => (x, [b = x], r)
 | none :: r => (b, [], r)
 | [] => (b, [], [])
theorem ans_ok {b : Bool} {orc : List (Option Bool)} (h : ∀ p ∈ (ans b orc).2.1, p) : (ans b orc).1 = b := by
 match orc, h with
 | some x :: r, h => exact (h (b = x) (by simp [ans])).symm
 | none :: r, h => rfl
 | [], h => rfl
def fixB (x : SV) (orc : List (Option Bool)) : SV × List Prop × List (Option Bool) :=
 match x with
 | .a (.one (.tst b)) => (.a (.one (.val (.bool (ans b orc).1))), (ans b orc).2.1, (ans b orc).2.2)
 | x => (x, [], orc)
theorem fixB_ok {D : Den} {ρ : Nm} {w : World} {x : SV} {orc : List (Option Bool)} {v : Value} (h : ∀ p ∈ (fixB x orc).2.1, p) (hv : denV D ρ w x v) : denV D ρ w (fixB x orc).1 v := by
 unfold fixB at h ⊢
 split
 ·rename_i b
  dsimp only at h ⊢
  rw [ans_ok h]
  exact ⟨hv, rfl⟩
 ·exact hv
def inR (z : Int) : Prop := -9223372036854775808 ≤ z ∧ z ≤ 9223372036854775807
theorem wrap_inR {z : Int} (h : inR z) : IntKind.i64.wrap z = z := by
 rw [IntKind.wrap_i64]
 have := h.1
 have := h.2
 omega
def intOf : Option SV → Option (Int × Bool)
 | some (.a (.one (.val (.int .i64 n)))) => some (n, false)
 | some (.a (.one (.sym z))) => some (z, true)
 | _ => none
theorem intOf_ok {D : Den} {ρ : Nm} {w : World} {x : SV} {z : Int} {b : Bool} {v : Value} (h : intOf (some x) = some (z, b)) (hv : denV D ρ w x v) : v = .int .i64 z := by
 unfold intOf at h
 split at h
 ·rename_i n e
  cases h
  cases e
  simpa using hv.1
 ·rename_i z' e
  cases h
  cases e
  simpa [denV, denA, denU] using hv
 ·cases h
def arith (op : BinOp) (a b : Int) : Option (SV × List Prop) :=
 match op with
 | .add => some (.a (.one (.sym (a + b))), [inR (a + b)])
 | .sub => some (.a (.one (.sym (a - b))), [inR (a - b)])
 | .mul => some (.a (.one (.sym (a * b))), [inR (a * b)])
 | .quo => some (.a (.one (.sym (a.tdiv b))), [b ≠ 0, inR (a.tdiv b)])
 | .rem => some (.a (.one (.sym (a.tmod b))), [b ≠ 0])
 | .eql => some (.a (.one (.tst (a == b))), [])
 | .neq => some (.a (.one (.tst (a != b))), [])
 | .lss => some (.a (.one (.tst (decide (a < b)))), [])
 | .leq => some (.a (.one (.tst (decide (a ≤ b)))), [])
 | .gtr => some (.a (.one (.tst (decide (a > b)))), [])
 | .geq => some (.a (.one (.tst (decide (a ≥ b)))), [])
 | _ => none
def symS (o : Oper) (get : Operand → Option SV) : Option (SV × List Prop) :=
 match o.op with
 | .binOp op _ x y _ => match intOf (get x), intOf (get y) with
   | some (a, s), some (b, s') => if s || s' then arith op a b else none
   | _, _ => none
 | .unOp .neg _ x => match intOf (get x) with
   | some (a, true) => some (.a (.one (.sym (0 - a))), [inR (0 - a)])
   | _ => none
 | _ => none
theorem arith_ok {D : Den} {P : Program} {ρ : Nm} {wc w : World} {op : BinOp} {t : TypeId} {x y : Operand} {a b : Int} {r : SV} {ps : List Prop} (h : arith op a b = some (r, ps)) (hp : ∀ p ∈ ps, p) :
  ∃ v, (do eqGuard op t x y (.int .i64 a) (.int .i64 b); binOp op t (.int .i64 a) (.int .i64 b) : Sem Value).run P w = .ok v w ∧ denV D ρ wc r v := by
 have hg : ∀ (s : Sem Value), (do eqGuard op t x y (.int .i64 a) (.int .i64 b); s : Sem Value).run P w = s.run P w := by
  intro s
  unfold eqGuard
  cases op <;> rfl
 rw [hg]
 unfold arith at h
 split at h <;> cases h
 ·exact ⟨.int .i64 (a + b), by simp [binOp, Op.intArith, wrap_inR (hp (inR (a + b)) (by simp))], rfl⟩
 ·exact ⟨.int .i64 (a - b), by simp [binOp, Op.intArith, wrap_inR (hp (inR (a - b)) (by simp))], rfl⟩
 ·exact ⟨.int .i64 (a * b), by simp [binOp, Op.intArith, wrap_inR (hp (inR (a * b)) (by simp))], rfl⟩
 ·exact ⟨.int .i64 (a.tdiv b), by simp [binOp, Op.intDiv, hp (b ≠ 0) (by simp), wrap_inR (hp (inR (a.tdiv b)) (by simp))], rfl⟩
 ·exact ⟨.int .i64 (a.tmod b), by simp [binOp, Op.intDiv, hp (b ≠ 0) (by simp)], rfl⟩
 ·exact ⟨.bool (a == b), by simp [binOp, Op.intCmp], rfl⟩
 ·exact ⟨.bool (a != b), by simp [binOp, Op.intCmp], rfl⟩
 ·exact ⟨.bool (decide (a < b)), by simp [binOp, Op.intCmp], rfl⟩
 ·exact ⟨.bool (decide (a ≤ b)), by simp [binOp, Op.intCmp], rfl⟩
 ·exact ⟨.bool (decide (a > b)), by simp [binOp, Op.intCmp], rfl⟩
 ·exact ⟨.bool (decide (a ≥ b)), by simp [binOp, Op.intCmp], rfl⟩
theorem symS_ok {D : Den} {P : Program} {ρ : Nm} {wc w : World} {get : Operand → Option SV} {ev : Operand → Value} (hg : ∀ x z, get x = some z → denV D ρ wc z (ev x)) {o : Oper} {r : SV} {ps : List Prop} (h : symS o get = some (r, ps)) (hp : ∀ p ∈ ps, p) :
  ∃ v, (execOp ev o).run P w = .ok (.value v) w ∧ denV D ρ wc r v := by
 have ofInt : ∀ {x : Operand} {z : Int} {b : Bool}, intOf (get x) = some (z, b) → ev x = .int .i64 z := by
  intro x z b hx
  cases hgx : get x with
  | none => rw [hgx] at hx; simp [intOf] at hx
  | some s => rw [hgx] at hx; exact intOf_ok hx (hg _ _ hgx)
 have viaV : ∀ {s : Sem Value}, (∃ v, s.run P w = .ok v w ∧ denV D ρ wc r v) → ∃ v, (do pure (Next.value (← s)) : Sem Next).run P w = .ok (.value v) w ∧ denV D ρ wc r v := by
  rintro s ⟨v, h1, h2⟩
  exact ⟨v, by simp only [Sem.run_bind, h1, Result.andThen_ok, Sem.run_pure], h2⟩
 unfold symS at h
 split at h
 ·rename_i op t x y ty ho
  split at h
  ·rename_i a s b s' ha hb
   split at h
   ·unfold execOp
    rw [ho]
    refine viaV ?_
    rw [ofInt ha, ofInt hb]
    exact arith_ok h hp
   ·cases h
  ·cases h
 ·rename_i t x ho
  split at h
  ·rename_i a ha
   cases h
   unfold execOp
   rw [ho]
   refine viaV ⟨.int .i64 (0 - a), ?_, rfl⟩
   rw [ofInt ha]
   have := wrap_inR (hp (inR (0 - a)) (by simp))
   simp only [Op.unary, Op.intArith, Sem.run_pure, this]
  ·cases h
 ·cases h
def callOf (P : Program) (o : Oper) (get : Operand → Option SV) : Option (FuncId × List SA) :=
 match o.op with
 | .call c => match c.callee with
   | .value fv => match get fv, sargs get c.args.toList with
     | some (.a (.one (.clo f caps))), some args => if entersB P f then some (f, args ++ capsA caps) else none
     | _, _ => none
   | _ => none
 | _ => none
def opS (P : Program) (cs : CallS) (o : Oper) (get : Operand → Option SV) (bk : List (Nat × Blk)) (th c : Nat) (orc : List (Option Bool)) : Option (OpR × Bool) :=
 match callOf P o get with
 | some (f, args) => if bk.all (fun p => Nat.blt p.1 c) then (match cs f args bk c orc with
   | some r => if Nat.ble c r.c then some (⟨(fixB r.v r.orc).1, r.wr, r.obl ++ (fixB r.v r.orc).2.1, (fixB r.v r.orc).2.2, r.c⟩, true) else none
   | none => none) else none
 | none => match symS o get with
   | some (x, ps) => some (⟨(fixB x orc).1, [], ps ++ (fixB x orc).2.1, (fixB x orc).2.2, c⟩, false)
   | none => match effS P o get bk th c with
     | some (x, wr, c') => if Nat.ble c c' then some (⟨x, wr, [], orc, c'⟩, false) else none
     | none => none
theorem lookup_all {α : Type} {l : List (Nat × α)} {c : Nat} (h : l.all (fun p => Nat.blt p.1 c) = true) : ∀ k b, l.lookup k = some b → k < c := by
 induction l with
 | nil => intro k b hk; simp at hk
 | cons p r ih =>
   obtain ⟨k', x⟩ := p
   intro k b hk
   rw [List.all_cons, Bool.and_eq_true] at h
   rw [lookup_cons] at hk
   split at hk
   ·rename_i e
    subst e
    exact of_eq_true (by rw [← Nat.blt_eq]; simpa using h.1)
   ·exact ih h.2 k b hk
theorem Sat.reth {D : Den} {w0 : World} {X : Nat → Prop} {th t : Nat} {ρ : Nm} {wc w : World} {bk : List (Nat × Blk)} (h : Sat D w0 X th ρ wc w bk) (hf : ∀ k b, bk.lookup k = some b → k < t) : Sat D w0 X t ρ wc w bk :=
 ⟨h.fr, h.ext, h.inj, h.lt, fun k b hk => let ⟨B, cs, h1, h2, h3, h4, _, h6⟩ := h.box k b hk; ⟨B, cs, h1, h2, h3, h4, fun hh => absurd hh (Nat.not_le.2 (hf k b hk)), h6⟩⟩
section
variable {D : Den} {P : Program} {w0 : World} {X : Nat → Prop} {th : Nat} {ρ : Nm} {wc w : World} {bk bkR : List (Nat × Blk)} {c : Nat} {get : Operand → Option SV} {a : Act} {cs : CallS}
theorem opS_cc {o : Oper} {orc : List (Option Bool)} {r : OpR} {cl : Bool} (he : opS P cs o get bkR th c orc = some (r, cl)) : c ≤ r.c := by
 unfold opS at he
 split at he
 ·split at he
  ·split at he
   ·split at he
    ·rename_i h
     cases he
     exact Nat.le_of_ble_eq_true h
    ·cases he
   ·cases he
  ·cases he
 ·split at he
  ·cases he
   exact Nat.le_refl _
  ·split at he
   ·split at he
    ·rename_i h
     cases he
     exact Nat.le_of_ble_eq_true h
    ·cases he
   ·cases he
theorem opS_ids {o : Oper} {orc : List (Option Bool)} {r : OpR} (he : opS P cs o get bkR th c orc = some (r, true)) : ∀ k b, bkR.lookup k = some b → k < c := by
 unfold opS at he
 split at he
 ·split at he
  ·rename_i h
   exact lookup_all h
  ·cases he
 ·split at he
  ·cases he
  ·split at he
   ·split at he
    ·cases he
    ·cases he
   ·cases he
theorem opS_ok (hcs : CallOk D P w0 X cs) (h : Sat D w0 X th ρ wc w bk) (hs : Sub bkR bk) (hg : ∀ x z, get x = some z → denV D ρ wc z (a.eval x)) {o : Oper} {orc : List (Option Bool)} {r : OpR} {cl : Bool}
  (he : opS P cs o get bkR th c orc = some (r, cl)) (hobl : ∀ p ∈ r.obl, p) (hn : ∀ k, c ≤ k → k < r.c → ρ k = none) (hcl : cl = true → (∀ k b, bk.lookup k = some b → k < th) ∧ r.c ≤ th)
  {K : Act → World → Prop} {Q : Exit → Act → World → Prop}
  (hK : ∀ ρ' wc' w' v, denV D ρ' wc' r.v v → Sat D w0 X th ρ' wc' w' (r.wr ++ bk) → Evo ρ wc w bk c r.c ρ' wc' w' (r.wr ++ bk) → K (a.put o.dst v) w') : o.wp P a w K Q := by
 unfold opS at he
 split at he
 ·rename_i f args hcall
  split at he
  ·rename_i hall
   split at he
   ·rename_i r' hr
    split at he
    ·cases he
     obtain ⟨hf, hrc⟩ := hcl rfl
     unfold callOf at hcall
     split at hcall
     ·rename_i cc ho
      split at hcall
      ·rename_i fv hcal
       split at hcall
       ·rename_i gf caps sa hfv hsa
        split at hcall
        ·rename_i hen
         obtain ⟨rfl, rfl⟩ : gf = f ∧ sa ++ capsA caps = args := by simpa using hcall
         obtain ⟨vs, hvs, e1⟩ := hg _ _ hfv
         have e2 : a.eval fv = .func (.func gf) #[] vs.toArray := by simpa using e1
         have hargs := (sargs_ok hg hsa).append (capsA_ok (D := D) (w := wc) hvs)
         have hlt := lookup_all hall
         have hx : (execOp a.eval o).run P w = .ok (.enter gf (cc.args.toList.map a.eval ++ vs).toArray) w := by
          unfold execOp
          simp only [ho, resolve, hcal, Deferred.ofValue, e2, Sem.run_bind, Sem.run_pure, Result.andThen_ok, invoke]
          rw [enters_run hen]
          congr 2
          apply Array.toList_inj.1
          simp
         unfold Oper.wp
         rw [hx, Oper.upon_enter]
         refine (hcs _ _ _ _ _ _ hr (fun p hp => hobl p (List.mem_append_left _ hp)) ρ wc w _ ((h.sub hs).reth hlt) hlt hn hargs).mono ?_
         rintro e w' ⟨v, ρ', wc', rfl, hv, hS, hE⟩
         obtain ⟨k1, k2⟩ := h.frame hs hf hS hE hrc
         exact hK ρ' wc' w' v (fixB_ok (fun p hp => hobl p (List.mem_append_right _ hp)) hv) k1 k2
        ·cases hcall
       ·cases hcall
      ·cases hcall
     ·cases hcall
    ·cases he
   ·cases he
  ·cases he
 ·split at he
  ·rename_i x ps hsym
   cases he
   obtain ⟨v, h1, h2⟩ := symS_ok (P := P) (w := w) hg hsym (fun p hp => hobl p (List.mem_append_left _ hp))
   unfold Oper.wp
   rw [h1, Oper.upon_value]
   exact hK ρ wc w v (fixB_ok (fun p hp => hobl p (List.mem_append_right _ hp)) h2) h (Evo.refl _ _ _ _ _)
  ·split at he
   ·rename_i x wr c' heff
    split at he
    ·cases he
     exact effS_ok h hs hg heff hn fun ρ' w' v h1 h2 h3 => hK ρ' wc w' v h1 h2 h3
    ·cases he
   ·cases he
end
/-! ### slots -/
def putT (tm : List (Nat × SV)) (d : Option Tmp) (x : SV) : List (Nat × SV) :=
 match d with
 | some t => (t, x) :: tm
 | none => tm
def dstOk (n : Nat) (d : Option Tmp) : Bool :=
 match d with
 | some t => Nat.blt t n
 | none => true
theorem TSat.put {D : Den} {ρ : Nm} {w : World} {n : Nat} {tm : List (Nat × SV)} {a : Act} (h : TSat D ρ w n tm a) {d : Option Tmp} (hd : dstOk n d = true) {x : SV} {v : Value} (hv : denV D ρ w x v) :
  TSat D ρ w n (putT tm d x) (a.put d v) := by
 cases d with
 | none => exact h
 | some t =>
   have ht : t < a.tmps.size := by rw [h.size]; exact Nat.blt_eq ▸ (show Nat.blt t n = true from hd)
   refine ⟨by simp [Act.put, h.size], fun s y hs => ?_⟩
   unfold putT at hs
   dsimp only at hs
   rw [lookup_cons] at hs
   show ∃ v', (a.tmps.setIfInBounds t v)[s]? = some v' ∧ _
   by_cases e : s = t
   ·rw [if_pos e] at hs
    cases hs
    subst e
    exact ⟨v, by simp [ht], hv⟩
   ·rw [if_neg e] at hs
    obtain ⟨v', h1, h2⟩ := h.at_ s y hs
    exact ⟨v', by rw [Array.getElem?_setIfInBounds, if_neg (fun h => e h.symm)]; exact h1, h2⟩
def wantS (ops : Array Oper) (o : Oper) (tm : List (Nat × SV)) (orc : List (Option Bool)) : Option (Bool × List Prop × List (Option Bool)) :=
 match o.guard with
 | none => some (true, [], orc)
 | some (j, want) => match (ops[j]?).bind (·.dst) with
   | some d => match tm.lookup d with
     | some (.a (.one (.val (.bool b)))) => some (b == want, [], orc)
     | some (.tup _) => some (false, [], orc)
     | _ => none
   | none => none
theorem wantS_ok {D : Den} {ρ : Nm} {w : World} {n : Nat} {tm : List (Nat × SV)} {a : Act} (h : TSat D ρ w n tm a) {ops : Array Oper} {o : Oper} {orc orc' : List (Option Bool)} {b : Bool} {ps : List Prop}
  (hw : wantS ops o tm orc = some (b, ps, orc')) (hps : ∀ p ∈ ps, p) : Region.wanted o (yielded ops a.tmps) = b := by
 unfold wantS at hw
 unfold Region.wanted
 split at hw
 ·rename_i hg
  cases hw
  rw [hg]
 ·rename_i j want hg
  rw [hg]
  dsimp only
  split at hw
  ·rename_i d hd
   split at hw
   ·rename_i b' hb
    obtain ⟨v, hv, hden⟩ := h.at_ d _ hb
    have hvb : v = .bool b' := by simpa using hden.1
    subst hvb
    cases hw
    unfold yielded
    rw [hd, Option.bind_some, hv]
    cases b' <;> cases want <;> rfl
   ·rename_i l hb
    cases hw
    obtain ⟨v, hv, vs, rfl, _⟩ := h.at_ d _ hb
    unfold yielded
    rw [hd, Option.bind_some, hv]
    rfl
   ·cases hw
  ·cases hw
end Go.Ev
namespace Go.Mono
open Go.RowKit
def LgV (m : Nat) (w : World) (v : Value) (z : Int) : Prop := ∃ p n c f, v = .agg #[.bool (decide (z < 0)), .slice p n c] ∧ SlF w (.slice p n c) n f ∧ Digs f n ∧ vf f n = z.natAbs ∧ n ≤ m
theorem LgV.ext {m : Nat} {w w' : World} {v : Value} {z : Int} (h : LgV m w v z) (hx : Ext w w') : LgV m w' v z := by
 obtain ⟨p, n, c, f, hv, h1, h2⟩ := h
 exact ⟨p, n, c, f, hv, h1.ext hx, h2⟩
theorem LgV.below {m : Nat} {w w' : World} {v : Value} {z : Int} (h : LgV m w v z) (hb : Below w.heap.size w w') : LgV m w' v z := h.ext (.of_below hb)
theorem LgV.mono {m m' : Nat} {w : World} {v : Value} {z : Int} (h : LgV m w v z) (hm : m ≤ m') : LgV m' w v z := by
 obtain ⟨p, n, c, f, hv, h1, h2, h3, h4⟩ := h
 exact ⟨p, n, c, f, hv, h1, h2, h3, by omega⟩
theorem LgV.tight {m k : Nat} {w : World} {v : Value} {z : Int} (h : LgV m w v z) (hz : (z.natAbs : Int) < pw k) : LgV k w v z := by
 obtain ⟨p, n, c, f, hv, h1, h2, h3, h4⟩ := h
 refine ⟨p, n, c, f, hv, h1, h2, h3, ?_⟩
 by_cases hn : n = 0
 ·omega
 have := h2.ge (by omega)
 by_cases hk : n ≤ k
 ·exact hk
 ·have := pw_mono (i := k) (k := n - 1) (by omega)
  omega
theorem LgV.lt {m : Nat} {w : World} {v : Value} {z : Int} (h : LgV m w v z) : (z.natAbs : Int) < pw m := by
 obtain ⟨p, n, c, f, hv, h1, h2, h3, h4⟩ := h
 have := h2.lt
 have := pw_mono h4
 omega
theorem long_eq {z y : Int} {n m : Nat} {f g : Nat → Int} (d1 : Digs f n) (v1 : vf f n = z.natAbs) (d2 : Digs g m) (v2 : vf g m = y.natAbs) :
  z = y ↔ (decide (z < 0) = decide (y < 0) ∧ n = m ∧ ∀ i, i < n → f i = g i) := by
 constructor
 ·rintro rfl
  obtain ⟨rfl, h⟩ := d1.unique d2 (by omega)
  exact ⟨rfl, rfl, h⟩
 ·rintro ⟨h1, rfl, h2⟩
  have e := vf_congr h2
  have h3 : (z < 0 ↔ y < 0) := by simpa using h1
  omega
end Go.Mono
namespace Go.Proofs.YtdgodcgdlfjpaaaGreatDoor
open Go.RowKit Go.Mono
set_option maxRecDepth 100000 in
set_option maxHeartbeats 1000000 in
theorem r3same_any (s t : Bool) (p q : Option Addr) (n m c1 c2 : Nat) (f g : Nat → Int) (r : Bool) (w : World) (h1 : SlF w (.slice p n c1) n f) (h2 : SlF w (.slice q m c2) m g) (hr : Hid (r = true ↔ (s = t ∧ n = m ∧ ∀ i, i < n → f i = g i))) :
  Calls Tryz.prog 67 #[.agg #[.bool s, .slice p n c1], .agg #[.bool t, .slice q m c2]] w fun e w' => e = .returned (.bool r) ∧ Below w.heap.size w w' := by
 obtain ⟨hc1, hn1, hx1⟩ := h1.opens
 obtain ⟨hc2, hn2, hx2⟩ := h2.opens
 clear h1 h2
 by_cases hst : s = t
 ·subst hst
  by_cases hnm : n = m
  ·subst hnm
   go_enter Tryz.func67, Tryz.ntmps67
   go_wp2
   refine boxes2 fun W hB hs b0 b1 => ?_
   have cb0 := b0.cell
   have lb0 := b0.lt
   have fb0 := b0.frozen
   have cb1 := b1.cell
   have lb1 := b1.lt
   have fb1 := b1.frozen
   go_loopw [5] (fun a wr => ∃ i : Nat, i ≤ n ∧ a = .int .i64 (i : Int) ∧ (∀ j, j < i → f j = g j) ∧ ∃ k, wr = W.drewN k) (fun a _ => (n - intOf a).toNat)
   case atStart => exact ⟨0, Nat.zero_le _, rfl, fun j hj => absurd hj (Nat.not_lt_zero _), 0, rfl⟩
   case round =>
    obtain ⟨i, hi, rfl, heq, k, rfl⟩ := hrel
    replace heq := Lib.hid heq
    by_cases hin : i < n
    ·obtain ⟨b, off, rfl, hb, hcell⟩ := hx1 (by omega)
     obtain ⟨b2, off2, rfl, hb2, hcell2⟩ := hx2 (by omega)
     have a1 := (hB.cell (p := ⟨b, off + i, none⟩) hb).trans (hcell i hin)
     have a2 := (hB.cell (p := ⟨b2, off2 + i, none⟩) hb2).trans (hcell2 i hin)
     have hin' : (i : Int) < n := by omega
     clear hcell hcell2 hx1 hx2
     by_cases hfg : f i = g i
     ·have hq : (f i != g i) = false := by simpa using hfg
      replace hfg := Lib.hid hfg
      go_wp2
      go_quiet (fail)
      go_wp2
      go_roundw
      case rel =>
       refine ⟨i + 1, by omega, by simp, fun j hj => ?_, _, rfl⟩
       by_cases hji : j = i
       ·subst hji; exact hfg.out
       ·exact heq.out j (by omega)
      case measure => simp [intOf]; omega
     ·have hq : (f i != g i) = true := by simpa using hfg
      obtain rfl : r = false := by
       rw [Bool.eq_false_iff]
       intro e
       exact hfg ((hr.out.1 e).2.2 i hin)
      replace hfg := Lib.hid hfg
      go_wp2
      go_quiet (fail)
      go_wp2
      go_ret
      exact ⟨rfl, below_drewN (below_drewN hB _) _⟩
    ·obtain rfl : i = n := by omega
     obtain rfl : r = true := hr.out.2 ⟨by trivial, by trivial, heq.out⟩
     clear hx1 hx2
     go_wp2
     go_ret
     exact ⟨rfl, below_drewN hB _⟩
  ·obtain rfl : r = false := by
    rw [Bool.eq_false_iff]
    intro e
    exact hnm (hr.out.1 e).2.1
   have hnm' : ((n : Int) != (m : Int)) = true := by simp; omega
   clear hx1 hx2
   go_enter Tryz.func67, Tryz.ntmps67
   go_wp2
   go_ret
   exact ⟨rfl, belowAlloc (belowAlloc (Below.refl _ _) _) _⟩
 ·obtain rfl : r = false := by
   rw [Bool.eq_false_iff]
   intro e
   exact hst (hr.out.1 e).1
  have hst' : (s != t) = true := by simpa using hst
  clear hx1 hx2
  go_enter Tryz.func67, Tryz.ntmps67
  go_wp2
  go_ret
  exact ⟨rfl, belowAlloc (belowAlloc (Below.refl _ _) _) _⟩
theorem r3same_ok {m1 m2 : Nat} {v1 v2 : Value} {z y : Int} (w : World) (h1 : LgV m1 w v1 z) (h2 : LgV m2 w v2 y) :
  Calls Tryz.prog 67 #[v1, v2] w fun e w' => e = .returned (.bool (decide (z = y))) ∧ Below w.heap.size w w' := by
 obtain ⟨p, n, c, f, rfl, s1, d1, e1, _⟩ := h1
 obtain ⟨q, m, c', g, rfl, s2, d2, e2, _⟩ := h2
 refine r3same_any _ _ p q n m c c' f g _ w s1 s2 (Lib.hid ?_)
 rw [decide_eq_true_eq]
 exact long_eq d1 e1 d2 e2
end Go.Proofs.YtdgodcgdlfjpaaaGreatDoor
namespace Go.Ev
open Go.RowKit Go.Mono
structure Stt where
 tm : List (Nat × SV)
 bk : List (Nat × Blk)
 c : Nat
 th : Nat
 orc : List (Option Bool)
def seqS (P : Program) (cs : CallS) (ops : Array Oper) (n : Nat) : List Oper → Stt → Option (Stt × List Prop)
 | [], s => some (s, [])
 | o :: rest, s => match wantS ops o s.tm s.orc with
   | some (true, ps, orc) => if dstOk n o.dst then (match opS P cs o (getS s.tm) s.bk s.th s.c orc with
     | some (r, cl) => (match seqS P cs ops n rest ⟨putT s.tm o.dst r.v, r.wr ++ s.bk, r.c, if cl then r.c else s.th, r.orc⟩ with
       | some (s', q) => some (s', ps ++ (r.obl ++ q))
       | none => none)
     | none => none) else none
   | some (false, ps, orc) => if dstOk n o.dst then (match seqS P cs ops n rest ⟨putT s.tm o.dst (.tup []), s.bk, s.c, s.th, orc⟩ with
     | some (s', q) => some (s', ps ++ q)
     | none => none) else none
   | none => none
section
variable {D : Den} {P : Program} {w0 : World} {X : Nat → Prop} {cs : CallS}
theorem opS_th {o : Oper} {get : Operand → Option SV} {bk : List (Nat × Blk)} {th t c : Nat} {orc : List (Option Bool)} {r : OpR} (he : opS P cs o get bk th c orc = some (r, true)) : opS P cs o get bk t c orc = some (r, true) := by
 unfold opS at he ⊢
 split at he
 ·exact he
 ·split at he
  ·cases he
  ·split at he
   ·split at he
    ·cases he
    ·cases he
   ·cases he
theorem seqS_cc {ops : Array Oper} {n : Nat} : ∀ {l : List Oper} {s s' : Stt} {q : List Prop}, seqS P cs ops n l s = some (s', q) → s.c ≤ s'.c
 | [], s, s', q, h => by cases h; exact Nat.le_refl _
 | o :: rest, s, s', q, h => by
   unfold seqS at h
   split at h
   ·split at h
    ·split at h
     ·rename_i r cl hr
      split at h
      ·rename_i s2 q2 h2
       cases h
       exact Nat.le_trans (opS_cc hr) (seqS_cc h2)
      ·cases h
     ·cases h
    ·cases h
   ·split at h
    ·split at h
     ·rename_i s2 q2 h2
      cases h
      have k := seqS_cc h2
      exact k
     ·cases h
    ·cases h
   ·cases h
theorem undef_den {ρ : Nm} {w : World} : denV D ρ w (.tup []) undef := ⟨[], rfl, rfl⟩
theorem seqS_ok (hcs : CallOk D P w0 X cs) {ops : Array Oper} {n : Nat} {Q : Exit → Act → World → Prop} : ∀ {l : List Oper} {s s' : Stt} {q : List Prop} {ρ : Nm} {wc w : World} {a : Act}, seqS P cs ops n l s = some (s', q) → (∀ p ∈ q, p) →
  Sat D w0 X s.th ρ wc w s.bk → TSat D ρ wc n s.tm a → (∀ k, s.c ≤ k → k < s'.c → ρ k = none) →
  (∀ ρ' wc' w' a', Sat D w0 X s'.th ρ' wc' w' s'.bk → TSat D ρ' wc' n s'.tm a' → a'.defers = a.defers → Evo ρ wc w s.bk s.c s'.c ρ' wc' w' s'.bk → Q .normal a' w') → wpList P ops Q l a w
 | [], s, s', q, ρ, wc, w, a, h, hq, hS, hT, hn, hK => by
   cases h
   exact hK ρ wc w a hS hT rfl (Evo.refl _ _ _ _ _)
 | o :: rest, s, s', q, ρ, wc, w, a, h, hq, hS, hT, hn, hK => by
   unfold seqS at h
   unfold wpList
   split at h
   ·rename_i ps orc hw
    split at h
    ·rename_i hd
     split at h
     ·rename_i r cl hr
      split at h
      ·rename_i s2 q2 h2
       cases h
       rw [if_pos (wantS_ok hT hw fun p hp => hq p (by simp [hp]))]
       left
       have hcc := seqS_cc h2
       have hrc := opS_cc hr
       have step : ∀ (th : Nat), opS P cs o (getS s.tm) s.bk th s.c orc = some (r, cl) → Sat D w0 X th ρ wc w s.bk → (cl = true → (∀ k b, s.bk.lookup k = some b → k < th) ∧ r.c ≤ th) → th = (if cl then r.c else s.th) → o.wp P a w (wpList P ops Q rest) Q := by
        intro th hr hS hcl hth
        refine opS_ok hcs hS (fun k b hk => hk) (fun x z hz => hT.get hz) hr (fun p hp => hq p (by simp [hp])) (fun k h1 h2 => hn k h1 (by dsimp only at hcc; omega)) hcl ?_
        intro ρ' wc' w' v hv hS' hE
        subst hth
        refine seqS_ok hcs h2 (fun p hp => hq p (by simp [hp])) hS' ((hT.mono hE.rho hE.ext).put hd hv) (fun k h1 h2 => ?_) ?_
        ·dsimp only at h1
         rw [hE.dom k (.inr h1)]
         exact hn k (by omega) h2
        ·intro ρ2 wc2 w2 a2 k1 k2 k3 k4
         refine hK ρ2 wc2 w2 a2 k1 k2 (k3.trans ?_) (hE.trans k4 hS.named)
         cases o.dst <;> rfl
       cases cl with
       | false => exact step s.th hr hS (fun hh => by cases hh) (by simp)
       | true =>
         have hids := opS_ids hr
         exact step r.c (opS_th hr) (hS.reth fun k b hk => Nat.lt_of_lt_of_le (hids k b hk) hrc) (fun _ => ⟨fun k b hk => Nat.lt_of_lt_of_le (hids k b hk) hrc, Nat.le_refl _⟩) (by simp)
      ·cases h
     ·cases h
    ·cases h
   ·rename_i ps orc hw
    split at h
    ·rename_i hd
     split at h
     ·rename_i s2 q2 h2
      cases h
      rw [if_neg (by rw [wantS_ok hT hw fun p hp => hq p (by simp [hp])]; simp)]
      refine seqS_ok hcs h2 (fun p hp => hq p (by simp [hp])) hS (hT.put hd undef_den) hn ?_
      intro ρ2 wc2 w2 a2 k1 k2 k3 k4
      refine hK ρ2 wc2 w2 a2 k1 k2 (k3.trans ?_) k4
      cases o.dst <;> rfl
     ·cases h
    ·cases h
   ·cases h
end
/-! ### any order: lists of what was written, by those that came up -/
def accAt {α : Type} (ws : List (List (Nat × α))) (L : Nat → Bool) (l0 : List (Nat × α)) : Nat → List (Nat × α)
 | 0 => l0
 | m + 1 => (if L m then ws.getD m [] else []) ++ accAt ws L l0 m
section
variable {α : Type} {ws : List (List (Nat × α))} {l0 : List (Nat × α)}
abbrev wrote (ws : List (List (Nat × α))) (j k : Nat) : Prop := ((ws.getD j []).lookup k).isSome = true
theorem accAt_cons (x : List (Nat × α)) (L : Nat → Bool) : ∀ m, accAt (x :: ws) L l0 (m + 1) = accAt ws (fun j => L (j + 1)) ((if L 0 then x else []) ++ l0) m
 | 0 => rfl
 | m + 1 => by
   have ih := accAt_cons x L m
   show (if L (m + 1) then (x :: ws).getD (m + 1) [] else []) ++ accAt (x :: ws) L l0 (m + 1) = _
   rw [ih]
   rfl
theorem acc_step (L : Nat → Bool) (m k : Nat) : (accAt ws L l0 (m + 1)).lookup k = if L m = true ∧ wrote ws m k then (ws.getD m []).lookup k else (accAt ws L l0 m).lookup k := by
 show ((if L m then ws.getD m [] else []) ++ accAt ws L l0 m).lookup k = _
 rw [lookup_append]
 unfold wrote
 cases hL : L m with
 | false => simp
 | true =>
   rw [if_pos rfl]
   generalize ws.getD m [] = x
   cases hw : x.lookup k with
   | none => rw [if_neg (by simp)]; rfl
   | some b => rw [if_pos ⟨rfl, rfl⟩]; rfl
theorem acc_read {L : Nat → Bool} {i k : Nat} (hi : L i = false) (hlo : ∀ j, j < i → wrote ws j k → L j = true) (hhi : ∀ j, i < j → wrote ws j k → L j = false) :
  ∀ N, i ≤ N → (accAt ws L l0 N).lookup k = (accAt ws (fun _ => true) l0 i).lookup k := by
 have lo : ∀ m, m ≤ i → (accAt ws L l0 m).lookup k = (accAt ws (fun _ => true) l0 m).lookup k := by
  intro m
  induction m with
  | zero => intro _; rfl
  | succ m ih =>
    intro hm
    rw [acc_step, acc_step, ih (by omega)]
    by_cases hw : wrote ws m k
    ·rw [if_pos ⟨hlo m (by omega) hw, hw⟩, if_pos ⟨rfl, hw⟩]
    ·rw [if_neg (fun h => hw h.2), if_neg (fun h => hw h.2)]
 intro N
 induction N with
 | zero => intro hN; obtain rfl : i = 0 := by omega
           exact lo 0 (by omega)
 | succ N ih =>
   intro hN
   by_cases he : i = N + 1
   ·subst he; exact lo _ (Nat.le_refl _)
   ·rw [acc_step, if_neg, ih (by omega)]
    rintro ⟨h1, h2⟩
    by_cases h3 : i = N
    ·subst h3; rw [hi] at h1; cases h1
    ·rw [hhi N (by omega) h2] at h1; cases h1
theorem acc_add {L : Nat → Bool} {i k : Nat} (hi : L i = false) (hhi : ∀ j, i < j → wrote ws i k → wrote ws j k → L j = false) :
  ∀ N, i < N → (accAt ws (fun j => j == i || L j) l0 N).lookup k = ((ws.getD i []).lookup k).or ((accAt ws L l0 N).lookup k) := by
 have lo : ∀ m, m ≤ i → (accAt ws (fun j => j == i || L j) l0 m).lookup k = (accAt ws L l0 m).lookup k := by
  intro m
  induction m with
  | zero => intro _; rfl
  | succ m ih =>
    intro hm
    have e : (m == i) = false := by simp; omega
    rw [acc_step, acc_step, ih (by omega)]
    simp only [e, Bool.false_or]
 intro N
 induction N with
 | zero => intro h; omega
 | succ N ih =>
   intro hN
   by_cases he : i = N
   ·subst he
    rw [acc_step, acc_step, lo i (Nat.le_refl _), if_neg (show ¬ (L i = true ∧ wrote ws i k) from fun h => by rw [hi] at h; cases h.1)]
    by_cases hw : wrote ws i k
    ·rw [if_pos ⟨by simp, hw⟩]
     obtain ⟨b, hb⟩ := Option.isSome_iff_exists.1 hw
     rw [hb]; rfl
    ·rw [if_neg (fun h => hw h.2)]
     have : (ws.getD i []).lookup k = none := by
      unfold wrote at hw
      cases h : (ws.getD i []).lookup k with
      | none => rfl
      | some b => rw [h] at hw; simp at hw
     rw [this]; rfl
   ·have e : (N == i) = false := by simp; omega
    rw [acc_step, acc_step, ih (by omega)]
    simp only [e, Bool.false_or]
    by_cases hw : L N = true ∧ wrote ws N k
    ·rw [if_pos hw, if_pos hw]
     have : (ws.getD i []).lookup k = none := by
      cases h : (ws.getD i []).lookup k with
      | none => rfl
      | some b =>
        have := hhi N (by omega) (by unfold wrote; rw [h]; rfl) hw.2
        rw [this] at hw
        cases hw.1
     rw [this, Option.none_or]
    ·rw [if_neg hw, if_neg hw]
end
end Go.Ev
namespace Go.Ev
open Go.RowKit Go.Mono
structure Rec where
 dst : Option Tmp
 v : SV
 wr : List (Nat × Blk)
 tR : List Nat
 bR : List Nat
 c0 : Nat
 c1 : Nat
def idsU : U → List Nat
 | .ptr k _ => [k]
 | .slc k _ _ _ => [k]
 | .clo _ caps => caps.map (·.1)
 | _ => []
def idsA (x : SA) : List Nat := (unitsA x).flatMap idsU
def reach (bk : List (Nat × Blk)) : Nat → List Nat → List Nat → List Nat
 | 0, _, seen => seen
 | _ + 1, [], seen => seen
 | n + 1, k :: r, seen => if seen.contains k then reach bk n r seen else
   match bk.lookup k with
   | some b => reach bk n (b.cells.flatMap idsU ++ r) (k :: seen)
   | none => reach bk n r seen
def blocksOf (P : Program) (o : Oper) (get : Operand → Option SV) (bk : List (Nat × Blk)) : List Nat :=
 match o.op with
 | .load _ x => match get x with
   | some (.a (.one (.ptr k _))) => [k]
   | _ => []
 | .store _ x _ => match get x with
   | some (.a (.one (.ptr k _))) => [k]
   | _ => []
 | .call _ => match callOf P o get with
   | some (_, args) => reach bk 1000 (args.flatMap idsA) []
   | none => []
 | _ => []
def tmpsOf (ops : Array Oper) (o : Oper) : List Nat :=
 (o.op.operands.toList.filterMap fun | .tmp t => some t | _ => none) ++ (match o.guard with
  | some (j, _) => ((ops[j]?).bind (·.dst)).toList
  | none => [])
def wT (r : Rec) : List (Nat × SV) :=
 match r.dst with
 | some d => [(d, r.v)]
 | none => []
def some_ {α : Type} (ks : List Nat) (l : List (Nat × α)) : List (Nat × α) := l.filter fun p => ks.contains p.1
theorem some_lookup {α : Type} (ks : List Nat) (k : Nat) : ∀ l : List (Nat × α), (some_ ks l).lookup k = if ks.contains k then l.lookup k else none
 | [] => by simp [some_]
 | (k', x) :: r => by
   have ih := some_lookup ks k r
   unfold some_ at ih ⊢
   rw [List.filter_cons]
   dsimp only
   by_cases h : ks.contains k'
   ·rw [if_pos h, lookup_cons, lookup_cons, ih]
    by_cases e : k = k'
    ·subst e; rw [if_pos rfl, if_pos rfl, if_pos h]
    ·rw [if_neg e, if_neg e]
   ·rw [if_neg h, ih, lookup_cons]
    by_cases e : k = k'
    ·subst e; rw [if_neg h, if_neg h]
    ·rw [if_neg e]
def recS (P : Program) (cs : CallS) (ops : Array Oper) (n : Nat) : List Oper → Stt → Option (List Rec × Stt × List Prop)
 | [], s => some ([], s, [])
 | o :: rest, s =>
   let tR := tmpsOf ops o
   let tmr := some_ tR s.tm
   let bR := blocksOf P o (getS tmr) s.bk
   match wantS ops o tmr s.orc with
   | some (true, ps, orc) => if dstOk n o.dst then (match opS P cs o (getS tmr) (some_ bR s.bk) s.th s.c orc with
     | some (r, _) => (match recS P cs ops n rest ⟨putT s.tm o.dst r.v, r.wr ++ s.bk, r.c, s.th, r.orc⟩ with
       | some (rs, s', q) => some (⟨o.dst, r.v, r.wr, tR, bR, s.c, r.c⟩ :: rs, s', ps ++ (r.obl ++ q))
       | none => none)
     | none => none) else none
   | some (false, ps, orc) => if dstOk n o.dst then (match recS P cs ops n rest ⟨putT s.tm o.dst (.tup []), s.bk, s.c, s.th, orc⟩ with
     | some (rs, s', q) => some (⟨o.dst, .tup [], [], tR, [], s.c, s.c⟩ :: rs, s', ps ++ q)
     | none => none) else none
   | none => none
def StepR (P : Program) (cs : CallS) (ops : Array Oper) (n th : Nat) (obl : List Prop) (tm : List (Nat × SV)) (bk : List (Nat × Blk)) (o : Oper) (r : Rec) : Prop :=
 dstOk n o.dst = true ∧ r.dst = o.dst ∧ ∃ orc orc' ps b, wantS ops o (some_ r.tR tm) orc = some (b, ps, orc') ∧ (∀ p ∈ ps, p ∈ obl) ∧
  ((b = true ∧ ∃ (x : OpR) (cl : Bool), opS P cs o (getS (some_ r.tR tm)) (some_ r.bR bk) th r.c0 orc' = some (x, cl) ∧ x.v = r.v ∧ x.wr = r.wr ∧ x.c = r.c1 ∧ ∀ p ∈ x.obl, p ∈ obl) ∨
   (b = false ∧ r.v = .tup [] ∧ r.wr = [] ∧ r.c1 = r.c0))
theorem StepR.more {P : Program} {cs : CallS} {ops : Array Oper} {n th : Nat} {obl obl' : List Prop} {tm : List (Nat × SV)} {bk : List (Nat × Blk)} {o : Oper} {r : Rec} (h : StepR P cs ops n th obl tm bk o r) (hs : ∀ p ∈ obl, p ∈ obl') :
  StepR P cs ops n th obl' tm bk o r := by
 obtain ⟨h1, h2, orc, orc', ps, b, h3, h4, h5⟩ := h
 refine ⟨h1, h2, orc, orc', ps, b, h3, fun p hp => hs p (h4 p hp), ?_⟩
 rcases h5 with ⟨e, x, cl, k1, k2, k3, k4, k5⟩ | h5
 ·exact .inl ⟨e, x, cl, k1, k2, k3, k4, fun p hp => hs p (k5 p hp)⟩
 ·exact .inr h5
theorem putT_wT (tm : List (Nat × SV)) (r : Rec) : putT tm r.dst r.v = wT r ++ tm := by
 unfold putT wT
 cases r.dst <;> rfl
def tt : Nat → Bool := fun _ => true
theorem accAt_head {α : Type} (x : List (Nat × α)) (ws : List (List (Nat × α))) (l0 : List (Nat × α)) (m : Nat) : accAt (x :: ws) tt l0 (m + 1) = accAt ws tt (x ++ l0) m := accAt_cons x tt m
structure RecOk (P : Program) (cs : CallS) (ops : Array Oper) (n : Nat) (l : List Oper) (s : Stt) (rs : List Rec) (s' : Stt) (q : List Prop) : Prop where
 len : rs.length = l.length
 tm : s'.tm = accAt (rs.map wT) tt s.tm l.length
 bk : s'.bk = accAt (rs.map (·.wr)) tt s.bk l.length
 step : ∀ (i : Nat) (r : Rec), rs[i]? = some r → ∃ o, l[i]? = some o ∧ StepR P cs ops n s.th q (accAt (rs.map wT) tt s.tm i) (accAt (rs.map (·.wr)) tt s.bk i) o r
 rng : ∀ (i : Nat) (r : Rec), rs[i]? = some r → s.c ≤ r.c0 ∧ r.c0 ≤ r.c1 ∧ r.c1 ≤ s'.c
 ord : ∀ (i j : Nat) (ri rj : Rec), i < j → rs[i]? = some ri → rs[j]? = some rj → ri.c1 ≤ rj.c0
 cc : s.c ≤ s'.c
theorem recS_ok {P : Program} {cs : CallS} {ops : Array Oper} {n : Nat} : ∀ {l : List Oper} {s s' : Stt} {rs : List Rec} {q : List Prop}, recS P cs ops n l s = some (rs, s', q) → RecOk P cs ops n l s rs s' q
 | [], s, s', rs, q, h => by
   cases h
   exact ⟨rfl, rfl, rfl, fun i r hr => by simp at hr, fun i r hr => by simp at hr, fun i j ri rj _ hr => by simp at hr, Nat.le_refl _⟩
 | o :: rest, s, s', rs, q, h => by
   have cons : ∀ (r : Rec) (rs2 : List Rec) (q2 q : List Prop) (s1 : Stt), RecOk P cs ops n rest s1 rs2 s' q2 → s1.tm = putT s.tm r.dst r.v → s1.bk = r.wr ++ s.bk → s1.c = r.c1 → s1.th = s.th → r.c0 = s.c → r.c0 ≤ r.c1 →
     StepR P cs ops n s.th q s.tm s.bk o r → (∀ p ∈ q2, p ∈ q) → RecOk P cs ops n (o :: rest) s (r :: rs2) s' q := by
    intro r rs2 q2 q s1 ih e1 e2 e3 e4 e5 e6 hst hq
    have hc1 := ih.cc
    refine ⟨by simp [ih.len], ?_, ?_, ?_, ?_, ?_, by omega⟩
    ·rw [ih.tm, e1, putT_wT, List.map_cons, List.length_cons, accAt_head]
    ·rw [ih.bk, e2, List.map_cons, List.length_cons, accAt_head]
    ·intro i r' hr'
     cases i with
     | zero =>
       simp at hr'
       subst hr'
       exact ⟨o, by simp, hst⟩
     | succ i =>
       simp at hr'
       obtain ⟨o', ho', hs'⟩ := ih.step i r' hr'
       refine ⟨o', by simpa using ho', ?_⟩
       rw [List.map_cons, List.map_cons, accAt_head, accAt_head, ← putT_wT, ← e1, ← e2, ← e4]
       exact hs'.more hq
    ·intro i r' hr'
     cases i with
     | zero =>
       simp at hr'
       subst hr'
       omega
     | succ i =>
       simp at hr'
       have := ih.rng i r' hr'
       omega
    ·intro i j ri rj hij hi hj
     cases j with
     | zero => omega
     | succ j =>
       simp at hj
       cases i with
       | zero =>
         simp at hi
         subst hi
         have := ih.rng j rj hj
         omega
       | succ i =>
         simp at hi
         exact ih.ord i j ri rj (by omega) hi hj
   unfold recS at h
   dsimp only at h
   split at h
   ·rename_i ps orc hw
    split at h
    ·rename_i hd
     split at h
     ·rename_i r cl hr
      split at h
      ·rename_i rs2 s2 q2 h2
       cases h
       have ih := recS_ok h2
       refine cons ⟨o.dst, r.v, r.wr, _, _, s.c, r.c⟩ rs2 q2 _ _ ih rfl rfl rfl rfl rfl (opS_cc hr) ?_ (fun p hp => by simp [hp])
       exact ⟨hd, rfl, _, _, _, _, hw, fun p hp => by simp [hp], .inl ⟨rfl, r, cl, hr, rfl, rfl, rfl, fun p hp => by simp [hp]⟩⟩
      ·cases h
     ·cases h
    ·cases h
   ·rename_i ps orc hw
    split at h
    ·rename_i hd
     split at h
     ·rename_i rs2 s2 q2 h2
      cases h
      have ih := recS_ok h2
      refine cons ⟨o.dst, .tup [], [], _, [], s.c, s.c⟩ rs2 q2 _ _ ih rfl rfl rfl rfl rfl (Nat.le_refl _) ?_ (fun p hp => by simp [hp])
      exact ⟨hd, rfl, _, _, _, _, hw, fun p hp => by simp [hp], .inr ⟨rfl, rfl, rfl, rfl⟩⟩
     ·cases h
    ·cases h
   ·cases h
/-! ### who must come before whom -/
def predsOf (o : Oper) : List Nat := (o.after.toList.filter (Region.binds .any)).map (·.on)
def prOf (ops : Array Oper) (j : Nat) : List Nat :=
 match ops[j]? with
 | some o => predsOf o
 | none => []
def bfs (pr : Nat → List Nat) : Nat → List Nat → List Nat → List Nat
 | 0, _, seen => seen
 | _ + 1, [], seen => seen
 | n + 1, q :: r, seen => if seen.contains q then bfs pr n r seen else bfs pr n (pr q ++ r) (q :: seen)
theorem bfs_ok {pr : Nat → List Nat} {L : Nat → Prop} (hc : ∀ j, L j → ∀ q ∈ pr j, L q) : ∀ (n : Nat) (t s : List Nat), (∀ q ∈ t, L q) → (∀ q ∈ s, L q) → ∀ q ∈ bfs pr n t s, L q
 | 0, t, s, ht, hs => hs
 | n + 1, [], s, ht, hs => hs
 | n + 1, x :: r, s, ht, hs => by
   unfold bfs
   split
   ·exact bfs_ok hc n r s (fun q hq => ht q (by simp [hq])) hs
   ·refine bfs_ok hc n _ _ (fun q hq => ?_) (fun q hq => ?_)
    ·rcases List.mem_append.1 hq with h | h
     ·exact hc x (ht x (by simp)) q h
     ·exact ht q (by simp [h])
    ·rcases List.mem_cons.1 hq with h | h
     ·rw [h]; exact ht x (by simp)
     ·exact hs q h
def inD (d : Option Tmp) (l : List Nat) : Bool :=
 match d with
 | some t => l.contains t
 | none => false
def keys {α : Type} (l : List (Nat × α)) : List Nat := l.map (·.1)
def conf (r s : Rec) : Bool :=
 inD r.dst s.tR || inD s.dst r.tR || inD r.dst s.dst.toList || (keys r.wr).any (fun k => s.bR.contains k || (keys s.wr).contains k) || (keys s.wr).any (fun k => r.bR.contains k)
def raceB (pr : Nat → List Nat) (rs : List Rec) : Bool :=
 (List.range rs.length).all fun j => (List.range j).all fun i =>
  match rs[i]?, rs[j]? with
  | some r, some s => !conf r s || (pr j).contains i || (bfs pr 2000 (pr j) []).contains i
  | _, _ => true
theorem raceB_ok {pr : Nat → List Nat} {rs : List Rec} (h : raceB pr rs = true) {i j : Nat} (hij : i < j) {r s : Rec} (hi : rs[i]? = some r) (hj : rs[j]? = some s) (hc : conf r s = true)
  {L : Nat → Prop} (hcl : ∀ j, L j → ∀ q ∈ pr j, L q) (hp : ∀ q ∈ pr j, L q) : L i := by
 have hjl : j < rs.length := (List.getElem?_eq_some_iff.1 hj).1
 have h1 := List.all_eq_true.1 h j (List.mem_range.2 hjl)
 have h2 := List.all_eq_true.1 h1 i (List.mem_range.2 hij)
 rw [hi, hj] at h2
 dsimp only at h2
 rw [hc] at h2
 simp only [Bool.not_true, Bool.false_or, Bool.or_eq_true, List.contains_iff_mem] at h2
 rcases h2 with h2 | h2
 ·exact hp i h2
 ·exact bfs_ok hcl 2000 _ _ hp (by simp) i h2
theorem lookup_key {α : Type} {k : Nat} {b : α} : ∀ {l : List (Nat × α)}, l.lookup k = some b → k ∈ keys l
 | [], h => by simp at h
 | (k', x) :: r, h => by
   rw [lookup_cons] at h
   split at h
   ·rename_i e; subst e; simp [keys]
   ·have := lookup_key h
    simp only [keys, List.map_cons, List.mem_cons]
    exact .inr this
end Go.Ev
namespace Go.Ev
open Go.RowKit Go.Mono
theorem Sat.congr {D : Den} {w0 : World} {X : Nat → Prop} {th : Nat} {ρ : Nm} {wc w : World} {bk bk' : List (Nat × Blk)} (h : Sat D w0 X th ρ wc w bk) (he : ∀ k, bk'.lookup k = bk.lookup k) : Sat D w0 X th ρ wc w bk' :=
 h.sub fun k b hk => by rw [← he]; exact hk
theorem TSat.sub {D : Den} {ρ : Nm} {w : World} {n : Nat} {tm tm' : List (Nat × SV)} {a : Act} (h : TSat D ρ w n tm a) (hs : Sub tm' tm) : TSat D ρ w n tm' a := ⟨h.size, fun t x hl => h.at_ t x (hs t x hl)⟩
theorem Evo.congr {ρ ρ' : Nm} {wc w wc' w' : World} {bk b1 b2 : List (Nat × Blk)} {c c' : Nat} (h : Evo ρ wc w bk c c' ρ' wc' w' b1) (he : ∀ k, b2.lookup k = b1.lookup k) : Evo ρ wc w bk c c' ρ' wc' w' b2 :=
 ⟨h.rho, h.ext, h.size, h.os, h.tape, h.output, h.loc, fun k b hk => h.ids k b (by rw [← he]; exact hk), h.cc, h.dom⟩
theorem Evo.widen {ρ ρ' : Nm} {wc w wc' w' : World} {bk b1 : List (Nat × Blk)} {c c' d d' : Nat} (h : Evo ρ wc w bk c c' ρ' wc' w' b1) (h1 : d ≤ c) (h2 : c' ≤ d') : Evo ρ wc w bk d d' ρ' wc' w' b1 :=
 ⟨h.rho, h.ext, h.size, h.os, h.tape, h.output, h.loc, fun k b hk => (h.ids k b hk).imp id fun ⟨k1, k2, hh⟩ => ⟨by omega, by omega, hh⟩, by have := h.cc; omega, fun k hk => h.dom k (by omega)⟩
theorem Evo.join {ρ ρ1 ρ2 : Nm} {wc w wc1 w1 wc2 w2 : World} {bk bk1 bk2 : List (Nat × Blk)} {c d : Nat}
  (h : Evo ρ wc w bk c d ρ1 wc1 w1 bk1) (g : Evo ρ1 wc1 w1 bk1 c d ρ2 wc2 w2 bk2) (hlt : ∀ k b, bk.lookup k = some b → ∃ B, ρ k = some B) : Evo ρ wc w bk c d ρ2 wc2 w2 bk2 where
 rho := h.rho.trans g.rho
 ext := h.ext.trans g.ext
 size := Nat.le_trans h.size g.size
 os := g.os.trans h.os
 tape := g.tape.trans h.tape
 output := g.output.trans h.output
 loc := fun i hi hn => by
  rw [g.loc i (Nat.lt_of_lt_of_le hi h.size) ?_, h.loc i hi hn]
  intro k b C hk he hro
  rcases h.ids k b hk with h1 | ⟨_, _, B, hB, hle⟩
  ·obtain ⟨b', hb'⟩ := Option.isSome_iff_exists.1 h1
   obtain ⟨B, hB⟩ := hlt k b' hb'
   have := h.rho k B hB
   rw [he] at this
   cases this
   exact hn k b' C hb' hB hro
  ·rw [he] at hB
   cases hB
   rcases hle with hle | hle
   ·rw [hro] at hle; cases hle
   ·omega
 ids := fun k b hk => by
  rcases g.ids k b hk with h1 | ⟨k1, k2, B, hB, hle⟩
  ·obtain ⟨b', hb'⟩ := Option.isSome_iff_exists.1 h1
   rcases h.ids k b' hb' with h2 | ⟨k1, k2, B, hB, hle⟩
   ·exact .inl h2
   ·exact .inr ⟨k1, k2, B, g.rho k B hB, hle⟩
  ·exact .inr ⟨k1, k2, B, hB, hle.imp id fun hle => Nat.le_trans h.size hle⟩
 cc := h.cc
 dom := fun k hk => (g.dom k hk).trans (h.dom k hk)
def left (L : Nat → Bool) : Nat → Nat
 | 0 => 0
 | m + 1 => (if L m then 0 else 1) + left L m
theorem left_le (L : Nat → Bool) (i : Nat) : ∀ m, left (fun j => j == i || L j) m ≤ left L m
 | 0 => Nat.le_refl _
 | m + 1 => by
   have := left_le L i m
   unfold left
   cases hL : L m <;> cases he : (m == i) <;> simp only [hL, he, Bool.or_true, Bool.or_false, Bool.true_or, Bool.false_or, if_true, Bool.false_eq_true, if_false] <;> omega
theorem left_lt {L : Nat → Bool} {i : Nat} (hi : L i = false) : ∀ m, i < m → left (fun j => j == i || L j) m < left L m
 | 0, h => by omega
 | m + 1, h => by
   unfold left
   by_cases e : i = m
   ·subst e
    have := left_le L i i
    simp only [hi, BEq.rfl, Bool.true_or, if_true, Bool.false_eq_true, if_false]
    omega
   ·have := left_lt hi m (by omega)
    have e' : (m == i) = false := by simp; omega
    simp only [e', Bool.false_or]
    omega
theorem left_zero {L : Nat → Bool} : ∀ m, left L m = 0 → ∀ j, j < m → L j = true
 | 0, _, j, hj => by omega
 | m + 1, h, j, hj => by
   unfold left at h
   by_cases e : j = m
   ·subst e
    cases hL : L j with
    | true => rfl
    | false => rw [hL] at h; simp at h; 
   ·exact left_zero m (by omega) j (by omega)
theorem acc_mem {α : Type} {ws : List (List (Nat × α))} {l0 : List (Nat × α)} {L : Nat → Bool} {k : Nat} {b : α} : ∀ N, (accAt ws L l0 N).lookup k = some b → l0.lookup k = some b ∨ ∃ j, ((ws.getD j []).lookup k) = some b
 | 0, h => .inl h
 | N + 1, h => by
   rw [acc_step] at h
   split at h
   ·exact .inr ⟨N, h⟩
   ·exact acc_mem N h
theorem acc_all {α : Type} {ws : List (List (Nat × α))} {l0 : List (Nat × α)} {L : Nat → Bool} {N : Nat} (h : ∀ j, j < N → L j = true) : ∀ m, m ≤ N → accAt ws L l0 m = accAt ws tt l0 m
 | 0, _ => rfl
 | m + 1, hm => by
   show (if L m then _ else _) ++ accAt ws L l0 m = (if tt m then _ else _) ++ accAt ws tt l0 m
   rw [acc_all h m (by omega), h m (by omega)]
   rfl
theorem wrote_wT {rs : List Rec} {i t : Nat} (h : wrote (rs.map wT) i t) : ∃ r, rs[i]? = some r ∧ r.dst = some t := by
 unfold wrote at h
 rw [List.getD_eq_getElem?_getD, List.getElem?_map] at h
 cases hr : rs[i]? with
 | none => rw [hr] at h; simp at h
 | some r =>
   rw [hr] at h
   simp only [Option.map_some, Option.getD_some] at h
   unfold wT at h
   cases hd : r.dst with
   | none => rw [hd] at h; simp at h
   | some d =>
     rw [hd] at h
     dsimp only at h
     rw [lookup_cons] at h
     split at h
     ·rename_i e; subst e; exact ⟨r, rfl, hd⟩
     ·simp at h
theorem wrote_wr {rs : List Rec} {i k : Nat} (h : wrote (rs.map (·.wr)) i k) : ∃ r, rs[i]? = some r ∧ k ∈ keys r.wr := by
 unfold wrote at h
 rw [List.getD_eq_getElem?_getD, List.getElem?_map] at h
 cases hr : rs[i]? with
 | none => rw [hr] at h; simp at h
 | some r =>
   rw [hr] at h
   obtain ⟨b, hb⟩ := Option.isSome_iff_exists.1 h
   exact ⟨r, rfl, lookup_key hb⟩
theorem conf_rt {r s : Rec} {t : Nat} (h1 : r.dst = some t) (h2 : t ∈ s.tR) : conf r s = true := by
 unfold conf
 rw [show inD r.dst s.tR = true from by rw [h1]; simpa [inD] using h2]
 simp
theorem conf_tr {r s : Rec} {t : Nat} (h1 : s.dst = some t) (h2 : t ∈ r.tR) : conf r s = true := by
 unfold conf
 rw [show inD s.dst r.tR = true from by rw [h1]; simpa [inD] using h2]
 simp
theorem conf_tt {r s : Rec} {t : Nat} (h1 : r.dst = some t) (h2 : s.dst = some t) : conf r s = true := by
 unfold conf
 rw [show inD r.dst s.dst.toList = true from by rw [h1, h2]; simp [inD]]
 simp
theorem conf_wb {r s : Rec} {k : Nat} (h1 : k ∈ keys r.wr) (h2 : k ∈ s.bR ∨ k ∈ keys s.wr) : conf r s = true := by
 unfold conf
 rw [show (keys r.wr).any (fun k => s.bR.contains k || (keys s.wr).contains k) = true from List.any_eq_true.2 ⟨k, h1, by
  rcases h2 with h2 | h2 <;> simp [h2]⟩]
 simp
theorem conf_bw {r s : Rec} {k : Nat} (h1 : k ∈ keys s.wr) (h2 : k ∈ r.bR) : conf r s = true := by
 unfold conf
 rw [show (keys s.wr).any (fun k => r.bR.contains k) = true from List.any_eq_true.2 ⟨k, h1, by simp [h2]⟩]
 simp
end Go.Ev
namespace Go.Ev
open Go.RowKit Go.Mono
def isCall (o : Oper) : Bool :=
 match o.op with
 | .call c => match c.callee with
   | .value _ => true
   | _ => false
 | _ => false
theorem callOf_isCall {P : Program} {o : Oper} {get : Operand → Option SV} {x : FuncId × List SA} (h : callOf P o get = some x) : isCall o = true := by
 unfold callOf at h
 unfold isCall
 split at h
 ·rename_i c ho
  first | (rw [ho]; dsimp only) | skip
  split at h
  ·rename_i fv hc
   first | rw [hc] | rfl
  ·cases h
 ·cases h
theorem opS_isCall {P : Program} {cs : CallS} {o : Oper} {get : Operand → Option SV} {bk : List (Nat × Blk)} {th c : Nat} {orc : List (Option Bool)} {r : OpR} (he : opS P cs o get bk th c orc = some (r, true)) : isCall o = true := by
 unfold opS at he
 split at he
 ·rename_i f args hc
  exact callOf_isCall hc
 ·split at he
  ·cases he
  ·split at he
   ·split at he
    ·cases he
    ·cases he
   ·cases he
structure DrawOk (ops : Array Oper) (s : Stt) (rs : List Rec) (s' : Stt) : Prop where
 race : raceB (prOf ops) rs = true
 pre : ∀ j, ∀ q ∈ prOf ops j, q < j
 call : (∃ o ∈ ops.toList, isCall o = true) → (∀ k b, s.bk.lookup k = some b → k < s.th) ∧ (∀ r ∈ rs, r.c1 ≤ s.th ∧ ∀ k b, r.wr.lookup k = some b → k < s.th)
section
variable {D : Den} {P : Program} {w0 : World} {X : Nat → Prop} {cs : CallS}
theorem wpAny_ev (hcs : CallOk D P w0 X cs) {ops : Array Oper} {n : Nat} {s s' : Stt} {rs : List Rec} {q : List Prop} (hR : RecOk P cs ops n ops.toList s rs s' q) (hD : DrawOk ops s rs s') (hq : ∀ p ∈ q, p)
  {Q : Exit → Act → World → Prop} {ρ0 : Nm} {wc0 w00 : World} {d0 : List Deferred} (hnm : ∀ k b, s.bk.lookup k = some b → ∃ B, ρ0 k = some B)
  (hK : ∀ ρ' wc' w' a', Sat D w0 X s.th ρ' wc' w' s'.bk → TSat D ρ' wc' n s'.tm a' → a'.defers = d0 → Evo ρ0 wc0 w00 s.bk s.c s'.c ρ' wc' w' s'.bk → Q .normal a' w') :
  ∀ (fuel : Nat) (L : Array Bool) (a : Act) (w : World) (ρ : Nm) (wc : World), L.size = ops.size → left (fun j => L.getD j false) ops.size ≤ fuel →
    (∀ j, L.getD j false = true → ∀ p ∈ prOf ops j, L.getD p false = true) →
    Sat D w0 X s.th ρ wc w (accAt (rs.map (·.wr)) (fun j => L.getD j false) s.bk ops.size) → TSat D ρ wc n (accAt (rs.map wT) (fun j => L.getD j false) s.tm ops.size) a → a.defers = d0 →
    Evo ρ0 wc0 w00 s.bk s.c s'.c ρ wc w (accAt (rs.map (·.wr)) (fun j => L.getD j false) s.bk ops.size) →
    (∀ i r, rs[i]? = some r → L.getD i false = false → ∀ k, r.c0 ≤ k → k < r.c1 → ρ k = none) → wpAny P .any ops Q fuel L a w := by
 have hlen : rs.length = ops.size := by rw [hR.len, Array.length_toList]
 -- all are listed: the end
 have done : ∀ (L : Array Bool) (a : Act) (w : World) (ρ : Nm) (wc : World), (∀ j, j < ops.size → L.getD j false = true) →
   Sat D w0 X s.th ρ wc w (accAt (rs.map (·.wr)) (fun j => L.getD j false) s.bk ops.size) → TSat D ρ wc n (accAt (rs.map wT) (fun j => L.getD j false) s.tm ops.size) a → a.defers = d0 →
   Evo ρ0 wc0 w00 s.bk s.c s'.c ρ wc w (accAt (rs.map (·.wr)) (fun j => L.getD j false) s.bk ops.size) → Q .normal a w := by
  intro L a w ρ wc hall hS hT hd hE
  have e1 : accAt (rs.map (·.wr)) (fun j => L.getD j false) s.bk ops.size = s'.bk := by
   rw [acc_all (N := ops.size) hall _ (Nat.le_refl _), hR.bk, Array.length_toList]
  have e2 : accAt (rs.map wT) (fun j => L.getD j false) s.tm ops.size = s'.tm := by
   rw [acc_all (N := ops.size) hall _ (Nat.le_refl _), hR.tm, Array.length_toList]
  rw [e1] at hS hE
  rw [e2] at hT
  exact hK ρ wc w a hS hT hd hE
 -- nothing is ready: all are listed
 have none_ : ∀ (L : Array Bool), L.size = ops.size → Region.ready .any ops L = [] → ∀ j, j < ops.size → L.getD j false = true := by
  intro L hsz hr j
  induction j using Nat.strongRecOn with
  | _ j ih =>
    intro hj
    cases hL : L.getD j false with
    | true => rfl
    | false =>
      exfalso
      have hmem : j ∈ Region.ready .any ops L := by
       rw [mem_ready]
       refine ⟨?_, ops[j], by simp [hj], ?_⟩
       ·have : j < L.size := by omega
        simp [Array.getD, this] at hL ⊢
        exact hL
       ·intro e he hb
        have hin : e.on ∈ prOf ops j := by
         unfold prOf
         rw [Array.getElem?_eq_getElem hj]
         unfold predsOf
         exact List.mem_map.2 ⟨e, List.mem_filter.2 ⟨by simpa using he, hb⟩, rfl⟩
        have hlt := hD.pre j _ hin
        exact ih e.on hlt (by omega)
      rw [hr] at hmem
      cases hmem
 intro fuel
 induction fuel with
 | zero =>
   intro L a w ρ wc hsz hleft hcl hS hT hd hE hun
   have hall := left_zero ops.size (Nat.le_zero.1 hleft)
   refine ⟨?_, done L a w ρ wc hall hS hT hd hE⟩
   apply List.eq_nil_iff_forall_not_mem.2
   intro j hj
   obtain ⟨h1, o, ho, _⟩ := mem_ready.1 hj
   have hjs := (Array.getElem?_eq_some_iff.1 ho).1
   have h2 := hall j hjs
   have hjl : j < L.size := by omega
   simp [Array.getD, hjl] at h1 h2
   rw [h1] at h2
   cases h2
 | succ fuel ih =>
   intro L a w ρ wc hsz hleft hcl hS hT hd hE hun
   refine ⟨fun hr => done L a w ρ wc (none_ L hsz hr) hS hT hd hE, fun i hi => ?_⟩
   obtain ⟨h1, o, ho, hpre⟩ := mem_ready.1 hi
   have his := (Array.getElem?_eq_some_iff.1 ho).1
   have hil : i < L.size := by omega
   have hLi : L.getD i false = false := by simp [Array.getD, hil] at h1 ⊢; exact h1
   have hpr : ∀ p ∈ prOf ops i, L.getD p false = true := by
    intro p hp
    unfold prOf at hp
    rw [ho] at hp
    obtain ⟨e, he, rfl⟩ := List.mem_map.1 hp
    obtain ⟨he1, he2⟩ := List.mem_filter.1 he
    exact hpre e (by simpa using he1) he2
   have hir : i < rs.length := by omega
   obtain ⟨r, hr⟩ : ∃ r, rs[i]? = some r := ⟨rs[i], by simp [hir]⟩
   obtain ⟨o', ho', hst⟩ := hR.step i r hr
   have hoo : o' = o := by
    rw [Array.getElem?_toList, ho] at ho'
    cases ho'
    rfl
   subst hoo
   obtain ⟨hdok, hrd, orc, orc', ps, b, hw, hps, hcase⟩ := hst
   -- who touches what this one touches
   have before : ∀ j s2, j < i → rs[j]? = some s2 → conf s2 r = true → L.getD j false = true := fun j s2 hj hs2 hc =>
    raceB_ok (L := fun j => L.getD j false = true) hD.race hj hs2 hr hc hcl hpr
   have after : ∀ j s2, i < j → rs[j]? = some s2 → conf r s2 = true → L.getD j false = false := fun j s2 hj hs2 hc => by
    cases hLj : L.getD j false with
    | false => rfl
    | true =>
      have := raceB_ok (L := fun j => L.getD j false = true) hD.race hj hr hs2 hc hcl (hcl j hLj)
      rw [hLi] at this
      cases this
   have subT : Sub (some_ r.tR (accAt (rs.map wT) tt s.tm i)) (accAt (rs.map wT) (fun j => L.getD j false) s.tm ops.size) := by
    intro t x hx
    rw [some_lookup] at hx
    split at hx
    ·rename_i ht
     have ht' : t ∈ r.tR := by simpa using ht
     rw [acc_read hLi ?_ ?_ _ (Nat.le_of_lt his)]
     ·exact hx
     ·intro j hj hwr
      obtain ⟨s2, hs2, hd2⟩ := wrote_wT hwr
      exact before j s2 hj hs2 (conf_rt hd2 ht')
     ·intro j hj hwr
      obtain ⟨s2, hs2, hd2⟩ := wrote_wT hwr
      exact after j s2 hj hs2 (conf_tr hd2 ht')
    ·cases hx
   have subB : Sub (some_ r.bR (accAt (rs.map (·.wr)) tt s.bk i)) (accAt (rs.map (·.wr)) (fun j => L.getD j false) s.bk ops.size) := by
    intro t x hx
    rw [some_lookup] at hx
    split at hx
    ·rename_i ht
     have ht' : t ∈ r.bR := by simpa using ht
     rw [acc_read hLi ?_ ?_ _ (Nat.le_of_lt his)]
     ·exact hx
     ·intro j hj hwr
      obtain ⟨s2, hs2, hd2⟩ := wrote_wr hwr
      exact before j s2 hj hs2 (conf_wb hd2 (.inl ht'))
     ·intro j hj hwr
      obtain ⟨s2, hs2, hd2⟩ := wrote_wr hwr
      exact after j s2 hj hs2 (conf_bw hd2 ht')
    ·cases hx
   have addT : ∀ k, (accAt (rs.map wT) (fun j => j == i || L.getD j false) s.tm ops.size).lookup k = (wT r ++ accAt (rs.map wT) (fun j => L.getD j false) s.tm ops.size).lookup k := by
    intro k
    rw [acc_add hLi ?_ _ his, lookup_append]
    ·rw [List.getD_eq_getElem?_getD, List.getElem?_map, hr]; rfl
    ·intro j hj h1 h2
     obtain ⟨s1, hs1, hd1⟩ := wrote_wT h1
     obtain ⟨s2, hs2, hd2⟩ := wrote_wT h2
     rw [hr] at hs1
     cases hs1
     exact after j s2 hj hs2 (conf_tt hd1 hd2)
   have addB : ∀ k, (accAt (rs.map (·.wr)) (fun j => j == i || L.getD j false) s.bk ops.size).lookup k = (r.wr ++ accAt (rs.map (·.wr)) (fun j => L.getD j false) s.bk ops.size).lookup k := by
    intro k
    rw [acc_add hLi ?_ _ his, lookup_append]
    ·rw [List.getD_eq_getElem?_getD, List.getElem?_map, hr]; rfl
    ·intro j hj h1 h2
     obtain ⟨s1, hs1, hd1⟩ := wrote_wr h1
     obtain ⟨s2, hs2, hd2⟩ := wrote_wr h2
     rw [hr] at hs1
     cases hs1
     exact after j s2 hj hs2 (conf_wb hd1 (.inr hd2))
   have hL' : ∀ j, (L.setIfInBounds i true).getD j false = (j == i || L.getD j false) := by
    intro j
    by_cases e : j = i
    ·subst e; simp [Array.getD, hil]
    ·have e' : (j == i) = false := by simpa using e
     rw [getD_set_ne false (fun h => e h.symm), e', Bool.false_or]
   have hLf : (fun j => (L.setIfInBounds i true).getD j false) = fun j => j == i || L.getD j false := funext hL'
   have hTr : TSat D ρ wc n (some_ r.tR (accAt (rs.map wT) tt s.tm i)) a := hT.sub subT
   have hwant := wantS_ok hTr hw (fun p hp => hq p (hps p hp))
   have hrng := hR.rng i r hr
   -- what follows, once it is done
   have next : ∀ (ρ' : Nm) (wc' w' : World) (v : Value), denV D ρ' wc' r.v v → Sat D w0 X s.th ρ' wc' w' (r.wr ++ accAt (rs.map (·.wr)) (fun j => L.getD j false) s.bk ops.size) →
     Evo ρ wc w (accAt (rs.map (·.wr)) (fun j => L.getD j false) s.bk ops.size) r.c0 r.c1 ρ' wc' w' (r.wr ++ accAt (rs.map (·.wr)) (fun j => L.getD j false) s.bk ops.size) →
     wpAny P .any ops Q fuel (L.setIfInBounds i true) (a.put o'.dst v) w' := by
    intro ρ' wc' w' v hv hS' hE'
    refine ih _ _ w' ρ' wc' (by simpa using hsz) ?_ ?_ ?_ ?_ ?_ ?_ ?_
    ·rw [hLf]
     have := left_lt (L := fun j => L.getD j false) hLi ops.size his
     omega
    ·intro j hj p hp
     rw [hL'] at hj ⊢
     by_cases e : j = i
     ·subst e; rw [hpr p hp, Bool.or_true]
     ·have e' : (j == i) = false := by simpa using e
      rw [e', Bool.false_or] at hj
      rw [hcl j hj p hp, Bool.or_true]
    ·rw [hLf]; exact hS'.congr addB
    ·rw [hLf]
     have h3 := (hT.mono hE'.rho hE'.ext).put hdok hv
     rw [← hrd, putT_wT] at h3
     rw [← hrd]
     exact h3.sub fun k x hk => by rw [← addT]; exact hk
    ·rw [← hd]; cases o'.dst <;> rfl
    ·rw [hLf]; exact (hE.join (hE'.widen hrng.1 hrng.2.2) hnm).congr addB
    ·intro j rj hj hLj k h1 h2
     rw [hL'] at hLj
     have e : j ≠ i := by intro e; subst e; simp at hLj
     have e' : (j == i) = false := by simpa using e
     rw [e', Bool.false_or] at hLj
     rw [hE'.dom k ?_]
     ·exact hun j rj hj hLj k h1 h2
     ·rcases Nat.lt_or_gt_of_ne e with h | h
      ·have := hR.ord j i rj r h hj hr; left; omega
      ·have := hR.ord i j r rj h hr hj; right; omega
   unfold wpOp
   rw [ho]
   dsimp only
   rw [hwant]
   rcases hcase with ⟨rfl, x, cl, hop, e1, e2, e3, hob⟩ | ⟨rfl, e1, e2, e3⟩
   ·rw [if_pos rfl]
    left
    refine opS_ok hcs hS subB (fun x z hz => hTr.get hz) hop (fun p hp => hq p (hob p hp)) (fun k h1 h2 => hun i r hr hLi k h1 (by rw [← e3]; exact h2)) ?_ ?_
    ·intro hcl'
     subst hcl'
     obtain ⟨c1, c2⟩ := hD.call ⟨o', by rw [Array.mem_toList_iff]; exact Array.mem_of_getElem? ho, opS_isCall hop⟩
     refine ⟨fun k b hk => ?_, by rw [e3]; exact (c2 r (List.mem_of_getElem? hr)).1⟩
     rcases acc_mem _ hk with h | ⟨j, h⟩
     ·exact c1 k b h
     ·rw [List.getD_eq_getElem?_getD, List.getElem?_map] at h
      cases hrj : rs[j]? with
      | none => rw [hrj] at h; simp at h
      | some rj => rw [hrj] at h; exact (c2 rj (List.mem_of_getElem? hrj)).2 k b h
    ·intro ρ' wc' w' v hv hS' hE'
     rw [e1] at hv
     rw [e2] at hS' hE'
     rw [e3] at hE'
     exact next ρ' wc' w' v hv hS' hE'
   ·rw [if_neg (by simp)]
    refine next ρ wc w undef (by rw [e1]; exact undef_den) (by rw [e2]; exact hS) ?_
    rw [e2, e3]
    exact Evo.refl _ _ _ _ _
end
end Go.Ev
namespace Go.Mono
open Go.RowKit
theorem LgV.cells {m : Nat} {w : World} {v : Value} {z : Int} (h : LgV m w v z) : ∃ C : Array Value, v = .agg C ∧ C.size = 2 ∧ C.all (·.oneCell') = true := by
 obtain ⟨p, n, c, f, rfl, _⟩ := h
 exact ⟨_, rfl, rfl, by simp [Value.oneCell']⟩
theorem OwnF.lg {w : World} {base : Nat} {v : Value} {n m : Nat} {f : Nat → Int} {z : Int} (h : OwnF w base v n f) (hd : Digs f n) (hv : vf f n = z.natAbs) (hm : n ≤ m) (hm6 : m ≤ 1000000) : LgV m w (.agg #[.bool (decide (z < 0)), v]) z := by
 obtain ⟨p, c, rfl⟩ := h.shape
 exact ⟨p, n, c, f, rfl, h.sl (by omega), hd, hv, hm⟩
theorem wrapId {z : Int} (h1 : -9223372036854775808 ≤ z) (h2 : z ≤ 9223372036854775807) : IntKind.i64.wrap z = z := by
 simp [IntKind.wrap, IntKind.signed, IntKind.bits]
 omega
theorem long_ones (b : Bool) (p : Option Addr) (n c : Nat) : (#[.bool b, .slice p n c] : Array Value).all (·.oneCell') = true := by simp [Value.oneCell']
end Go.Mono
namespace Go.Proofs.YtdgodcgdlfjpaaaGreatDoor
open Go.RowKit Go.Mono
set_option maxRecDepth 100000 in
set_option maxHeartbeats 1000000 in
theorem r3minus_ok {m : Nat} {v : Value} {z : Int} (w : World) (h : LgV m w v z) (hm : m ≤ 100000) :
  Calls Tryz.prog 247 #[v] w fun e w' => ∃ v', e = .returned v' ∧ LgV m w' v' (-z) ∧ Below w.heap.size w w' := by
 obtain ⟨p, n, c, f, rfl, s1, d1, e1, l1⟩ := h
 have hb1 : (!decide (z < 0)) = decide (0 ≤ z) := by
  rw [Bool.eq_iff_iff]; simp
 have hsg : (decide (0 ≤ z) && decide (0 < vf f n)) = decide (-z < 0) := by
  rw [Bool.eq_iff_iff]; simp; omega
 rw [e1] at hsg
 generalize decide (z < 0) = sz at *
 go_enter Tryz.func247, Tryz.ntmps247
 go_wp2_with fail
 refine boxes2c fun W hB hs b0 b1 => ?_
 refine (r3made_ok _ p n c f W (s1.ext (.of_below hB)) (by omega) d1.lo d1.hi).mono ?_
 rintro e W1 ⟨v', rfl, ho, d2, e2, hb⟩
 replace b1 := b1.below hb
 replace hB := belowCall hB hb
 rw [e1, hsg]
 have hlg := ho.lg (z := -z) (m := m) d2 (by rw [e2, e1, Int.natAbs_neg]) (by have := trimN_le f n; omega) (by omega)
 generalize decide (-z < 0) = ng at *
 obtain ⟨p', c', rfl⟩ := ho.shape
 clear ho hb b0 hsg
 go_wp2_with first | (refine wpList_store_box rfl 35 _ _ rfl (w.heap.size + 1) 0 35 _ #[.bool ng, .slice p' (trimN f n) c'] #[.bool ng, .slice p' (trimN f n) c'] rfl rfl b1 sizeLong (Nat.le_of_ble_eq_true rfl) (long_ones _ _ _ _) (whole_new rfl) ?_; intro W2 hk b2)
 have hb2 := hk.below hB (by omega) hB.size
 refine bodyPost_ret (b2.results rfl _ _ rfl Tryz.underlying35 rfl sizeLong) rfl ⟨_, rfl, hlg.ext (hk.ext b1 (by decide)), hb2⟩
end Go.Proofs.YtdgodcgdlfjpaaaGreatDoor
namespace Go.Ev
open Go.RowKit Go.Mono
def TH : Nat := 2 ^ 200
def preOk (ops : Array Oper) : Bool := (List.range ops.size).all fun j => (prOf ops j).all fun q => Nat.blt q j
def drawS (P : Program) (cs : CallS) (ops : Array Oper) (n : Nat) (s : Stt) : Option (Stt × List Prop) :=
 let hc := ops.toList.any isCall
 match recS P cs ops n ops.toList ⟨s.tm, s.bk, s.c, if hc then TH else s.th, s.orc⟩ with
 | some (rs, s', q) => if raceB (prOf ops) rs && preOk ops && (!hc || (s.bk.all (fun p => Nat.blt p.1 TH) && rs.all (fun r => Nat.ble r.c1 TH && r.wr.all (fun p => Nat.blt p.1 TH)) && s'.bk.all (fun p => Nat.blt p.1 s'.c))) then
   some (⟨s'.tm, s'.bk, s'.c, if hc then s'.c else s.th, s'.orc⟩, q) else none
 | none => none
inductive Ot where
 | norm
 | exit (id : Nat)
 | ret
def Ot.ex : Ot → Exit
 | .norm => .normal
 | .exit id => .exit id
 | .ret => .ret
def evC (P : Program) (cs : CallS) (n : Nat) : Nat → Code → Stt → Option (Ot × Stt × List Prop)
 | 0, _, _ => none
 | _ + 1, .skip, s => some (.norm, s, [])
 | _ + 1, .label _, s => some (.norm, s, [])
 | _ + 1, .region _ ops draw, s => match (if draw then drawS P cs ops n s else seqS P cs ops n ops.toList s) with
   | some (s', q) => some (.norm, s', q)
   | none => none
 | f + 1, .seq x y, s => match evC P cs n f x s with
   | some (.norm, s1, p) => (match evC P cs n f y s1 with
     | some (o, s2, q) => some (o, s2, p ++ q)
     | none => none)
   | some (.exit id, s1, p) => some (.exit id, s1, p)
   | some (.ret, s1, p) => some (.ret, s1, p)
   | none => none
 | f + 1, .cond c t e, s => match getS s.tm c with
   | some (.a (.one (.val (.bool b)))) => evC P cs n f (if b then t else e) s
   | _ => none
 | f + 1, .block id x, s => match evC P cs n f x s with
   | some (.exit j, s', q) => some (if j = id then .norm else .exit j, s', q)
   | some (.norm, s', q) => some (.norm, s', q)
   | some (.ret, s', q) => some (.ret, s', q)
   | none => none
 | f + 1, .scope x, s => evC P cs n f x s
 | f + 1, .loop x, s => match evC P cs n f x s with
   | some (.norm, s1, p) => (match evC P cs n f (.loop x) s1 with
     | some (o, s2, q) => some (o, s2, p ++ q)
     | none => none)
   | some (.exit id, s1, p) => some (.exit id, s1, p)
   | some (.ret, s1, p) => some (.ret, s1, p)
   | none => none
 | _ + 1, .exit id, s => some (.exit id, s, [])
 | _ + 1, .ret, s => some (.ret, s, [])
 | _, _, _ => none
def Pre (s s' : Stt) : Prop := s.c ≤ s'.c ∧ ∃ l, s'.bk = l ++ s.bk
theorem Pre.refl (s : Stt) : Pre s s := ⟨Nat.le_refl _, [], rfl⟩
theorem Pre.trans {a b c : Stt} (h : Pre a b) (g : Pre b c) : Pre a c := by
 obtain ⟨h1, l, hl⟩ := h
 obtain ⟨g1, m, hm⟩ := g
 exact ⟨Nat.le_trans h1 g1, m ++ l, by rw [hm, hl, List.append_assoc]⟩
section
variable {D : Den} {P : Program} {w0 : World} {X : Nat → Prop} {cs : CallS} {n : Nat}
theorem seqS_pre {ops : Array Oper} : ∀ {l : List Oper} {s s' : Stt} {q : List Prop}, seqS P cs ops n l s = some (s', q) → Pre s s'
 | [], s, s', q, h => by cases h; exact .refl _
 | o :: rest, s, s', q, h => by
   unfold seqS at h
   split at h
   ·split at h
    ·split at h
     ·rename_i r cl hr
      split at h
      ·rename_i s2 q2 h2
       cases h
       have k := seqS_pre h2
       exact Pre.trans (b := ⟨putT s.tm o.dst r.v, r.wr ++ s.bk, r.c, if cl then r.c else s.th, r.orc⟩) ⟨opS_cc hr, r.wr, rfl⟩ k
      ·cases h
     ·cases h
    ·cases h
   ·split at h
    ·split at h
     ·rename_i s2 q2 h2
      cases h
      have k := seqS_pre h2
      exact k
     ·cases h
    ·cases h
   ·cases h
theorem accAt_pre {α : Type} (ws : List (List (Nat × α))) (L : Nat → Bool) (l0 : List (Nat × α)) : ∀ m, ∃ l, accAt ws L l0 m = l ++ l0
 | 0 => ⟨[], rfl⟩
 | m + 1 => by
   obtain ⟨l, hl⟩ := accAt_pre ws L l0 m
   exact ⟨(if L m then ws.getD m [] else []) ++ l, by show _ ++ accAt ws L l0 m = _; rw [hl, List.append_assoc]⟩
theorem drawS_pre {ops : Array Oper} {s s' : Stt} {q : List Prop} (h : drawS P cs ops n s = some (s', q)) : Pre s s' := by
 unfold drawS at h
 dsimp only at h
 split at h
 ·rename_i rs s2 q2 h2
  split at h
  ·cases h
   have k := recS_ok h2
   obtain ⟨l, hl⟩ := accAt_pre (rs.map (·.wr)) tt s.bk ops.toList.length
   exact ⟨k.cc, l, by rw [← hl]; exact k.bk⟩
  ·cases h
 ·cases h
theorem evC_pre : ∀ {f : Nat} {c : Code} {s s' : Stt} {o : Ot} {q : List Prop}, evC P cs n f c s = some (o, s', q) → Pre s s' := by
 intro f
 induction f with
 | zero => intro c s s' o q h; cases c <;> simp [evC] at h
 | succ f ih =>
   intro c s s' o q h
   cases c with
   | skip => simp only [evC, Option.some.injEq, Prod.mk.injEq] at h; obtain ⟨_, rfl, _⟩ := h; exact .refl _
   | label l => simp only [evC, Option.some.injEq, Prod.mk.injEq] at h; obtain ⟨_, rfl, _⟩ := h; exact .refl _
   | exit id => simp only [evC, Option.some.injEq, Prod.mk.injEq] at h; obtain ⟨_, rfl, _⟩ := h; exact .refl _
   | ret => simp only [evC, Option.some.injEq, Prod.mk.injEq] at h; obtain ⟨_, rfl, _⟩ := h; exact .refl _
   | region id ops draw =>
     simp only [evC] at h
     split at h
     ·rename_i s2 q2 h2
      cases h
      split at h2
      ·exact drawS_pre h2
      ·exact seqS_pre h2
     ·cases h
   | seq x y =>
     simp only [evC] at h
     split at h
     ·rename_i s1 p h1
      split at h
      ·rename_i o2 s2 q2 h2
       cases h
       exact (ih h1).trans (ih h2)
      ·cases h
     ·rename_i h1; cases h; exact ih h1
     ·rename_i h1; cases h; exact ih h1
     ·cases h
   | cond c t e =>
     simp only [evC] at h
     split at h
     ·exact ih h
     ·cases h
   | block id x =>
     simp only [evC] at h
     split at h
     ·rename_i h1; cases h; exact ih h1
     ·rename_i h1; cases h; exact ih h1
     ·rename_i h1; cases h; exact ih h1
     ·cases h
   | scope x => simp only [evC] at h; exact ih h
   | loop x =>
     simp only [evC] at h
     split at h
     ·rename_i s1 p h1
      split at h
      ·rename_i o2 s2 q2 h2
       cases h
       exact (ih h1).trans (ih h2)
      ·cases h
     ·rename_i h1; cases h; exact ih h1
     ·rename_i h1; cases h; exact ih h1
     ·cases h
   | rangeFunc => simp [evC] at h
   | goto => simp [evC] at h
   | refuse => simp [evC] at h
theorem drawS_ok (hcs : CallOk D P w0 X cs) (hm : P.follows .mixedOrders = true) {ops : Array Oper} {s s' : Stt} {q : List Prop} (h : drawS P cs ops n s = some (s', q)) (hq : ∀ p ∈ q, p) {ρ : Nm} {wc w : World} {a : Act}
  (hS : Sat D w0 X s.th ρ wc w s.bk) (hT : TSat D ρ wc n s.tm a) (hn : ∀ k, s.c ≤ k → k < s'.c → ρ k = none) {Q : Exit → Act → World → Prop}
  (hK : ∀ ρ' wc' w' a', Sat D w0 X s'.th ρ' wc' w' s'.bk → TSat D ρ' wc' n s'.tm a' → a'.defers = a.defers → Evo ρ wc w s.bk s.c s'.c ρ' wc' w' s'.bk → Q .normal a' w') (id : Nat) : (Code.region id ops true).wp P Q a w := by
 unfold drawS at h
 dsimp only at h
 split at h
 ·rename_i rs s2 q2 h2
  split at h
  ·rename_i hc
   cases h
   simp only [Bool.and_eq_true, Bool.or_eq_true, Bool.not_eq_true'] at hc
   obtain ⟨⟨hrace, hpre⟩, hcall⟩ := hc
   have hR := recS_ok h2
   have hlen : rs.length = ops.size := by rw [hR.len, Array.length_toList]
   have hD : DrawOk ops ⟨s.tm, s.bk, s.c, if ops.toList.any isCall then TH else s.th, s.orc⟩ rs s2 := by
    refine ⟨hrace, fun j p hp => ?_, fun ⟨o, ho, hoc⟩ => ?_⟩
    ·by_cases hj : j < ops.size
     ·have h1 := List.all_eq_true.1 hpre j (List.mem_range.2 hj)
      have h2 := List.all_eq_true.1 h1 p hp
      exact Nat.blt_eq ▸ h2
     ·unfold prOf at hp
      rw [Array.getElem?_eq_none (by omega)] at hp
      cases hp
    ·have hany : ops.toList.any isCall = true := List.any_eq_true.2 ⟨o, ho, hoc⟩
     rcases hcall with h | h
     ·rw [hany] at h; cases h
     ·obtain ⟨⟨c1, c2⟩, c3⟩ := h
      rw [hany]
      simp only [if_true]
      refine ⟨lookup_all c1, fun r hr => ?_⟩
      have h3 := List.all_eq_true.1 c2 r hr
      rw [Bool.and_eq_true] at h3
      exact ⟨Nat.le_of_ble_eq_true h3.1, lookup_all h3.2⟩
   have hS1 : Sat D w0 X (if ops.toList.any isCall then TH else s.th) ρ wc w.drew s.bk := by
    cases hany : ops.toList.any isCall with
    | false => exact hS.drew
    | true =>
      rcases hcall with h | h
      ·rw [hany] at h; cases h
      ·exact hS.drew.reth (lookup_all h.1.1)
   have hacc : ∀ {α : Type} (ws : List (List (Nat × α))) (l0 : List (Nat × α)) (m : Nat), accAt ws (fun j => (Array.replicate ops.size false).getD j false) l0 m = l0 := by
    intro α ws l0 m
    induction m with
    | zero => rfl
    | succ m ih =>
      show (if _ then _ else _) ++ accAt ws _ l0 m = l0
      rw [ih, if_neg]
      ·rfl
      ·by_cases hm : m < ops.size <;> simp [Array.getD, hm]
   refine wp_region_any hm ?_
   refine wpAny_ev (n := n) hcs hR hD hq (ρ0 := ρ) (wc0 := wc) (w00 := w) (d0 := a.defers) hS.named ?_ ops.size _ a _ ρ wc (by simp) ?_ ?_ ?_ ?_ rfl ?_ ?_
   ·intro ρ' wc' w' a' k1 k2 k3 k4
    refine hK ρ' wc' w' a' ?_ k2 k3 k4
    cases hany : ops.toList.any isCall with
    | false => simpa [hany] using k1
    | true =>
      rcases hcall with h | h
      ·rw [hany] at h; cases h
      ·exact k1.reth (lookup_all h.2)
   ·have : ∀ m, left (fun j => (Array.replicate ops.size false).getD j false) m ≤ m := by
     intro m
     induction m with
     | zero => exact Nat.le_refl _
     | succ m ih => unfold left; split <;> omega
    exact this _
   ·intro j hj
    by_cases hm : j < ops.size <;> simp [Array.getD, hm] at hj
   ·rw [hacc]; exact hS1
   ·rw [hacc]; exact hT
   ·rw [hacc]; exact (Evo.drew ρ wc w s.bk s.c).widen (Nat.le_refl _) hR.cc
   ·intro i r hr _ k h1 h2
    have h3 := hR.rng i r hr
    exact hn k (by dsimp only at h3; omega) (by dsimp only at h3 ⊢; omega)
  ·cases h
 ·cases h
end
end Go.Ev
