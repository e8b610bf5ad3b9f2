/- The law MatrixKnown: the examples of the ray transfer matrices, afocal lenses, mirrors and the order of errors; its walk by a verified evaluator of the model, and its card. Part 34 of 36. No condition beside the row. -/
import Derived.Test.YtdgodcgdlfjpaaaGreatDoorRows
import Derived.ProofKit
import Derived.LaidMore
import Derived.OpenShut
import Derived.Maps.Keyed
import Derived.LaidOnce
import Derived.Stop.Joined
import Derived.Test.YtdgodcgdlfjpaaaGreatDoorM31
import Derived.Test.YtdgodcgdlfjpaaaGreatDoorM33
set_option linter.unusedVariables false
set_option linter.unusedSimpArgs false
set_option maxRecDepth 100000
set_option maxHeartbeats 4000000
namespace Go.Mono
open Go.RowKit
section
theorem exec_lookup {P : Program} {S : World → Prop} {oi : Oper} {a : Act} (ty : TypeId) (x ix : Operand) (ok : Bool) (ho : oi.op = .lookup ty x ix ok) (m kv v : Value) (hx : a.eval x = m) (hk : a.eval ix = kv)
  (hrun : ∀ w, S w → (Instr.lookup ty m kv ok).run P w = .ok v w) : ∀ w, S w → (execOp a.eval oi).run P w = .ok (.value v) w := fun w hS => by
 unfold execOp
 simp only [ho, hx, hk, Sem.run_bind, hrun w hS, Result.andThen_ok, Sem.run_pure]
section
variable {P : Program} {ops : Array Oper} {Q : Exit → Act → World → Prop} {md : Region.Mode} {S : World → Prop}
theorem wpAnyH_storeK (B : Nat) (T : TypeId) (i : Nat) {o : Oper} (hi : ops[i]? = some o) (hg : o.guard = none) (hd : o.dst = none) {ty : TypeId} {x y : Operand} (ho : o.op = .store ty x y) (off : Nat) (cells cs new : Array Value) {a : Act} {fuel : Nat} {listed : Array Bool} {w : World}
  (hr : Region.ready md ops listed = [i]) (hS : ∀ w i u, S w → S (w.setCell ⟨B, i, none⟩ u)) (hx : a.eval x = .pointer (some ⟨B, off, none⟩)) (hy : a.eval y = .agg cells)
  (hb : Box w B T cs) (hs : S w) (hi2 : (P.info? ty).map (·.size) = some cells.size) (hoff : off + cells.size ≤ cs.size) (h1 : cells.all (·.oneCell') = true)
  (hn : cs.toList.take off ++ cells.toList ++ cs.toList.drop (off + cells.size) = new.toList)
  (h : ∀ w', KeepBut B w.heap.size w w' → Box w' B T new → S w' → wpAnyH P md ops Q S fuel (listed.setIfInBounds i true) a w') : wpAnyH P md ops Q S (fuel + 1) listed a w := by
 refine wpAnyH_all hr (by simp) fun j hj => ?_
 obtain rfl : j = i := by simpa using hj
 unfold wpOp
 rw [hi]
 have hw : Region.wanted o (yielded ops a.tmps) = true := by simp [Region.wanted, hg]
 simp only [hw, if_true]
 left
 have hb2 := Box.setCells cells.toList off w cs hb (by simpa using hoff)
 have hb3 : Box (w.setCells B off cells.toList) B T new := by simpa [hn] using hb2
 have hs2 := setCells_keeps hS cells.toList off w hs
 refine wp_store_mid ty x y ho B off cells hx hy (hb.there off cells.size hoff) hi2 h1 ?_
 rw [hd]
 exact ⟨hs2, h _ ((KeepBut.refl _ _).setCells _ _ _) hb3 hs2⟩
end
def CB (R : Nat) (W w : World) : Prop := (∀ b o, b < W.heap.size → b ≠ R → w.cell? ⟨b, o, none⟩ = W.cell? ⟨b, o, none⟩) ∧ KeepBut R W.heap.size W w
theorem CB.set {R : Nat} {W : World} (w : World) (i : Nat) (u : Value) (h : (∀ b o, b < W.heap.size → b ≠ R → w.cell? ⟨b, o, none⟩ = W.cell? ⟨b, o, none⟩) ∧ KeepBut R W.heap.size W w) :
  (∀ b o, b < W.heap.size → b ≠ R → (w.setCell ⟨R, i, none⟩ u).cell? ⟨b, o, none⟩ = W.cell? ⟨b, o, none⟩) ∧ KeepBut R W.heap.size W (w.setCell ⟨R, i, none⟩ u) := KeepBut.S (h.2.set i u)
theorem keepS {R : Nat} {W w : World} (h : KeepBut R W.heap.size W w) : (∀ b o, b < W.heap.size → b ≠ R → w.cell? ⟨b, o, none⟩ = W.cell? ⟨b, o, none⟩) ∧ KeepBut R W.heap.size W w := KeepBut.S h
end
end Go.Mono
namespace Go.Proofs.YtdgodcgdlfjpaaaGreatDoor
open Go.RowKit Go.Mono
structure PowsAt (w : World) (m : Nat) : Prop where
 lt : m < w.heap.size
 pos : 0 < w.heap.size
 cell : w.cell? ⟨0, 0, none⟩ = some (.map (some m))
 look : ∀ w' : World, w'.heap[m]? = w.heap[m]? → (Instr.lookup 284 (.map (some m)) (.int .i64 1) false).run Tryz.prog w' = .ok (.func (.func 327) #[] #[]) w' ∧ (Instr.lookup 284 (.map (some m)) (.int .i64 2) false).run Tryz.prog w' = .ok (.func (.func 327) #[] #[]) w' ∧
  (Instr.lookup 284 (.map (some m)) (.int .i64 3) false).run Tryz.prog w' = .ok (.func (.func 328) #[] #[]) w' ∧ (Instr.lookup 284 (.map (some m)) (.int .i64 4) false).run Tryz.prog w' = .ok (.func (.func 329) #[] #[]) w'
theorem PowsAt.below {w w' : World} {m : Nat} (h : PowsAt w m) (hB : Below w.heap.size w w') : PowsAt w' m :=
 ⟨Nat.lt_of_lt_of_le h.lt hB.size, Nat.lt_of_lt_of_le h.pos hB.size, (hB.cell (p := ⟨0, 0, none⟩) h.pos).trans h.cell, fun w2 h2 => h.look w2 (h2.trans (hB.block m h.lt))⟩
theorem PowsAt.kind {w : World} {m : Nat} (h : PowsAt w m) {kd : Int} (k1 : 1 ≤ kd) (k2 : kd ≤ 4) : ∀ w' : World, w'.heap[m]? = w.heap[m]? → (Instr.lookup 284 (.map (some m)) (.int .i64 kd) false).run Tryz.prog w' = .ok (.func (.func (if kd = 3 then 328 else if kd = 4 then 329 else 327)) #[] #[]) w' := fun w' hw => by
 obtain ⟨h1, h2, h3, h4⟩ := h.look w' hw
 rcases (by omega : kd = 1 ∨ kd = 2 ∨ kd = 3 ∨ kd = 4) with rfl | rfl | rfl | rfl
 ·exact h1
 ·exact h2
 ·exact h3
 ·exact h4
theorem enters_pow (kd : Int) : ∀ args w, (callFunc (if kd = 3 then 328 else if kd = 4 then 329 else 327) args).run Tryz.prog w = .ok (.enter (if kd = 3 then 328 else if kd = 4 then 329 else 327) args) w := by
 by_cases h3 : kd = 3
 ·rw [if_pos h3]; exact Go.Proofs.enters_of Tryz.func328 (by kernel_rfl) rfl
 ·rw [if_neg h3]
  by_cases h4 : kd = 4
  ·rw [if_pos h4]; exact Go.Proofs.enters_of Tryz.func329 (by kernel_rfl) rfl
  ·rw [if_neg h4]; exact Go.Proofs.enters_of Tryz.func327 (by kernel_rfl) rfl
structure PowFits (a : Lns) (k s : Nat) : Prop where
 f1 : Fits (a.step k s)
 f2 : Fits (a.cv s * a.step k s)
 f3 : Fits (a.gr k s)
 f4 : Fits (a.cv s * a.step k s - a.gr k s)
theorem pow_any (a : Lns) (ha : a.opt) (q : Plc) (hchk : Chk a q) (s k : Nat) (w : World) (h : OptAt w a q) (s1 : s < a.ns) (k1 : k < a.nw) (hf : PowFits a k s) :
  Calls Tryz.prog (if (a.S s).kind = 3 then 328 else if (a.S s).kind = 4 then 329 else 327) #[.agg (a.vvals q k), .int .i64 (s : Int)] w fun e w' => ∃ C, e = .returned (.agg C) ∧ QV w' (.agg C) (a.pow k s) ∧ Below w.heap.size w w' := by
 by_cases h3 : (a.S s).kind = 3
 ·rw [if_pos h3]
  have e : a.pow k s = Rat.divInt 0 1 := by unfold Lns.pow; rw [if_pos h3]
  rw [e]
  exact flat_ok _ _ w
 ·rw [if_neg h3]
  by_cases h4 : (a.S s).kind = 4
  ·rw [if_pos h4]
   have e : a.pow k s = a.cv s := by unfold Lns.pow; rw [if_neg h3, if_pos h4]
   rw [e]
   have := (ha.base.sok s s1).curv
   exact ideal_ok a q s k w h s1 this.1 this.2
  ·rw [if_neg h4]
   have e : a.pow k s = a.cv s * a.step k s - a.gr k s := by unfold Lns.pow; rw [if_neg h3, if_neg h4]
   rw [e]
   exact curved_ok a ha q hchk s k w h s1 k1 hf.f1 hf.f2 hf.f3 hf.f4
theorem power_ok (a : Lns) (ha : a.opt) (q : Plc) (hchk : Chk a q) (s k : Nat) (w : World) (h : OptAt w a q) (s1 : s < a.ns) (k1 : k < a.nw) (hf : PowFits a k s) (m : Nat) (hp : PowsAt w m) :
  Calls Tryz.prog 239 #[.agg (a.vvals q k), .int .i64 (s : Int)] w fun e w' => ∃ C, e = .returned (.agg C) ∧ QV w' (.agg C) (a.pow k s) ∧ Below w.heap.size w w' := by
 obtain ⟨b, off, hps, hbl, hcell⟩ := h.surfs.2.2 (by omega)
 have f0 : w.cell? ⟨b, off + s * 22, none⟩ = some (.int .i64 (a.S s).kind) := hcell s 0 s1 (by omega)
 have hc := fun W (hW : Below w.heap.size w W) => pow_any a ha q hchk s k W (h.below hW) s1 k1 hf
 have eg := enters_pow (a.S s).kind
 have hlk := hp.kind (ha.base.sok s s1).k1 (ha.base.sok s s1).k2
 have hpc := hp.cell
 have hpl := hp.lt
 simp only [Lns.vvals] at hc ⊢
 rw [hps] at hc ⊢
 have s1' : (s : Int) < a.ns := by omega
 have hp0 := hp.pos
 clear hcell hf
 generalize (a.S s).kind = kd at *
 generalize (if kd = 3 then 328 else if kd = 4 then 329 else 327) = g at *
 go_enter Tryz.func239, Tryz.ntmps239
 go_wp2_with fail
 refine boxes2 fun W hB hs bV bR => ?_
 have cV := bV.cell
 have lV := bV.lt
 replace f0 := (hB.cell (p := ⟨b, off + s * 22, none⟩) hbl).trans f0
 have lb := Nat.lt_of_lt_of_le hbl hB.size
 have nb : b ≠ w.heap.size + 1 := by omega
 have nV : w.heap.size ≠ w.heap.size + 1 := by omega
 have n0 : 0 ≠ w.heap.size + 1 := by omega
 have l0 : 0 < W.heap.size := by omega
 replace hpc := (hB.cell (p := ⟨0, 0, none⟩) hp0).trans hpc
 have hlk' : ∀ w', ((∀ b o, b < W.heap.size → b ≠ w.heap.size + 1 → w'.cell? ⟨b, o, none⟩ = W.cell? ⟨b, o, none⟩) ∧ KeepBut (w.heap.size + 1) W.heap.size W w') → (Instr.lookup 284 (.map (some m)) (.int .i64 kd) false).run Tryz.prog w' = .ok (.func (.func g) #[] #[]) w' := fun w' hS =>
  hlk w' ((hS.2.block m (by omega) (by omega)).trans (hB.block m hpl))
 have hSt := fun (w' : World) (i : Nat) (u : Value) => CB.set (R := w.heap.size + 1) (W := W) w' i u
 replace hSt := Lib.hid hSt
 replace hlk' := Lib.hid hlk'
 clear hlk
 refine wp_region_held_drew (S := fun w' => (∀ b o, b < W.heap.size → b ≠ w.heap.size + 1 → w'.cell? ⟨b, o, none⟩ = W.cell? ⟨b, o, none⟩) ∧ KeepBut (w.heap.size + 1) W.heap.size W w') (by kernel_rfl) (keepS (KeepBut.refl _ _).drew) (fun hHeld => ?_)
 refine tk 0 (some 5) ?_
 refine tk 1 (some 6) ?_
 refine tk 2 (some 7) ?_
 refine tk 3 (some 8) ?_
 refine tk 4 (some 9) ?_
 refine tk 5 (some 10) ?_
 refine tk 6 (some 11) ?_
 refine tk 7 (some 12) ?_
 refine tk 8 (some 13) ?_
 refine tl 9 (some 14) rfl (.func (.func g) #[] #[]) (exec_lookup 284 _ _ false rfl (.map (some m)) (.int .i64 kd) _ rfl rfl hlk'.out) ?_
 refine tk 10 (some 15) ?_
 refine tk 11 (some 16) ?_
 refine Mono.st 12 ?_
 intro K hK
 go_simp
 (refine (hc _ ?_).mono ?_; (exact hHeld.2.below hB (by omega) hB.size); rintro e W2 ⟨C, rfl, R, hb⟩)
 refine kp hK (keepS (hHeld.2.call hb)) (fun hHeld => ?_)
 clear hK K
 obtain ⟨C', hC', hC, h1⟩ := R.cells
 cases hC'
 have hi : (Tryz.prog.info? 37).map (·.size) = some C.size := by rw [hC]; exact sizeQuot
 have bR2 := bR.drew.below hb
 refine wpAnyH_storeK (w.heap.size + 1) 37 13 rfl rfl rfl rfl 0 C _ C (by kernel_rfl) hSt.out rfl rfl bR2 hHeld hi (Nat.le_of_eq (by rw [hC]; rfl)) h1 (whole_new (by rw [hC]; rfl)) (fun W3 hk3 b3 hHeld3 => ?_)
 refine wpAnyH_done (by kernel_rfl) ?_ _
 go_wp2
 refine bodyPost_ret (b3.results rfl _ _ rfl Tryz.underlying37 rfl hi) rfl ?_
 exact ⟨C, rfl, R.ext (hk3.ext bR2 (by decide)), hHeld3.2.below hB (by omega) hB.size⟩
section
open Go Go.ChangeShapes Go.WideShapes Go.ChangeAt Go.WideMaps Go.WideElems
theorem elemFunc {w : World} {base : Nat} {sp : Nat → Bool} {n : Nat} {t : TypeId} {ps rs : Array TypeId} {va : Bool} {v : Value} {b : UInt8} {r : List UInt8} {q : List MemPlace} {f0 : FuncId}
  (ht : Tryz.prog.underlying t = some (.func ps rs va)) (hone : ((List.range Tryz.prog.funcs.size).filter fun f => (Tryz.prog.funcs[f]?).any (·.name.toUTF8.data.toList == b :: r)) = [f0])
  (h : elemAt (funcToken Tryz.prog) Tryz.prog w base sp true n t v = some (.held (b :: r), q)) : v = .func (.func f0) #[] #[] := by
 unfold elemAt at h
 split at h
 ·rename_i hf
  cases v <;> simp [Value.formed, ht] at hf
  all_goals exact func_of_trod ht hone (by simpa [Value.cells] using h)
 ·cases h
theorem pows_of_laid {W : World} (h : laidMetH Tryz.prog [("monocle/surface.places", Rows.laid_monocle_surface_places), ("monocle/paraxial.powers", Rows.laid_monocle_paraxial_powers)] W) : ∃ m, PowsAt W m := by
 obtain ⟨g, t, cs, fuel, p, hg, ht, hv, hd⟩ := h.funcs (n := "monocle/paraxial.powers") (List.mem_cons_of_mem _ (List.mem_cons_self ..))
 obtain rfl := Option.some.inj ((show Tryz.prog.globalNamed "monocle/paraxial.powers" = some 0 by kernel_rfl).symm.trans hg)
 obtain rfl := Option.some.inj ((show (Tryz.prog.globals[0]?).map (·.type) = some 284 by kernel_rfl).symm.trans ht)
 have hcell := World.var?_cell hg hv 0
 have hd' : DataW.trod (funcToken Tryz.prog) Tryz.prog W 0 (fun _ => true) true fuel 284 cs.toList = some (.map [(.int .i64 1, .held [40, 109, 111, 110, 111, 99, 108, 101, 47, 112, 97, 114, 97, 120, 105, 97, 108, 46, 118, 105, 101, 119, 41, 46, 99, 117, 114, 118, 101, 100]), (.int .i64 2, .held [40, 109, 111, 110, 111, 99, 108, 101, 47, 112, 97, 114, 97, 120, 105, 97, 108, 46, 118, 105, 101, 119, 41, 46, 99, 117, 114, 118, 101, 100]), (.int .i64 3, .held [40, 109, 111, 110, 111, 99, 108, 101, 47, 112, 97, 114, 97, 120, 105, 97, 108, 46, 118, 105, 101, 119, 41, 46, 102, 108, 97, 116]), (.int .i64 4, .held [40, 109, 111, 110, 111, 99, 108, 101, 47, 112, 97, 114, 97, 120, 105, 97, 108, 46, 118, 105, 101, 119, 41, 46, 105, 100, 101, 97, 108])], p) := hd
 rcases WideElems.open_map Tryz.underlying284 hd' with ⟨_, hx⟩ | ⟨m, es, clock, n, rfl, hcs, hb, _, F, hx⟩
 ·exact absurd (congrArg Prod.fst hx) (by intro e; cases e)
 have hc0 : W.cell? ⟨0, 0, none⟩ = some (.map (some m)) := by
  rw [Array.eq_one_of_toList hcs] at hcell
  simpa using hcell
 have hlt : m < W.heap.size := lt_of_some hb
 have hpos : 0 < W.heap.size := block_lt_of_cell hc0
 have hxx := congrArg Prod.fst hx
 dsimp only at hxx
 refine ⟨m, hlt, hpos, hc0, fun w' hw' => ?_⟩
 have hb' := hw'.trans hb
 have zero : ∀ w, (zeroValue 283).run Tryz.prog w = .ok .nilFunc w := fun _ => by kernel_rfl
 have look : ∀ (kd : Int) (b : UInt8) (r : List UInt8) (f0 : FuncId), (Lit.int .i64 kd).wf = true → ((List.range Tryz.prog.funcs.size).filter fun f => (Tryz.prog.funcs[f]?).any (·.name.toUTF8.data.toList == b :: r)) = [f0] →
   (DataW.map [(Lit.int .i64 1, DataW.held [40, 109, 111, 110, 111, 99, 108, 101, 47, 112, 97, 114, 97, 120, 105, 97, 108, 46, 118, 105, 101, 119, 41, 46, 99, 117, 114, 118, 101, 100]), (.int .i64 2, .held [40, 109, 111, 110, 111, 99, 108, 101, 47, 112, 97, 114, 97, 120, 105, 97, 108, 46, 118, 105, 101, 119, 41, 46, 99, 117, 114, 118, 101, 100]), (.int .i64 3, .held [40, 109, 111, 110, 111, 99, 108, 101, 47, 112, 97, 114, 97, 120, 105, 97, 108, 46, 118, 105, 101, 119, 41, 46, 102, 108, 97, 116]), (.int .i64 4, .held [40, 109, 111, 110, 111, 99, 108, 101, 47, 112, 97, 114, 97, 120, 105, 97, 108, 46, 118, 105, 101, 119, 41, 46, 105, 100, 101, 97, 108])] : DataW (List UInt8)).atKey (.int .i64 kd) .nil = .held (b :: r) →
   (Instr.lookup 284 (.map (some m)) (.int .i64 kd) false).run Tryz.prog w' = .ok (.func (.func f0) #[] #[]) w' := by
  intro kd b r f0 hw hone hat
  have hk : keyOf Tryz.prog 3 (.int .i64 kd) = some (.int .i64 kd) := by simp [keyOf_int Tryz.underlying3, mapKey, Tryz.underlying3, hw]
  rcases Go.Maps.fit_look false (Go.Maps.int_keyed Tryz.underlying3) Tryz.underlying284 (zero w') hb' F hk with ⟨_, _, h2⟩ | ⟨e0, y, _, _, hrun, hR, h2, _⟩
  ·have := h2 .nil
   rw [← hxx] at this
   cases hat.symm.trans this
  ·have := h2 .nil
   rw [← hxx] at this
   replace this := hat.symm.trans this
   obtain ⟨y1, y2⟩ := y
   cases this
   rw [elemFunc Tryz.underlying283 hone hR] at hrun
   exact hrun
 exact ⟨look 1 40 [109, 111, 110, 111, 99, 108, 101, 47, 112, 97, 114, 97, 120, 105, 97, 108, 46, 118, 105, 101, 119, 41, 46, 99, 117, 114, 118, 101, 100] 327 (by kernel_rfl) (by kernel_rfl) rfl, look 2 40 [109, 111, 110, 111, 99, 108, 101, 47, 112, 97, 114, 97, 120, 105, 97, 108, 46, 118, 105, 101, 119, 41, 46, 99, 117, 114, 118, 101, 100] 327 (by kernel_rfl) (by kernel_rfl) rfl, look 3 40 [109, 111, 110, 111, 99, 108, 101, 47, 112, 97, 114, 97, 120, 105, 97, 108, 46, 118, 105, 101, 119, 41, 46, 102, 108, 97, 116] 328 (by kernel_rfl) (by kernel_rfl) rfl, look 4 40 [109, 111, 110, 111, 99, 108, 101, 47, 112, 97, 114, 97, 120, 105, 97, 108, 46, 118, 105, 101, 119, 41, 46, 105, 100, 101, 97, 108] 329 (by kernel_rfl) (by kernel_rfl) rfl⟩
end
section
open Go.Ex
def pK (m : Nat) : Nat → Value
 | 0 => .map (some m)
 | _ => .bool false
theorem pK1 (m : Nat) : ∀ i, (pK m i).oneCell' = true
 | 0 => rfl
 | _ + 1 => rfl
def powRun (o : Oper) (get : Operand → Option SV) : Option SV :=
 match o.op with
 | .load t x => if Nat.beq t 284 then match get x with
   | some (.a (.one (.val (.pointer (some ⟨0, 0, none⟩))))) => some (.a (.one (.tok 0)))
   | _ => none
   else none
 | .lookup t x k false => if Nat.beq t 284 then match get x, get k with
   | some (.a (.one (.tok 0))), some (.a (.one (.val (.int .i64 (.ofNat 1))))) => some (.a (.one (.clo 327 [])))
   | some (.a (.one (.tok 0))), some (.a (.one (.val (.int .i64 (.ofNat 2))))) => some (.a (.one (.clo 327 [])))
   | some (.a (.one (.tok 0))), some (.a (.one (.val (.int .i64 (.ofNat 3))))) => some (.a (.one (.clo 328 [])))
   | some (.a (.one (.tok 0))), some (.a (.one (.val (.int .i64 (.ofNat 4))))) => some (.a (.one (.clo 329 [])))
   | _, _ => none
   else none
 | _ => none
def powF {w0 : World} {m : Nat} (h : PowsAt w0 m) : Fct (qDen (pK m) (pK1 m)) Tryz.prog w0 (fun _ => False) where
 run := powRun
 sound := by
  intro o get x hr ρ wc w ev hfr hg
  unfold powRun at hr
  split at hr
  ·rename_i t x' ho
   split at hr
   ·rename_i ht
    obtain rfl := Nat.eq_of_beq_eq_true ht
    split at hr
    ·rename_i hx
     cases hr
     have e1 : ev x' = .pointer (some ⟨0, 0, none⟩) := by simpa using (hg _ _ hx).1
     have hc : w.cell? ⟨0, 0, none⟩ = some (.map (some m)) := (cell_of_block (hfr.block 0 h.pos id) 0).trans h.cell
     refine ⟨.map (some m), ?_, rfl⟩
     unfold execOp
     rw [ho]
     simp only [e1, Instr.loadAt, loadVar, Sem.run_bind, Instr.sureAddr, Sem.run_pure, Result.andThen_ok, run_rowT (P := Tryz.prog) (t := 284) (b := false) (by kernel_rfl), Bool.false_eq_true, if_false]
     rw [run_load, hc]
     rfl
    ·cases hr
   ·cases hr
  ·rename_i t y k ho
   split at hr
   ·rename_i ht
    obtain rfl := Nat.eq_of_beq_eq_true ht
    have hb : w.heap[m]? = w0.heap[m]? := hfr.block m h.lt id
    obtain ⟨l1, l2, l3, l4⟩ := h.look w hb
    have go : ∀ {z : Int} {g : Nat}, get y = some (.a (.one (.tok 0))) → get k = some (.a (.one (.val (.int .i64 z)))) → (Instr.lookup 284 (.map (some m)) (.int .i64 z) false).run Tryz.prog w = .ok (.func (.func g) #[] #[]) w →
      ∃ v, (execOp ev o).run Tryz.prog w = .ok (.value v) w ∧ denV (qDen (pK m) (pK1 m)) ρ wc (.a (.one (.clo g []))) v := by
     intro z g hy hk hl
     have e1 : ev y = .map (some m) := by
      have : [ev y] = [pK m 0] := hg _ _ hy
      simpa [pK] using this
     have e2 : ev k = .int .i64 z := by simpa using (hg _ _ hk).1
     refine ⟨_, ?_, [], rfl, rfl⟩
     unfold execOp
     simp only [ho, e1, e2, Sem.run_bind, hl, Result.andThen_ok, Sem.run_pure]
    split at hr
    ·rename_i hy hk; cases hr; exact go hy hk l1
    ·rename_i hy hk; cases hr; exact go hy hk l2
    ·rename_i hy hk; cases hr; exact go hy hk l3
    ·rename_i hy hk; cases hr; exact go hy hk l4
    ·cases hr
   ·cases hr
  ·cases hr
end
end Go.Proofs.YtdgodcgdlfjpaaaGreatDoor
