/- Part 35 of 52 of the proof that the law ParaxialKnown returns true, whatever stands in memory, if the two listed variables hold what the text lays: contracts of the functions that it reaches. No condition beside the row. -/
import Derived.Test.YtepodcocemmejaaGreatDoorA34
set_option linter.unusedVariables false
set_option linter.unusedSimpArgs false
namespace Go.Mono
open Go.RowKit
theorem exec_lookup {P : Program} {S : World → Prop} {oi : Oper} {a : Act} (ty : TypeId) (x ix : Operand) (ok : Bool) (ho : oi.op = .lookup ty x ix ok) (m kv v : Value) (hx : a.eval x = m) (hk : a.eval ix = kv)
    (hrun : ∀ w, S w → (Instr.lookup ty m kv ok).run P w = .ok v w) : ∀ w, S w → (execOp a.eval oi).run P w = .ok (.value v) w := fun w hS => by
  unfold execOp
  simp only [ho, hx, hk, Sem.run_bind, hrun w hS, Result.andThen_ok, Sem.run_pure]
section
variable {P : Program} {ops : Array Oper} {Q : Exit → Act → World → Prop} {md : Region.Mode} {S : World → Prop}
/-- a store of some cells that comes up alone -/
theorem wpAnyH_storeK (B : Nat) (T : TypeId) (i : Nat) {o : Oper} (hi : ops[i]? = some o) (hg : o.guard = none) (hd : o.dst = none) {ty : TypeId} {x y : Operand} (ho : o.op = .store ty x y) (off : Nat) (cells cs new : Array Value) {a : Act} {fuel : Nat} {listed : Array Bool} {w : World}
    (hr : Region.ready md ops listed = [i]) (hS : ∀ w i u, S w → S (w.setCell ⟨B, i, none⟩ u)) (hx : a.eval x = .pointer (some ⟨B, off, none⟩)) (hy : a.eval y = .agg cells)
    (hb : Box w B T cs) (hs : S w) (hi2 : (P.info? ty).map (·.size) = some cells.size) (hoff : off + cells.size ≤ cs.size) (h1 : cells.all (·.oneCell') = true)
    (hn : cs.toList.take off ++ cells.toList ++ cs.toList.drop (off + cells.size) = new.toList)
    (h : ∀ w', KeepBut B w.heap.size w w' → Box w' B T new → S w' → wpAnyH P md ops Q S fuel (listed.setIfInBounds i true) a w') : wpAnyH P md ops Q S (fuel + 1) listed a w := by
  refine wpAnyH_all hr (by simp) fun j hj => ?_
  obtain rfl : j = i := by simpa using hj
  unfold wpOp
  rw [hi]
  have hw : Region.wanted o (yielded ops a.tmps) = true := by simp [Region.wanted, hg]
  simp only [hw, if_true]
  left
  have hb2 := Box.setCells cells.toList off w cs hb (by simpa using hoff)
  have hb3 : Box (w.setCells B off cells.toList) B T new := by simpa [hn] using hb2
  have hs2 := setCells_keeps hS cells.toList off w hs
  refine wp_store_mid ty x y ho B off cells hx hy (hb.there off cells.size hoff) hi2 h1 ?_
  rw [hd]
  exact ⟨hs2, h _ ((KeepBut.refl _ _).setCells _ _ _) hb3 hs2⟩
end
/-- cells but those of block R -/
def CB (R : Nat) (W w : World) : Prop := (∀ b o, b < W.heap.size → b ≠ R → w.cell? ⟨b, o, none⟩ = W.cell? ⟨b, o, none⟩) ∧ KeepBut R W.heap.size W w
theorem CB.set {R : Nat} {W : World} (w : World) (i : Nat) (u : Value) (h : (∀ b o, b < W.heap.size → b ≠ R → w.cell? ⟨b, o, none⟩ = W.cell? ⟨b, o, none⟩) ∧ KeepBut R W.heap.size W w) :
    (∀ b o, b < W.heap.size → b ≠ R → (w.setCell ⟨R, i, none⟩ u).cell? ⟨b, o, none⟩ = W.cell? ⟨b, o, none⟩) ∧ KeepBut R W.heap.size W (w.setCell ⟨R, i, none⟩ u) := KeepBut.S (h.2.set i u)
theorem keepS {R : Nat} {W w : World} (h : KeepBut R W.heap.size W w) : (∀ b o, b < W.heap.size → b ≠ R → w.cell? ⟨b, o, none⟩ = W.cell? ⟨b, o, none⟩) ∧ KeepBut R W.heap.size W w := KeepBut.S h
end Go.Mono
namespace Go.Proofs.YtepodcocemmejaaGreatDoor
open Go.RowKit Go.Mono
/-- the table of powers stands, at map m -/
structure PowsAt (w : World) (m : Nat) : Prop where
  lt : m < w.heap.size
  pos : 0 < w.heap.size
  cell : w.cell? ⟨0, 0, none⟩ = some (.map (some m))
  look : ∀ w' : World, w'.heap[m]? = w.heap[m]? → (Instr.lookup 174 (.map (some m)) (.int .i64 1) false).run Tryz.prog w' = .ok (.func (.func 282) #[] #[]) w' ∧ (Instr.lookup 174 (.map (some m)) (.int .i64 2) false).run Tryz.prog w' = .ok (.func (.func 282) #[] #[]) w' ∧
    (Instr.lookup 174 (.map (some m)) (.int .i64 3) false).run Tryz.prog w' = .ok (.func (.func 283) #[] #[]) w' ∧ (Instr.lookup 174 (.map (some m)) (.int .i64 4) false).run Tryz.prog w' = .ok (.func (.func 284) #[] #[]) w'
theorem PowsAt.below {w w' : World} {m : Nat} (h : PowsAt w m) (hB : Below w.heap.size w w') : PowsAt w' m :=
  ⟨Nat.lt_of_lt_of_le h.lt hB.size, Nat.lt_of_lt_of_le h.pos hB.size, (hB.cell (p := ⟨0, 0, none⟩) h.pos).trans h.cell, fun w2 h2 => h.look w2 (h2.trans (hB.block m h.lt))⟩
/-- the four kinds -/
theorem PowsAt.kind {w : World} {m : Nat} (h : PowsAt w m) {kd : Int} (k1 : 1 ≤ kd) (k2 : kd ≤ 4) : ∀ w' : World, w'.heap[m]? = w.heap[m]? → (Instr.lookup 174 (.map (some m)) (.int .i64 kd) false).run Tryz.prog w' = .ok (.func (.func (if kd = 3 then 283 else if kd = 4 then 284 else 282)) #[] #[]) w' := fun w' hw => by
  obtain ⟨h1, h2, h3, h4⟩ := h.look w' hw
  rcases (by omega : kd = 1 ∨ kd = 2 ∨ kd = 3 ∨ kd = 4) with rfl | rfl | rfl | rfl
  · exact h1
  · exact h2
  · exact h3
  · exact h4
theorem enters_pow (kd : Int) : ∀ args w, (callFunc (if kd = 3 then 283 else if kd = 4 then 284 else 282) args).run Tryz.prog w = .ok (.enter (if kd = 3 then 283 else if kd = 4 then 284 else 282) args) w := by
  by_cases h3 : kd = 3
  · rw [if_pos h3]; exact Go.Proofs.enters_of Tryz.func283 (by kernel_rfl) rfl
  · rw [if_neg h3]
    by_cases h4 : kd = 4
    · rw [if_pos h4]; exact Go.Proofs.enters_of Tryz.func284 (by kernel_rfl) rfl
    · rw [if_neg h4]; exact Go.Proofs.enters_of Tryz.func282 (by kernel_rfl) rfl
/-- what the sizes of a power's fractions must be -/
structure PowFits (a : Lns) (k s : Nat) : Prop where
  f1 : Fits (a.step k s)
  f2 : Fits (a.cv s * a.step k s)
  f3 : Fits (a.gr k s)
  f4 : Fits (a.cv s * a.step k s - a.gr k s)
theorem pow_any (a : Lns) (ha : a.opt) (q : Plc) (hchk : Chk a q) (s k : Nat) (w : World) (h : OptAt w a q) (s1 : s < a.ns) (k1 : k < a.nw) (hf : PowFits a k s) :
    Calls Tryz.prog (if (a.S s).kind = 3 then 283 else if (a.S s).kind = 4 then 284 else 282) #[.agg (a.vvals q k), .int .i64 (s : Int)] w fun e w' => ∃ C, e = .returned (.agg C) ∧ QV w' (.agg C) (a.pow k s) ∧ Below w.heap.size w w' := by
  by_cases h3 : (a.S s).kind = 3
  · rw [if_pos h3]
    have e : a.pow k s = Rat.divInt 0 1 := by unfold Lns.pow; rw [if_pos h3]
    rw [e]
    exact flat_ok _ _ w
  · rw [if_neg h3]
    by_cases h4 : (a.S s).kind = 4
    · rw [if_pos h4]
      have e : a.pow k s = a.cv s := by unfold Lns.pow; rw [if_neg h3, if_pos h4]
      rw [e]
      have := (ha.base.sok s s1).curv
      exact ideal_ok a q s k w h s1 this.1 this.2
    · rw [if_neg h4]
      have e : a.pow k s = a.cv s * a.step k s - a.gr k s := by unfold Lns.pow; rw [if_neg h3, if_neg h4]
      rw [e]
      exact curved_ok a ha q hchk s k w h s1 k1 hf.f1 hf.f2 hf.f3 hf.f4
set_option maxRecDepth 100000 in
set_option maxHeartbeats 1000000 in
theorem power_ok (a : Lns) (ha : a.opt) (q : Plc) (hchk : Chk a q) (s k : Nat) (w : World) (h : OptAt w a q) (s1 : s < a.ns) (k1 : k < a.nw) (hf : PowFits a k s) (m : Nat) (hp : PowsAt w m) :
    Calls Tryz.prog 52 #[.agg (a.vvals q k), .int .i64 (s : Int)] w fun e w' => ∃ C, e = .returned (.agg C) ∧ QV w' (.agg C) (a.pow k s) ∧ Below w.heap.size w w' := by
  obtain ⟨b, off, hps, hbl, hcell⟩ := h.surfs.2.2 (by omega)
  have f0 : w.cell? ⟨b, off + s * 22, none⟩ = some (.int .i64 (a.S s).kind) := hcell s 0 s1 (by omega)
  have hc := fun W (hW : Below w.heap.size w W) => pow_any a ha q hchk s k W (h.below hW) s1 k1 hf
  have eg := enters_pow (a.S s).kind
  have hlk := hp.kind (ha.base.sok s s1).k1 (ha.base.sok s s1).k2
  have hpc := hp.cell
  have hpl := hp.lt
  simp only [Lns.vvals] at hc ⊢
  rw [hps] at hc ⊢
  have s1' : (s : Int) < a.ns := by omega
  have hp0 := hp.pos
  clear hcell hf
  generalize (a.S s).kind = kd at *
  generalize (if kd = 3 then 283 else if kd = 4 then 284 else 282) = g at *
  go_enter Tryz.func52, Tryz.ntmps52
  go_wp2_with fail
  refine boxes2 fun W hB hs bV bR => ?_
  have cV := bV.cell
  have lV := bV.lt
  replace f0 := (hB.cell (p := ⟨b, off + s * 22, none⟩) hbl).trans f0
  have lb := Nat.lt_of_lt_of_le hbl hB.size
  have nb : b ≠ w.heap.size + 1 := by omega
  have nV : w.heap.size ≠ w.heap.size + 1 := by omega
  have n0 : 0 ≠ w.heap.size + 1 := by omega
  have l0 : 0 < W.heap.size := by omega
  replace hpc := (hB.cell (p := ⟨0, 0, none⟩) hp0).trans hpc
  have hlk' : ∀ w', ((∀ b o, b < W.heap.size → b ≠ w.heap.size + 1 → w'.cell? ⟨b, o, none⟩ = W.cell? ⟨b, o, none⟩) ∧ KeepBut (w.heap.size + 1) W.heap.size W w') → (Instr.lookup 174 (.map (some m)) (.int .i64 kd) false).run Tryz.prog w' = .ok (.func (.func g) #[] #[]) w' := fun w' hS =>
    hlk w' ((hS.2.block m (by omega) (by omega)).trans (hB.block m hpl))
  have hSt := fun (w' : World) (i : Nat) (u : Value) => CB.set (R := w.heap.size + 1) (W := W) w' i u
  replace hSt := Lib.hid hSt
  replace hlk' := Lib.hid hlk'
  clear hlk
  refine wp_region_held_drew (S := fun w' => (∀ b o, b < W.heap.size → b ≠ w.heap.size + 1 → w'.cell? ⟨b, o, none⟩ = W.cell? ⟨b, o, none⟩) ∧ KeepBut (w.heap.size + 1) W.heap.size W w') (by kernel_rfl) (keepS (KeepBut.refl _ _).drew) (fun hHeld => ?_)
  refine take_want 0 (some 5) rfl (by kernel_rfl) (by kernel_rfl) (by kernel_rfl) rfl (fun _ _ _ h => h) (by rfl) (v := ?_) ?_ (by assumption) ?_
  rotate_left
  · intro w hSw; (try dsimp only at hSw); go_simp; all_goals with_reducible rfl
  simp only [Act.put, List.setIfInBounds_toArray, List.set_cons_zero, List.set_cons_succ]
  refine take_want 1 (some 6) rfl (by kernel_rfl) (by kernel_rfl) (by kernel_rfl) rfl (fun _ _ _ h => h) (by rfl) (v := ?_) ?_ (by assumption) ?_
  rotate_left
  · intro w hSw; (try dsimp only at hSw); go_simp; all_goals with_reducible rfl
  simp only [Act.put, List.setIfInBounds_toArray, List.set_cons_zero, List.set_cons_succ]
  refine take_want 2 (some 7) rfl (by kernel_rfl) (by kernel_rfl) (by kernel_rfl) rfl (fun _ _ _ h => h) (by rfl) (v := ?_) ?_ (by assumption) ?_
  rotate_left
  · intro w hSw; (try dsimp only at hSw); go_simp; all_goals with_reducible rfl
  simp only [Act.put, List.setIfInBounds_toArray, List.set_cons_zero, List.set_cons_succ]
  refine take_want 3 (some 8) rfl (by kernel_rfl) (by kernel_rfl) (by kernel_rfl) rfl (fun _ _ _ h => h) (by rfl) (v := ?_) ?_ (by assumption) ?_
  rotate_left
  · intro w hSw; (try dsimp only at hSw); go_simp; all_goals with_reducible rfl
  simp only [Act.put, List.setIfInBounds_toArray, List.set_cons_zero, List.set_cons_succ]
  refine take_want 4 (some 9) rfl (by kernel_rfl) (by kernel_rfl) (by kernel_rfl) rfl (fun _ _ _ h => h) (by rfl) (v := ?_) ?_ (by assumption) ?_
  rotate_left
  · intro w hSw; (try dsimp only at hSw); go_simp; all_goals with_reducible rfl
  simp only [Act.put, List.setIfInBounds_toArray, List.set_cons_zero, List.set_cons_succ]
  refine take_want 5 (some 10) rfl (by kernel_rfl) (by kernel_rfl) (by kernel_rfl) rfl (fun _ _ _ h => h) (by rfl) (v := ?_) ?_ (by assumption) ?_
  rotate_left
  · intro w hSw; (try dsimp only at hSw); go_simp; all_goals with_reducible rfl
  simp only [Act.put, List.setIfInBounds_toArray, List.set_cons_zero, List.set_cons_succ]
  refine take_want 6 (some 11) rfl (by kernel_rfl) (by kernel_rfl) (by kernel_rfl) rfl (fun _ _ _ h => h) (by rfl) (v := ?_) ?_ (by assumption) ?_
  rotate_left
  · intro w hSw; (try dsimp only at hSw); go_simp; all_goals with_reducible rfl
  simp only [Act.put, List.setIfInBounds_toArray, List.set_cons_zero, List.set_cons_succ]
  refine take_want 7 (some 12) rfl (by kernel_rfl) (by kernel_rfl) (by kernel_rfl) rfl (fun _ _ _ h => h) (by rfl) (v := ?_) ?_ (by assumption) ?_
  rotate_left
  · intro w hSw; (try dsimp only at hSw); go_simp; all_goals with_reducible rfl
  simp only [Act.put, List.setIfInBounds_toArray, List.set_cons_zero, List.set_cons_succ]
  refine take_want 8 (some 13) rfl (by kernel_rfl) (by kernel_rfl) (by kernel_rfl) rfl (fun _ _ _ h => h) (by rfl) (v := ?_) ?_ (by assumption) ?_
  rotate_left
  · intro w hSw; (try dsimp only at hSw); go_simp; all_goals with_reducible rfl
  simp only [Act.put, List.setIfInBounds_toArray, List.set_cons_zero, List.set_cons_succ]
  refine take_want 9 (some 14) rfl (by as_aux_lemma => kernel_rfl) (by as_aux_lemma => kernel_rfl) (by as_aux_lemma => kernel_rfl) rfl (fun _ _ _ h => h) (by rfl) (v := (.func (.func g) #[] #[])) (exec_lookup 174 _ _ false rfl (.map (some m)) (.int .i64 kd) _ rfl rfl hlk'.out) (by assumption) ?_
  simp only [Act.put, List.setIfInBounds_toArray, List.set_cons_zero, List.set_cons_succ]
  refine take_want 10 (some 15) rfl (by kernel_rfl) (by kernel_rfl) (by kernel_rfl) rfl (fun _ _ _ h => h) (by rfl) (v := ?_) ?_ (by assumption) ?_
  rotate_left
  · intro w hSw; (try dsimp only at hSw); go_simp; all_goals with_reducible rfl
  simp only [Act.put, List.setIfInBounds_toArray, List.set_cons_zero, List.set_cons_succ]
  refine take_want 11 (some 16) rfl (by kernel_rfl) (by kernel_rfl) (by kernel_rfl) rfl (fun _ _ _ h => h) (by rfl) (v := ?_) ?_ (by assumption) ?_
  rotate_left
  · intro w hSw; (try dsimp only at hSw); go_simp; all_goals with_reducible rfl
  simp only [Act.put, List.setIfInBounds_toArray, List.set_cons_zero, List.set_cons_succ]
  refine wpAnyH_ready (rs := [12]) (by kernel_rfl) (by simp) ?_
  refine AllReadyH.cons rfl (fun K hK => ?_) AllReadyH.nil
  go_simp
  (refine (hc _ ?_).mono ?_; (exact hHeld.2.below hB (by omega) hB.size); rintro e W2 ⟨C, rfl, R, hb⟩)
  refine hK.out _ _ ?_ (fun hHeld => ?_)
  · first | exact (keepS (hHeld.2.call hb)) | fail "keep"
  clear hK K
  try simp only [Act.put, List.setIfInBounds_toArray, List.set_cons_zero, List.set_cons_succ]
  obtain ⟨C', hC', hC, h1⟩ := R.cells
  cases hC'
  have hi : (Tryz.prog.info? 54).map (·.size) = some C.size := by rw [hC]; exact sizeQuot
  have bR2 := bR.drew.below hb
  refine wpAnyH_storeK (w.heap.size + 1) 54 13 rfl rfl rfl rfl 0 C _ C (by kernel_rfl) hSt.out rfl rfl bR2 hHeld hi (Nat.le_of_eq (by rw [hC]; rfl)) h1 (whole_new (by rw [hC]; rfl)) (fun W3 hk3 b3 hHeld3 => ?_)
  refine wpAnyH_done (by kernel_rfl) ?_ _
  go_wp2
  refine bodyPost_ret (b3.results rfl _ _ rfl Tryz.underlying54 rfl hi) rfl ?_
  exact ⟨C, rfl, R.ext (hk3.ext bR2 (by decide)), hHeld3.2.below hB (by omega) hB.size⟩
end Go.Proofs.YtepodcocemmejaaGreatDoor
