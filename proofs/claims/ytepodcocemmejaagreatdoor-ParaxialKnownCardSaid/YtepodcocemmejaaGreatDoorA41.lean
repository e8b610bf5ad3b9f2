/- Part 41 of 52 of the proof that the law ParaxialKnown returns true, whatever stands in memory, if the two listed variables hold what the text lays: contracts of the functions that it reaches. No condition beside the row. -/
import Derived.Test.YtepodcocemmejaaGreatDoorA35
import Derived.Test.YtepodcocemmejaaGreatDoorA40
set_option linter.unusedVariables false
set_option linter.unusedSimpArgs false
namespace Go.Mono
open Go.RowKit
/-- a struct and a number are handed back, out of boxes -/
theorem Box.results2 {P : Program} {w : World} {B B1 : Nat} {T T1 : TypeId} {cs : Array Value} {kd : IntKind} {z : Int} (b : Box w B T cs) (b1 : Box w B1 T1 #[.int kd z]) {fn : Func} {p p1 : Tmp} {ty ty1 : TypeId} (h : fn.results = #[.cell p ty, .cell p1 ty1]) (tmps : Array Value) (d : TypeDesc)
    (ht : tmps.getD p undef = .pointer (some ⟨B, 0, none⟩)) (ht1 : tmps.getD p1 undef = .pointer (some ⟨B1, 0, none⟩)) (hu : P.underlying ty = some d) (hd : d.isRow = true) (hi : (P.info? ty).map (·.size) = some cs.size)
    (hl : (loadVar ty1 ⟨B1, 0, none⟩).run P w = .ok (.int kd z) w) : (Go.results fn tmps).run P w = .ok (.tuple #[.agg cs, .int kd z]) w := by
  have hp' : tmps[p]?.getD undef = .pointer (some ⟨B, 0, none⟩) := by simpa using ht
  have hp1 : tmps[p1]?.getD undef = .pointer (some ⟨B1, 0, none⟩) := by simpa using ht1
  have hld := run_loadVar_row (P := P) w B T ty cs (0, 0) d b.blk hu (by cases d <;> simp_all [TypeDesc.isRow]) hi
  simp [Go.results, h, hp', hp1, asAddr, hld, hl]
/-- a struct out of a box, and a number out of a slot -/
theorem Box.resultsT {P : Program} {w : World} {B : Nat} {T : TypeId} {cs : Array Value} (b : Box w B T cs) {fn : Func} {p p1 : Tmp} {ty : TypeId} (h : fn.results = #[.cell p ty, .tmp p1]) (tmps : Array Value) (d : TypeDesc)
    (ht : tmps.getD p undef = .pointer (some ⟨B, 0, none⟩)) (hu : P.underlying ty = some d) (hd : d.isRow = true) (hi : (P.info? ty).map (·.size) = some cs.size) : (Go.results fn tmps).run P w = .ok (.tuple #[.agg cs, tmps.getD p1 undef]) w := by
  have hp' : tmps[p]?.getD undef = .pointer (some ⟨B, 0, none⟩) := by simpa using ht
  have hld := run_loadVar_row (P := P) w B T ty cs (0, 0) d b.blk hu (by cases d <;> simp_all [TypeDesc.isRow]) hi
  simp [Go.results, h, hp', asAddr, hld]
def quot0 : Array Value := #[.bool false, .slice none 0 0, .bool false, .slice none 0 0]
def pen0 : Array Value := #[.bool false, .slice none 0 0, .bool false, .slice none 0 0, .bool false, .slice none 0 0, .bool false, .slice none 0 0]
end Go.Mono
namespace Go.Proofs.YtepodcocemmejaaGreatDoor
open Go.RowKit Go.Mono
theorem infoQ : (Tryz.prog.info? 54).map (·.size) = some 4 := by kernel_rfl
theorem alloc0Q (w : World) : (Instr.alloc 54 true (.tuple #[])).run Tryz.prog w = .ok (.pointer (some ⟨w.heap.size, 0, none⟩)) (w.alloc (.cells quot0 54)) := by
  unfold quot0
  go_simp
set_option maxRecDepth 100000 in
set_option maxHeartbeats 400000 in
theorem idleQ (p q : Addr) (w : World) :
    CallsD Tryz.prog 123 #[.pointer (some p), .pointer (some q)] .returning w fun e u' w' => e = .returned (.tuple #[]) ∧ u' = .returning ∧ w' = w := by
  refine callsD_of_wpS Tryz.func123 rfl fun c₀ cs hu => ?_
  simp only [Tryz.ntmps123, List.size_toArray, List.length_cons, List.length_nil, Nat.reduceAdd, Nat.reduceSub, Array.replicate_succ, Array.replicate_zero, List.push_toArray, List.append_toArray, List.nil_append, List.cons_append]
  apply wpS_seq
  apply wpS_region
  simp [wpOpsS, go_sem, recoverD, hu, Exit.thenS]
  apply wpS_of_wp
  go_hide hQ
  go_wp2
  subst hQ
  cases c₀
  simp_all [bodyPostS, results, Tryz.results123]
set_option maxRecDepth 100000 in
set_option maxHeartbeats 1000000 in
theorem catchQ (B0 B1 : Nat) (z : Int) (C0 : Array Value) (hC0 : C0.size = 4) (z1 : Int) (w : World) (older : List PanicEntry) (b0 : Box w B0 54 C0) (b1 : Box w B1 59 #[.int .i64 z1]) (hne : B0 ≠ B1) (n0 : Nat) (q0 : n0 ≤ B0) (q1 : n0 ≤ B1) :
    CallsD Tryz.prog 123 #[.pointer (some ⟨B0, 0, none⟩), .pointer (some ⟨B1, 0, none⟩)] (.panicking ({ v := .iface 126 (.agg #[.int .i64 z]), recovered := false } :: older)) w fun e u' w' =>
      e = .returned (.tuple #[]) ∧ u' = .panicking ({ v := .iface 126 (.agg #[.int .i64 z]), recovered := true } :: older) ∧ Box w' B0 54 quot0 ∧ Box w' B1 59 #[.int .i64 z] ∧ Below n0 w w' := by
  refine callsD_of_wpS Tryz.func123 rfl fun c₀ cs hu => ?_
  simp only [Tryz.ntmps123, List.size_toArray, List.length_cons, List.length_nil, Nat.reduceAdd, Nat.reduceSub, Array.replicate_succ, Array.replicate_zero, List.push_toArray, List.append_toArray, List.nil_append, List.cons_append]
  apply wpS_seq
  apply wpS_region
  simp [wpOpsS, go_sem, recoverD, hu, Exit.thenS]
  apply wpS_of_wp
  go_hide hQ
  have l0 := b0.lt
  have l1 := b1.lt
  have hta : ∀ w, (Instr.typeAssert (.iface 126 (.agg #[.int .i64 z])) 20 126 true).run Tryz.prog w = .ok (.tuple #[.agg #[.int .i64 z], .bool true]) w := fun _ => by kernel_rfl
  go_wp2_with (refine wpList_new rfl 54 rfl _ alloc0Q ?_; intro W BN hle hB bn)
  have bk := (Box.new w 126 #[.int .i64 z]).below hB
  replace b0 := (b0.alloc (.cells #[.int .i64 z] 126)).below hB
  replace b1 := (b1.alloc (.cells #[.int .i64 z] 126)).below hB
  have hBw : Below n0 w W := ((Below.refl n0 w).alloc (by omega) _).trans (hB.mono (by simp; omega))
  have hle' : w.heap.size + 1 ≤ BN := by simpa using hle
  have hwW : w.heap.size < W.heap.size := bk.lt
  clear hle hB
  refine wp_region_noPanic ?_
  refine wp_region_held_drew (S := fun w' => w'.cell? ⟨w.heap.size, 0, none⟩ = some (.int .i64 z) ∧ Box w' BN 54 quot0) (by kernel_rfl) ⟨bk.drew.cell 0, bn.drew⟩ (fun hHeld => ?_)
  have hi := infoQ
  have hSt : ∀ (w' : World) (i : Nat) (u : Value), (w'.cell? ⟨w.heap.size, 0, none⟩ = some (.int .i64 z) ∧ Box w' BN 54 quot0) → ((w'.setCell ⟨B0, i, none⟩ u).cell? ⟨w.heap.size, 0, none⟩ = some (.int .i64 z) ∧ Box (w'.setCell ⟨B0, i, none⟩ u) BN 54 quot0) :=
    fun w' i u h => ⟨by rw [World.cell?_setCell_far _ _ _ _ (by simp; omega)]; exact h.1, h.2.other _ _ (by simp; omega)⟩
  replace hSt := Lib.hid hSt
  refine take_want 0 (some 17) rfl (by as_aux_lemma => kernel_rfl) (by as_aux_lemma => kernel_rfl) (by as_aux_lemma => kernel_rfl) rfl (fun _ _ _ h => h) (by rfl) (v := (.agg quot0)) (exec_load 54 _ rfl BN 0 rfl quot0 (fun w hS => hS.2.range) _ Tryz.underlying54 rfl hi) (by assumption) ?_
  simp only [Act.put, List.setIfInBounds_toArray, List.set_cons_zero, List.set_cons_succ]
  refine take_want 1 (some 18) rfl (by kernel_rfl) (by kernel_rfl) (by kernel_rfl) rfl (fun _ _ _ h => h) (by rfl) (v := ?_) ?_ (by assumption) ?_
  rotate_left
  · intro w hSw; (try dsimp only at hSw); go_simp; all_goals with_reducible rfl
  simp only [Act.put, List.setIfInBounds_toArray, List.set_cons_zero, List.set_cons_succ]
  refine take_want 2 (some 19) rfl (by kernel_rfl) (by kernel_rfl) (by kernel_rfl) rfl (fun _ _ _ h => h) (by rfl) (v := ?_) ?_ (by assumption) ?_
  rotate_left
  · intro w hSw; (try dsimp only at hSw); go_simp; all_goals with_reducible rfl
  simp only [Act.put, List.setIfInBounds_toArray, List.set_cons_zero, List.set_cons_succ]
  have b0d := b0.drew
  have b1d := b1.drew
  refine wpAnyH_storeK B0 54 3 rfl rfl rfl rfl 0 quot0 C0 quot0 (by kernel_rfl) hSt.out rfl rfl b0d hHeld hi (by rw [hC0]; decide) (by simp [quot0, Value.oneCell']) (whole_new (by rw [hC0]; rfl)) (fun W3 hk3 b3 hHeld3 => ?_)
  have b13 := hk3.box b1d (by simpa using b1.lt) (Ne.symm hne)
  have c13 := b13.cell
  have l13 := b13.lt
  have f13 := b13.frozen
  clear hSt
  refine wpAnyH_ready (rs := [4]) (by kernel_rfl) (by simp) ?_
  refine AllReadyH.cons rfl (fun K hK => ?_) AllReadyH.nil
  go_simp
  skip
  refine hK.out _ _ ?_ (fun hHeld => ?_)
  · first | exact (⟨by rw [World.cell?_setCell_far _ _ _ _ (by simp; omega)]; exact hHeld3.1, hHeld3.2.other _ _ (by simp; omega)⟩) | fail "keep"
  clear hK K
  try simp only [Act.put, List.setIfInBounds_toArray, List.set_cons_zero, List.set_cons_succ]
  refine wpAnyH_done (by kernel_rfl) ?_ _
  have e0 := b3.other ⟨B1, 0, none⟩ (.int .i64 z) hne
  have e1 := b13.set 0 (.int .i64 z)
  go_wp2
  subst hQ
  refine ⟨rfl, _, rfl, _, results_none rfl _ _ _, rfl, rfl, e0, e1, ?_⟩
  have hn0 : w.heap.size ≤ W3.heap.size := Nat.le_trans (by simp; omega) hk3.size
  have hk4 : Below n0 w W3 := ⟨hk3.os.trans hBw.os, hk3.tape.trans hBw.tape, hk3.output.trans hBw.output, hn0, fun k hk => (hk3.block k (by simp; omega) (by omega)).trans (hBw.block k hk)⟩
  exact hk4.setCell (p := ⟨B1, 0, none⟩) q1 _
set_option maxRecDepth 100000 in
set_option maxHeartbeats 1000000 in
theorem caughtQ_ret (g : Nat) (caps : Array Value) (eg : ∀ args w, (callFunc g args).run Tryz.prog w = .ok (.enter g args) w) (w : World) (Post : Array Value → World → Prop)
    (hst : ∀ C w1 w2 c0, Box w1 w.heap.size 54 c0 → Ext w1 w2 → Post C w1 → Post C w2)
    (hg : ∀ W, Below w.heap.size w W → w.heap.size + 2 ≤ W.heap.size → Calls Tryz.prog g caps W fun e w' => ∃ C, e = .returned (.agg C) ∧ C.size = 4 ∧ C.all (·.oneCell') = true ∧ Post C w' ∧ Below W.heap.size W w') :
    Calls Tryz.prog 74 #[.func (.func g) #[] caps] w fun e w' => ∃ C, e = .returned (.tuple #[.agg C, .int .i64 0]) ∧ C.size = 4 ∧ C.all (·.oneCell') = true ∧ Post C w' ∧ Below w.heap.size w w' := by
  have hmf : ∀ (fn : Fn) (first cap : Array Value) (w : World), (Instr.makeFunc fn first cap).run Tryz.prog w = .ok (.func fn first cap) w := fun _ _ _ _ => rfl
  go_enter_defers Tryz.func74, Tryz.ntmps74
  go_wp2_with fail
  refine boxes2c fun W hB hs b0 b1 => ?_
  refine (hg W hB hs).mono ?_
  rintro e W1 ⟨C, rfl, hC, h1, hp, hb⟩
  replace hB := belowCall hB hb
  replace b0 := b0.below hb
  replace b1 := b1.below hb
  have hi : (Tryz.prog.info? 54).map (·.size) = some C.size := by rw [hC]; exact infoQ
  have hne : w.heap.size ≠ w.heap.size + 1 := by omega
  go_wp2_with (refine wpList_store_box rfl 54 _ _ rfl w.heap.size 0 54 _ C C rfl rfl b0 hi (Nat.le_of_eq (by rw [hC]; rfl)) h1 (whole_new (by rw [hC]; rfl)) ?_; intro W2 hk2 b02; have b12 := hk2.box b1 b1.lt (Ne.symm hne); have c12 := b12.cell; have l12 := b12.lt; have f12 := b12.frozen)
  have e0 := b02.other ⟨w.heap.size + 1, 0, none⟩ (.int .i64 0) hne
  have e1 := b12.set 0 (.int .i64 0)
  have hx := (hk2.ext b0 (by decide)).set b12 (by decide) 0 (.int .i64 0)
  have eB : Below w.heap.size w (W2.setCell ⟨w.heap.size + 1, 0, none⟩ (.int .i64 0)) := (hk2.below hB (Nat.le_refl _) hB.size).setCell (p := ⟨w.heap.size + 1, 0, none⟩) (by simp) _
  refine leaves_cons (f := 123) (args := #[.pointer (some ⟨w.heap.size, 0, none⟩), .pointer (some ⟨w.heap.size + 1, 0, none⟩)]) (by simp) (by simp [go_sem]) ?_
  refine (idleQ _ _ _).mono ?_
  rintro e u' w'' ⟨rfl, rfl, rfl⟩
  have hc1 := e1.cell 0
  refine ⟨_, e0.results2 e1 rfl _ _ rfl rfl Tryz.underlying54 rfl hi (by simp [go_sem, hc1]), C, rfl, hC, h1, hst _ _ _ _ b0 hx hp, eB⟩
set_option maxRecDepth 100000 in
set_option maxHeartbeats 1000000 in
theorem caughtQ_panic (g : Nat) (caps : Array Value) (eg : ∀ args w, (callFunc g args).run Tryz.prog w = .ok (.enter g args) w) (z : Int) (w : World)
    (hg : ∀ W, Below w.heap.size w W → w.heap.size + 2 ≤ W.heap.size → Calls Tryz.prog g caps W fun e w' => e = .panicked [{ v := .iface 126 (.agg #[.int .i64 z]), recovered := false }] ∧ Below W.heap.size W w') :
    Calls Tryz.prog 74 #[.func (.func g) #[] caps] w fun e w' => e = .returned (.tuple #[.agg quot0, .int .i64 z]) ∧ Below w.heap.size w w' := by
  have hmf : ∀ (fn : Fn) (first cap : Array Value) (w : World), (Instr.makeFunc fn first cap).run Tryz.prog w = .ok (.func fn first cap) w := fun _ _ _ _ => rfl
  go_enter_defers Tryz.func74, Tryz.ntmps74
  go_wp2_with fail
  refine boxes2c fun W hB hs b0 b1 => ?_
  refine (hg W hB hs).mono ?_
  rintro e W1 ⟨rfl, hb⟩
  replace hB := belowCall hB hb
  replace b0 := b0.below hb
  replace b1 := b1.below hb
  have hne : w.heap.size ≠ w.heap.size + 1 := by omega
  refine leaves_cons (f := 123) (args := #[.pointer (some ⟨w.heap.size, 0, none⟩), .pointer (some ⟨w.heap.size + 1, 0, none⟩)]) (by simp) (by simp [go_sem]) ?_
  refine (catchQ _ _ z _ rfl _ W1 [] b0 b1 hne w.heap.size (Nat.le_refl _) (by omega)).mono ?_
  rintro e u' w'' ⟨rfl, rfl, e0, e1, eB⟩
  have hc1 := e1.cell 0
  refine ⟨_, e0.results2 e1 rfl _ _ rfl rfl Tryz.underlying54 rfl infoQ (by simp [go_sem, hc1]), rfl, hB.trans eB⟩
end Go.Proofs.YtepodcocemmejaaGreatDoor
