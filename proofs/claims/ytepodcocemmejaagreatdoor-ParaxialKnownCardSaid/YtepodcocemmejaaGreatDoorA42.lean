/- Part 42 of 52 of the proof that the law ParaxialKnown returns true, whatever stands in memory, if the two listed variables hold what the text lays: contracts of the functions that it reaches. No condition beside the row. -/
import Derived.Maps.OwnIn
import Derived.Maps.AppendAt
import Derived.OwnWalkIn
import Derived.RangeFuncBox
import Derived.Test.YtepodcocemmejaaGreatDoorA35
import Derived.Test.YtepodcocemmejaaGreatDoorA36
import Derived.Test.YtepodcocemmejaaGreatDoorA39
import Derived.Test.YtepodcocemmejaaGreatDoorA40
import Derived.Test.YtepodcocemmejaaGreatDoorA41
set_option linter.unusedVariables false
set_option linter.unusedSimpArgs false
namespace Go.Proofs.YtepodcocemmejaaGreatDoor
open Go.RowKit Go.Mono
theorem infoP : (Tryz.prog.info? 65).map (·.size) = some 8 := by kernel_rfl
theorem alloc0P (w : World) : (Instr.alloc 65 true (.tuple #[])).run Tryz.prog w = .ok (.pointer (some ⟨w.heap.size, 0, none⟩)) (w.alloc (.cells pen0 65)) := by
  unfold pen0
  go_simp
set_option maxRecDepth 100000 in
set_option maxHeartbeats 400000 in
theorem idleP (p q : Addr) (w : World) :
    CallsD Tryz.prog 106 #[.pointer (some p), .pointer (some q)] .returning w fun e u' w' => e = .returned (.tuple #[]) ∧ u' = .returning ∧ w' = w := by
  refine callsD_of_wpS Tryz.func106 rfl fun c₀ cs hu => ?_
  simp only [Tryz.ntmps106, List.size_toArray, List.length_cons, List.length_nil, Nat.reduceAdd, Nat.reduceSub, Array.replicate_succ, Array.replicate_zero, List.push_toArray, List.append_toArray, List.nil_append, List.cons_append]
  apply wpS_seq
  apply wpS_region
  simp [wpOpsS, go_sem, recoverD, hu, Exit.thenS]
  apply wpS_of_wp
  go_hide hQ
  go_wp2
  subst hQ
  cases c₀
  simp_all [bodyPostS, results, Tryz.results106]
set_option maxRecDepth 100000 in
set_option maxHeartbeats 1000000 in
theorem catchP (B0 B1 : Nat) (z : Int) (C0 : Array Value) (hC0 : C0.size = 8) (z1 : Int) (w : World) (older : List PanicEntry) (b0 : Box w B0 65 C0) (b1 : Box w B1 59 #[.int .i64 z1]) (hne : B0 ≠ B1) (n0 : Nat) (q0 : n0 ≤ B0) (q1 : n0 ≤ B1) :
    CallsD Tryz.prog 106 #[.pointer (some ⟨B0, 0, none⟩), .pointer (some ⟨B1, 0, none⟩)] (.panicking ({ v := .iface 126 (.agg #[.int .i64 z]), recovered := false } :: older)) w fun e u' w' =>
      e = .returned (.tuple #[]) ∧ u' = .panicking ({ v := .iface 126 (.agg #[.int .i64 z]), recovered := true } :: older) ∧ Box w' B0 65 pen0 ∧ Box w' B1 59 #[.int .i64 z] ∧ Below n0 w w' := by
  refine callsD_of_wpS Tryz.func106 rfl fun c₀ cs hu => ?_
  simp only [Tryz.ntmps106, List.size_toArray, List.length_cons, List.length_nil, Nat.reduceAdd, Nat.reduceSub, Array.replicate_succ, Array.replicate_zero, List.push_toArray, List.append_toArray, List.nil_append, List.cons_append]
  apply wpS_seq
  apply wpS_region
  simp [wpOpsS, go_sem, recoverD, hu, Exit.thenS]
  apply wpS_of_wp
  go_hide hQ
  have l0 := b0.lt
  have l1 := b1.lt
  have hta : ∀ w, (Instr.typeAssert (.iface 126 (.agg #[.int .i64 z])) 20 126 true).run Tryz.prog w = .ok (.tuple #[.agg #[.int .i64 z], .bool true]) w := fun _ => by kernel_rfl
  go_wp2_with (refine wpList_new rfl 65 rfl _ alloc0P ?_; intro W BN hle hB bn)
  have bk := (Box.new w 126 #[.int .i64 z]).below hB
  replace b0 := (b0.alloc (.cells #[.int .i64 z] 126)).below hB
  replace b1 := (b1.alloc (.cells #[.int .i64 z] 126)).below hB
  have hBw : Below n0 w W := ((Below.refl n0 w).alloc (by omega) _).trans (hB.mono (by simp; omega))
  have hle' : w.heap.size + 1 ≤ BN := by simpa using hle
  have hwW : w.heap.size < W.heap.size := bk.lt
  clear hle hB
  refine wp_region_noPanic ?_
  refine wp_region_held_drew (S := fun w' => w'.cell? ⟨w.heap.size, 0, none⟩ = some (.int .i64 z) ∧ Box w' BN 65 pen0) (by kernel_rfl) ⟨bk.drew.cell 0, bn.drew⟩ (fun hHeld => ?_)
  have hi := infoP
  have hSt : ∀ (w' : World) (i : Nat) (u : Value), (w'.cell? ⟨w.heap.size, 0, none⟩ = some (.int .i64 z) ∧ Box w' BN 65 pen0) → ((w'.setCell ⟨B0, i, none⟩ u).cell? ⟨w.heap.size, 0, none⟩ = some (.int .i64 z) ∧ Box (w'.setCell ⟨B0, i, none⟩ u) BN 65 pen0) :=
    fun w' i u h => ⟨by rw [World.cell?_setCell_far _ _ _ _ (by simp; omega)]; exact h.1, h.2.other _ _ (by simp; omega)⟩
  replace hSt := Lib.hid hSt
  refine take_want 0 (some 17) rfl (by as_aux_lemma => kernel_rfl) (by as_aux_lemma => kernel_rfl) (by as_aux_lemma => kernel_rfl) rfl (fun _ _ _ h => h) (by rfl) (v := (.agg pen0)) (exec_load 65 _ rfl BN 0 rfl pen0 (fun w hS => hS.2.range) _ Tryz.underlying65 rfl hi) (by assumption) ?_
  simp only [Act.put, List.setIfInBounds_toArray, List.set_cons_zero, List.set_cons_succ]
  refine take_want 1 (some 18) rfl (by kernel_rfl) (by kernel_rfl) (by kernel_rfl) rfl (fun _ _ _ h => h) (by rfl) (v := ?_) ?_ (by assumption) ?_
  rotate_left
  · intro w hSw; (try dsimp only at hSw); go_simp; all_goals with_reducible rfl
  simp only [Act.put, List.setIfInBounds_toArray, List.set_cons_zero, List.set_cons_succ]
  refine take_want 2 (some 19) rfl (by kernel_rfl) (by kernel_rfl) (by kernel_rfl) rfl (fun _ _ _ h => h) (by rfl) (v := ?_) ?_ (by assumption) ?_
  rotate_left
  · intro w hSw; (try dsimp only at hSw); go_simp; all_goals with_reducible rfl
  simp only [Act.put, List.setIfInBounds_toArray, List.set_cons_zero, List.set_cons_succ]
  have b0d := b0.drew
  have b1d := b1.drew
  refine wpAnyH_storeK B0 65 3 rfl rfl rfl rfl 0 pen0 C0 pen0 (by kernel_rfl) hSt.out rfl rfl b0d hHeld hi (by rw [hC0]; decide) (by simp [pen0, Value.oneCell']) (whole_new (by rw [hC0]; rfl)) (fun W3 hk3 b3 hHeld3 => ?_)
  have b13 := hk3.box b1d (by simpa using b1.lt) (Ne.symm hne)
  have c13 := b13.cell
  have l13 := b13.lt
  have f13 := b13.frozen
  clear hSt
  refine wpAnyH_ready (rs := [4]) (by kernel_rfl) (by simp) ?_
  refine AllReadyH.cons rfl (fun K hK => ?_) AllReadyH.nil
  go_simp
  skip
  refine hK.out _ _ ?_ (fun hHeld => ?_)
  · first | exact (⟨by rw [World.cell?_setCell_far _ _ _ _ (by simp; omega)]; exact hHeld3.1, hHeld3.2.other _ _ (by simp; omega)⟩) | fail "keep"
  clear hK K
  try simp only [Act.put, List.setIfInBounds_toArray, List.set_cons_zero, List.set_cons_succ]
  refine wpAnyH_done (by kernel_rfl) ?_ _
  have e0 := b3.other ⟨B1, 0, none⟩ (.int .i64 z) hne
  have e1 := b13.set 0 (.int .i64 z)
  go_wp2
  subst hQ
  refine ⟨rfl, _, rfl, _, results_none rfl _ _ _, rfl, rfl, e0, e1, ?_⟩
  have hn0 : w.heap.size ≤ W3.heap.size := Nat.le_trans (by simp; omega) hk3.size
  have hk4 : Below n0 w W3 := ⟨hk3.os.trans hBw.os, hk3.tape.trans hBw.tape, hk3.output.trans hBw.output, hn0, fun k hk => (hk3.block k (by simp; omega) (by omega)).trans (hBw.block k hk)⟩
  exact hk4.setCell (p := ⟨B1, 0, none⟩) q1 _
set_option maxRecDepth 100000 in
set_option maxHeartbeats 1000000 in
theorem caughtP_ret (g : Nat) (caps : Array Value) (eg : ∀ args w, (callFunc g args).run Tryz.prog w = .ok (.enter g args) w) (w : World) (Post : Array Value → World → Prop)
    (hst : ∀ C w1 w2 c0, Box w1 w.heap.size 65 c0 → Ext w1 w2 → Post C w1 → Post C w2)
    (hg : ∀ W, Below w.heap.size w W → w.heap.size + 2 ≤ W.heap.size → Calls Tryz.prog g caps W fun e w' => ∃ C, e = .returned (.agg C) ∧ C.size = 8 ∧ C.all (·.oneCell') = true ∧ Post C w' ∧ Below W.heap.size W w') :
    Calls Tryz.prog 61 #[.func (.func g) #[] caps] w fun e w' => ∃ C, e = .returned (.tuple #[.agg C, .int .i64 0]) ∧ C.size = 8 ∧ C.all (·.oneCell') = true ∧ Post C w' ∧ Below w.heap.size w w' := by
  have hmf : ∀ (fn : Fn) (first cap : Array Value) (w : World), (Instr.makeFunc fn first cap).run Tryz.prog w = .ok (.func fn first cap) w := fun _ _ _ _ => rfl
  go_enter_defers Tryz.func61, Tryz.ntmps61
  go_wp2_with fail
  refine boxes2c fun W hB hs b0 b1 => ?_
  refine (hg W hB hs).mono ?_
  rintro e W1 ⟨C, rfl, hC, h1, hp, hb⟩
  replace hB := belowCall hB hb
  replace b0 := b0.below hb
  replace b1 := b1.below hb
  have hi : (Tryz.prog.info? 65).map (·.size) = some C.size := by rw [hC]; exact infoP
  have hne : w.heap.size ≠ w.heap.size + 1 := by omega
  go_wp2_with (refine wpList_store_box rfl 65 _ _ rfl w.heap.size 0 65 _ C C rfl rfl b0 hi (Nat.le_of_eq (by rw [hC]; rfl)) h1 (whole_new (by rw [hC]; rfl)) ?_; intro W2 hk2 b02; have b12 := hk2.box b1 b1.lt (Ne.symm hne); have c12 := b12.cell; have l12 := b12.lt; have f12 := b12.frozen)
  have e0 := b02.other ⟨w.heap.size + 1, 0, none⟩ (.int .i64 0) hne
  have e1 := b12.set 0 (.int .i64 0)
  have hx := (hk2.ext b0 (by decide)).set b12 (by decide) 0 (.int .i64 0)
  have eB : Below w.heap.size w (W2.setCell ⟨w.heap.size + 1, 0, none⟩ (.int .i64 0)) := (hk2.below hB (Nat.le_refl _) hB.size).setCell (p := ⟨w.heap.size + 1, 0, none⟩) (by simp) _
  refine leaves_cons (f := 106) (args := #[.pointer (some ⟨w.heap.size, 0, none⟩), .pointer (some ⟨w.heap.size + 1, 0, none⟩)]) (by simp) (by simp [go_sem]) ?_
  refine (idleP _ _ _).mono ?_
  rintro e u' w'' ⟨rfl, rfl, rfl⟩
  have hc1 := e1.cell 0
  refine ⟨_, e0.results2 e1 rfl _ _ rfl rfl Tryz.underlying65 rfl hi (by simp [go_sem, hc1]), C, rfl, hC, h1, hst _ _ _ _ b0 hx hp, eB⟩
set_option maxRecDepth 100000 in
set_option maxHeartbeats 1000000 in
theorem caughtP_panic (g : Nat) (caps : Array Value) (eg : ∀ args w, (callFunc g args).run Tryz.prog w = .ok (.enter g args) w) (z : Int) (w : World)
    (hg : ∀ W, Below w.heap.size w W → w.heap.size + 2 ≤ W.heap.size → Calls Tryz.prog g caps W fun e w' => e = .panicked [{ v := .iface 126 (.agg #[.int .i64 z]), recovered := false }] ∧ Below W.heap.size W w') :
    Calls Tryz.prog 61 #[.func (.func g) #[] caps] w fun e w' => e = .returned (.tuple #[.agg pen0, .int .i64 z]) ∧ Below w.heap.size w w' := by
  have hmf : ∀ (fn : Fn) (first cap : Array Value) (w : World), (Instr.makeFunc fn first cap).run Tryz.prog w = .ok (.func fn first cap) w := fun _ _ _ _ => rfl
  go_enter_defers Tryz.func61, Tryz.ntmps61
  go_wp2_with fail
  refine boxes2c fun W hB hs b0 b1 => ?_
  refine (hg W hB hs).mono ?_
  rintro e W1 ⟨rfl, hb⟩
  replace hB := belowCall hB hb
  replace b0 := b0.below hb
  replace b1 := b1.below hb
  have hne : w.heap.size ≠ w.heap.size + 1 := by omega
  refine leaves_cons (f := 106) (args := #[.pointer (some ⟨w.heap.size, 0, none⟩), .pointer (some ⟨w.heap.size + 1, 0, none⟩)]) (by simp) (by simp [go_sem]) ?_
  refine (catchP _ _ z _ rfl _ W1 [] b0 b1 hne w.heap.size (Nat.le_refl _) (by omega)).mono ?_
  rintro e u' w'' ⟨rfl, rfl, e0, e1, eB⟩
  have hc1 := e1.cell 0
  refine ⟨_, e0.results2 e1 rfl _ _ rfl rfl Tryz.underlying65 rfl infoP (by simp [go_sem, hc1]), rfl, hB.trans eB⟩
end Go.Proofs.YtepodcocemmejaaGreatDoor
namespace Go.Proofs.YtepodcocemmejaaGreatDoor
open Go.RowKit Go.Mono
set_option maxRecDepth 100000 in
set_option maxHeartbeats 400000 in
theorem idleS (p q : Addr) (w : World) :
    CallsD Tryz.prog 107 #[.pointer (some p), .pointer (some q)] .returning w fun e u' w' => e = .returned (.tuple #[]) ∧ u' = .returning ∧ w' = w := by
  refine callsD_of_wpS Tryz.func107 rfl fun c₀ cs hu => ?_
  simp only [Tryz.ntmps107, List.size_toArray, List.length_cons, List.length_nil, Nat.reduceAdd, Nat.reduceSub, Array.replicate_succ, Array.replicate_zero, List.push_toArray, List.append_toArray, List.nil_append, List.cons_append]
  apply wpS_seq
  apply wpS_region
  simp [wpOpsS, go_sem, recoverD, hu, Exit.thenS]
  apply wpS_of_wp
  go_hide hQ
  go_wp2
  subst hQ
  cases c₀
  simp_all [bodyPostS, results, Tryz.results107]
set_option maxRecDepth 100000 in
set_option maxHeartbeats 400000 in
theorem catchS (B0 B1 : Nat) (z : Int) (v0 : Value) (z1 : Int) (w : World) (older : List PanicEntry) (b0 : Box w B0 71 #[v0]) (b1 : Box w B1 59 #[.int .i64 z1]) (hne : B0 ≠ B1) (n0 : Nat) (q0 : n0 ≤ B0) (q1 : n0 ≤ B1) :
    CallsD Tryz.prog 107 #[.pointer (some ⟨B0, 0, none⟩), .pointer (some ⟨B1, 0, none⟩)] (.panicking ({ v := .iface 126 (.agg #[.int .i64 z]), recovered := false } :: older)) w fun e u' w' =>
      e = .returned (.tuple #[]) ∧ u' = .panicking ({ v := .iface 126 (.agg #[.int .i64 z]), recovered := true } :: older) ∧ Box w' B0 71 #[.slice none 0 0] ∧ Box w' B1 59 #[.int .i64 z] ∧ Below n0 w w' := by
  refine callsD_of_wpS Tryz.func107 rfl fun c₀ cs hu => ?_
  simp only [Tryz.ntmps107, List.size_toArray, List.length_cons, List.length_nil, Nat.reduceAdd, Nat.reduceSub, Array.replicate_succ, Array.replicate_zero, List.push_toArray, List.append_toArray, List.nil_append, List.cons_append]
  apply wpS_seq
  apply wpS_region
  simp [wpOpsS, go_sem, recoverD, hu, Exit.thenS]
  apply wpS_of_wp
  go_hide hQ
  have c0 := b0.cell
  have f0 := b0.frozen
  have l0 := b0.lt
  have c1 := b1.cell
  have f1 := b1.frozen
  have l1 := b1.lt
  have hta : ∀ w, (Instr.typeAssert (.iface 126 (.agg #[.int .i64 z])) 20 126 true).run Tryz.prog w = .ok (.tuple #[.agg #[.int .i64 z], .bool true]) w := fun _ => by kernel_rfl
  go_wp2
  refine wp_region_noPanic ?_
  have l0' : B0 ≠ w.heap.size := by omega
  have l1' : B1 ≠ w.heap.size := by omega
  refine wp_region_held_drew (S := fun w' => w'.cell? ⟨w.heap.size, 0, none⟩ = some (.int .i64 z)) (by kernel_rfl) (by simp [World.cell?_alloc_new]) (fun hHeld => ?_)
  refine take_want 0 (some 17) rfl (by kernel_rfl) (by kernel_rfl) (by kernel_rfl) rfl (fun _ _ _ h => h) (by rfl) (v := ?_) ?_ (by assumption) ?_
  rotate_left
  · intro w hSw; (try dsimp only at hSw); go_simp; all_goals with_reducible rfl
  simp only [Act.put, List.setIfInBounds_toArray, List.set_cons_zero, List.set_cons_succ]
  refine take_want 1 (some 18) rfl (by kernel_rfl) (by kernel_rfl) (by kernel_rfl) rfl (fun _ _ _ h => h) (by rfl) (v := ?_) ?_ (by assumption) ?_
  rotate_left
  · intro w hSw; (try dsimp only at hSw); go_simp; all_goals with_reducible rfl
  simp only [Act.put, List.setIfInBounds_toArray, List.set_cons_zero, List.set_cons_succ]
  refine take_want 2 (some 19) rfl (by kernel_rfl) (by kernel_rfl) (by kernel_rfl) rfl (fun _ _ _ h => h) (by rfl) (v := ?_) ?_ (by assumption) ?_
  rotate_left
  · intro w hSw; (try dsimp only at hSw); go_simp; all_goals with_reducible rfl
  simp only [Act.put, List.setIfInBounds_toArray, List.set_cons_zero, List.set_cons_succ]
  refine wpAnyH_ready (rs := [3]) (by kernel_rfl) (by simp) ?_
  refine AllReadyH.cons rfl (fun K hK => ?_) AllReadyH.nil
  go_simp
  skip
  refine hK.out _ _ ?_ (fun hHeld => ?_)
  · first | exact (cell_new_at _ _ (by simp) _ _) | fail "keep"
  clear hK K
  try simp only [Act.put, List.setIfInBounds_toArray, List.set_cons_zero, List.set_cons_succ]
  refine wpAnyH_ready (rs := [4]) (by kernel_rfl) (by simp) ?_
  refine AllReadyH.cons rfl (fun K hK => ?_) AllReadyH.nil
  go_simp
  skip
  refine hK.out _ _ ?_ (fun hHeld => ?_)
  · first | exact (cell_new_at _ _ (by simp) _ _) | fail "keep"
  clear hK K
  try simp only [Act.put, List.setIfInBounds_toArray, List.set_cons_zero, List.set_cons_succ]
  refine wpAnyH_done (by kernel_rfl) ?_ _
  have e0 := (((b0.set 0 (.slice none 0 0)).other ⟨B1, 0, none⟩ (.int .i64 z) hne).alloc (.cells #[.int .i64 z] 126)).drew
  have e1 := (((b1.other ⟨B0, 0, none⟩ (.slice none 0 0) (Ne.symm hne)).set 0 (.int .i64 z)).alloc (.cells #[.int .i64 z] 126)).drew
  go_wp2
  subst hQ
  refine ⟨rfl, _, rfl, _, results_none rfl _ _ _, rfl, rfl, e0, e1, ?_⟩
  exact ((((Below.refl n0 w).setCell (p := ⟨B0, 0, none⟩) q0 _).setCell (p := ⟨B1, 0, none⟩) q1 _).alloc (by simp; omega) _).drew
set_option maxRecDepth 100000 in
set_option maxHeartbeats 1000000 in
theorem caughtS_ret (g : Nat) (caps : Array Value) (eg : ∀ args w, (callFunc g args).run Tryz.prog w = .ok (.enter g args) w) (w : World) (Post : Value → World → Prop)
    (hst : ∀ v w1 u0 u1 c0 c1, Box w1 w.heap.size 71 c0 → Box w1 (w.heap.size + 1) 59 c1 → Post v w1 → Post v ((w1.setCell ⟨w.heap.size, 0, none⟩ u0).setCell ⟨w.heap.size + 1, 0, none⟩ u1))
    (hg : ∀ W, Below w.heap.size w W → w.heap.size + 2 ≤ W.heap.size → Calls Tryz.prog g caps W fun e w' => ∃ p n c, e = .returned (.slice p n c) ∧ Post (.slice p n c) w' ∧ Below W.heap.size W w') :
    Calls Tryz.prog 64 #[.func (.func g) #[] caps] w fun e w' => ∃ p n c, e = .returned (.tuple #[.slice p n c, .int .i64 0]) ∧ Post (.slice p n c) w' ∧ Below w.heap.size w w' := by
  have hmf : ∀ (fn : Fn) (first cap : Array Value) (w : World), (Instr.makeFunc fn first cap).run Tryz.prog w = .ok (.func fn first cap) w := fun _ _ _ _ => rfl
  go_enter_defers Tryz.func64, Tryz.ntmps64
  go_wp2_with fail
  refine boxes2c fun W hB hs b0 b1 => ?_
  refine (hg W hB hs).mono ?_
  rintro e W1 ⟨p, n, c, rfl, hp, hb⟩
  replace hB := belowCall hB hb
  replace b0 := b0.below hb
  replace b1 := b1.below hb
  have c0 := b0.cell
  have f0 := b0.frozen
  have c1 := b1.cell
  have f1 := b1.frozen
  have hne : w.heap.size ≠ w.heap.size + 1 := by omega
  go_wp2
  have e0 := ((b0.set 0 (.slice p n c)).other ⟨w.heap.size + 1, 0, none⟩ (.int .i64 0) hne).cell 0
  have e1 := ((b1.other ⟨w.heap.size, 0, none⟩ (.slice p n c) (Ne.symm hne)).set 0 (.int .i64 0)).cell 0
  have eB : Below w.heap.size w ((W1.setCell ⟨w.heap.size, 0, none⟩ (.slice p n c)).setCell ⟨w.heap.size + 1, 0, none⟩ (.int .i64 0)) := (hB.setCell (p := ⟨w.heap.size, 0, none⟩) (Nat.le_refl _) _).setCell (p := ⟨w.heap.size + 1, 0, none⟩) (by simp) _
  refine leaves_cons (f := 107) (args := #[.pointer (some ⟨w.heap.size, 0, none⟩), .pointer (some ⟨w.heap.size + 1, 0, none⟩)]) (by simp) (by simp [go_sem]) ?_
  refine (idleS _ _ _).mono ?_
  rintro e u' w'' ⟨rfl, rfl, rfl⟩
  refine ⟨_, by simp [results, Tryz.results64, go_sem, e0, e1], p, n, c, rfl, hst _ _ _ _ _ _ b0 b1 hp, eB⟩
set_option maxRecDepth 100000 in
set_option maxHeartbeats 1000000 in
theorem caughtS_panic (g : Nat) (caps : Array Value) (eg : ∀ args w, (callFunc g args).run Tryz.prog w = .ok (.enter g args) w) (z : Int) (w : World)
    (hg : ∀ W, Below w.heap.size w W → w.heap.size + 2 ≤ W.heap.size → Calls Tryz.prog g caps W fun e w' => e = .panicked [{ v := .iface 126 (.agg #[.int .i64 z]), recovered := false }] ∧ Below W.heap.size W w') :
    Calls Tryz.prog 64 #[.func (.func g) #[] caps] w fun e w' => e = .returned (.tuple #[.slice none 0 0, .int .i64 z]) ∧ Below w.heap.size w w' := by
  have hmf : ∀ (fn : Fn) (first cap : Array Value) (w : World), (Instr.makeFunc fn first cap).run Tryz.prog w = .ok (.func fn first cap) w := fun _ _ _ _ => rfl
  go_enter_defers Tryz.func64, Tryz.ntmps64
  go_wp2_with fail
  refine boxes2c fun W hB hs b0 b1 => ?_
  refine (hg W hB hs).mono ?_
  rintro e W1 ⟨rfl, hb⟩
  replace hB := belowCall hB hb
  replace b0 := b0.below hb
  replace b1 := b1.below hb
  have hne : w.heap.size ≠ w.heap.size + 1 := by omega
  refine leaves_cons (f := 107) (args := #[.pointer (some ⟨w.heap.size, 0, none⟩), .pointer (some ⟨w.heap.size + 1, 0, none⟩)]) (by simp) (by simp [go_sem]) ?_
  refine (catchS _ _ z _ _ W1 [] b0 b1 hne w.heap.size (Nat.le_refl _) (by omega)).mono ?_
  rintro e u' w'' ⟨rfl, rfl, e0, e1, eB⟩
  have c0 := e0.cell 0
  have c1 := e1.cell 0
  refine ⟨_, by simp [results, Tryz.results64, go_sem, c0, c1], rfl, hB.trans eB⟩
end Go.Proofs.YtepodcocemmejaaGreatDoor
namespace Go.Mono
open Go.RowKit
theorem Box.ne {w : World} {B B' : Nat} {T T' : TypeId} {cs cs' : Array Value} (b : Box w B T cs) (b' : Box w B' T' cs') (h : T ≠ T') : B ≠ B' := by
  rintro rfl
  have e := b.blk.symm.trans b'.blk
  simp at e
  exact h e.2
theorem ownsRow_same {W W' : World} {base : Nat} {e : TypeId} {size n : Nat} {v : Value} {xs : List Value} (h : W.ownsRow base e size v n xs) (hs : ∀ g, v.ownBlock = some g → W'.heap[g]? = W.heap[g]?) : W'.ownsRow base e size v n xs := by
  refine ⟨h.1, ?_⟩
  rcases h.2 with h2 | ⟨g, cap, cur, hv, hb, hg, h3⟩
  · exact .inl h2
  · exact .inr ⟨g, cap, cur, hv, hb, (hs g (by rw [hv]; rfl)).trans hg, h3⟩
theorem ownsRow_lt {W : World} {base : Nat} {e : TypeId} {size n : Nat} {v : Value} {xs : List Value} (h : W.ownsRow base e size v n xs) {g : Nat} (hg : v.ownBlock = some g) : g < W.heap.size ∧ base ≤ g ∧ ∃ cur, Box W g e cur := by
  rcases h.2 with ⟨rfl, _⟩ | ⟨g', cap, cur, rfl, hb, hgb, _⟩
  · cases hg
  · obtain rfl : g' = g := by simpa [Value.ownBlock] using hg
    exact ⟨lt_of_some hgb, hb, cur, ⟨hgb⟩⟩
theorem ownsRow_below {W W' : World} {base : Nat} {e : TypeId} {size n : Nat} {v : Value} {xs : List Value} (h : W.ownsRow base e size v n xs) (hB : Below W.heap.size W W') : W'.ownsRow base e size v n xs :=
  ownsRow_same h fun g hg => hB.block g (ownsRow_lt h hg).1
theorem ownsRow_keep {W W' : World} {base : Nat} {e : TypeId} {size n : Nat} {v : Value} {xs : List Value} (h : W.ownsRow base e size v n xs) {R : Nat} {T : TypeId} {cs : Array Value} (b : Box W R T cs) (hT : T ≠ e) (hk : KeepBut R W.heap.size W W') : W'.ownsRow base e size v n xs :=
  ownsRow_same h fun g hg => by
    obtain ⟨h1, _, cur, h3⟩ := ownsRow_lt h hg
    exact hk.block g h1 (fun e' => Box.ne b h3 hT e'.symm)
/-- behind the append: other boxes -/
theorem Box.appended {W W' : World} {base : Nat} {e : TypeId} {size n : Nat} {v : Value} {xs : List Value} (h : W.ownsRow base e size v n xs) (hg : W.grownBy W' v.ownBlock) {B : Nat} {T : TypeId} {cs : Array Value} (b : Box W B T cs) (hT : T ≠ e) : Box W' B T cs := by
  obtain ⟨_, _, _, _, hb⟩ := hg
  refine ⟨(hb B b.lt fun e' => ?_).trans b.blk⟩
  obtain ⟨_, _, cur, h3⟩ := ownsRow_lt h e'.symm
  exact Box.ne b h3 hT rfl
theorem Ext.appended {W W' : World} {base : Nat} {e : TypeId} {size n : Nat} {v : Value} {xs : List Value} (h : W.ownsRow base e size v n xs) (hg : W.grownBy W' v.ownBlock) (he : e ≠ 3) : Ext W W' := by
  obtain ⟨_, _, _, hsz, hb⟩ := hg
  refine ⟨hsz, fun k cs fr hk => (hb k (lt_of_some hk) fun e' => ?_).trans hk⟩
  obtain ⟨_, _, cur, h3⟩ := ownsRow_lt h e'.symm
  have := h3.blk.symm.trans hk
  simp at this
  exact he this.2.1
theorem Below.appended {W W' : World} {base : Nat} {e : TypeId} {size n : Nat} {v : Value} {xs : List Value} (h : W.ownsRow base e size v n xs) (hg : W.grownBy W' v.ownBlock) {w : World} (hB : Below w.heap.size w W) (hb : w.heap.size ≤ base) : Below w.heap.size w W' :=
  hB.grown hg hB.size fun k e' => by have := (ownsRow_lt h e').2.1; omega
theorem KeepsOthers.appended {W W' : World} {base : Nat} {e : TypeId} {size n : Nat} {v : Value} {xs : List Value} (h : W.ownsRow base e size v n xs) (hg : W.grownBy W' v.ownBlock) : KeepsOthers W W' := by
  obtain ⟨_, _, _, hsz, hb⟩ := hg
  refine ⟨hsz, fun k o hk ho => (hb k (lt_of_some hk) fun e' => ?_).trans hk⟩
  obtain ⟨_, _, cur, h3⟩ := ownsRow_lt h e'.symm
  have := h3.blk.symm.trans hk
  cases (Option.some.inj this)
  cases ho
theorem KeepsOthers.keepBut {W W' : World} {R : Nat} {T : TypeId} {cs : Array Value} (b : Box W R T cs) (hk : KeepBut R W.heap.size W W') : KeepsOthers W W' :=
  ⟨hk.size, fun k o ho hc => (hk.block k (lt_of_some ho) fun e => by
    subst e
    have := b.blk.symm.trans ho
    cases (Option.some.inj this)
    cases hc).trans ho⟩
theorem RayAt.below {w w' : World} {R : Nat} {T : TypeId} {y u : Rat} (h : RayAt w R T y u) (hB : Below w.heap.size w w') : RayAt w' R T y u := by
  obtain ⟨p, k, c, p', k', c', r, l, d, r', l', d', b, q1, q2⟩ := h
  exact ⟨p, k, c, p', k', c', r, l, d, r', l', d', b.below hB, q1.ext (.of_below hB), q2.ext (.of_below hB)⟩
theorem Ext.grownNo {W W' : World} {row : Option Nat} (hg : W.grownBy W' row) (hr : ∀ r, row = some r → ∃ o : Obj, W.heap[r]? = some o ∧ o.isCells = false) : Ext W W' := by
  obtain ⟨_, _, _, hsz, hb⟩ := hg
  refine ⟨hsz, fun k cs fr hk => (hb k (lt_of_some hk) fun e' => ?_).trans hk⟩
  obtain ⟨o, ho, hc⟩ := hr k e'.symm
  rw [hk] at ho
  cases ho
  cases hc
theorem RayAt.grown {w w' : World} {R : Nat} {T : TypeId} {y u : Rat} (h : RayAt w R T y u) {row : Option Nat} (hg : w.grownBy w' row) (hr : ∀ r, row = some r → ∃ o : Obj, w.heap[r]? = some o ∧ o.isCells = false) : RayAt w' R T y u := by
  obtain ⟨p, k, c, p', k', c', r, l, d, r', l', d', b, q1, q2⟩ := h
  exact ⟨p, k, c, p', k', c', r, l, d, r', l', d', b.grown hg hr, q1.ext (.grownNo hg hr), q2.ext (.grownNo hg hr)⟩
theorem ownsRow_grown {W W' : World} {base : Nat} {e : TypeId} {size n : Nat} {v : Value} {xs : List Value} (h : W.ownsRow base e size v n xs) {row : Option Nat} (hg : W.grownBy W' row) (hr : ∀ r, row = some r → ∃ o : Obj, W.heap[r]? = some o ∧ o.isCells = false) : W'.ownsRow base e size v n xs := by
  obtain ⟨_, _, _, hsz, hb⟩ := hg
  refine ownsRow_same h fun g hgv => hb g (ownsRow_lt h hgv).1 fun e' => ?_
  obtain ⟨_, _, cur, h3⟩ := ownsRow_lt h hgv
  obtain ⟨o, ho, hc⟩ := hr g e'.symm
  rw [h3.blk] at ho
  cases ho
  cases hc
/-- a pencil's cells -/
def PenQ (w : World) (C : Array Value) (x : Rat × Rat) : Prop :=
  ∃ p k c p' k' c' r l d r' l' d', C = #[.bool (decide (x.1.num < 0)), .slice p k c, .bool false, .slice p' k' c', .bool (decide (x.2.num < 0)), .slice r l d, .bool false, .slice r' l' d'] ∧
    QV w (.agg #[.bool (decide (x.1.num < 0)), .slice p k c, .bool false, .slice p' k' c']) x.1 ∧ QV w (.agg #[.bool (decide (x.2.num < 0)), .slice r l d, .bool false, .slice r' l' d']) x.2
theorem PenQ.ext {w w' : World} {C : Array Value} {x : Rat × Rat} (h : PenQ w C x) (hx : Ext w w') : PenQ w' C x := by
  obtain ⟨p, k, c, p', k', c', r, l, d, r', l', d', e, q1, q2⟩ := h
  exact ⟨p, k, c, p', k', c', r, l, d, r', l', d', e, q1.ext hx, q2.ext hx⟩
/-- the ray behind s surfaces -/
def Lns.tr (a : Lns) (k : Nat) (y u : Rat) : Nat → Rat × Rat
  | 0 => (y, u)
  | s + 1 =>
    let r := a.tr k y u s
    let y2 := if s = 0 then r.1 else r.1 + (Rat.divInt (1 * (a.S (s - 1)).thick) 1000000 * r.2) / a.nI k (s - 1)
    (y2, r.2 - Rat.divInt 1 1 * (y2 * a.pow k s))
end Go.Mono
namespace Go.Mono
open Go.RowKit
/-- the cells of the pencils so far -/
def pens (C : Nat → Array Value) (i : Nat) : List Value := (List.range i).flatMap fun j => (C j).toList
theorem pens_succ (C : Nat → Array Value) (i : Nat) : pens C (i + 1) = pens C i ++ (C i).toList := by simp [pens, List.range_succ]
theorem pens_length (C : Nat → Array Value) (i : Nat) (h : ∀ j, j < i → (C j).size = 8) : (pens C i).length = i * 8 := by
  induction i with
  | zero => rfl
  | succ i ih => rw [pens_succ, List.length_append, ih (fun j hj => h j (by omega)), Array.length_toList, h i (by omega)]; omega
theorem pens_congr (C D : Nat → Array Value) (i : Nat) (h : ∀ j, j < i → C j = D j) : pens C i = pens D i := by
  induction i with
  | zero => rfl
  | succ i ih => rw [pens_succ, pens_succ, ih (fun j hj => h j (by omega)), h i (by omega)]
theorem pens_get (C : Nat → Array Value) (n : Nat) (h : ∀ j, j < n → (C j).size = 8) (i j : Nat) (hi : i < n) (hj : j < 8) : (pens C n)[i * 8 + j]? = some ((C i).getD j undef) := by
  induction n with
  | zero => omega
  | succ n ih =>
    have hl := pens_length C n (fun j hj => h j (by omega))
    rw [pens_succ]
    by_cases hin : i < n
    · rw [List.getElem?_append_left (by omega)]
      exact ih (fun j hj => h j (by omega)) hin
    · obtain rfl : i = n := by omega
      have hs := h i hi
      rw [List.getElem?_append_right (by omega), hl, show i * 8 + j - i * 8 = j by omega, Array.getElem?_toList, Array.getD_eq_getD_getElem?, Array.getElem?_eq_getElem (by omega)]
      rfl
theorem ownsRow_rd {w : World} {base g n cap : Nat} {e : TypeId} {C : Nat → Array Value} (h : w.ownsRow base e 8 (.slice (some ⟨g, 0, none⟩) n cap) n (pens C n)) (hC : ∀ j, j < n → (C j).size = 8) (hn : n ≤ 140737488351232) : RdC w (some ⟨g, 0, none⟩) n cap 8 (fun i j => (C i).getD j undef) := by
  obtain ⟨hl, h⟩ := h
  rcases h with ⟨h1, _⟩ | ⟨g', cap', cur, hv, hb, hg, h1, h2, h3, h4⟩
  · cases h1
  · cases hv
    refine ⟨h1, hn, fun _ => ⟨g, 0, rfl, lt_of_some hg, fun i j hi hj => ?_⟩⟩
    have hc := (Box.mk hg).cell (0 + i * 8 + j)
    rw [hc, ← Array.getElem?_toList]
    have := pens_get C n hC i j hi hj
    rw [← h4, List.getElem?_take_of_lt (by omega)] at this
    rw [Nat.zero_add]
    exact this
theorem Lns.tr_one (a : Lns) (k : Nat) (y u : Rat) : a.tr k y u (0 + 1) = (y, u - Rat.divInt 1 1 * (y * a.pow k 0)) := by
  rw [Lns.tr]; rfl
theorem Lns.tr_next (a : Lns) (k : Nat) (y u : Rat) (t : Nat) : a.tr k y u (t + 1 + 1) = ((a.tr k y u (t + 1)).1 + (Rat.divInt (1 * (a.S t).thick) 1000000 * (a.tr k y u (t + 1)).2) / a.nI k t, (a.tr k y u (t + 1)).2 - Rat.divInt 1 1 * (((a.tr k y u (t + 1)).1 + (Rat.divInt (1 * (a.S t).thick) 1000000 * (a.tr k y u (t + 1)).2) / a.nI k t) * a.pow k (t + 1))) := by
  rw [Lns.tr]; simp only [Nat.add_one_ne_zero, if_false, Nat.add_sub_cancel]
/-- n pencils lie in a row of their own -/
def PensAt (w : World) (base : Nat) (T : TypeId) (p : Option Addr) (n c : Nat) (f : Nat → Rat × Rat) : Prop :=
  ∃ C : Nat → Array Value, w.ownsRow base T 8 (.slice p n c) n (pens C n) ∧ ∀ j, j < n → (C j).size = 8 ∧ PenQ w (C j) (f j)
theorem PensAt.below {w w' : World} {base : Nat} {T : TypeId} {p : Option Addr} {n c : Nat} {f : Nat → Rat × Rat} (h : PensAt w base T p n c f) (hB : Below w.heap.size w w') : PensAt w' base T p n c f := by
  obtain ⟨C, h1, h2⟩ := h
  exact ⟨C, ownsRow_below h1 hB, fun j hj => ⟨(h2 j hj).1, (h2 j hj).2.ext (.of_below hB)⟩⟩
theorem PensAt.keep {w w' : World} {base : Nat} {T : TypeId} {p : Option Addr} {n c : Nat} {f : Nat → Rat × Rat} (h : PensAt w base T p n c f) {R : Nat} {T' : TypeId} {cs : Array Value} (b : Box w R T' cs) (hT : T' ≠ T) (h3 : T' ≠ 3) (hk : KeepBut R w.heap.size w w') : PensAt w' base T p n c f := by
  obtain ⟨C, h1, h2⟩ := h
  exact ⟨C, ownsRow_keep h1 b hT hk, fun j hj => ⟨(h2 j hj).1, (h2 j hj).2.ext (hk.ext b h3)⟩⟩
theorem PensAt.rd {w : World} {base : Nat} {T : TypeId} {p : Option Addr} {n c : Nat} {f : Nat → Rat × Rat} (h : PensAt w base T p n c f) (hn : 0 < n) (hm : n ≤ 16) : ∃ C : Nat → Array Value, RdC w p n c 8 (fun i j => (C i).getD j undef) ∧ ∀ j, j < n → (C j).size = 8 ∧ PenQ w (C j) (f j) := by
  obtain ⟨C, h1, h2⟩ := h
  obtain ⟨m, rfl⟩ : ∃ m, n = m + 1 := ⟨n - 1, by omega⟩
  obtain ⟨g, cap, e⟩ := ownsRow_succ h1
  cases e
  exact ⟨C, ownsRow_rd h1 (fun j hj => (h2 j hj).1) (by omega), h2⟩
end Go.Mono
namespace Go.Proofs.YtepodcocemmejaaGreatDoor
open Go.RowKit Go.Mono
theorem pencilInfo : ∃ i z, Tryz.prog.info? 65 = some i ∧ i.zero = some z ∧ i.size = 8 ∧ i.bytes = 128 ∧ z.cells.size = 8 := by
  have h : (Tryz.prog.info? 65).map (fun i => (i.size, i.bytes, i.zero.map fun z => z.cells.size)) = some (8, 128, some 8) := by kernel_rfl
  cases hi : Tryz.prog.info? 65 with
  | none => rw [hi] at h; cases h
  | some i =>
    rw [hi] at h
    simp only [Option.map_some, Option.some.injEq, Prod.mk.injEq] at h
    obtain ⟨h1, h2, h3⟩ := h
    cases hz : i.zero with
    | none => rw [hz] at h3; cases h3
    | some z => rw [hz] at h3; exact ⟨i, z, rfl, hz, h1, h2, by simpa using h3⟩
end Go.Proofs.YtepodcocemmejaaGreatDoor
