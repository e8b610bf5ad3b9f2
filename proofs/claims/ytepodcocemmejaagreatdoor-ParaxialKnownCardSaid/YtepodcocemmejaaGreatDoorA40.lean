/- Part 40 of 52 of the proof that the law ParaxialKnown returns true, whatever stands in memory, if the two listed variables hold what the text lays: contracts of the functions that it reaches. No condition beside the row. -/
import Derived.WalkMore
import Derived.Outline
import Derived.Defers
import Derived.Recover
import Derived.Laws.Pointers
import Derived.Test.YtepodcocemmejaaGreatDoorA32
import Derived.Test.YtepodcocemmejaaGreatDoorA38
set_option linter.unusedVariables false
set_option linter.unusedSimpArgs false
namespace Go.Mono
open Go.RowKit
theorem cell_new_at (X : World) (n : Nat) (h : X.heap.size = n) (v : Value) (T : TypeId) : (X.alloc (.cells #[v] T)).drew.cell? ⟨n, 0, none⟩ = some v := by
  subst h
  exact (Box.new X T #[v]).drew.cell 0
end Go.Mono
namespace Go.Proofs.YtepodcocemmejaaGreatDoor
open Go.RowKit Go.Mono
set_option maxRecDepth 100000 in
set_option maxHeartbeats 400000 in
theorem idleL (p q : Addr) (w : World) :
    CallsD Tryz.prog 93 #[.pointer (some p), .pointer (some q)] .returning w fun e u' w' => e = .returned (.tuple #[]) ∧ u' = .returning ∧ w' = w := by
  refine callsD_of_wpS Tryz.func93 rfl fun c₀ cs hu => ?_
  simp only [Tryz.ntmps93, List.size_toArray, List.length_cons, List.length_nil, Nat.reduceAdd, Nat.reduceSub, Array.replicate_succ, Array.replicate_zero, List.push_toArray, List.append_toArray, List.nil_append, List.cons_append]
  apply wpS_seq
  apply wpS_region
  simp [wpOpsS, go_sem, recoverD, hu, Exit.thenS]
  apply wpS_of_wp
  go_hide hQ
  go_wp2
  subst hQ
  cases c₀
  simp_all [bodyPostS, results, Tryz.results93]
set_option maxRecDepth 100000 in
set_option maxHeartbeats 400000 in
theorem catchL (B0 B1 : Nat) (z : Int) (v0 : Value) (z1 : Int) (w : World) (older : List PanicEntry) (b0 : Box w B0 58 #[v0]) (b1 : Box w B1 59 #[.int .i64 z1]) (hne : B0 ≠ B1) (n0 : Nat) (q0 : n0 ≤ B0) (q1 : n0 ≤ B1) :
    CallsD Tryz.prog 93 #[.pointer (some ⟨B0, 0, none⟩), .pointer (some ⟨B1, 0, none⟩)] (.panicking ({ v := .iface 126 (.agg #[.int .i64 z]), recovered := false } :: older)) w fun e u' w' =>
      e = .returned (.tuple #[]) ∧ u' = .panicking ({ v := .iface 126 (.agg #[.int .i64 z]), recovered := true } :: older) ∧ Box w' B0 58 #[.slice none 0 0] ∧ Box w' B1 59 #[.int .i64 z] ∧ Below n0 w w' := by
  refine callsD_of_wpS Tryz.func93 rfl fun c₀ cs hu => ?_
  simp only [Tryz.ntmps93, List.size_toArray, List.length_cons, List.length_nil, Nat.reduceAdd, Nat.reduceSub, Array.replicate_succ, Array.replicate_zero, List.push_toArray, List.append_toArray, List.nil_append, List.cons_append]
  apply wpS_seq
  apply wpS_region
  simp [wpOpsS, go_sem, recoverD, hu, Exit.thenS]
  apply wpS_of_wp
  go_hide hQ
  have c0 := b0.cell
  have f0 := b0.frozen
  have l0 := b0.lt
  have c1 := b1.cell
  have f1 := b1.frozen
  have l1 := b1.lt
  have hta : ∀ w, (Instr.typeAssert (.iface 126 (.agg #[.int .i64 z])) 20 126 true).run Tryz.prog w = .ok (.tuple #[.agg #[.int .i64 z], .bool true]) w := fun _ => by kernel_rfl
  go_wp2
  refine wp_region_noPanic ?_
  have l0' : B0 ≠ w.heap.size := by omega
  have l1' : B1 ≠ w.heap.size := by omega
  refine wp_region_held_drew (S := fun w' => w'.cell? ⟨w.heap.size, 0, none⟩ = some (.int .i64 z)) (by kernel_rfl) (by simp [World.cell?_alloc_new]) (fun hHeld => ?_)
  refine take_want 0 (some 17) rfl (by kernel_rfl) (by kernel_rfl) (by kernel_rfl) rfl (fun _ _ _ h => h) (by rfl) (v := ?_) ?_ (by assumption) ?_
  rotate_left
  · intro w hSw; (try dsimp only at hSw); go_simp; all_goals with_reducible rfl
  simp only [Act.put, List.setIfInBounds_toArray, List.set_cons_zero, List.set_cons_succ]
  refine take_want 1 (some 18) rfl (by kernel_rfl) (by kernel_rfl) (by kernel_rfl) rfl (fun _ _ _ h => h) (by rfl) (v := ?_) ?_ (by assumption) ?_
  rotate_left
  · intro w hSw; (try dsimp only at hSw); go_simp; all_goals with_reducible rfl
  simp only [Act.put, List.setIfInBounds_toArray, List.set_cons_zero, List.set_cons_succ]
  refine take_want 2 (some 19) rfl (by kernel_rfl) (by kernel_rfl) (by kernel_rfl) rfl (fun _ _ _ h => h) (by rfl) (v := ?_) ?_ (by assumption) ?_
  rotate_left
  · intro w hSw; (try dsimp only at hSw); go_simp; all_goals with_reducible rfl
  simp only [Act.put, List.setIfInBounds_toArray, List.set_cons_zero, List.set_cons_succ]
  refine wpAnyH_ready (rs := [3]) (by kernel_rfl) (by simp) ?_
  refine AllReadyH.cons rfl (fun K hK => ?_) AllReadyH.nil
  go_simp
  skip
  refine hK.out _ _ ?_ (fun hHeld => ?_)
  · first | exact (cell_new_at _ _ (by simp) _ _) | fail "keep"
  clear hK K
  try simp only [Act.put, List.setIfInBounds_toArray, List.set_cons_zero, List.set_cons_succ]
  refine wpAnyH_ready (rs := [4]) (by kernel_rfl) (by simp) ?_
  refine AllReadyH.cons rfl (fun K hK => ?_) AllReadyH.nil
  go_simp
  skip
  refine hK.out _ _ ?_ (fun hHeld => ?_)
  · first | exact (cell_new_at _ _ (by simp) _ _) | fail "keep"
  clear hK K
  try simp only [Act.put, List.setIfInBounds_toArray, List.set_cons_zero, List.set_cons_succ]
  refine wpAnyH_done (by kernel_rfl) ?_ _
  have e0 := (((b0.set 0 (.slice none 0 0)).other ⟨B1, 0, none⟩ (.int .i64 z) hne).alloc (.cells #[.int .i64 z] 126)).drew
  have e1 := (((b1.other ⟨B0, 0, none⟩ (.slice none 0 0) (Ne.symm hne)).set 0 (.int .i64 z)).alloc (.cells #[.int .i64 z] 126)).drew
  go_wp2
  subst hQ
  refine ⟨rfl, _, rfl, _, results_none rfl _ _ _, rfl, rfl, e0, e1, ?_⟩
  exact ((((Below.refl n0 w).setCell (p := ⟨B0, 0, none⟩) q0 _).setCell (p := ⟨B1, 0, none⟩) q1 _).alloc (by simp; omega) _).drew
set_option maxRecDepth 100000 in
set_option maxHeartbeats 1000000 in
theorem caughtL_ret (g : Nat) (caps : Array Value) (eg : ∀ args w, (callFunc g args).run Tryz.prog w = .ok (.enter g args) w) (w : World) (Post : Value → World → Prop)
    (hst : ∀ v w1 u0 u1 c0 c1, Box w1 w.heap.size 58 c0 → Box w1 (w.heap.size + 1) 59 c1 → Post v w1 → Post v ((w1.setCell ⟨w.heap.size, 0, none⟩ u0).setCell ⟨w.heap.size + 1, 0, none⟩ u1))
    (hg : ∀ W, Below w.heap.size w W → w.heap.size + 2 ≤ W.heap.size → Calls Tryz.prog g caps W fun e w' => ∃ p n c, e = .returned (.slice p n c) ∧ Post (.slice p n c) w' ∧ Below W.heap.size W w') :
    Calls Tryz.prog 45 #[.func (.func g) #[] caps] w fun e w' => ∃ p n c, e = .returned (.tuple #[.slice p n c, .int .i64 0]) ∧ Post (.slice p n c) w' ∧ Below w.heap.size w w' := by
  have hmf : ∀ (fn : Fn) (first cap : Array Value) (w : World), (Instr.makeFunc fn first cap).run Tryz.prog w = .ok (.func fn first cap) w := fun _ _ _ _ => rfl
  go_enter_defers Tryz.func45, Tryz.ntmps45
  go_wp2_with fail
  refine boxes2c fun W hB hs b0 b1 => ?_
  refine (hg W hB hs).mono ?_
  rintro e W1 ⟨p, n, c, rfl, hp, hb⟩
  replace hB := belowCall hB hb
  replace b0 := b0.below hb
  replace b1 := b1.below hb
  have c0 := b0.cell
  have f0 := b0.frozen
  have c1 := b1.cell
  have f1 := b1.frozen
  have hne : w.heap.size ≠ w.heap.size + 1 := by omega
  go_wp2
  have e0 := ((b0.set 0 (.slice p n c)).other ⟨w.heap.size + 1, 0, none⟩ (.int .i64 0) hne).cell 0
  have e1 := ((b1.other ⟨w.heap.size, 0, none⟩ (.slice p n c) (Ne.symm hne)).set 0 (.int .i64 0)).cell 0
  have eB : Below w.heap.size w ((W1.setCell ⟨w.heap.size, 0, none⟩ (.slice p n c)).setCell ⟨w.heap.size + 1, 0, none⟩ (.int .i64 0)) := (hB.setCell (p := ⟨w.heap.size, 0, none⟩) (Nat.le_refl _) _).setCell (p := ⟨w.heap.size + 1, 0, none⟩) (by simp) _
  refine leaves_cons (f := 93) (args := #[.pointer (some ⟨w.heap.size, 0, none⟩), .pointer (some ⟨w.heap.size + 1, 0, none⟩)]) (by simp) (by simp [go_sem]) ?_
  refine (idleL _ _ _).mono ?_
  rintro e u' w'' ⟨rfl, rfl, rfl⟩
  refine ⟨_, by simp [results, Tryz.results45, go_sem, e0, e1], p, n, c, rfl, hst _ _ _ _ _ _ b0 b1 hp, eB⟩
set_option maxRecDepth 100000 in
set_option maxHeartbeats 1000000 in
theorem caughtL_panic (g : Nat) (caps : Array Value) (eg : ∀ args w, (callFunc g args).run Tryz.prog w = .ok (.enter g args) w) (z : Int) (w : World)
    (hg : ∀ W, Below w.heap.size w W → w.heap.size + 2 ≤ W.heap.size → Calls Tryz.prog g caps W fun e w' => e = .panicked [{ v := .iface 126 (.agg #[.int .i64 z]), recovered := false }] ∧ Below W.heap.size W w') :
    Calls Tryz.prog 45 #[.func (.func g) #[] caps] w fun e w' => e = .returned (.tuple #[.slice none 0 0, .int .i64 z]) ∧ Below w.heap.size w w' := by
  have hmf : ∀ (fn : Fn) (first cap : Array Value) (w : World), (Instr.makeFunc fn first cap).run Tryz.prog w = .ok (.func fn first cap) w := fun _ _ _ _ => rfl
  go_enter_defers Tryz.func45, Tryz.ntmps45
  go_wp2_with fail
  refine boxes2c fun W hB hs b0 b1 => ?_
  refine (hg W hB hs).mono ?_
  rintro e W1 ⟨rfl, hb⟩
  replace hB := belowCall hB hb
  replace b0 := b0.below hb
  replace b1 := b1.below hb
  have hne : w.heap.size ≠ w.heap.size + 1 := by omega
  refine leaves_cons (f := 93) (args := #[.pointer (some ⟨w.heap.size, 0, none⟩), .pointer (some ⟨w.heap.size + 1, 0, none⟩)]) (by simp) (by simp [go_sem]) ?_
  refine (catchL _ _ z _ _ W1 [] b0 b1 hne w.heap.size (Nat.le_refl _) (by omega)).mono ?_
  rintro e u' w'' ⟨rfl, rfl, e0, e1, eB⟩
  have c0 := e0.cell 0
  have c1 := e1.cell 0
  refine ⟨_, by simp [results, Tryz.results45, go_sem, c0, c1], rfl, hB.trans eB⟩
end Go.Proofs.YtepodcocemmejaaGreatDoor
namespace Go.Proofs.YtepodcocemmejaaGreatDoor
open Go.RowKit Go.Mono
attribute [local go_sem] Oper.semAt_some
/-- the surface of round i -/
def ordAt (back : Bool) (m i : Nat) : Int := if back = true then (m : Int) - 1 - i else i
set_option maxRecDepth 100000 in
set_option maxHeartbeats 2000000 in
theorem order1_all (F : Fence) (n : Nat) (hF : F.fn 96) (hro : F.round = none) (hn : 2 ≤ n) (m : Nat) (hm : m ≤ 16) (Bn Bb : Nat) (back : Bool) :
    IterAll F n Tryz.prog 96 #[] #[.pointer (some ⟨Bn, 0, none⟩), .pointer (some ⟨Bb, 0, none⟩)] m (fun i => #[.int .i64 (ordAt back m i)])
      (fun V => V.cell? ⟨Bn, 0, none⟩ = some (.int .i64 (m : Int)) ∧ V.cell? ⟨Bb, 0, none⟩ = some (.bool back)) := by
  intro l J W hK hJ hY h0
  refine callsIn_of_wp Tryz.func96 rfl hF ?_ hro
  simp only [Tryz.ntmps96, List.size_toArray, List.length_cons, List.length_nil, Nat.reduceAdd, Nat.reduceSub, Array.replicate_succ, Array.replicate_zero, List.push_toArray, List.append_toArray, List.nil_append, List.cons_append]
  obtain ⟨hm1, hb1⟩ := hK _ _ h0
  have l1 := block_lt_of_cell hm1
  have l2 := block_lt_of_cell hb1
  gi_wp2
  gi_loopw [7] (fun x wr => ∃ k : Nat, k ≤ m ∧ x = .int .i64 (k : Int) ∧ J k wr) (fun x _ => (m - intOf x).toNat)
  case atStart => exact ⟨0, Nat.zero_le _, rfl, h0⟩
  case round =>
    obtain ⟨k, hk, rfl, hj⟩ := hrel
    obtain ⟨hm2, hb2⟩ := hK _ _ hj
    have l3 := block_lt_of_cell hm2
    have l4 := block_lt_of_cell hb2
    clear hm1 hb1 l1 l2
    by_cases hkn : k < m
    · obtain ⟨fn, tmps, assign, body, hy, hR⟩ := hY k wr hj hkn
      have hkn' : (k : Int) < m := by omega
      have w1 : IntKind.i64.wrap ((m : Int) - 1) = (m : Int) - 1 := by rw [IntKind.wrap_i64]; omega
      have w2 : IntKind.i64.wrap ((m : Int) - 1 - k) = (m : Int) - 1 - k := by rw [IntKind.wrap_i64]; omega
      clear hY
      cases back with
      | true =>
        rw [show ordAt true m k = (m : Int) - 1 - k from rfl] at hy
        gi_wp2
        refine ⟨fun _ => by omega, hR.mono ?_⟩
        rintro e W3 ⟨rfl, hJ3⟩
        gi_wp2
        go_roundw
        case rel => exact ⟨k + 1, by omega, by simp, hJ3⟩
        case measure => simp [intOf]; omega
      | false =>
        rw [show ordAt false m k = (k : Int) from rfl] at hy
        gi_wp2
        refine ⟨fun _ => by omega, hR.mono ?_⟩
        rintro e W3 ⟨rfl, hJ3⟩
        gi_wp2
        go_roundw
        case rel => exact ⟨k + 1, by omega, by simp, hJ3⟩
        case measure => simp [intOf]; omega
    · obtain rfl : k = m := by omega
      gi_wp2
      go_end0
      exact ⟨⟨_, rfl⟩, hj⟩
end Go.Proofs.YtepodcocemmejaaGreatDoor
