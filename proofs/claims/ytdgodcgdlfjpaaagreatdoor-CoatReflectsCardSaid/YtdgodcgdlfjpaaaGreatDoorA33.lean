/- Contracts of package coat and of the examples of its law, for the laws of layer 40. Part 33 of 40. No condition beside the row. -/
import Derived.Test.YtdgodcgdlfjpaaaGreatDoorA31
set_option linter.unusedVariables false
set_option linter.unusedSimpArgs false
set_option maxRecDepth 100000
set_option maxHeartbeats 4000000
namespace Go.Proofs.YtdgodcgdlfjpaaaGreatDoor
open Go.RowKit Go.Mono
def best0 : Array Value := #[.bool false, .slice none 0 0, .bool false, .slice none 0 0, .bool false, .slice none 0 0, .bool false, .slice none 0 0, .slice none 0 0]
theorem infoBe : (Tryz.prog.info? 135).map (·.size) = some 9 := by kernel_rfl
theorem idleBe (p q : Addr) (w : World) :
  CallsD Tryz.prog 149 #[.pointer (some p), .pointer (some q)] .returning w fun e u' w' => e = .returned (.tuple #[]) ∧ u' = .returning ∧ w' = w := by
 refine callsD_of_wpS Tryz.func149 rfl fun c₀ cs hu => ?_
 simp only [Tryz.ntmps149, List.size_toArray, List.length_cons, List.length_nil, Nat.reduceAdd, Nat.reduceSub, Array.replicate_succ, Array.replicate_zero, List.push_toArray, List.append_toArray, List.nil_append, List.cons_append]
 apply wpS_seq
 apply wpS_region
 simp [wpOpsS, go_sem, recoverD, hu, Exit.thenS]
 apply wpS_of_wp
 go_hide hQ
 go_wp2
 subst hQ
 cases c₀
 simp_all [bodyPostS, results, Tryz.results149]
theorem caughtBe_ret (g : Nat) (caps : Array Value) (eg : ∀ args w, (callFunc g args).run Tryz.prog w = .ok (.enter g args) w) (w : World) (Post : Array Value → World → Prop)
  (hst : ∀ C w1 w2 c0, Box w1 w.heap.size 135 c0 → Ext w1 w2 → w1.heap.size ≤ w2.heap.size → (∀ b o, b < w1.heap.size → b ≠ w.heap.size → b ≠ w.heap.size + 1 → w2.cell? ⟨b, o, none⟩ = w1.cell? ⟨b, o, none⟩) → Post C w1 → Post C w2)
  (hg : ∀ W, Below w.heap.size w W → w.heap.size + 2 ≤ W.heap.size → Calls Tryz.prog g caps W fun e w' => ∃ C, e = .returned (.agg C) ∧ C.size = 9 ∧ C.all (·.oneCell') = true ∧ Post C w' ∧ Below W.heap.size W w') :
  Calls Tryz.prog 68 #[.func (.func g) #[] caps] w fun e w' => ∃ C, e = .returned (.tuple #[.agg C, .int .i64 0]) ∧ C.size = 9 ∧ C.all (·.oneCell') = true ∧ Post C w' ∧ Below w.heap.size w w' := by
 have hmf : ∀ (fn : Fn) (first cap : Array Value) (w : World), (Instr.makeFunc fn first cap).run Tryz.prog w = .ok (.func fn first cap) w := fun _ _ _ _ => rfl
 go_enter_defers Tryz.func68, Tryz.ntmps68
 go_wp2_with fail
 refine boxes2c fun W hB hs b0 b1 => ?_
 refine (hg W hB hs).mono ?_
 rintro e W1 ⟨C, rfl, hC, h1, hp, hb⟩
 replace hB := belowCall hB hb
 replace b0 := b0.below hb
 replace b1 := b1.below hb
 have hi : (Tryz.prog.info? 135).map (·.size) = some C.size := by rw [hC]; exact infoBe
 have hne : w.heap.size ≠ w.heap.size + 1 := by omega
 go_wp2_with (refine wpList_store_box rfl 135 _ _ rfl w.heap.size 0 135 _ C C rfl rfl b0 hi (Nat.le_of_eq (by rw [hC]; rfl)) h1 (whole_new (by rw [hC]; rfl)) ?_; intro W2 hk2 b02; have b12 := hk2.box b1 b1.lt (Ne.symm hne); have c12 := b12.cell; have l12 := b12.lt; have f12 := b12.frozen)
 have e0 := b02.other ⟨w.heap.size + 1, 0, none⟩ (.int .i64 0) hne
 have e1 := b12.set 0 (.int .i64 0)
 have hx := (hk2.ext b0 (by decide)).set b12 (by decide) 0 (.int .i64 0)
 have eB : Below w.heap.size w (W2.setCell ⟨w.heap.size + 1, 0, none⟩ (.int .i64 0)) := (hk2.below hB (Nat.le_refl _) hB.size).setCell (p := ⟨w.heap.size + 1, 0, none⟩) (by simp) _
 refine leaves_cons (f := 149) (args := #[.pointer (some ⟨w.heap.size, 0, none⟩), .pointer (some ⟨w.heap.size + 1, 0, none⟩)]) (by simp) (by simp [go_sem]) ?_
 refine (idleBe _ _ _).mono ?_
 rintro e u' w'' ⟨rfl, rfl, rfl⟩
 have hc1 := e1.cell 0
 refine ⟨_, e0.results2 e1 rfl _ _ rfl rfl Tryz.underlying135 rfl hi (by simp [go_sem, hc1]), C, rfl, hC, h1, hst _ _ _ _ b0 hx (by simpa using hk2.size) (fun b o hb hn1 hn2 => (World.cell?_setCell_far _ _ _ _ (by simpa using Ne.symm hn2)).trans (hk2.cell b o hb hn1)) hp, eB⟩
theorem infoLi : (Tryz.prog.info? 124).map (·.size) = some 8 := by kernel_rfl
theorem alloc0Li (w : World) : (Instr.alloc 124 true (.tuple #[])).run Tryz.prog w = .ok (.pointer (some ⟨w.heap.size, 0, none⟩)) (w.alloc (.cells qq0 124)) := by
 unfold qq0
 go_simp
theorem idleLi (p q : Addr) (w : World) :
  CallsD Tryz.prog 137 #[.pointer (some p), .pointer (some q)] .returning w fun e u' w' => e = .returned (.tuple #[]) ∧ u' = .returning ∧ w' = w := by
 refine callsD_of_wpS Tryz.func137 rfl fun c₀ cs hu => ?_
 simp only [Tryz.ntmps137, List.size_toArray, List.length_cons, List.length_nil, Nat.reduceAdd, Nat.reduceSub, Array.replicate_succ, Array.replicate_zero, List.push_toArray, List.append_toArray, List.nil_append, List.cons_append]
 apply wpS_seq
 apply wpS_region
 simp [wpOpsS, go_sem, recoverD, hu, Exit.thenS]
 apply wpS_of_wp
 go_hide hQ
 go_wp2
 subst hQ
 cases c₀
 simp_all [bodyPostS, results, Tryz.results137]
theorem catchLi (B0 B1 : Nat) (z : Int) (C0 : Array Value) (hC0 : C0.size = 8) (z1 : Int) (w : World) (older : List PanicEntry) (b0 : Box w B0 124 C0) (b1 : Box w B1 38 #[.int .i64 z1]) (hne : B0 ≠ B1) (n0 : Nat) (q0 : n0 ≤ B0) (q1 : n0 ≤ B1) :
  CallsD Tryz.prog 137 #[.pointer (some ⟨B0, 0, none⟩), .pointer (some ⟨B1, 0, none⟩)] (.panicking ({ v := .iface 194 (.agg #[.int .i64 z]), recovered := false } :: older)) w fun e u' w' =>
   e = .returned (.tuple #[]) ∧ u' = .panicking ({ v := .iface 194 (.agg #[.int .i64 z]), recovered := true } :: older) ∧ Box w' B0 124 qq0 ∧ Box w' B1 38 #[.int .i64 z] ∧ Below n0 w w' := by
 refine callsD_of_wpS Tryz.func137 rfl fun c₀ cs hu => ?_
 simp only [Tryz.ntmps137, List.size_toArray, List.length_cons, List.length_nil, Nat.reduceAdd, Nat.reduceSub, Array.replicate_succ, Array.replicate_zero, List.push_toArray, List.append_toArray, List.nil_append, List.cons_append]
 apply wpS_seq
 apply wpS_region
 simp [wpOpsS, go_sem, recoverD, hu, Exit.thenS]
 apply wpS_of_wp
 go_hide hQ
 have l0 := b0.lt
 have l1 := b1.lt
 have hta : ∀ w, (Instr.typeAssert (.iface 194 (.agg #[.int .i64 z])) 20 194 true).run Tryz.prog w = .ok (.tuple #[.agg #[.int .i64 z], .bool true]) w := fun _ => by kernel_rfl
 go_wp2_with (refine wpList_new rfl 124 rfl _ alloc0Li ?_; intro W BN hle hB bn)
 have bk := (Box.new w 194 #[.int .i64 z]).below hB
 replace b0 := (b0.alloc (.cells #[.int .i64 z] 194)).below hB
 replace b1 := (b1.alloc (.cells #[.int .i64 z] 194)).below hB
 have hBw : Below n0 w W := ((Below.refl n0 w).alloc (by omega) _).trans (hB.mono (by simp; omega))
 have hle' : w.heap.size + 1 ≤ BN := by simpa using hle
 have hwW : w.heap.size < W.heap.size := bk.lt
 clear hle hB
 refine wp_region_noPanic ?_
 refine wp_region_held_drew (S := fun w' => w'.cell? ⟨w.heap.size, 0, none⟩ = some (.int .i64 z) ∧ Box w' BN 124 qq0) (by kernel_rfl) ⟨bk.drew.cell 0, bn.drew⟩ (fun hHeld => ?_)
 have hi := infoLi
 have hSt : ∀ (w' : World) (i : Nat) (u : Value), (w'.cell? ⟨w.heap.size, 0, none⟩ = some (.int .i64 z) ∧ Box w' BN 124 qq0) → ((w'.setCell ⟨B0, i, none⟩ u).cell? ⟨w.heap.size, 0, none⟩ = some (.int .i64 z) ∧ Box (w'.setCell ⟨B0, i, none⟩ u) BN 124 qq0) :=
  fun w' i u h => ⟨by rw [World.cell?_setCell_far _ _ _ _ (by simp; omega)]; exact h.1, h.2.other _ _ (by simp; omega)⟩
 replace hSt := Lib.hid hSt
 refine tl 0 (some 17) rfl (.agg qq0) (exec_load 124 _ rfl BN 0 rfl qq0 (fun w hS => hS.2.range) _ Tryz.underlying124 rfl hi) ?_
 refine tk 1 (some 18) ?_
 refine tk 2 (some 19) ?_
 have b0d := b0.drew
 have b1d := b1.drew
 refine wpAnyH_storeB B0 124 3 rfl rfl rfl rfl 0 qq0 C0 qq0 (by kernel_rfl) hSt.out rfl rfl b0d hHeld hi (by rw [hC0]; decide) (by simp [qq0, Value.oneCell']) (whole_new (by rw [hC0]; rfl)) (fun W3 hk3 b3 hHeld3 => ?_)
 have b13 := hk3.box b1d (by simpa using b1.lt) (Ne.symm hne)
 have c13 := b13.cell
 have l13 := b13.lt
 have f13 := b13.frozen
 clear hSt
 refine Mono.st 4 ?_
 intro K hK
 go_simp
 refine kp hK (⟨by rw [World.cell?_setCell_far _ _ _ _ (by simp; omega)]; exact hHeld3.1, hHeld3.2.other _ _ (by simp; omega)⟩) (fun hHeld => ?_)
 clear hK K
 refine wpAnyH_done (by kernel_rfl) ?_ _
 have e0 := b3.other ⟨B1, 0, none⟩ (.int .i64 z) hne
 have e1 := b13.set 0 (.int .i64 z)
 go_wp2
 subst hQ
 refine ⟨rfl, _, rfl, _, results_none rfl _ _ _, rfl, rfl, e0, e1, ?_⟩
 have hn0 : w.heap.size ≤ W3.heap.size := Nat.le_trans (by simp; omega) hk3.size
 have hk4 : Below n0 w W3 := ⟨hk3.os.trans hBw.os, hk3.tape.trans hBw.tape, hk3.output.trans hBw.output, hn0, fun k hk => (hk3.block k (by simp; omega) (by omega)).trans (hBw.block k hk)⟩
 exact hk4.setCell (p := ⟨B1, 0, none⟩) q1 _
theorem caughtLi_ret (g : Nat) (caps : Array Value) (eg : ∀ args w, (callFunc g args).run Tryz.prog w = .ok (.enter g args) w) (w : World) (Post : Array Value → World → Prop)
  (hst : ∀ C w1 w2 c0, Box w1 w.heap.size 124 c0 → Ext w1 w2 → w1.heap.size ≤ w2.heap.size → (∀ b o, b < w1.heap.size → b ≠ w.heap.size → b ≠ w.heap.size + 1 → w2.cell? ⟨b, o, none⟩ = w1.cell? ⟨b, o, none⟩) → Post C w1 → Post C w2)
  (hg : ∀ W, Below w.heap.size w W → w.heap.size + 2 ≤ W.heap.size → Calls Tryz.prog g caps W fun e w' => ∃ C, e = .returned (.agg C) ∧ C.size = 8 ∧ C.all (·.oneCell') = true ∧ Post C w' ∧ Below W.heap.size W w') :
  Calls Tryz.prog 58 #[.func (.func g) #[] caps] w fun e w' => ∃ C, e = .returned (.tuple #[.agg C, .int .i64 0]) ∧ C.size = 8 ∧ C.all (·.oneCell') = true ∧ Post C w' ∧ Below w.heap.size w w' := by
 have hmf : ∀ (fn : Fn) (first cap : Array Value) (w : World), (Instr.makeFunc fn first cap).run Tryz.prog w = .ok (.func fn first cap) w := fun _ _ _ _ => rfl
 go_enter_defers Tryz.func58, Tryz.ntmps58
 go_wp2_with fail
 refine boxes2c fun W hB hs b0 b1 => ?_
 refine (hg W hB hs).mono ?_
 rintro e W1 ⟨C, rfl, hC, h1, hp, hb⟩
 replace hB := belowCall hB hb
 replace b0 := b0.below hb
 replace b1 := b1.below hb
 have hi : (Tryz.prog.info? 124).map (·.size) = some C.size := by rw [hC]; exact infoLi
 have hne : w.heap.size ≠ w.heap.size + 1 := by omega
 go_wp2_with (refine wpList_store_box rfl 124 _ _ rfl w.heap.size 0 124 _ C C rfl rfl b0 hi (Nat.le_of_eq (by rw [hC]; rfl)) h1 (whole_new (by rw [hC]; rfl)) ?_; intro W2 hk2 b02; have b12 := hk2.box b1 b1.lt (Ne.symm hne); have c12 := b12.cell; have l12 := b12.lt; have f12 := b12.frozen)
 have e0 := b02.other ⟨w.heap.size + 1, 0, none⟩ (.int .i64 0) hne
 have e1 := b12.set 0 (.int .i64 0)
 have hx := (hk2.ext b0 (by decide)).set b12 (by decide) 0 (.int .i64 0)
 have eB : Below w.heap.size w (W2.setCell ⟨w.heap.size + 1, 0, none⟩ (.int .i64 0)) := (hk2.below hB (Nat.le_refl _) hB.size).setCell (p := ⟨w.heap.size + 1, 0, none⟩) (by simp) _
 refine leaves_cons (f := 137) (args := #[.pointer (some ⟨w.heap.size, 0, none⟩), .pointer (some ⟨w.heap.size + 1, 0, none⟩)]) (by simp) (by simp [go_sem]) ?_
 refine (idleLi _ _ _).mono ?_
 rintro e u' w'' ⟨rfl, rfl, rfl⟩
 have hc1 := e1.cell 0
 refine ⟨_, e0.results2 e1 rfl _ _ rfl rfl Tryz.underlying124 rfl hi (by simp [go_sem, hc1]), C, rfl, hC, h1, hst _ _ _ _ b0 hx (by simpa using hk2.size) (fun b o hb hn1 hn2 => (World.cell?_setCell_far _ _ _ _ (by simpa using Ne.symm hn2)).trans (hk2.cell b o hb hn1)) hp, eB⟩
theorem caughtLi_panic (g : Nat) (caps : Array Value) (eg : ∀ args w, (callFunc g args).run Tryz.prog w = .ok (.enter g args) w) (z : Int) (w : World)
  (hg : ∀ W, Below w.heap.size w W → w.heap.size + 2 ≤ W.heap.size → Calls Tryz.prog g caps W fun e w' => e = .panicked [{ v := .iface 194 (.agg #[.int .i64 z]), recovered := false }] ∧ Below W.heap.size W w') :
  Calls Tryz.prog 58 #[.func (.func g) #[] caps] w fun e w' => e = .returned (.tuple #[.agg qq0, .int .i64 z]) ∧ Below w.heap.size w w' := by
 have hmf : ∀ (fn : Fn) (first cap : Array Value) (w : World), (Instr.makeFunc fn first cap).run Tryz.prog w = .ok (.func fn first cap) w := fun _ _ _ _ => rfl
 go_enter_defers Tryz.func58, Tryz.ntmps58
 go_wp2_with fail
 refine boxes2c fun W hB hs b0 b1 => ?_
 refine (hg W hB hs).mono ?_
 rintro e W1 ⟨rfl, hb⟩
 replace hB := belowCall hB hb
 replace b0 := b0.below hb
 replace b1 := b1.below hb
 have hne : w.heap.size ≠ w.heap.size + 1 := by omega
 refine leaves_cons (f := 137) (args := #[.pointer (some ⟨w.heap.size, 0, none⟩), .pointer (some ⟨w.heap.size + 1, 0, none⟩)]) (by simp) (by simp [go_sem]) ?_
 refine (catchLi _ _ z _ rfl _ W1 [] b0 b1 hne w.heap.size (Nat.le_refl _) (by omega)).mono ?_
 rintro e u' w'' ⟨rfl, rfl, e0, e1, eB⟩
 have hc1 := e1.cell 0
 refine ⟨_, e0.results2 e1 rfl _ _ rfl rfl Tryz.underlying124 rfl infoLi (by simp [go_sem, hc1]), rfl, hB.trans eB⟩
theorem infoQd : (Tryz.prog.info? 57).map (·.size) = some 16 := by kernel_rfl
theorem idleQd (p q : Addr) (w : World) :
  CallsD Tryz.prog 160 #[.pointer (some p), .pointer (some q)] .returning w fun e u' w' => e = .returned (.tuple #[]) ∧ u' = .returning ∧ w' = w := by
 refine callsD_of_wpS Tryz.func160 rfl fun c₀ cs hu => ?_
 simp only [Tryz.ntmps160, List.size_toArray, List.length_cons, List.length_nil, Nat.reduceAdd, Nat.reduceSub, Array.replicate_succ, Array.replicate_zero, List.push_toArray, List.append_toArray, List.nil_append, List.cons_append]
 apply wpS_seq
 apply wpS_region
 simp [wpOpsS, go_sem, recoverD, hu, Exit.thenS]
 apply wpS_of_wp
 go_hide hQ
 go_wp2
 subst hQ
 cases c₀
 simp_all [bodyPostS, results, Tryz.results160]
theorem caughtQd_ret (g : Nat) (caps : Array Value) (eg : ∀ args w, (callFunc g args).run Tryz.prog w = .ok (.enter g args) w) (w : World) (Post : Array Value → World → Prop)
  (hst : ∀ C w1 w2 c0, Box w1 w.heap.size 57 c0 → Ext w1 w2 → w1.heap.size ≤ w2.heap.size → (∀ b o, b < w1.heap.size → b ≠ w.heap.size → b ≠ w.heap.size + 1 → w2.cell? ⟨b, o, none⟩ = w1.cell? ⟨b, o, none⟩) → Post C w1 → Post C w2)
  (hg : ∀ W, Below w.heap.size w W → w.heap.size + 2 ≤ W.heap.size → Calls Tryz.prog g caps W fun e w' => ∃ C, e = .returned (.agg C) ∧ C.size = 16 ∧ C.all (·.oneCell') = true ∧ Post C w' ∧ Below W.heap.size W w') :
  Calls Tryz.prog 85 #[.func (.func g) #[] caps] w fun e w' => ∃ C, e = .returned (.tuple #[.agg C, .int .i64 0]) ∧ C.size = 16 ∧ C.all (·.oneCell') = true ∧ Post C w' ∧ Below w.heap.size w w' := by
 have hmf : ∀ (fn : Fn) (first cap : Array Value) (w : World), (Instr.makeFunc fn first cap).run Tryz.prog w = .ok (.func fn first cap) w := fun _ _ _ _ => rfl
 go_enter_defers Tryz.func85, Tryz.ntmps85
 go_wp2_with fail
 refine boxes2c fun W hB hs b0 b1 => ?_
 refine (hg W hB hs).mono ?_
 rintro e W1 ⟨C, rfl, hC, h1, hp, hb⟩
 replace hB := belowCall hB hb
 replace b0 := b0.below hb
 replace b1 := b1.below hb
 have hi : (Tryz.prog.info? 57).map (·.size) = some C.size := by rw [hC]; exact infoQd
 have hne : w.heap.size ≠ w.heap.size + 1 := by omega
 go_wp2_with (refine wpList_store_box rfl 57 _ _ rfl w.heap.size 0 57 _ C C rfl rfl b0 hi (Nat.le_of_eq (by rw [hC]; rfl)) h1 (whole_new (by rw [hC]; rfl)) ?_; intro W2 hk2 b02; have b12 := hk2.box b1 b1.lt (Ne.symm hne); have c12 := b12.cell; have l12 := b12.lt; have f12 := b12.frozen)
 have e0 := b02.other ⟨w.heap.size + 1, 0, none⟩ (.int .i64 0) hne
 have e1 := b12.set 0 (.int .i64 0)
 have hx := (hk2.ext b0 (by decide)).set b12 (by decide) 0 (.int .i64 0)
 have eB : Below w.heap.size w (W2.setCell ⟨w.heap.size + 1, 0, none⟩ (.int .i64 0)) := (hk2.below hB (Nat.le_refl _) hB.size).setCell (p := ⟨w.heap.size + 1, 0, none⟩) (by simp) _
 refine leaves_cons (f := 160) (args := #[.pointer (some ⟨w.heap.size, 0, none⟩), .pointer (some ⟨w.heap.size + 1, 0, none⟩)]) (by simp) (by simp [go_sem]) ?_
 refine (idleQd _ _ _).mono ?_
 rintro e u' w'' ⟨rfl, rfl, rfl⟩
 have hc1 := e1.cell 0
 refine ⟨_, e0.results2 e1 rfl _ _ rfl rfl Tryz.underlying57 rfl hi (by simp [go_sem, hc1]), C, rfl, hC, h1, hst _ _ _ _ b0 hx (by simpa using hk2.size) (fun b o hb hn1 hn2 => (World.cell?_setCell_far _ _ _ _ (by simpa using Ne.symm hn2)).trans (hk2.cell b o hb hn1)) hp, eB⟩
end Go.Proofs.YtdgodcgdlfjpaaaGreatDoor
