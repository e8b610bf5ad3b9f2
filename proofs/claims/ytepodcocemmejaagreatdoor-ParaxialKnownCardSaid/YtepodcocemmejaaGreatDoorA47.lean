/- Part 47 of 52 of the proof that the law ParaxialKnown returns true, whatever stands in memory, if the two listed variables hold what the text lays: contracts of the functions that it reaches. No condition beside the row. -/
import Derived.Test.YtepodcocemmejaaGreatDoorA46
set_option linter.unusedVariables false
set_option linter.unusedSimpArgs false
namespace Go.Mono
open Go.RowKit
theorem half_range0 {w : World} {B : Nat} {T : TypeId} {a0 a1 a2 a3 a4 a5 a6 a7 : Value} (b : Box w B T #[a0, a1, a2, a3, a4, a5, a6, a7]) : w.rangeAt B 0 (#[a0, a1, a2, a3] : Array Value).toList := fun j v hv => by
  rw [b.cell]
  match j, hv with
  | 0, hv => simpa using hv
  | 1, hv => simpa using hv
  | 2, hv => simpa using hv
  | 3, hv => simpa using hv
  | n + 4, hv => simp at hv
theorem Box.results3 {P : Program} {w : World} {B B1 : Nat} {T T1 : TypeId} {cs cs1 : Array Value} (b : Box w B T cs) (b1 : Box w B1 T1 cs1) {fn : Func} {p p1 p2 : Tmp} {ty : TypeId} (h : fn.results = #[.cell p ty, .cell p1 ty, .tmp p2]) (tmps : Array Value) (d : TypeDesc)
    (ht : tmps.getD p undef = .pointer (some ⟨B, 0, none⟩)) (ht1 : tmps.getD p1 undef = .pointer (some ⟨B1, 0, none⟩)) (hu : P.underlying ty = some d) (hd : d.isRow = true) (hi : (P.info? ty).map (·.size) = some cs.size) (hi1 : (P.info? ty).map (·.size) = some cs1.size) :
    (Go.results fn tmps).run P w = .ok (.tuple #[.agg cs, .agg cs1, tmps.getD p2 undef]) w := by
  have hp' : tmps[p]?.getD undef = .pointer (some ⟨B, 0, none⟩) := by simpa using ht
  have hp1 : tmps[p1]?.getD undef = .pointer (some ⟨B1, 0, none⟩) := by simpa using ht1
  have hld := run_loadVar_row (P := P) w B T ty cs (0, 0) d b.blk hu (by cases d <;> simp_all [TypeDesc.isRow]) hi
  have hld1 := run_loadVar_row (P := P) w B1 T1 ty cs1 (0, 0) d b1.blk hu (by cases d <;> simp_all [TypeDesc.isRow]) hi1
  simp [Go.results, h, hp', hp1, asAddr, hld, hld1]
section
variable {P : Program} {f : FuncId} {args : Array Value} {R : Ending → World → Prop} {w : World} {T0 T1 T2 T3 T4 : TypeId} {c0 c1 c2 c3 c4 : Array Value}
theorem boxes5c (h : ∀ W, Below w.heap.size w W → w.heap.size + 5 ≤ W.heap.size → Box W w.heap.size T0 c0 → Box W (w.heap.size + 1) T1 c1 → Box W (w.heap.size + 1 + 1) T2 c2 → Box W (w.heap.size + 1 + 1 + 1) T3 c3 → Box W (w.heap.size + 1 + 1 + 1 + 1) T4 c4 → Calls P f args W R) :
    Calls P f args (((((w.alloc (.cells c0 T0)).alloc (.cells c1 T1)).alloc (.cells c2 T2)).alloc (.cells c3 T3)).alloc (.cells c4 T4)) R :=
  by
  have b4 := Box.new ((((w.alloc (.cells c0 T0)).alloc (.cells c1 T1)).alloc (.cells c2 T2)).alloc (.cells c3 T3)) T4 c4
  simp only [World.size_alloc] at b4
  have b3 := Box.new (((w.alloc (.cells c0 T0)).alloc (.cells c1 T1)).alloc (.cells c2 T2)) T3 c3
  simp only [World.size_alloc] at b3
  have b2 := Box.new ((w.alloc (.cells c0 T0)).alloc (.cells c1 T1)) T2 c2
  simp only [World.size_alloc] at b2
  have b1 := Box.new (w.alloc (.cells c0 T0)) T1 c1
  simp only [World.size_alloc] at b1
  exact h _ ((((((Below.refl _ _).alloc (Nat.le_refl _) _).alloc (by simp) _).alloc (by simp; omega) _).alloc (by simp; omega) _).alloc (by simp; omega) _) (by simp) (((((Box.new _ _ _).alloc _).alloc _).alloc _).alloc _) (((b1.alloc _).alloc _).alloc _) ((b2.alloc _).alloc _) (b3.alloc _) b4
end
end Go.Mono
namespace Go.Proofs.YtepodcocemmejaaGreatDoor
open Go.RowKit Go.Mono
set_option maxRecDepth 100000 in
set_option maxHeartbeats 1000000 in
/-- Back, out of what caught gives -/
theorem backX_of (a : Lns) (q : Plc) (k z : Int) (C0 : Array Value) (w : World) (R : Array Value → World → Prop) (hR : ∀ C w1 w2, Ext w1 w2 → R C w1 → R C w2) (hR8 : ∀ C w1, R C w1 → C.all (·.oneCell') = true ∧ ∃ a0 a1 a2 a3 a4 a5 a6 a7, C = #[a0, a1, a2, a3, a4, a5, a6, a7])
    (hg : ∀ W Bo Bk Bl, Below w.heap.size w W → Box W Bo 45 (a.ovals q) → Box W Bk 3 #[.int .i64 k] → Box W Bl 65 C0 → Calls Tryz.prog 61 #[.func (.func 62) #[] #[.pointer (some ⟨Bo, 0, none⟩), .pointer (some ⟨Bk, 0, none⟩), .pointer (some ⟨Bl, 0, none⟩)]] W fun e w' => ∃ C, e = .returned (.tuple #[.agg C, .int .i64 z]) ∧ R C w' ∧ Below W.heap.size W w') :
    Calls Tryz.prog 21 #[.agg (a.ovals q), .int .i64 k, .agg C0] w fun e w' => ∃ a0 a1 a2 a3 a4 a5 a6 a7, e = .returned (.tuple #[.agg #[a0, a1, a2, a3], .agg #[a4, a5, a6, a7], .int .i64 z]) ∧ R #[a0, a1, a2, a3, a4, a5, a6, a7] w' ∧ Below w.heap.size w w' := by
  have hmf : ∀ (fn : Fn) (first cap : Array Value) (w : World), (Instr.makeFunc fn first cap).run Tryz.prog w = .ok (.func fn first cap) w := fun _ _ _ _ => rfl
  simp only [Lns.ovals] at hg ⊢
  go_enter Tryz.func21, Tryz.ntmps21
  go_wp2_with fail
  refine boxes5c fun W hB hs bO bK bL bR bS => ?_
  refine (hg W _ _ _ hB bO bK bL).mono ?_
  rintro e W3 ⟨C, rfl, hr, hb3⟩
  have hB3 := belowCall hB hb3
  replace bR := bR.below hb3
  replace bS := bS.below hb3
  obtain ⟨h1, a0, a1, a2, a3, a4, a5, a6, a7, rfl⟩ := hR8 C W3 hr
  have h10 : (#[a0, a1, a2, a3] : Array Value).all (·.oneCell') = true := by simpa [and_assoc] using (by simpa [and_assoc] using h1 : a0.oneCell' = true ∧ a1.oneCell' = true ∧ a2.oneCell' = true ∧ a3.oneCell' = true ∧ a4.oneCell' = true ∧ a5.oneCell' = true ∧ a6.oneCell' = true ∧ a7.oneCell' = true) |> fun h => ⟨h.1, h.2.1, h.2.2.1, h.2.2.2.1⟩
  have h14 : (#[a4, a5, a6, a7] : Array Value).all (·.oneCell') = true := by simpa [and_assoc] using (by simpa [and_assoc] using h1 : a0.oneCell' = true ∧ a1.oneCell' = true ∧ a2.oneCell' = true ∧ a3.oneCell' = true ∧ a4.oneCell' = true ∧ a5.oneCell' = true ∧ a6.oneCell' = true ∧ a7.oneCell' = true) |> fun h => h.2.2.2.2
  have hi8 : (Tryz.prog.info? 65).map (·.size) = some (#[a0, a1, a2, a3, a4, a5, a6, a7] : Array Value).size := by kernel_rfl
  go_wp2_with first | (refine wpList_new rfl 65 rfl _ alloc0P ?_; intro W4 BN hle hB4 bn) | (refine wpList_store_box rfl 65 _ _ rfl BN 0 65 _ #[a0, a1, a2, a3, a4, a5, a6, a7] #[a0, a1, a2, a3, a4, a5, a6, a7] rfl rfl bn hi8 (Nat.le_of_eq rfl) h1 (whole_new rfl) ?_; intro W5 hk5 b5)
  have hBW := belowCall hB3 hB4
  have hx4 := Ext.of_below hB4
  have bR5 := hk5.box (bR.below hB4) (bR.below hB4).lt (by have := bR.lt; omega)
  have bS5 := hk5.box (bS.below hB4) (bS.below hB4).lt (by have := bS.lt; omega)
  have lR := bR.lt
  have lS := bS.lt
  have hwN : w.heap.size ≤ BN := Nat.le_trans hB3.size hle
  have hB5 := hk5.below hBW hwN hBW.size
  have hx5 := hx4.trans (hk5.ext bn (by decide))
  have i0 : (Tryz.prog.info? 54).map (·.size) = some (#[a0, a1, a2, a3] : Array Value).size := sizeQuot
  have i4 : (Tryz.prog.info? 54).map (·.size) = some (#[a4, a5, a6, a7] : Array Value).size := sizeQuot
  clear bn hk5 hB4 hB hs
  have hS1 : ∀ (w' : World) (i : Nat) (u : Value), Box w' BN 65 #[a0, a1, a2, a3, a4, a5, a6, a7] → Box (w'.setCell ⟨w.heap.size + 1 + 1 + 1, i, none⟩ u) BN 65 #[a0, a1, a2, a3, a4, a5, a6, a7] := fun w' i u h => h.other _ _ (by simp; omega)
  have hS2 : ∀ (w' : World) (i : Nat) (u : Value), Box w' BN 65 #[a0, a1, a2, a3, a4, a5, a6, a7] → Box (w'.setCell ⟨w.heap.size + 1 + 1 + 1 + 1, i, none⟩ u) BN 65 #[a0, a1, a2, a3, a4, a5, a6, a7] := fun w' i u h => h.other _ _ (by simp; omega)
  replace hS1 := Lib.hid hS1
  replace hS2 := Lib.hid hS2
  refine wp_region_held_drew (S := fun w' => Box w' BN 65 #[a0, a1, a2, a3, a4, a5, a6, a7]) (by kernel_rfl) b5.drew (fun hHeld => ?_)
  refine take_want 0 (some 15) rfl (by kernel_rfl) (by kernel_rfl) (by kernel_rfl) rfl (fun _ _ _ h => h) (by rfl) (v := ?_) ?_ (by assumption) ?_
  rotate_left
  · intro w hSw; (try dsimp only at hSw); go_simp; all_goals with_reducible rfl
  simp only [Act.put, List.setIfInBounds_toArray, List.set_cons_zero, List.set_cons_succ]
  refine take_want 2 (some 17) rfl (by kernel_rfl) (by kernel_rfl) (by kernel_rfl) rfl (fun _ _ _ h => h) (by rfl) (v := ?_) ?_ (by assumption) ?_
  rotate_left
  · intro w hSw; (try dsimp only at hSw); go_simp; all_goals with_reducible rfl
  simp only [Act.put, List.setIfInBounds_toArray, List.set_cons_zero, List.set_cons_succ]
  refine take_want 4 (some 19) rfl (by kernel_rfl) (by kernel_rfl) (by kernel_rfl) rfl (fun _ _ _ h => h) (by rfl) (v := ?_) ?_ (by assumption) ?_
  rotate_left
  · intro w hSw; (try dsimp only at hSw); go_simp; all_goals with_reducible rfl
  simp only [Act.put, List.setIfInBounds_toArray, List.set_cons_zero, List.set_cons_succ]
  refine take_want 1 (some 16) rfl (by as_aux_lemma => kernel_rfl) (by as_aux_lemma => kernel_rfl) (by as_aux_lemma => kernel_rfl) rfl (fun _ _ _ h => h) (by rfl) (v := (.agg #[a0, a1, a2, a3])) (exec_load 54 _ rfl BN 0 rfl #[a0, a1, a2, a3] (fun w hS => half_range0 hS) _ Tryz.underlying54 rfl i0) (by assumption) ?_
  simp only [Act.put, List.setIfInBounds_toArray, List.set_cons_zero, List.set_cons_succ]
  refine take_want 3 (some 18) rfl (by as_aux_lemma => kernel_rfl) (by as_aux_lemma => kernel_rfl) (by as_aux_lemma => kernel_rfl) rfl (fun _ _ _ h => h) (by rfl) (v := (.agg #[a4, a5, a6, a7])) (exec_load 54 _ rfl BN 4 rfl #[a4, a5, a6, a7] (fun w hS => half_range hS) _ Tryz.underlying54 rfl i4) (by assumption) ?_
  simp only [Act.put, List.setIfInBounds_toArray, List.set_cons_zero, List.set_cons_succ]
  refine wpAnyH_storeK (w.heap.size + 1 + 1 + 1) 54 5 rfl rfl rfl rfl 0 #[a0, a1, a2, a3] _ #[a0, a1, a2, a3] (by kernel_rfl) hS1.out rfl rfl bR5.drew hHeld i0 (Nat.le_of_eq rfl) h10 (whole_new rfl) (fun W6 hk6 b6 hHeld3 => ?_)
  have bS6 := hk6.box bS5.drew bS5.drew.lt (by omega)
  refine wpAnyH_storeK (w.heap.size + 1 + 1 + 1 + 1) 54 6 rfl rfl rfl rfl 0 #[a4, a5, a6, a7] _ #[a4, a5, a6, a7] (by kernel_rfl) hS2.out rfl rfl bS6 hHeld3 i4 (Nat.le_of_eq rfl) h14 (whole_new rfl) (fun W7 hk7 b7 hHeld4 => ?_)
  have b6' := hk7.box b6 b6.lt (by omega)
  refine take_want 7 (some 8) rfl (by kernel_rfl) (by kernel_rfl) (by kernel_rfl) rfl (fun _ _ _ h => h) (by rfl) (v := ?_) ?_ (by assumption) ?_
  rotate_left
  · intro w hSw; (try dsimp only at hSw); go_simp; all_goals with_reducible rfl
  simp only [Act.put, List.setIfInBounds_toArray, List.set_cons_zero, List.set_cons_succ]
  refine wpAnyH_done (by kernel_rfl) ?_ _
  go_wp2
  refine bodyPost_ret (b6'.results3 b7 rfl _ _ rfl rfl Tryz.underlying54 rfl i0 i4) rfl ?_
  have hx6 := hx5.trans (((Ext.refl W5).drew).trans ((hk6.ext bR5.drew (by decide)).trans (hk7.ext bS6 (by decide))))
  have hB6 := hk6.below hB5.drew (by omega) (by have := hB5.size; simpa using this)
  exact ⟨_, _, _, _, _, _, _, _, rfl, hR _ _ _ hx6 hr, hk7.below hB6 (by omega) hB6.size⟩
end Go.Proofs.YtepodcocemmejaaGreatDoor
namespace Go.Proofs.YtepodcocemmejaaGreatDoor
open Go.RowKit Go.Mono
set_option maxRecDepth 100000 in
set_option maxHeartbeats 1000000 in
/-- Back of a pencil through a valid optics -/
theorem back_ok (a : Lns) (ha : a.opt) (q : Plc) (hchk : Chk a q) (k : Nat) (k1 : k < a.nw) (y u : Rat) (hf : BkFits a k y u) (w : World) (h : OptAt w a q) (m : Nat) (hp : PowsAt w m) (C : Array Value) (RC : PenQ w C (y, u)) :
    Calls Tryz.prog 21 #[.agg (a.ovals q), .int .i64 (k : Int), .agg C] w fun e w' => ∃ a0 a1 a2 a3 a4 a5 a6 a7, e = .returned (.tuple #[.agg #[a0, a1, a2, a3], .agg #[a4, a5, a6, a7], .int .i64 0]) ∧ PenQ w' #[a0, a1, a2, a3, a4, a5, a6, a7] (a.bk k y u a.ns) ∧ Below w.heap.size w w' := by
  refine (backX_of a q k 0 C w (fun C w => C.all (·.oneCell') = true ∧ PenQ w C (a.bk k y u a.ns)) (fun C w1 w2 hx hr => ⟨hr.1, hr.2.ext hx⟩) (fun C w1 hr => ⟨hr.1, ?_⟩) (fun W Bo Bk Bl hW bo bk bl => ?_)).mono ?_
  · obtain ⟨p1, n1, d1, p2, n2, d2, p3, n3, d3, p4, n4, d4, hC, _, _⟩ := hr.2
    exact ⟨_, _, _, _, _, _, _, _, hC⟩
  · refine (caughtP_ret 62 _ (Go.Proofs.enters_of Tryz.func62 (by kernel_rfl) rfl) W (fun C w1 => PenQ w1 C (a.bk k y u a.ns)) (fun C w1 w2 c0 _ hx h => h.ext hx) (fun W2 hW2 _ => ?_)).mono ?_
    · exact ((callsIn_wide (n := 6)).1 (back1_wide a ha q hchk k k1 y u hf W2 (h.below (belowCall hW hW2)) m (hp.below (belowCall hW hW2)) Bo Bk Bl (bo.below hW2) (bk.below hW2) C (bl.below hW2) (RC.ext (.of_below (belowCall hW hW2)))))
    · rintro e w' ⟨C', rfl, hC', h1, hr, hb⟩
      exact ⟨C', rfl, ⟨h1, hr⟩, hb⟩
  · rintro e w' ⟨a0, a1, a2, a3, a4, a5, a6, a7, rfl, hr, hb⟩
    exact ⟨_, _, _, _, _, _, _, _, rfl, hr.2, hb⟩
set_option maxRecDepth 100000 in
set_option maxHeartbeats 1000000 in
theorem back1_zero (a : Lns) (q : Plc) (hchk : Chk a q) (k : Nat) (k1 : k < a.nw) (w : World) (h : OptAt w a q) (Bo Bk Bl : Nat) (bo : Box w Bo 45 (a.ovals q)) (bk : Box w Bk 3 #[.int .i64 (k : Int)]) (bl : Box w Bl 65 pen0) :
    Calls Tryz.prog 62 #[.pointer (some ⟨Bo, 0, none⟩), .pointer (some ⟨Bk, 0, none⟩), .pointer (some ⟨Bl, 0, none⟩)] w fun e w' => e = .panicked [{ v := .iface 126 (.agg #[.int .i64 40]), recovered := false }] ∧ Below w.heap.size w w' := by
  refine (callsIn_wide (n := 6)).1 ?_
  have hro : Fence.wide.round = none := rfl
  have hlook := fun W (hW : Below w.heap.size w W) => look_ok a q hchk k W (h.below hW) k1
  have co := bo.cell
  have lo := bo.lt
  have ck := bk.cell
  have lk := bk.lt
  simp only [Lns.ovals, Lns.vvals] at hlook
  simp only [Lns.ovals] at co
  unfold pen0 at bl
  refine callsIn_of_wp_marks Tryz.func62 rfl trivial ?_ hro
  simp only [Tryz.ntmps62, List.size_toArray, List.length_cons, List.length_nil, Nat.reduceAdd, Nat.reduceSub, Array.replicate_succ, Array.replicate_zero, List.push_toArray, List.append_toArray, List.nil_append, List.cons_append]
  refine wpIn_wide.2 ?_
  go_wp2_with fail
  refine boxes1c fun W hB hs bOut => ?_
  refine (hlook W hB).mono ?_
  rintro e W1 ⟨rfl, hb⟩
  have hB1 := belowCall hB hb
  clear hlook co lo ck lk bOut
  have cl := (bl.below hB1).cell
  have ll := (bl.below hB1).lt
  go_wp2_with fail
  refine boxes2c fun W2 hB2 hs2 bV bF => ?_
  have hB2' := belowCall hB1 hB2
  have cF := bF.cell
  refine (fr_zero1 quot0 rfl _ 2 W2 ⟨Nat.le_refl _, by decide, fun _ => ⟨_, _, rfl, bF.lt, fun i j hi hj => ?_⟩⟩).mono ?_
  · rw [cF]
    match i, j, hi, hj with
    | 0, 0, _, _ => rfl
    | 0, 1, _, _ => rfl
    | 0, 2, _, _ => rfl
    | 0, 3, _, _ => rfl
    | 1, 0, _, _ => rfl
    | 1, 1, _, _ => rfl
    | 1, 2, _, _ => rfl
    | 1, 3, _, _ => rfl
  rintro e W3 ⟨rfl, hb3⟩
  exact ⟨rfl, belowCall hB2' hb3⟩
/-- Back of the zero pencil -/
theorem back_zero (a : Lns) (q : Plc) (hchk : Chk a q) (k : Nat) (k1 : k < a.nw) (w : World) (h : OptAt w a q) :
    Calls Tryz.prog 21 #[.agg (a.ovals q), .int .i64 (k : Int), .agg pen0] w fun e w' => e = .returned (.tuple #[.agg quot0, .agg quot0, .int .i64 40]) ∧ Below w.heap.size w w' := by
  refine (backX_of a q k 40 pen0 w (fun C _ => C = pen0) (fun C w1 w2 hx hr => hr) (fun C w1 hr => ?_) (fun W Bo Bk Bl hW bo bk bl => ?_)).mono ?_
  · subst hr
    exact ⟨by simp [pen0, Value.oneCell'], _, _, _, _, _, _, _, _, rfl⟩
  · refine (caughtP_panic 62 _ (Go.Proofs.enters_of Tryz.func62 (by kernel_rfl) rfl) 40 W (fun W2 hW2 _ => ?_)).mono ?_
    · exact back1_zero a q hchk k k1 W2 (h.below (belowCall hW hW2)) Bo Bk Bl (bo.below hW2) (bk.below hW2) (bl.below hW2)
    · rintro e w' ⟨rfl, hb⟩
      exact ⟨_, rfl, rfl, hb⟩
  · rintro e w' ⟨a0, a1, a2, a3, a4, a5, a6, a7, rfl, hr, hb⟩
    simp only [pen0, Array.mk.injEq, List.cons.injEq, and_true] at hr
    obtain ⟨rfl, rfl, rfl, rfl, rfl, rfl, rfl, rfl⟩ := hr
    exact ⟨rfl, hb⟩
set_option maxRecDepth 100000 in
set_option maxHeartbeats 1000000 in
/-- Slopes' closure where the lengths differ -/
theorem slopes1_len (a : Lns) (q : Plc) (hchk : Chk a q) (k : Nat) (k1 : k < a.nw) (p : Option Addr) (n c : Nat) (hn : n ≠ a.ns) (w : World) (h : OptAt w a q) (Bo Bk Bl : Nat) (bo : Box w Bo 45 (a.ovals q)) (bk : Box w Bk 3 #[.int .i64 (k : Int)]) (bl : Box w Bl 58 #[.slice p n c]) :
    Calls Tryz.prog 65 #[.pointer (some ⟨Bo, 0, none⟩), .pointer (some ⟨Bk, 0, none⟩), .pointer (some ⟨Bl, 0, none⟩)] w fun e w' => e = .panicked [{ v := .iface 126 (.agg #[.int .i64 2]), recovered := false }] ∧ Below w.heap.size w w' := by
  have hlook := fun W (hW : Below w.heap.size w W) => look_ok a q hchk k W (h.below hW) k1
  have co := bo.cell
  have lo := bo.lt
  have ck := bk.cell
  have lk := bk.lt
  simp only [Lns.ovals, Lns.vvals] at hlook
  simp only [Lns.ovals] at co
  have hn' : ¬ ((n : Int) = a.ns) := by omega
  go_enter Tryz.func65, Tryz.ntmps65
  go_wp2_with fail
  refine (hlook w (Below.refl _ _)).mono ?_
  rintro e W1 ⟨rfl, hB1⟩
  clear hlook co lo ck lk
  have cl := (bl.below hB1).cell
  have ll := (bl.below hB1).lt
  go_wp2
  exact ⟨rfl, rfl, belowAlloc hB1 _⟩
set_option maxRecDepth 100000 in
set_option maxHeartbeats 1000000 in
/-- Slopes' closure where the first pencil is the zero value -/
theorem slopes1_zero (a : Lns) (ha : a.opt) (q : Plc) (hchk : Chk a q) (k : Nat) (k1 : k < a.nw) (b off c : Nat) (w : World) (h : OptAt w a q) (Bo Bk Bl : Nat) (bo : Box w Bo 45 (a.ovals q)) (bk : Box w Bk 3 #[.int .i64 (k : Int)]) (bl : Box w Bl 58 #[.slice (some ⟨b, off, none⟩) a.ns c]) (hbl : b < w.heap.size) (hcell : ∀ j, j < 8 → w.cell? ⟨b, off + j, none⟩ = pen0[j]?) :
    Calls Tryz.prog 65 #[.pointer (some ⟨Bo, 0, none⟩), .pointer (some ⟨Bk, 0, none⟩), .pointer (some ⟨Bl, 0, none⟩)] w fun e w' => e = .panicked [{ v := .iface 126 (.agg #[.int .i64 40]), recovered := false }] ∧ Below w.heap.size w w' := by
  have hns := ha.base.ns
  have hlook := fun W (hW : Below w.heap.size w W) => look_ok a q hchk k W (h.below hW) k1
  have co := bo.cell
  have lo := bo.lt
  have ck := bk.cell
  have lk := bk.lt
  simp only [Lns.ovals, Lns.vvals] at hlook
  simp only [Lns.ovals] at co
  go_enter Tryz.func65, Tryz.ntmps65
  go_wp2_with fail
  refine (hlook w (Below.refl _ _)).mono ?_
  rintro e W1 ⟨rfl, hB1⟩
  clear hlook co lo ck lk
  have cl := (bl.below hB1).cell
  have ll := (bl.below hB1).lt
  go_wp2_with fail
  refine boxes1 fun W2 hB2 hs2 bV => ?_
  have hB2' := belowCall hB1 hB2
  clear cl ll
  go_loopw [24] (fun x wr => x = .int .i64 0 ∧ wr = W2) (fun x _ => 0)
  case atStart => exact ⟨rfl, rfl⟩
  case round =>
    obtain ⟨rfl, rfl⟩ := hrel
    have hi' : (0 : Int) < a.ns := by omega
    have e0 : wr.cell? ⟨b, off, none⟩ = some (.bool false) := (hB2'.cell (p := ⟨b, off + 0, none⟩) hbl).trans (hcell 0 (by decide))
    have e1 : wr.cell? ⟨b, off + 1, none⟩ = some (.slice none 0 0) := (hB2'.cell (p := ⟨b, off + 1, none⟩) hbl).trans (hcell 1 (by decide))
    have e2 : wr.cell? ⟨b, off + 2, none⟩ = some (.bool false) := (hB2'.cell (p := ⟨b, off + 2, none⟩) hbl).trans (hcell 2 (by decide))
    have e3 : wr.cell? ⟨b, off + 3, none⟩ = some (.slice none 0 0) := (hB2'.cell (p := ⟨b, off + 3, none⟩) hbl).trans (hcell 3 (by decide))
    have e4 : wr.cell? ⟨b, off + 4, none⟩ = some (.bool false) := (hB2'.cell (p := ⟨b, off + 4, none⟩) hbl).trans (hcell 4 (by decide))
    have e5 : wr.cell? ⟨b, off + 5, none⟩ = some (.slice none 0 0) := (hB2'.cell (p := ⟨b, off + 5, none⟩) hbl).trans (hcell 5 (by decide))
    have e6 : wr.cell? ⟨b, off + 6, none⟩ = some (.bool false) := (hB2'.cell (p := ⟨b, off + 6, none⟩) hbl).trans (hcell 6 (by decide))
    have e7 : wr.cell? ⟨b, off + 7, none⟩ = some (.slice none 0 0) := (hB2'.cell (p := ⟨b, off + 7, none⟩) hbl).trans (hcell 7 (by decide))
    have lb := Nat.lt_of_lt_of_le hbl hB2'.size
    go_wp2_with fail
    refine boxes2c fun W3 hB3 hs3 bP bF => ?_
    have hB3' := belowCall hB2' hB3
    have cF := bF.cell
    refine (fr_zero1 quot0 rfl _ 2 W3 ⟨Nat.le_refl _, by decide, fun _ => ⟨_, _, rfl, bF.lt, fun i j hi hj => ?_⟩⟩).mono ?_
    · rw [cF]
      match i, j, hi, hj with
      | 0, 0, _, _ => rfl
      | 0, 1, _, _ => rfl
      | 0, 2, _, _ => rfl
      | 0, 3, _, _ => rfl
      | 1, 0, _, _ => rfl
      | 1, 1, _, _ => rfl
      | 1, 2, _, _ => rfl
      | 1, 3, _, _ => rfl
    rintro e W4 ⟨rfl, hb4⟩
    exact ⟨rfl, rfl, belowCall hB3' hb4⟩
/-- two cells of caught's own boxes -/
theorem quots_caught {w1 : World} {base N : Nat} {p : Option Addr} {n c : Nat} {f : Nat → Rat} (h : QuotsAt w1 base 54 p n c f) {c0 c1 : Array Value} (b0 : Box w1 N 71 c0) (b1 : Box w1 (N + 1) 59 c1) (u0 u1 : Value) :
    QuotsAt ((w1.setCell ⟨N, 0, none⟩ u0).setCell ⟨N + 1, 0, none⟩ u1) base 54 p n c f := by
  have k0 := (KeepBut.refl N w1).set 0 u0
  have h0 := h.keep b0 (by decide) (by decide) k0
  have b1' := b1.other ⟨N, 0, none⟩ u0 (by simp)
  have k1 := (KeepBut.refl (N + 1) (w1.setCell ⟨N, 0, none⟩ u0)).set 0 u1
  exact h0.keep b1' (by decide) (by decide) k1
set_option maxRecDepth 100000 in
set_option maxHeartbeats 1000000 in
/-- Slopes of the pencils of a valid optics -/
theorem slopes_ok (a : Lns) (ha : a.opt) (q : Plc) (hchk : Chk a q) (k : Nat) (k1 : k < a.nw) (base : Nat) (p : Option Addr) (c : Nat) (f : Nat → Rat × Rat) (hnz : ∀ s, s < a.ns → (a.nI k s).num ≠ 0) (hfit : ∀ s, s < a.ns → Fits ((f s).2 / a.nI k s)) (w : World) (h : OptAt w a q) (hP : PensAt w base 65 p a.ns c f) :
    Calls Tryz.prog 24 #[.agg (a.ovals q), .int .i64 (k : Int), .slice p a.ns c] w fun e w' => ∃ p' c' base', e = .returned (.tuple #[.slice p' a.ns c', .int .i64 0]) ∧ w.heap.size ≤ base' ∧ QuotsAt w' base' 54 p' a.ns c' (fun s => (f s).2 / a.nI k s) ∧ Below w.heap.size w w' := by
  have hmf : ∀ (fn : Fn) (first cap : Array Value) (w : World), (Instr.makeFunc fn first cap).run Tryz.prog w = .ok (.func fn first cap) w := fun _ _ _ _ => rfl
  have hg := fun W (hW : Below w.heap.size w W) Bo Bk Bl bo bk bl => slopes1_ok a ha q hchk k k1 base p c f hnz hfit W (h.below hW) Bo Bk Bl bo bk bl (hP.below hW)
  clear hP h
  simp only [Lns.ovals] at hg ⊢
  go_enter Tryz.func24, Tryz.ntmps24
  go_wp2_with fail
  refine boxes3c fun W hB hs bO bK bL => ?_
  refine (caughtS_ret 65 _ (Go.Proofs.enters_of Tryz.func65 (by kernel_rfl) rfl) W (fun v w1 => ∃ p c base, v = .slice p a.ns c ∧ W.heap.size ≤ base ∧ QuotsAt w1 base 54 p a.ns c (fun s => (f s).2 / a.nI k s)) ?_ ?_).mono ?_
  · rintro v w1 u0 u1 c0 c1 b0 b1 ⟨p, c, base, rfl, hb, hP⟩
    exact ⟨p, c, base, rfl, hb, quots_caught hP b0 b1 u0 u1⟩
  · intro W2 hW2 hs2
    refine (hg W2 (belowCall hB hW2) _ _ _ (bO.below hW2) (bK.below hW2) (bL.below hW2)).mono ?_
    rintro e w' ⟨p, c, rfl, hP, hb⟩
    exact ⟨p, _, c, rfl, ⟨p, c, _, rfl, by omega, hP⟩, hb⟩
  rintro e W3 ⟨p, n, c, rfl, ⟨p', c', base, hv, hb, hP⟩, hb3⟩
  cases hv
  have hB3 := belowCall hB hb3
  have hbs : w.heap.size ≤ base := by have := hB.size; omega
  go_wp2
  go_ret2
  exact ⟨p, c, base, rfl, hbs, hP, hB3⟩
set_option maxRecDepth 100000 in
set_option maxHeartbeats 1000000 in
/-- Slopes where its closure panics -/
theorem slopes_panic (a : Lns) (q : Plc) (k z : Int) (v : Value) (w : World)
    (hg : ∀ W Bo Bk Bl, Below w.heap.size w W → Box W Bo 45 (a.ovals q) → Box W Bk 3 #[.int .i64 k] → Box W Bl 58 #[v] → Calls Tryz.prog 65 #[.pointer (some ⟨Bo, 0, none⟩), .pointer (some ⟨Bk, 0, none⟩), .pointer (some ⟨Bl, 0, none⟩)] W fun e w' => e = .panicked [{ v := .iface 126 (.agg #[.int .i64 z]), recovered := false }] ∧ Below W.heap.size W w') (hv : v.oneCell' = true) :
    Calls Tryz.prog 24 #[.agg (a.ovals q), .int .i64 k, v] w fun e w' => e = .returned (.tuple #[.slice none 0 0, .int .i64 z]) ∧ Below w.heap.size w w' := by
  have hmf : ∀ (fn : Fn) (first cap : Array Value) (w : World), (Instr.makeFunc fn first cap).run Tryz.prog w = .ok (.func fn first cap) w := fun _ _ _ _ => rfl
  simp only [Lns.ovals] at hg ⊢
  go_enter Tryz.func24, Tryz.ntmps24
  go_wp2_with fail
  refine boxes3c fun W hB hs bO bK bL => ?_
  refine (caughtS_panic 65 _ (Go.Proofs.enters_of Tryz.func65 (by kernel_rfl) rfl) z W ?_).mono ?_
  · intro W2 hW2 hs2
    exact hg W2 _ _ _ (belowCall hB hW2) (bO.below hW2) (bK.below hW2) (bL.below hW2)
  rintro e W3 ⟨rfl, hb3⟩
  go_wp2
  go_ret2
  exact ⟨rfl, belowCall hB hb3⟩
end Go.Proofs.YtepodcocemmejaaGreatDoor
namespace Go.Proofs.YtepodcocemmejaaGreatDoor
open Go.RowKit Go.Mono
set_option maxRecDepth 100000 in
theorem lwof_ok (n d : Int) (d0 : d ≠ 0) (w : World) (a1 : -9223372036854775808 ≤ n) (a2 : n ≤ 9223372036854775807) (b1 : -9223372036854775808 ≤ d) (b2 : d ≤ 9223372036854775807) :
    Calls Tryz.prog 36 #[.int .i64 n, .int .i64 d] w fun e w' => ∃ C, e = .returned (.agg C) ∧ QV w' (.agg C) (Rat.divInt n d) ∧ Below w.heap.size w w' := by
  go_enter Tryz.func36, Tryz.ntmps36
  go_wp2_with fail
  refine boxes1c fun W hB hs bR => ?_
  refine (qof_ok n d d0 W a1 a2 b1 b2).mono ?_
  rintro e W1 ⟨r, rfl, hr, hb⟩
  obtain ⟨C, rfl, hC, h1⟩ := hr.cells
  have hi : (Tryz.prog.info? 54).map (·.size) = some C.size := by rw [hC]; exact sizeQuot
  replace hB := belowCall hB hb
  replace bR := bR.below hb
  clear hb a1 a2 b1 b2 d0
  go_wp2_with first | (refine wpList_new rfl 54 rfl _ alloc_quot ?_; intro W2 BN hle hB2 bn) | (refine wpList_store_box rfl 54 (.tmp 5) _ rfl BN 0 54 _ C C rfl rfl bn hi (Nat.le_of_eq (by rw [hC]; rfl)) h1 (whole_new (by rw [hC]; rfl)) ?_; intro W3 hk3 b3; have hR3 := hk3.box (bR.below hB2) (bR.below hB2).lt (by have := bR.lt; omega)) | (refine wpList_load_box rfl 54 (.tmp 5) rfl BN rfl 54 C b3 _ Tryz.underlying54 rfl hi ?_) | (refine wpList_store_box rfl 54 (.tmp 4) _ rfl w.heap.size 0 54 _ C C rfl rfl hR3 hi (Nat.le_of_eq (by rw [hC]; rfl)) h1 (whole_new (by rw [hC]; rfl)) ?_; intro W4 hk4 b4)
  refine bodyPost_ret (b4.results rfl _ _ rfl Tryz.underlying54 rfl hi) rfl ?_
  have hB3 := hk3.below (belowCall hB hB2) (Nat.le_trans hB.size hle) (belowCall hB hB2).size
  exact ⟨C, rfl, hr.ext ((Ext.of_below hB2).trans ((hk3.ext bn (by decide)).trans (hk4.ext hR3 (by decide)))), hk4.below hB3 (Nat.le_refl _) hB3.size⟩
theorem lis_ok (n d : Int) (w : World) :
    Calls Tryz.prog 39 #[.int .i64 n, .int .i64 d] w fun e w' => ∃ A B, e = .returned (.func (.func 81) #[] #[.pointer (some ⟨A, 0, none⟩), .pointer (some ⟨B, 0, none⟩)]) ∧ Box w' A 3 #[.int .i64 n] ∧ Box w' B 3 #[.int .i64 d] ∧ Below w.heap.size w w' := by
  have hmf : ∀ (fn : Fn) (first cap : Array Value) (w : World), (Instr.makeFunc fn first cap).run Tryz.prog w = .ok (.func fn first cap) w := fun _ _ _ _ => rfl
  go_enter Tryz.func39, Tryz.ntmps39
  go_wp2
  go_ret
  refine ⟨_, _, rfl, (Box.new _ _ _).alloc _, ?_, ((Below.refl _ _).alloc (Nat.le_refl _) _).alloc (by simp) _⟩
  have := Box.new (w.alloc (.cells #[.int .i64 n] 3)) 3 #[.int .i64 d]
  rwa [World.size_alloc] at this
set_option maxRecDepth 100000 in
set_option maxHeartbeats 1000000 in
theorem lis1_ok (n d : Int) (d0 : d ≠ 0) (a1 : -9223372036854775808 ≤ n) (a2 : n ≤ 9223372036854775807) (b1 : -9223372036854775808 ≤ d) (b2 : d ≤ 9223372036854775807) (C : Array Value) (r : Rat) (w : World) (hr : QV w (.agg C) r) (A B : Nat) (ba : Box w A 3 #[.int .i64 n]) (bb : Box w B 3 #[.int .i64 d]) :
    Calls Tryz.prog 81 #[.agg C, .int .i64 0, .pointer (some ⟨A, 0, none⟩), .pointer (some ⟨B, 0, none⟩)] w fun e w' => e = .returned (.bool (decide (r = Rat.divInt n d))) ∧ Below w.heap.size w w' := by
  have hof := fun W => lwof_ok n d d0 W a1 a2 b1 b2
  obtain ⟨C', hC', hC, h1⟩ := hr.cells
  cases hC'
  have hi : (Tryz.prog.info? 54).map (·.size) = some C.size := by rw [hC]; exact sizeQuot
  clear a1 a2 b1 b2 d0
  go_enter Tryz.func81, Tryz.ntmps81
  go_wp2_with fail
  refine boxes1 fun W hB hsz bC => ?_
  have ca := (ba.below hB).cell
  have la := (ba.below hB).lt
  have cb := (bb.below hB).cell
  have lb := (bb.below hB).lt
  refine wp_region_held_drew (S := fun w' => (∀ b o, b < W.heap.size → w'.cell? ⟨b, o, none⟩ = W.cell? ⟨b, o, none⟩) ∧ Below W.heap.size W w') (by kernel_rfl) (belowS (Below.refl _ _).drew) (fun hHeld => ?_)
  refine take_want 0 (some 7) rfl (by kernel_rfl) (by kernel_rfl) (by kernel_rfl) rfl (fun _ _ _ h => h) (by rfl) (v := ?_) ?_ (by assumption) ?_
  rotate_left
  · intro w hSw; (try dsimp only at hSw); go_simp; all_goals with_reducible rfl
  simp only [Act.put, List.setIfInBounds_toArray, List.set_cons_zero, List.set_cons_succ]
  refine take_want 1 (some 8) rfl (by kernel_rfl) (by kernel_rfl) (by kernel_rfl) rfl (fun _ _ _ h => h) (by rfl) (v := ?_) ?_ (by assumption) ?_
  rotate_left
  · intro w hSw; (try dsimp only at hSw); go_simp; all_goals with_reducible rfl
  simp only [Act.put, List.setIfInBounds_toArray, List.set_cons_zero, List.set_cons_succ]
  refine take_want 2 (some 9) rfl (by kernel_rfl) (by kernel_rfl) (by kernel_rfl) rfl (fun _ _ _ h => h) (by rfl) (v := ?_) ?_ (by assumption) ?_
  rotate_left
  · intro w hSw; (try dsimp only at hSw); go_simp; all_goals with_reducible rfl
  simp only [Act.put, List.setIfInBounds_toArray, List.set_cons_zero, List.set_cons_succ]
  refine take_want 3 (some 10) rfl (by as_aux_lemma => kernel_rfl) (by as_aux_lemma => kernel_rfl) (by as_aux_lemma => kernel_rfl) rfl (fun _ _ _ h => h) (by rfl) (v := (.agg C)) (exec_load 54 _ rfl w.heap.size 0 rfl C (fun w h => (bC.below h.2).range) _ Tryz.underlying54 rfl hi) (by assumption) ?_
  simp only [Act.put, List.setIfInBounds_toArray, List.set_cons_zero, List.set_cons_succ]
  refine take_want 4 (some 11) rfl (by kernel_rfl) (by kernel_rfl) (by kernel_rfl) rfl (fun _ _ _ h => h) (by rfl) (v := ?_) ?_ (by assumption) ?_
  rotate_left
  · intro w hSw; (try dsimp only at hSw); go_simp; all_goals with_reducible rfl
  simp only [Act.put, List.setIfInBounds_toArray, List.set_cons_zero, List.set_cons_succ]
  refine take_want 5 (some 12) rfl (by kernel_rfl) (by kernel_rfl) (by kernel_rfl) rfl (fun _ _ _ h => h) (by rfl) (v := ?_) ?_ (by assumption) ?_
  rotate_left
  · intro w hSw; (try dsimp only at hSw); go_simp; all_goals with_reducible rfl
  simp only [Act.put, List.setIfInBounds_toArray, List.set_cons_zero, List.set_cons_succ]
  refine wpAnyH_ready (rs := [6]) (by kernel_rfl) (by simp) ?_
  refine AllReadyH.cons rfl (fun K hK => ?_) AllReadyH.nil
  go_simp
  (refine (hof _).mono ?_; rintro e W5 ⟨C5, rfl, R5, hb5⟩)
  refine hK.out _ _ ?_ (fun hHeld => ?_)
  · first | exact (belowS (belowCall hHeld.2 hb5)) | fail "keep"
  clear hK K
  try simp only [Act.put, List.setIfInBounds_toArray, List.set_cons_zero, List.set_cons_succ]
  have hr5 := (hr.ext (.of_below hB)).ext (.of_below hHeld.2)
  refine wpAnyH_ready (rs := [7]) (by kernel_rfl) (by simp) ?_
  refine AllReadyH.cons rfl (fun K hK => ?_) AllReadyH.nil
  go_simp
  (refine (qsame_ok _ _ _ _ _ _ (Ext.refl _) hr5 R5).mono ?_; rintro e W6 ⟨rfl, hb6⟩)
  refine hK.out _ _ ?_ (fun hHeld => ?_)
  · first | exact (belowS (belowCall hHeld.2 hb6)) | fail "keep"
  clear hK K
  try simp only [Act.put, List.setIfInBounds_toArray, List.set_cons_zero, List.set_cons_succ]
  refine take_want 8 (some 15) rfl (by kernel_rfl) (by kernel_rfl) (by kernel_rfl) rfl (fun _ _ _ h => h) (by rfl) (v := ?_) ?_ (by assumption) ?_
  rotate_left
  · intro w hSw; (try dsimp only at hSw); go_simp; all_goals with_reducible rfl
  simp only [Act.put, List.setIfInBounds_toArray, List.set_cons_zero, List.set_cons_succ]
  refine take_want 9 (some 6) rfl (by kernel_rfl) (by kernel_rfl) (by kernel_rfl) rfl (fun _ _ _ h => h) (by rfl) (v := ?_) ?_ (by assumption) ?_
  rotate_left
  · intro w hSw; (try dsimp only at hSw); go_simp; all_goals with_reducible rfl
  simp only [Act.put, List.setIfInBounds_toArray, List.set_cons_zero, List.set_cons_succ]
  refine wpAnyH_done (by kernel_rfl) ?_ _
  go_wp2
  go_ret
  exact ⟨rfl, belowCall hB hHeld.2⟩
end Go.Proofs.YtepodcocemmejaaGreatDoor
