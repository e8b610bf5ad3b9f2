/- Part 45 of 52 of the proof that the law ParaxialKnown returns true, whatever stands in memory, if the two listed variables hold what the text lays: contracts of the functions that it reaches. No condition beside the row. -/
import Derived.Test.YtepodcocemmejaaGreatDoorA27
import Derived.Test.YtepodcocemmejaaGreatDoorA44
set_option linter.unusedVariables false
set_option linter.unusedSimpArgs false
namespace Go.Proofs.YtepodcocemmejaaGreatDoor
open Go.RowKit Go.Mono
set_option maxRecDepth 100000 in
set_option maxHeartbeats 2000000 in
/-- optics.Check of the chapter's optics without indices -/
theorem ocheck_bad (q : Plc) (w : World) (h : LnsAt w (chL false) q) :
    Calls Tryz.prog 94 #[.agg (badV q)] w fun e w' => e = .returned (.int .i64 130) ∧ Below w.heap.size w w' := by
  refine (callsIn_wide (n := 6)).1 ?_
  have hro : Fence.wide.round = none := rfl
  have hlens := fun W (hW : Below w.heap.size w W) => lens_ok (chL false) (chL_ok false) q W (h.below hW)
  simp only [Lns.lvals, chL] at hlens
  simp only [badV]
  refine callsIn_of_wp_marks Tryz.func94 rfl trivial ?_ hro
  simp only [Tryz.ntmps94, List.size_toArray, List.length_cons, List.length_nil, Nat.reduceAdd, Nat.reduceSub, Array.replicate_succ, Array.replicate_zero, List.push_toArray, List.append_toArray, List.nil_append, List.cons_append]
  refine wpIn_wide.2 ?_
  go_wp2_with fail
  refine boxes2c fun W hB hs bO bR => ?_
  refine (hlens W hB).mono ?_
  rintro e W1 ⟨rfl, hb⟩
  have hB1 := belowCall hB hb
  replace bO := bO.below hb
  replace bR := bR.below hb
  have cO := bO.cell
  have lO := bO.lt
  have cR := bR.cell
  have lR := bR.lt
  have fR := bR.frozen
  go_wp2
  have cR2 := (bR.set 0 (.int .i64 130)).cell 0
  refine ⟨.int .i64 130, ?_, rfl, hB1.setCell (p := ⟨w.heap.size + 1, 0, none⟩) (by simp) _⟩
  simp [results, Tryz.f94, go_sem, cR2]
set_option maxRecDepth 100000 in
set_option maxHeartbeats 1000000 in
/-- look at an optics that Check refuses -/
theorem look_refused (V : Array Value) (hV : V.size = 10) (z : Int) (hz : z ≠ 0) (k : Int) (w : World) (hc : ∀ W, Below w.heap.size w W → Calls Tryz.prog 94 #[.agg V] W fun e w' => e = .returned (.int .i64 z) ∧ Below W.heap.size W w') :
    Calls Tryz.prog 47 #[.agg V, .int .i64 k] w fun e w' => e = .panicked [{ v := .iface 126 (.agg #[.int .i64 z]), recovered := false }] ∧ Below w.heap.size w w' := by
  have hi : (Tryz.prog.info? 45).map (·.size) = some V.size := by rw [hV]; kernel_rfl
  go_enter Tryz.func47, Tryz.ntmps47
  iterate 14 go_step
  refine boxes2 fun W hB hs bO bR => ?_
  go_wp2_with (refine wpList_load_box rfl 45 _ rfl w.heap.size rfl 45 V bO _ Tryz.underlying45 rfl hi ?_)
  refine (hc W hB).mono ?_
  rintro e W1 ⟨rfl, hb⟩
  go_wp2
  exact ⟨rfl, rfl, belowCall hB hb⟩
set_option maxRecDepth 100000 in
set_option maxHeartbeats 1000000 in
/-- look at a wave that is not there -/
theorem look_wave (a : Lns) (q : Plc) (hchk : Chk a q) (k : Int) (w : World) (h : OptAt w a q) (k1 : k < 0 ∨ (a.nw : Int) ≤ k) :
    Calls Tryz.prog 47 #[.agg (a.ovals q), .int .i64 k] w fun e w' => e = .panicked [{ v := .iface 126 (.agg #[.int .i64 2]), recovered := false }] ∧ Below w.heap.size w w' := by
  have hc := fun W (hW : Below w.heap.size w W) => hchk W (h.below hW)
  simp only [Lns.ovals] at hc ⊢
  clear h hchk
  by_cases k0 : k < 0
  · go_enter Tryz.func47, Tryz.ntmps47
    go_wp2_with fail
    refine boxes2c fun W hB hs bO bR => ?_
    refine (hc W hB).mono ?_
    rintro e W1 ⟨rfl, hb⟩
    have cO := (bO.below hb).cell
    have lO := (bO.below hb).lt
    go_wp2
    exact ⟨rfl, rfl, belowCall hB hb⟩
  · have k2 : (a.nw : Int) ≤ k := by omega
    go_enter Tryz.func47, Tryz.ntmps47
    go_wp2_with fail
    refine boxes2c fun W hB hs bO bR => ?_
    refine (hc W hB).mono ?_
    rintro e W1 ⟨rfl, hb⟩
    have cO := (bO.below hb).cell
    have lO := (bO.below hb).lt
    go_wp2
    exact ⟨rfl, rfl, belowCall hB hb⟩
set_option maxRecDepth 100000 in
set_option maxHeartbeats 1000000 in
/-- Trace's closure where look panics -/
theorem trace1_look (V : Array Value) (hV : V.size = 10) (z k : Int) (w : World) (hl : ∀ W, Below w.heap.size w W → Calls Tryz.prog 47 #[.agg V, .int .i64 k] W fun e w' => e = .panicked [{ v := .iface 126 (.agg #[.int .i64 z]), recovered := false }] ∧ Below W.heap.size W w')
    (Bo Bk : Nat) (P2 P3 : Value) (bo : Box w Bo 45 V) (bk : Box w Bk 3 #[.int .i64 k]) :
    Calls Tryz.prog 46 #[.pointer (some ⟨Bo, 0, none⟩), .pointer (some ⟨Bk, 0, none⟩), P2, P3] w fun e w' => e = .panicked [{ v := .iface 126 (.agg #[.int .i64 z]), recovered := false }] ∧ Below w.heap.size w w' := by
  refine (callsIn_wide (n := 6)).1 ?_
  have hro : Fence.wide.round = none := rfl
  have hi : (Tryz.prog.info? 45).map (·.size) = some V.size := by rw [hV]; kernel_rfl
  refine callsIn_of_wp_marks Tryz.func46 rfl trivial ?_ hro
  simp only [Tryz.ntmps46, List.size_toArray, List.length_cons, List.length_nil, Nat.reduceAdd, Nat.reduceSub, Array.replicate_succ, Array.replicate_zero, List.push_toArray, List.append_toArray, List.nil_append, List.cons_append]
  refine wpIn_wide.2 ?_
  go_wp2_with first | (refine boxes1l fun W hB hsz bR => ?_; refine wpList_load_box rfl 45 _ rfl Bo rfl 45 V (bo.below hB) _ Tryz.underlying45 rfl hi ?_; have ck := (bk.below hB).cell; have lk := (bk.below hB).lt)
  refine (hl W hB).mono ?_
  rintro e W1 ⟨rfl, hb⟩
  exact ⟨rfl, belowCall hB hb⟩
set_option maxRecDepth 100000 in
set_option maxHeartbeats 1000000 in
/-- Trace's closure where a fraction is the zero value -/
theorem trace1_zero (a : Lns) (q : Plc) (hchk : Chk a q) (k : Nat) (k1 : k < a.nw) (w : World) (h : OptAt w a q) (Bo Bk By Bu : Nat) (bo : Box w Bo 45 (a.ovals q)) (bk : Box w Bk 3 #[.int .i64 (k : Int)])
    (y0 y1 y2 y3 u0 u1 u2 u3 : Value) (by_ : Box w By 54 #[y0, y1, y2, y3]) (bu : Box w Bu 54 #[u0, u1, u2, u3])
    (hfr : ∀ p c W, Below w.heap.size w W → RdC W p 2 c 4 (fun i j => (if i = 0 then #[y0, y1, y2, y3] else #[u0, u1, u2, u3]).getD j undef) → Calls Tryz.prog 48 #[.slice p 2 c] W fun e w' => e = .panicked [{ v := .iface 126 (.agg #[.int .i64 40]), recovered := false }] ∧ Below W.heap.size W w') :
    Calls Tryz.prog 46 #[.pointer (some ⟨Bo, 0, none⟩), .pointer (some ⟨Bk, 0, none⟩), .pointer (some ⟨By, 0, none⟩), .pointer (some ⟨Bu, 0, none⟩)] w fun e w' => e = .panicked [{ v := .iface 126 (.agg #[.int .i64 40]), recovered := false }] ∧ Below w.heap.size w w' := by
  refine (callsIn_wide (n := 6)).1 ?_
  have hro : Fence.wide.round = none := rfl
  have hlook := fun W (hW : Below w.heap.size w W) => look_ok a q hchk k W (h.below hW) k1
  have co := bo.cell
  have lo := bo.lt
  have ck := bk.cell
  have lk := bk.lt
  simp only [Lns.ovals, Lns.vvals] at hlook
  simp only [Lns.ovals] at co
  refine callsIn_of_wp_marks Tryz.func46 rfl trivial ?_ hro
  simp only [Tryz.ntmps46, List.size_toArray, List.length_cons, List.length_nil, Nat.reduceAdd, Nat.reduceSub, Array.replicate_succ, Array.replicate_zero, List.push_toArray, List.append_toArray, List.nil_append, List.cons_append]
  refine wpIn_wide.2 ?_
  go_wp2_with fail
  refine boxes1c fun W hB hs bOut => ?_
  refine (hlook W hB).mono ?_
  rintro e W1 ⟨rfl, hb⟩
  have hB1 := belowCall hB hb
  replace bOut := bOut.below hb
  clear hlook co lo ck lk
  have cy := (by_.below hB1).cell
  have ly := (by_.below hB1).lt
  have cu := (bu.below hB1).cell
  have lu := (bu.below hB1).lt
  go_wp2_with fail
  refine boxes2c fun W2 hB2 hs2 bV bF => ?_
  have hB2' := belowCall hB1 hB2
  have cF := bF.cell
  refine (hfr _ 2 W2 hB2' ⟨Nat.le_refl _, by decide, fun _ => ⟨_, _, rfl, bF.lt, fun i j hi hj => ?_⟩⟩).mono ?_
  · rw [cF]
    match i, j, hi, hj with
    | 0, 0, _, _ => rfl
    | 0, 1, _, _ => rfl
    | 0, 2, _, _ => rfl
    | 0, 3, _, _ => rfl
    | 1, 0, _, _ => rfl
    | 1, 1, _, _ => rfl
    | 1, 2, _, _ => rfl
    | 1, 3, _, _ => rfl
  rintro e W3 ⟨rfl, hb3⟩
  exact ⟨rfl, belowCall hB2' hb3⟩
/-- the fractions of which one is the zero value -/
theorem fr_zero1 (Cu : Array Value) (hu : Cu.size = 4) (p : Option Addr) (c : Nat) (W : World) (hr : RdC W p 2 c 4 (fun i j => (if i = 0 then quot0 else Cu).getD j undef)) :
    Calls Tryz.prog 48 #[.slice p 2 c] W fun e w' => e = .panicked [{ v := .iface 126 (.agg #[.int .i64 40]), recovered := false }] ∧ Below W.heap.size W w' :=
  fractions_bad 2 0 (by decide) p c (fun i => if i = 0 then quot0 else Cu) (fun _ => 0) W hr (fun i => by split; rfl; exact hu) (fun i hi => by omega) rfl
theorem fr_zero2 (Cy : Array Value) (y : Rat) (p : Option Addr) (c : Nat) (W : World) (hy : QV W (.agg Cy) y) (hr : RdC W p 2 c 4 (fun i j => (if i = 0 then Cy else quot0).getD j undef)) :
    Calls Tryz.prog 48 #[.slice p 2 c] W fun e w' => e = .panicked [{ v := .iface 126 (.agg #[.int .i64 40]), recovered := false }] ∧ Below W.heap.size W w' := by
  obtain ⟨C', hC', hC, _⟩ := hy.cells
  cases hC'
  exact fractions_bad 2 1 (by decide) p c (fun i => if i = 0 then Cy else quot0) (fun _ => y) W hr (fun i => by split; exact hC; rfl) (fun i hi => by
    obtain rfl : i = 0 := by omega
    exact hy) rfl
end Go.Proofs.YtepodcocemmejaaGreatDoor
namespace Go.Proofs.YtepodcocemmejaaGreatDoor
open Go.RowKit Go.Mono
set_option maxRecDepth 100000 in
set_option maxHeartbeats 1000000 in
theorem power1_ok (a : Lns) (ha : a.opt) (q : Plc) (hchk : Chk a q) (s k : Nat) (w : World) (h : OptAt w a q) (s1 : s < a.ns) (k1 : k < a.nw) (hf : PowFits a k s) (m : Nat) (hp : PowsAt w m) (Bo Bk Bs : Nat) (bo : Box w Bo 45 (a.ovals q)) (bk : Box w Bk 3 #[.int .i64 (k : Int)]) (bs : Box w Bs 3 #[.int .i64 (s : Int)]) :
    Calls Tryz.prog 78 #[.pointer (some ⟨Bo, 0, none⟩), .pointer (some ⟨Bk, 0, none⟩), .pointer (some ⟨Bs, 0, none⟩)] w fun e w' => ∃ C, e = .returned (.agg C) ∧ QV w' (.agg C) (a.pow k s) ∧ Below w.heap.size w w' := by
  have hlook := fun W (hW : Below w.heap.size w W) => look_ok a q hchk k W (h.below hW) k1
  have hix := fun W (hW : Below w.heap.size w W) => power_ok a ha q hchk s k W (h.below hW) s1 k1 hf m (hp.below hW)
  have hat := fun W => at_ok a q k s W s1
  have co := bo.cell
  have lo := bo.lt
  have ck := bk.cell
  have lk := bk.lt
  have cs := bs.cell
  have ls := bs.lt
  simp only [Lns.ovals, Lns.vvals] at hlook hix hat
  simp only [Lns.ovals] at co
  go_enter Tryz.func78, Tryz.ntmps78
  go_wp2_with fail
  refine boxes1c fun W hB hsz bOut => ?_
  refine (hlook W hB).mono ?_
  rintro e W1 ⟨rfl, hb⟩
  have hB1 := belowCall hB hb
  replace bOut := bOut.below hb
  clear hlook co lo ck lk cs ls
  have cs := (bs.below hB1).cell
  have ls := (bs.below hB1).lt
  go_wp2_with fail
  refine boxes1c fun W2 hB2 hs2 bV => ?_
  have hB2' := belowCall hB1 hB2
  refine (hat W2).mono ?_
  rintro e W3 ⟨rfl, hb3⟩
  have hB3 := belowCall hB2' hb3
  replace bV := bV.below hb3
  replace bOut := (bOut.below hB2).below hb3
  clear cs ls hat
  have cs := (bs.below hB3).cell
  have ls := (bs.below hB3).lt
  have cV := bV.cell
  have lV := bV.lt
  go_wp2_with fail
  refine (hix W3 hB3).mono ?_
  rintro e W4 ⟨C, rfl, hr, hb4⟩
  obtain ⟨C', hC', hC, h1⟩ := hr.cells
  cases hC'
  have hi : (Tryz.prog.info? 54).map (·.size) = some C.size := by rw [hC]; exact sizeQuot
  have hB4 := belowCall hB3 hb4
  replace bOut := bOut.below hb4
  go_wp2_with (refine wpList_store_box rfl 54 _ _ rfl w.heap.size 0 54 _ C C rfl rfl bOut hi (Nat.le_of_eq (by rw [hC]; rfl)) h1 (whole_new (by rw [hC]; rfl)) ?_; intro W5 hk5 b5)
  refine bodyPost_ret (b5.results rfl _ _ rfl Tryz.underlying54 rfl hi) rfl ?_
  exact ⟨C, rfl, hr.ext (hk5.ext bOut (by decide)), hk5.below hB4 (Nat.le_refl _) hB4.size⟩
set_option maxRecDepth 100000 in
set_option maxHeartbeats 1000000 in
theorem index1_at (a : Lns) (q : Plc) (hchk : Chk a q) (k : Nat) (s : Int) (w : World) (h : OptAt w a q) (s1 : s < 0 ∨ (a.ns : Int) ≤ s) (k1 : k < a.nw) (Bo Bk Bs : Nat) (bo : Box w Bo 45 (a.ovals q)) (bk : Box w Bk 3 #[.int .i64 (k : Int)]) (bs : Box w Bs 3 #[.int .i64 s]) :
    Calls Tryz.prog 75 #[.pointer (some ⟨Bo, 0, none⟩), .pointer (some ⟨Bk, 0, none⟩), .pointer (some ⟨Bs, 0, none⟩)] w fun e w' => e = .panicked [{ v := .iface 126 (.agg #[.int .i64 2]), recovered := false }] ∧ Below w.heap.size w w' := by
  have hlook := fun W (hW : Below w.heap.size w W) => look_ok a q hchk k W (h.below hW) k1
  have hat : ∀ W, Calls Tryz.prog 76 #[.agg (a.vvals q k), .int .i64 s] W fun e w' => e = .panicked [{ v := .iface 126 (.agg #[.int .i64 2]), recovered := false }] ∧ Below W.heap.size W w' := fun W => s1.elim (fun h => at_low a q k s W h) (fun h => at_high a q k s W h)
  have co := bo.cell
  have lo := bo.lt
  have ck := bk.cell
  have lk := bk.lt
  have cs := bs.cell
  have ls := bs.lt
  simp only [Lns.ovals, Lns.vvals] at hlook hat
  simp only [Lns.ovals] at co
  go_enter Tryz.func75, Tryz.ntmps75
  go_wp2_with fail
  refine boxes1c fun W hB hsz bOut => ?_
  refine (hlook W hB).mono ?_
  rintro e W1 ⟨rfl, hb⟩
  have hB1 := belowCall hB hb
  replace bOut := bOut.below hb
  clear hlook co lo ck lk cs ls
  have cs := (bs.below hB1).cell
  have ls := (bs.below hB1).lt
  go_wp2_with fail
  refine boxes1c fun W2 hB2 hs2 bV => ?_
  have hB2' := belowCall hB1 hB2
  refine (hat W2).mono ?_
  rintro e W3 ⟨rfl, hb3⟩
  exact ⟨rfl, rfl, belowCall hB2' hb3⟩
set_option maxRecDepth 100000 in
set_option maxHeartbeats 1000000 in
theorem power1_at (a : Lns) (q : Plc) (hchk : Chk a q) (k : Nat) (s : Int) (w : World) (h : OptAt w a q) (s1 : s < 0 ∨ (a.ns : Int) ≤ s) (k1 : k < a.nw) (Bo Bk Bs : Nat) (bo : Box w Bo 45 (a.ovals q)) (bk : Box w Bk 3 #[.int .i64 (k : Int)]) (bs : Box w Bs 3 #[.int .i64 s]) :
    Calls Tryz.prog 78 #[.pointer (some ⟨Bo, 0, none⟩), .pointer (some ⟨Bk, 0, none⟩), .pointer (some ⟨Bs, 0, none⟩)] w fun e w' => e = .panicked [{ v := .iface 126 (.agg #[.int .i64 2]), recovered := false }] ∧ Below w.heap.size w w' := by
  have hlook := fun W (hW : Below w.heap.size w W) => look_ok a q hchk k W (h.below hW) k1
  have hat : ∀ W, Calls Tryz.prog 76 #[.agg (a.vvals q k), .int .i64 s] W fun e w' => e = .panicked [{ v := .iface 126 (.agg #[.int .i64 2]), recovered := false }] ∧ Below W.heap.size W w' := fun W => s1.elim (fun h => at_low a q k s W h) (fun h => at_high a q k s W h)
  have co := bo.cell
  have lo := bo.lt
  have ck := bk.cell
  have lk := bk.lt
  have cs := bs.cell
  have ls := bs.lt
  simp only [Lns.ovals, Lns.vvals] at hlook hat
  simp only [Lns.ovals] at co
  go_enter Tryz.func78, Tryz.ntmps78
  go_wp2_with fail
  refine boxes1c fun W hB hsz bOut => ?_
  refine (hlook W hB).mono ?_
  rintro e W1 ⟨rfl, hb⟩
  have hB1 := belowCall hB hb
  replace bOut := bOut.below hb
  clear hlook co lo ck lk cs ls
  have cs := (bs.below hB1).cell
  have ls := (bs.below hB1).lt
  go_wp2_with fail
  refine boxes1c fun W2 hB2 hs2 bV => ?_
  have hB2' := belowCall hB1 hB2
  refine (hat W2).mono ?_
  rintro e W3 ⟨rfl, hb3⟩
  exact ⟨rfl, rfl, belowCall hB2' hb3⟩
set_option maxRecDepth 100000 in
set_option maxHeartbeats 1000000 in
/-- Index where its closure returns -/
theorem indexX_ret (a : Lns) (q : Plc) (r : Rat) (k s : Int) (w : World)
    (hg : ∀ W Bo Bk Bs, Below w.heap.size w W → Box W Bo 45 (a.ovals q) → Box W Bk 3 #[.int .i64 k] → Box W Bs 3 #[.int .i64 s] → Calls Tryz.prog 75 #[.pointer (some ⟨Bo, 0, none⟩), .pointer (some ⟨Bk, 0, none⟩), .pointer (some ⟨Bs, 0, none⟩)] W fun e w' => ∃ C, e = .returned (.agg C) ∧ QV w' (.agg C) r ∧ Below W.heap.size W w') :
    Calls Tryz.prog 32 #[.agg (a.ovals q), .int .i64 k, .int .i64 s] w fun e w' => ∃ C, e = .returned (.tuple #[.agg C, .int .i64 0]) ∧ QV w' (.agg C) r ∧ Below w.heap.size w w' := by
  have hmf : ∀ (fn : Fn) (first cap : Array Value) (w : World), (Instr.makeFunc fn first cap).run Tryz.prog w = .ok (.func fn first cap) w := fun _ _ _ _ => rfl
  simp only [Lns.ovals] at hg ⊢
  go_enter Tryz.func32, Tryz.ntmps32
  go_wp2_with fail
  refine boxes4c fun W hB hs bO bK bS bR => ?_
  refine (caughtQ_ret 75 _ (Go.Proofs.enters_of Tryz.func75 (by kernel_rfl) rfl) W (fun C w1 => QV w1 (.agg C) r) ?_ ?_).mono ?_
  · intro C w1 w2 c0 _ hx h
    exact h.ext hx
  · intro W2 hW2 hs2
    refine (hg W2 _ _ _ (belowCall hB hW2) (bO.below hW2) (bK.below hW2) (bS.below hW2)).mono ?_
    rintro e w' ⟨C, rfl, hr, hb⟩
    obtain ⟨C', hC', hC, h1⟩ := hr.cells
    cases hC'
    exact ⟨C, rfl, hC, h1, hr, hb⟩
  rintro e W3 ⟨C, rfl, hC, h1, hr, hb3⟩
  have hB3 := belowCall hB hb3
  replace bR := bR.below hb3
  have hi : (Tryz.prog.info? 54).map (·.size) = some C.size := by rw [hC]; exact sizeQuot
  go_wp2_with (refine wpList_store_box rfl 54 _ _ rfl (w.heap.size + 1 + 1 + 1) 0 54 _ C C rfl rfl bR hi (Nat.le_of_eq (by rw [hC]; rfl)) h1 (whole_new (by rw [hC]; rfl)) ?_; intro W5 hk5 b5)
  refine bodyPost_ret (b5.resultsT rfl _ _ rfl Tryz.underlying54 rfl hi) rfl ?_
  exact ⟨C, rfl, hr.ext (hk5.ext bR (by decide)), hk5.below hB3 (by omega) hB3.size⟩
set_option maxRecDepth 100000 in
set_option maxHeartbeats 1000000 in
/-- Index where its closure panics -/
theorem indexX_panic (a : Lns) (q : Plc) (z k s : Int) (w : World)
    (hg : ∀ W Bo Bk Bs, Below w.heap.size w W → Box W Bo 45 (a.ovals q) → Box W Bk 3 #[.int .i64 k] → Box W Bs 3 #[.int .i64 s] → Calls Tryz.prog 75 #[.pointer (some ⟨Bo, 0, none⟩), .pointer (some ⟨Bk, 0, none⟩), .pointer (some ⟨Bs, 0, none⟩)] W fun e w' => e = .panicked [{ v := .iface 126 (.agg #[.int .i64 z]), recovered := false }] ∧ Below W.heap.size W w') :
    Calls Tryz.prog 32 #[.agg (a.ovals q), .int .i64 k, .int .i64 s] w fun e w' => e = .returned (.tuple #[.agg quot0, .int .i64 z]) ∧ Below w.heap.size w w' := by
  have hmf : ∀ (fn : Fn) (first cap : Array Value) (w : World), (Instr.makeFunc fn first cap).run Tryz.prog w = .ok (.func fn first cap) w := fun _ _ _ _ => rfl
  simp only [Lns.ovals] at hg ⊢
  go_enter Tryz.func32, Tryz.ntmps32
  go_wp2_with fail
  refine boxes4c fun W hB hs bO bK bS bR => ?_
  refine (caughtQ_panic 75 _ (Go.Proofs.enters_of Tryz.func75 (by kernel_rfl) rfl) z W ?_).mono ?_
  · intro W2 hW2 hs2
    exact hg W2 _ _ _ (belowCall hB hW2) (bO.below hW2) (bK.below hW2) (bS.below hW2)
  rintro e W3 ⟨rfl, hb3⟩
  have hB3 := belowCall hB hb3
  replace bR := bR.below hb3
  have hi : (Tryz.prog.info? 54).map (·.size) = some quot0.size := sizeQuot
  have h1 : quot0.all (·.oneCell') = true := by simp [quot0, Value.oneCell']
  go_wp2_with (refine wpList_store_box rfl 54 _ _ rfl (w.heap.size + 1 + 1 + 1) 0 54 _ quot0 quot0 rfl rfl bR hi (Nat.le_of_eq rfl) h1 (whole_new rfl) ?_; intro W5 hk5 b5)
  refine bodyPost_ret (b5.resultsT rfl _ _ rfl Tryz.underlying54 rfl hi) rfl ?_
  exact ⟨rfl, hk5.below hB3 (by omega) hB3.size⟩
set_option maxRecDepth 100000 in
set_option maxHeartbeats 1000000 in
/-- Power where its closure returns -/
theorem powerX_ret (a : Lns) (q : Plc) (r : Rat) (k s : Int) (w : World)
    (hg : ∀ W Bo Bk Bs, Below w.heap.size w W → Box W Bo 45 (a.ovals q) → Box W Bk 3 #[.int .i64 k] → Box W Bs 3 #[.int .i64 s] → Calls Tryz.prog 78 #[.pointer (some ⟨Bo, 0, none⟩), .pointer (some ⟨Bk, 0, none⟩), .pointer (some ⟨Bs, 0, none⟩)] W fun e w' => ∃ C, e = .returned (.agg C) ∧ QV w' (.agg C) r ∧ Below W.heap.size W w') :
    Calls Tryz.prog 34 #[.agg (a.ovals q), .int .i64 k, .int .i64 s] w fun e w' => ∃ C, e = .returned (.tuple #[.agg C, .int .i64 0]) ∧ QV w' (.agg C) r ∧ Below w.heap.size w w' := by
  have hmf : ∀ (fn : Fn) (first cap : Array Value) (w : World), (Instr.makeFunc fn first cap).run Tryz.prog w = .ok (.func fn first cap) w := fun _ _ _ _ => rfl
  simp only [Lns.ovals] at hg ⊢
  go_enter Tryz.func34, Tryz.ntmps34
  go_wp2_with fail
  refine boxes4c fun W hB hs bO bK bS bR => ?_
  refine (caughtQ_ret 78 _ (Go.Proofs.enters_of Tryz.func78 (by kernel_rfl) rfl) W (fun C w1 => QV w1 (.agg C) r) ?_ ?_).mono ?_
  · intro C w1 w2 c0 _ hx h
    exact h.ext hx
  · intro W2 hW2 hs2
    refine (hg W2 _ _ _ (belowCall hB hW2) (bO.below hW2) (bK.below hW2) (bS.below hW2)).mono ?_
    rintro e w' ⟨C, rfl, hr, hb⟩
    obtain ⟨C', hC', hC, h1⟩ := hr.cells
    cases hC'
    exact ⟨C, rfl, hC, h1, hr, hb⟩
  rintro e W3 ⟨C, rfl, hC, h1, hr, hb3⟩
  have hB3 := belowCall hB hb3
  replace bR := bR.below hb3
  have hi : (Tryz.prog.info? 54).map (·.size) = some C.size := by rw [hC]; exact sizeQuot
  go_wp2_with (refine wpList_store_box rfl 54 _ _ rfl (w.heap.size + 1 + 1 + 1) 0 54 _ C C rfl rfl bR hi (Nat.le_of_eq (by rw [hC]; rfl)) h1 (whole_new (by rw [hC]; rfl)) ?_; intro W5 hk5 b5)
  refine bodyPost_ret (b5.resultsT rfl _ _ rfl Tryz.underlying54 rfl hi) rfl ?_
  exact ⟨C, rfl, hr.ext (hk5.ext bR (by decide)), hk5.below hB3 (by omega) hB3.size⟩
set_option maxRecDepth 100000 in
set_option maxHeartbeats 1000000 in
/-- Power where its closure panics -/
theorem powerX_panic (a : Lns) (q : Plc) (z k s : Int) (w : World)
    (hg : ∀ W Bo Bk Bs, Below w.heap.size w W → Box W Bo 45 (a.ovals q) → Box W Bk 3 #[.int .i64 k] → Box W Bs 3 #[.int .i64 s] → Calls Tryz.prog 78 #[.pointer (some ⟨Bo, 0, none⟩), .pointer (some ⟨Bk, 0, none⟩), .pointer (some ⟨Bs, 0, none⟩)] W fun e w' => e = .panicked [{ v := .iface 126 (.agg #[.int .i64 z]), recovered := false }] ∧ Below W.heap.size W w') :
    Calls Tryz.prog 34 #[.agg (a.ovals q), .int .i64 k, .int .i64 s] w fun e w' => e = .returned (.tuple #[.agg quot0, .int .i64 z]) ∧ Below w.heap.size w w' := by
  have hmf : ∀ (fn : Fn) (first cap : Array Value) (w : World), (Instr.makeFunc fn first cap).run Tryz.prog w = .ok (.func fn first cap) w := fun _ _ _ _ => rfl
  simp only [Lns.ovals] at hg ⊢
  go_enter Tryz.func34, Tryz.ntmps34
  go_wp2_with fail
  refine boxes4c fun W hB hs bO bK bS bR => ?_
  refine (caughtQ_panic 78 _ (Go.Proofs.enters_of Tryz.func78 (by kernel_rfl) rfl) z W ?_).mono ?_
  · intro W2 hW2 hs2
    exact hg W2 _ _ _ (belowCall hB hW2) (bO.below hW2) (bK.below hW2) (bS.below hW2)
  rintro e W3 ⟨rfl, hb3⟩
  have hB3 := belowCall hB hb3
  replace bR := bR.below hb3
  have hi : (Tryz.prog.info? 54).map (·.size) = some quot0.size := sizeQuot
  have h1 : quot0.all (·.oneCell') = true := by simp [quot0, Value.oneCell']
  go_wp2_with (refine wpList_store_box rfl 54 _ _ rfl (w.heap.size + 1 + 1 + 1) 0 54 _ quot0 quot0 rfl rfl bR hi (Nat.le_of_eq rfl) h1 (whole_new rfl) ?_; intro W5 hk5 b5)
  refine bodyPost_ret (b5.resultsT rfl _ _ rfl Tryz.underlying54 rfl hi) rfl ?_
  exact ⟨rfl, hk5.below hB3 (by omega) hB3.size⟩
set_option maxRecDepth 100000 in
set_option maxHeartbeats 1000000 in
/-- Trace where its closure panics -/
theorem trace_panic (V : Array Value) (hV : V.size = 10) (k z : Int) (Cy Cu : Array Value) (w : World)
    (hg : ∀ W Bo Bk By Bu, Below w.heap.size w W → Box W Bo 45 V → Box W Bk 3 #[.int .i64 k] → Box W By 54 Cy → Box W Bu 54 Cu → Calls Tryz.prog 46 #[.pointer (some ⟨Bo, 0, none⟩), .pointer (some ⟨Bk, 0, none⟩), .pointer (some ⟨By, 0, none⟩), .pointer (some ⟨Bu, 0, none⟩)] W fun e w' => e = .panicked [{ v := .iface 126 (.agg #[.int .i64 z]), recovered := false }] ∧ Below W.heap.size W w') :
    Calls Tryz.prog 18 #[.agg V, .int .i64 k, .agg Cy, .agg Cu] w fun e w' => e = .returned (.tuple #[.slice none 0 0, .int .i64 z]) ∧ Below w.heap.size w w' := by
  have hmf : ∀ (fn : Fn) (first cap : Array Value) (w : World), (Instr.makeFunc fn first cap).run Tryz.prog w = .ok (.func fn first cap) w := fun _ _ _ _ => rfl
  go_enter Tryz.func18, Tryz.ntmps18
  go_wp2_with fail
  refine boxes4c fun W hB hs bO bK bY bU => ?_
  refine (caughtL_panic 46 _ (Go.Proofs.enters_of Tryz.func46 (by kernel_rfl) rfl) z W ?_).mono ?_
  · intro W2 hW2 hs2
    exact hg W2 _ _ _ _ (belowCall hB hW2) (bO.below hW2) (bK.below hW2) (bY.below hW2) (bU.below hW2)
  rintro e W3 ⟨rfl, hb3⟩
  go_wp2
  go_ret2
  exact ⟨rfl, belowCall hB hb3⟩
end Go.Proofs.YtepodcocemmejaaGreatDoor
namespace Go.Mono
open Go.RowKit
/-- the ray behind i steps backwards, the last surface first -/
def Lns.bk (a : Lns) (k : Nat) (y u : Rat) : Nat → Rat × Rat
  | 0 => (y, u)
  | i + 1 =>
    let r := a.bk k y u i
    let s := a.ns - 1 - i
    let u2 := r.2 - Rat.divInt (-1) 1 * (r.1 * a.pow k s)
    (if s = 0 then r.1 else r.1 + (Rat.divInt (-1 * (a.S (s - 1)).thick) 1000000 * u2) / a.nI k (s - 1), u2)
theorem Lns.bk_zero (a : Lns) (k : Nat) (y u : Rat) (i : Nat) (h : i + 1 = a.ns) : a.bk k y u (i + 1) = ((a.bk k y u i).1, (a.bk k y u i).2 - Rat.divInt (-1) 1 * ((a.bk k y u i).1 * a.pow k 0)) := by
  have e : a.ns - 1 - i = 0 := by omega
  rw [Lns.bk]
  simp only [e, if_true]
theorem Lns.bk_succ (a : Lns) (k : Nat) (y u : Rat) (i t : Nat) (h : t + 1 + i + 1 = a.ns) : a.bk k y u (i + 1) = ((a.bk k y u i).1 + (Rat.divInt (-1 * (a.S t).thick) 1000000 * ((a.bk k y u i).2 - Rat.divInt (-1) 1 * ((a.bk k y u i).1 * a.pow k (t + 1)))) / a.nI k t, (a.bk k y u i).2 - Rat.divInt (-1) 1 * ((a.bk k y u i).1 * a.pow k (t + 1))) := by
  have e : a.ns - 1 - i = t + 1 := by omega
  rw [Lns.bk]
  simp only [e, Nat.add_one_ne_zero, if_false, Nat.add_sub_cancel]
end Go.Mono
namespace Go.Proofs.YtepodcocemmejaaGreatDoor
open Go.RowKit Go.Mono
attribute [local go_sem] Oper.semAt_some
/-- what the arithmetic backwards must fit -/
structure BkFits (a : Lns) (k : Nat) (y u : Rat) : Prop where
  pow : ∀ s, s < a.ns → PowFits a k s
  num : ∀ s, s < a.ns → (a.nI k s).num ≠ 0
  b1 : ∀ i s, s + i + 1 = a.ns → Fits ((a.bk k y u i).1 * a.pow k s)
  b2 : ∀ i s, s + i + 1 = a.ns → Fits (Rat.divInt (-1) 1 * ((a.bk k y u i).1 * a.pow k s))
  b3 : ∀ i s, s + i + 1 = a.ns → Fits ((a.bk k y u i).2 - Rat.divInt (-1) 1 * ((a.bk k y u i).1 * a.pow k s))
  m1 : ∀ i t, t + 1 + i + 1 = a.ns → Fits (Rat.divInt (-1 * (a.S t).thick) 1000000 * ((a.bk k y u i).2 - Rat.divInt (-1) 1 * ((a.bk k y u i).1 * a.pow k (t + 1))))
  m2 : ∀ i t, t + 1 + i + 1 = a.ns → Fits ((Rat.divInt (-1 * (a.S t).thick) 1000000 * ((a.bk k y u i).2 - Rat.divInt (-1) 1 * ((a.bk k y u i).1 * a.pow k (t + 1)))) / a.nI k t)
  m3 : ∀ i t, t + 1 + i + 1 = a.ns → Fits ((a.bk k y u i).1 + ((Rat.divInt (-1 * (a.S t).thick) 1000000 * ((a.bk k y u i).2 - Rat.divInt (-1) 1 * ((a.bk k y u i).1 * a.pow k (t + 1)))) / a.nI k t))
/-- behind i rounds backwards -/
def BkInv (a : Lns) (q : Plc) (k : Nat) (y u : Rat) (w W1 W3 : World) (Bn Bb i : Nat) (V : World) : Prop :=
  RayAt V W3.heap.size 108 (a.bk k y u i).1 (a.bk k y u i).2 ∧ Box V w.heap.size 65 pen0 ∧ Below w.heap.size w V ∧ Box V W1.heap.size 104 (a.vvals q k) ∧ Box V Bn 3 #[.int .i64 (a.ns : Int)] ∧ Box V Bb 4 #[.bool true]
set_option maxRecDepth 100000 in
set_option maxHeartbeats 1500000 in
theorem back1_wide (a : Lns) (ha : a.opt) (q : Plc) (hchk : Chk a q) (k : Nat) (k1 : k < a.nw) (y u : Rat) (hf : BkFits a k y u) (w : World) (h : OptAt w a q) (m : Nat) (hp : PowsAt w m)
    (Bo Bk Bl : Nat) (bo : Box w Bo 45 (a.ovals q)) (bk : Box w Bk 3 #[.int .i64 (k : Int)]) (C : Array Value) (bl : Box w Bl 65 C) (RC : PenQ w C (y, u)) :
    CallsIn Fence.wide 6 Tryz.prog 62 #[.pointer (some ⟨Bo, 0, none⟩), .pointer (some ⟨Bk, 0, none⟩), .pointer (some ⟨Bl, 0, none⟩)] w fun e w' => ∃ C, e = .returned (.agg C) ∧ C.size = 8 ∧ C.all (·.oneCell') = true ∧ PenQ w' C (a.bk k y u a.ns) ∧ Below w.heap.size w w' := by
  have hro : Fence.wide.round = none := rfl
  have hlook := fun W (hW : Below w.heap.size w W) => look_ok a q hchk k W (h.below hW) k1
  have co := bo.cell
  have lo := bo.lt
  have ck := bk.cell
  have lk := bk.lt
  obtain ⟨p1, k1x, c1, p1', k1', c1', p2, k2, c2, p2', k2', c2', rfl, Ry, Ru⟩ := RC
  simp only [Lns.ovals, Lns.vvals] at hlook
  simp only [Lns.ovals] at co
  refine callsIn_of_wp_marks Tryz.func62 rfl trivial ?_ hro
  simp only [Tryz.ntmps62, List.size_toArray, List.length_cons, List.length_nil, Nat.reduceAdd, Nat.reduceSub, Array.replicate_succ, Array.replicate_zero, List.push_toArray, List.append_toArray, List.nil_append, List.cons_append]
  refine wpIn_wide.2 ?_
  go_wp2_with fail
  refine boxes1c fun W hB hs bOut => ?_
  refine (hlook W hB).mono ?_
  rintro e W1 ⟨rfl, hb⟩
  have hB1 := belowCall hB hb
  replace bOut := bOut.below hb
  clear hlook co lo ck lk
  have cl := (bl.below hB1).cell
  have ll := (bl.below hB1).lt
  go_wp2_with fail
  refine boxes2c fun W2 hB2 hs2 bV bF => ?_
  have hB2' := belowCall hB1 hB2
  have cF := bF.cell
  have Ry2 := Ry.ext (.of_below hB2')
  have Ru2 := Ru.ext (.of_below hB2')
  refine (fractions_ok 2 _ 2 (fun i => if i = 0 then #[.bool (decide (y.num < 0)), .slice p1 k1x c1, .bool false, .slice p1' k1' c1'] else #[.bool (decide (u.num < 0)), .slice p2 k2 c2, .bool false, .slice p2' k2' c2']) (fun i => if i = 0 then y else u) W2 ⟨Nat.le_refl _, by decide, fun _ => ⟨_, _, rfl, bF.lt, fun i j hi hj => ?_⟩⟩ (fun i => by split <;> rfl) (fun i hi => by split <;> assumption)).mono ?_
  · rw [cF]
    match i, j, hi, hj with
    | 0, 0, _, _ => rfl
    | 0, 1, _, _ => rfl
    | 0, 2, _, _ => rfl
    | 0, 3, _, _ => rfl
    | 1, 0, _, _ => rfl
    | 1, 1, _, _ => rfl
    | 1, 2, _, _ => rfl
    | 1, 3, _, _ => rfl
  rintro e W3 ⟨rfl, hb3⟩
  have hB3 := belowCall hB1 (belowCall hB2 hb3)
  replace bV := bV.below hb3
  replace bOut := (bOut.below hB2).below hb3
  clear cl ll cF Ry2 Ru2 bF
  have cl := (bl.below hB3).cell
  have ll := (bl.below hB3).lt
  have cV := bV.cell
  have lV := bV.lt
  go_wp2_with fail
  refine boxes1c fun W4 hB4 hs4 bR => ?_
  have eO := order_ok a q k true W4
  simp only [Lns.vvals] at eO
  refine eO.mono ?_
  rintro e W5 ⟨Bn, Bb, rfl, hBn, hBb, bn, bb, hb5⟩
  have hB5 := belowCall hB4 hb5
  have hN := hs4
  replace bR := bR.below hb5
  replace bV := bV.below hB5
  replace bOut := bOut.below hB5
  have hB0 := belowCall hB3 hB5
  clear eO cV lV cl ll
  go_wp2_with fail
  refine (wpIn_wide (n := 6)).1 ?_
  have hns := ha.base.ns
  have hR5 : RayAt W5 W3.heap.size 108 y u := ⟨_, _, _, _, _, _, _, _, _, _, _, _, bR, Ry.ext (.of_below hB0), Ru.ext (.of_below hB0)⟩
  have hw3 : w.heap.size ≤ W3.heap.size := hB3.size
  have hw1 : w.heap.size ≤ W1.heap.size := hB1.size
  have hw5 : w.heap.size ≤ W5.heap.size := hB0.size
  clear bR Ry Ru bl bo bk hB2' hB1 hB2 hB hb hs hs2
  refine wpIn_range_all hro (by omega) (gf := 96) (fi := #[]) (lb := #[.pointer (some ⟨Bn, 0, none⟩), .pointer (some ⟨Bb, 0, none⟩)]) rfl trivial (Go.Proofs.enters_of Tryz.func96 (by kernel_rfl) rfl)
    (order1_all Fence.wide 5 trivial rfl (by omega) a.ns (by omega) Bn Bb true) (fun i => rfl)
    (BkInv a q k y u w W1 W3 Bn Bb)
    ?hI ?hK ?hIB ?h0 ?hround ?hdone
  case hI =>
    rintro i V V' row ⟨hr, b1, hV, bV, bn, bb⟩ hg hro
    have hg2 := fun r e => (hro r e).2
    unfold BkInv
    exact ⟨hr.grown hg hg2, b1.grown hg hg2, hV.grown hg hV.size (fun k e => by have := (hro k e).1; omega), bV.grown hg hg2, bn.grown hg hg2, bb.grown hg hg2⟩
  case hK =>
    rintro i V ⟨hr, b1, hV, bV, bn, bb⟩
    exact ⟨bn.cell 0, bb.cell 0⟩
  case hIB =>
    rintro i V V' ⟨hr, b1, hV, bV, bn, bb⟩ hb
    unfold BkInv
    exact ⟨hr.below hb, b1.below hb, belowCall hV hb, bV.below hb, bn.below hb, bb.below hb⟩
  case h0 =>
    unfold BkInv
    exact ⟨hR5, bOut, hB0, bV, bn, bb⟩
  case hround =>
    rintro l i V ⟨hr, b1, hV, bV, bn, bb⟩ hi hl hV4
    obtain ⟨s, hs⟩ : ∃ s, s + i + 1 = a.ns := ⟨a.ns - 1 - i, by omega⟩
    have hord : ordAt true a.ns i = (s : Int) := by simp only [ordAt, if_true]; omega
    rw [hord]
    have hsn : s < a.ns := by omega
    gi_wp2
    refine ⟨KeepsOthers.refl V, fun V2 hg ho' => ?_⟩
    obtain ⟨o, ho, hoc⟩ := ho'
    have gr : ∀ r, some l = some r → ∃ o : Obj, V.heap[r]? = some o ∧ o.isCells = false := fun r e => by cases e; exact ⟨o, ho, hoc⟩
    replace hr := hr.grown hg gr
    replace b1 := b1.grown hg gr
    replace hV : Below w.heap.size w V2 := hV.grown hg hV.size (fun k e => by cases e; omega)
    replace bV := bV.grown hg gr
    replace bn := bn.grown hg gr
    replace bb := bb.grown hg gr
    clear hg ho hoc gr hV4
    have hpow := fun X (hX : Below w.heap.size w X) => power_ok a ha q hchk s k X (h.below hX) hsn k1 (hf.pow s hsn) m (hp.below hX)
    simp only [Lns.vvals] at bV hpow
    have cV := bV.cell
    have lV := bV.lt
    have f1 := hf.b1 i s hs
    have f2 := hf.b2 i s hs
    have f3 := hf.b3 i s hs
    have hKO := KeepsOthers.refl V2
    gi_wp2_with fail
    refine ⟨trivial, ?_⟩
    gi_at_call 52
    refine (CallsIn.inRound l (callsIn_wide.2 (hpow _ hV))).mono ?_
    rintro e X1 ⟨C9, rfl, R9, hb9⟩
    clear hpow
    replace hKO := hKO.trans (keepsOthers_of_below hb9)
    replace hr := hr.below hb9
    replace b1 := b1.below hb9
    replace hV := belowCall hV hb9
    replace bV := bV.below hb9
    replace bn := bn.below hb9
    replace bb := bb.below hb9
    clear cV lV
    gi_wp2_with fail
    refine ⟨trivial, ?_⟩
    gi_at_call 51
    refine (CallsIn.inRound l (callsIn_wide.2 (bend_ok W3.heap.size _ _ (a.pow k s) _ (-1) (by decide) (by decide) X1 hr R9 f1 f2 f3))).mono ?_
    rintro e X2 ⟨rfl, hk2, hr2⟩
    obtain ⟨qa, qb, qc, qa', qb', qc', ra, rb, rc, ra', rb', rc', bR0, _, _⟩ := hr
    replace hKO := hKO.trans (KeepsOthers.keepBut bR0 hk2)
    replace b1 := hk2.box b1 b1.lt (Box.ne b1 bR0 (by decide))
    replace bV := hk2.box bV bV.lt (Box.ne bV bR0 (by decide))
    replace bn := hk2.box bn bn.lt (Box.ne bn bR0 (by decide))
    replace bb := hk2.box bb bb.lt (Box.ne bb bR0 (by decide))
    replace hV := hk2.below hV hw3 hV.size
    clear hk2 bR0 hb9
    cases s with
    | zero =>
      have ht := a.bk_zero k y u i (by omega)
      gi_wp2
      unfold BkInv
      rw [ht]
      exact ⟨hr2, b1, hV, bV, bn, bb⟩
    | succ t =>
      have ht := a.bk_succ k y u i t (by omega)
      have hmv := fun X hX hRX => move_ok a ha q hchk t k w h (by omega) k1 X hX W3.heap.size hw3 _ _ hRX (-1) (.inr rfl) (hf.num t (by omega)) (hf.m1 i t (by omega)) (hf.m2 i t (by omega)) (hf.m3 i t (by omega))
      simp only [Lns.vvals] at hmv
      have w1 : IntKind.i64.wrap ((t : Int) + 1 - 1) = (t : Int) := by rw [IntKind.wrap_i64]; omega
      have cV := bV.cell
      have lV := bV.lt
      gi_wp2_with fail
      refine ⟨trivial, ?_⟩
      gi_at_call 50
      refine (CallsIn.inRound l (callsIn_wide.2 (hmv _ hV hr2))).mono ?_
      rintro e X0 ⟨rfl, hk0, hr0⟩
      obtain ⟨qa, qb, qc, qa', qb', qc', ra, rb, rc, ra', rb', rc', bR0, _, _⟩ := hr2
      have hKO := hKO.trans (KeepsOthers.keepBut bR0 hk0)
      replace b1 := hk0.box b1 b1.lt (Box.ne b1 bR0 (by decide))
      replace bV := hk0.box bV bV.lt (Box.ne bV bR0 (by decide))
      replace bn := hk0.box bn bn.lt (Box.ne bn bR0 (by decide))
      replace bb := hk0.box bb bb.lt (Box.ne bb bR0 (by decide))
      replace hV := hk0.below hV hw3 hV.size
      clear hmv
      gi_wp2
      unfold BkInv
      rw [ht]
      exact ⟨hr0, b1, hV, bV, bn, bb⟩
  case hdone =>
    rintro D V hD ⟨hr, b1, hV, bV, bn, bb⟩ hD2
    obtain ⟨pa, ka, ca, pa', ka', ca', pb, kb, cb, pb', kb', cb', bR, q1, q2⟩ := hr
    have hi : (Tryz.prog.info? 65).map (·.size) = some 8 := by kernel_rfl
    have cR := bR.cell
    have lR := bR.lt
    obtain ⟨Cf, hCf⟩ : ∃ Cf : Array Value, Cf = #[.bool (decide ((a.bk k y u a.ns).1.num < 0)), .slice pa ka ca, .bool false, .slice pa' ka' ca', .bool (decide ((a.bk k y u a.ns).2.num < 0)), .slice pb kb cb, .bool false, .slice pb' kb' cb'] := ⟨_, rfl⟩
    have hz : Cf.size = 8 := by rw [hCf]; rfl
    have h1 : Cf.all (·.oneCell') = true := by rw [hCf]; simp [Value.oneCell']
    have hi : (Tryz.prog.info? 65).map (·.size) = some Cf.size := by rw [hz]; kernel_rfl
    go_wp2_with (refine wpList_store_box rfl 65 _ _ rfl w.heap.size 0 65 _ Cf Cf rfl (by rw [hCf]; rfl) b1 hi (Nat.le_of_eq (by rw [hz]; rfl)) h1 (whole_new (by rw [hz]; rfl)) ?_; intro V3 hk3 b3)
    have hK' := (KeepsOthers.keepBut b1 hk3).same D _ hD2 rfl
    refine ⟨by simp, .inl ⟨_, _, rfl, run_takeDeferred hK', ?_⟩⟩
    have hg2 : ∀ r, some D = some r → ∃ o : Obj, V3.heap[r]? = some o ∧ o.isCells = false := fun r e => by cases e; exact ⟨_, hK', rfl⟩
    have bR3 := b3.grown (grownBy_putObj' _ D (.deferred none)) hg2
    have hx := (hk3.ext b1 (by decide)).trans (Ext.grownNo (grownBy_putObj' _ D (.deferred none)) hg2)
    refine ⟨.agg Cf, bR3.results rfl _ _ rfl Tryz.underlying65 rfl hi, Cf, rfl, hz, h1, ⟨_, _, _, _, _, _, _, _, _, _, _, _, hCf, q1.ext hx, q2.ext hx⟩, below_putObj (hk3.below hV (Nat.le_refl _) hV.size) (Nat.le_trans hw5 hD) _⟩
end Go.Proofs.YtepodcocemmejaaGreatDoor
