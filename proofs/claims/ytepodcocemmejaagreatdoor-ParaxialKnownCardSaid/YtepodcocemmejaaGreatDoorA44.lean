/- Part 44 of 52 of the proof that the law ParaxialKnown returns true, whatever stands in memory, if the two listed variables hold what the text lays: contracts of the functions that it reaches. No condition beside the row. -/
import Derived.Test.YtepodcocemmejaaGreatDoorA23
import Derived.Test.YtepodcocemmejaaGreatDoorA41
import Derived.Test.YtepodcocemmejaaGreatDoorA42
import Derived.Test.YtepodcocemmejaaGreatDoorA43
set_option linter.unusedVariables false
set_option linter.unusedSimpArgs false
namespace Go.Proofs.YtepodcocemmejaaGreatDoor
open Go.RowKit Go.Mono
/-- two cells of caught's own boxes -/
theorem pens_caught {w1 : World} {base N : Nat} {p : Option Addr} {n c : Nat} {f : Nat → Rat × Rat} (h : PensAt w1 base 65 p n c f) {c0 c1 : Array Value} (b0 : Box w1 N 58 c0) (b1 : Box w1 (N + 1) 59 c1) (u0 u1 : Value) :
    PensAt ((w1.setCell ⟨N, 0, none⟩ u0).setCell ⟨N + 1, 0, none⟩ u1) base 65 p n c f := by
  have k0 := (KeepBut.refl N w1).set 0 u0
  have h0 := h.keep b0 (by decide) (by decide) k0
  have b1' := b1.other ⟨N, 0, none⟩ u0 (by simp)
  have k1 := (KeepBut.refl (N + 1) (w1.setCell ⟨N, 0, none⟩ u0)).set 0 u1
  exact h0.keep b1' (by decide) (by decide) k1
set_option maxRecDepth 100000 in
set_option maxHeartbeats 1000000 in
/-- Trace of a valid ray through a valid optics -/
theorem trace_ok (a : Lns) (ha : a.opt) (q : Plc) (hchk : Chk a q) (k : Nat) (k1 : k < a.nw) (y u : Rat) (hf : TrFits a k y u) (w : World) (h : OptAt w a q) (m : Nat) (hp : PowsAt w m)
    (Cy Cu : Array Value) (Ry : QV w (.agg Cy) y) (Ru : QV w (.agg Cu) u) :
    Calls Tryz.prog 18 #[.agg (a.ovals q), .int .i64 (k : Int), .agg Cy, .agg Cu] w fun e w' => ∃ p c base, e = .returned (.tuple #[.slice p a.ns c, .int .i64 0]) ∧ w.heap.size ≤ base ∧ PensAt w' base 65 p a.ns c (fun i => a.tr k y u (i + 1)) ∧ Below w.heap.size w w' := by
  have hmf : ∀ (fn : Fn) (first cap : Array Value) (w : World), (Instr.makeFunc fn first cap).run Tryz.prog w = .ok (.func fn first cap) w := fun _ _ _ _ => rfl
  have hOv : (a.ovals q) = #[.string a.nm, .int .i64 a.di, .int .i64 a.pu, .int .i64 a.st, .int .i64 a.pr, .slice q.pf a.nf q.cf, .slice q.pw a.nw q.cw, .slice q.ps a.ns q.cs, .slice q.pc 0 q.cc, .slice q.pi a.ns q.ci] := rfl
  obtain ⟨p1, k1x, c1, p1', k1', c1', e1, z1, y1⟩ := id Ry
  obtain ⟨p2, k2, c2, p2', k2', c2', e2, z2, y2⟩ := id Ru
  cases e1; cases e2
  have hg := fun W (hW : Below w.heap.size w W) Bo Bk By Bu bo bk by_ bu => (callsIn_wide (n := 6)).1 (trace1_wide a ha q hchk k k1 y u hf W (h.below hW) m (hp.below hW) Bo Bk By Bu bo bk _ _ by_ bu (Ry.ext (.of_below hW)) (Ru.ext (.of_below hW)))
  clear Ry Ru z1 y1 z2 y2 h hp
  rw [hOv] at hg ⊢
  clear hOv
  go_enter Tryz.func18, Tryz.ntmps18
  go_wp2_with fail
  refine boxes4c fun W hB hs bO bK bY bU => ?_
  refine (caughtL_ret 46 _ (Go.Proofs.enters_of Tryz.func46 (by kernel_rfl) rfl) W (fun v w1 => ∃ p c base, v = .slice p a.ns c ∧ W.heap.size ≤ base ∧ PensAt w1 base 65 p a.ns c (fun i => a.tr k y u (i + 1))) ?_ ?_).mono ?_
  · rintro v w1 u0 u1 c0 c1 b0 b1 ⟨p, c, base, rfl, hb, hP⟩
    exact ⟨p, c, base, rfl, hb, pens_caught hP b0 b1 u0 u1⟩
  · intro W2 hW2 hs2
    refine (hg W2 (belowCall hB hW2) _ _ _ _ (bO.below hW2) (bK.below hW2) (bY.below hW2) (bU.below hW2)).mono ?_
    rintro e w' ⟨p, c, rfl, hP, hb⟩
    exact ⟨p, _, c, rfl, ⟨p, c, _, rfl, by omega, hP⟩, hb⟩
  rintro e W3 ⟨p, n, c, rfl, ⟨p', c', base, hv, hb, hP⟩, hb3⟩
  cases hv
  have hB3 := belowCall hB hb3
  have hbs : w.heap.size ≤ base := by have := hB.size; omega
  go_wp2
  go_ret2
  exact ⟨p, c, base, rfl, hbs, hP, hB3⟩
end Go.Proofs.YtepodcocemmejaaGreatDoor
namespace Go.Mono
open Go.RowKit Go.Proofs.YtepodcocemmejaaGreatDoor
theorem nameG : NameOk { data := #[71] } := ⟨by decide, by decide, fun i hi => by
  obtain rfl : i = 0 := by have : i < 1 := hi; omega
  unfold isLetter; decide +revert⟩
theorem nameA : NameOk { data := #[65] } := ⟨by decide, by decide, fun i hi => by
  obtain rfl : i = 0 := by have : i < 1 := hi; omega
  unfold isLetter; decide +revert⟩
theorem nameM : NameOk mirror := ⟨by decide, by decide, fun i hi => by
  have h6 : i < 6 := hi
  rcases (by omega : i = 0 ∨ i = 1 ∨ i = 2 ∨ i = 3 ∨ i = 4 ∨ i = 5) with rfl | rfl | rfl | rfl | rfl | rfl <;> (unfold isLetter; decide +revert)⟩
theorem zS_ok : zS.ok := by
  constructor
  case kept => rfl
  case glass => exact .inl rfl
  all_goals first | decide | (unfold In; decide) | (left; decide)
theorem chG_ok : chG.ok := by
  constructor
  case kept => rfl
  case glass => exact .inr nameG
  all_goals first | decide | (unfold In; decide) | (left; decide)
theorem chM_ok : chM.ok := by
  constructor
  case kept => rfl
  case glass => exact .inr nameM
  all_goals first | decide | (unfold In; decide) | (left; decide)
theorem ai0_ok : ai0.ok := by
  constructor
  case kept => rfl
  case glass => exact .inl rfl
  all_goals first | decide | (unfold In; decide) | (left; decide)
theorem ai1_ok : ai1.ok := by
  constructor
  case kept => rfl
  case glass => exact .inl rfl
  all_goals first | decide | (unfold In; decide) | (left; decide)
theorem ai2_ok : ai2.ok := by
  constructor
  case kept => rfl
  case glass => exact .inl rfl
  all_goals first | decide | (unfold In; decide) | (left; decide)
theorem chL_ok (m : Bool) : (chL m).ok := by
  constructor
  case name => exact nameA
  case sok =>
    intro i _
    show (chS m i).ok
    unfold chS
    split
    · split
      · exact chM_ok
      · exact chG_ok
    · exact zS_ok
  case image => exact ⟨rfl, rfl, rfl, rfl⟩
  case stop => cases m <;> decide
  case fr => intro i _; show In 1000000 0 ∧ In 1000000 0; unfold In; decide
  case fd => intro i k h1 h2; have : i < 1 := h2; omega
  case wm => intro i h; have : i + 1 < 1 := h; omega
  case wl => intro i _; show (300000 : Int) ≤ 587562 ∧ (587562 : Int) ≤ 2500000; decide
  case ww => intro i _; show (1 : Int) ≤ 1 ∧ (1 : Int) ≤ 100; decide
  all_goals first | decide | (cases m <;> decide)
theorem chL_opt (m : Bool) : (chL m).opt := by
  refine ⟨chL_ok m, fun i j _ _ => ?_, fun i j hi ht _ => ?_, fun i j hi ht hg _ => ?_⟩
  · show 10000000 ≤ chN m ∧ chN m ≤ 40000000
    cases m <;> decide
  · show chN m = if i = 0 then 10000000 else chN m
    have h2 : i < 2 := hi
    split
    · rename_i h0
      subst h0
      cases m
      · rcases ht with h | h | h | h
        · exact absurd h (by decide)
        · exact absurd h (by decide)
        · exact absurd h (by decide)
        · exact absurd h (by decide)
      · rfl
    · rfl
  · exfalso
    have h2 : i < 2 := hi
    rcases (by omega : i = 0 ∨ i = 1) with rfl | rfl
    · cases m <;> exact absurd hg (by decide)
    · exact ht (.inr (.inr (.inr rfl)))
theorem aiL_ok : aiL.ok := by
  constructor
  case name => exact nameA
  case sok =>
    intro i _
    show (aiS i).ok
    unfold aiS
    split
    · exact ai0_ok
    · split
      · exact ai1_ok
      · split
        · exact ai2_ok
        · exact zS_ok
  case image => exact ⟨rfl, rfl, rfl, rfl⟩
  case stop => decide
  case fr => intro i _; show In 1000000 0 ∧ In 1000000 0; unfold In; decide
  case fd => intro i k h1 h2; have : i < 1 := h2; omega
  case wm => intro i h; have : i + 1 < 1 := h; omega
  case wl => intro i _; show (300000 : Int) ≤ 587562 ∧ (587562 : Int) ≤ 2500000; decide
  case ww => intro i _; show (1 : Int) ≤ 1 ∧ (1 : Int) ≤ 100; decide
  all_goals decide
theorem aiL_opt : aiL.opt := by
  refine ⟨aiL_ok, fun i j _ _ => ?_, fun i j hi ht _ => ?_, fun i j hi ht hg _ => rfl⟩
  · show (10000000 : Int) ≤ 10000000 ∧ (10000000 : Int) ≤ 40000000
    decide
  · show (10000000 : Int) = if i = 0 then 10000000 else 10000000
    split <;> rfl
/-- by looking -/
def fitsB (q : Rat) : Bool := decide (q.num.natAbs < 1000000000000000000) && decide (q.den < 1000000000000000000)
theorem fits_of {q : Rat} (h : fitsB q = true) : Fits q := by
  unfold fitsB at h
  simp only [Bool.and_eq_true, decide_eq_true_eq] at h
  exact .of 2 (by omega) (by simp only [pw, B]; omega) (by simp only [pw, B]; omega)
def powFitsB (a : Lns) (k s : Nat) : Bool := fitsB (a.step k s) && fitsB (a.cv s * a.step k s) && fitsB (a.gr k s) && fitsB (a.cv s * a.step k s - a.gr k s)
theorem powFits_of {a : Lns} {k s : Nat} (h : powFitsB a k s = true) : PowFits a k s := by
  unfold powFitsB at h
  simp only [Bool.and_eq_true] at h
  exact ⟨fits_of h.1.1.1, fits_of h.1.1.2, fits_of h.1.2, fits_of h.2⟩
def trFitsB (a : Lns) (k : Nat) (y u : Rat) (s : Nat) : Bool :=
  powFitsB a k s && decide ((a.nI k s).num ≠ 0) && fitsB (Rat.divInt (1 * (a.S s).thick) 1000000 * (a.tr k y u (s + 1)).2) && fitsB ((Rat.divInt (1 * (a.S s).thick) 1000000 * (a.tr k y u (s + 1)).2) / a.nI k s) &&
  fitsB ((a.tr k y u (s + 1)).1 + ((Rat.divInt (1 * (a.S s).thick) 1000000 * (a.tr k y u (s + 1)).2) / a.nI k s)) && fitsB ((a.tr k y u (s + 1)).1 * a.pow k s) && fitsB (Rat.divInt 1 1 * ((a.tr k y u (s + 1)).1 * a.pow k s)) && fitsB ((a.tr k y u (s + 1)).2)
theorem trFits_of {a : Lns} {k : Nat} {y u : Rat} (h : ∀ s, s < a.ns → trFitsB a k y u s = true) : TrFits a k y u := by
  simp only [trFitsB, Bool.and_eq_true, decide_eq_true_eq] at h
  exact ⟨fun s hs => powFits_of (h s hs).1.1.1.1.1.1.1, fun s hs => (h s hs).1.1.1.1.1.1.2, fun s hs => fits_of (h s (by omega)).1.1.1.1.1.2, fun s hs => fits_of (h s (by omega)).1.1.1.1.2, fun s hs => fits_of (h s (by omega)).1.1.1.2,
    fun s hs => fits_of (h s hs).1.1.2, fun s hs => fits_of (h s hs).1.2, fun s hs => fits_of (h s hs).2⟩
theorem ch_fits (m : Bool) : TrFits (chL m) 0 (Rat.divInt 10 1) (Rat.divInt 0 1) := trFits_of fun s hs => by
  have h2 : s < 2 := hs
  rcases (by omega : s = 0 ∨ s = 1) with rfl | rfl <;> cases m <;> decide +kernel
theorem ai_fits : TrFits aiL 0 (Rat.divInt 1 1) (Rat.divInt 0 1) := trFits_of fun s hs => by
  have h4 : s < 4 := hs
  rcases (by omega : s = 0 ∨ s = 1 ∨ s = 2 ∨ s = 3) with rfl | rfl | rfl | rfl <;> decide +kernel
theorem ch_tr0 : (chL false).tr 0 (Rat.divInt 10 1) (Rat.divInt 0 1) 1 = (Rat.divInt 10 1, Rat.divInt (-1) 10) := by decide +kernel
theorem ch_tr1 : (chL false).tr 0 (Rat.divInt 10 1) (Rat.divInt 0 1) 2 = (Rat.divInt 8 1, Rat.divInt (-1) 10) := by decide +kernel
theorem cm_tr0 : (chL true).tr 0 (Rat.divInt 10 1) (Rat.divInt 0 1) 1 = (Rat.divInt 10 1, Rat.divInt 2 5) := by decide +kernel
theorem cm_tr1 : (chL true).tr 0 (Rat.divInt 10 1) (Rat.divInt 0 1) 2 = (Rat.divInt 22 1, Rat.divInt 2 5) := by decide +kernel
theorem ai_tr0 : aiL.tr 0 (Rat.divInt 1 1) (Rat.divInt 0 1) 2 = (Rat.divInt 3 4, Rat.divInt (-1) 20) := by decide +kernel
theorem ai_tr2 : (aiL.tr 0 (Rat.divInt 1 1) (Rat.divInt 0 1) 3).1 = Rat.divInt 1 2 := by decide +kernel
theorem ch_pow0 : (chL false).pow 0 0 = Rat.divInt 1 100 := by decide +kernel
theorem ch_pow1 : (chL false).pow 0 1 = Rat.divInt 0 1 := by decide +kernel
theorem cm_pow0 : (chL true).pow 0 0 = Rat.divInt (-1) 25 := by decide +kernel
theorem ai_pow0 : aiL.pow 0 0 = Rat.divInt 1 20 := by decide +kernel
theorem ai_pow1 : aiL.pow 0 1 = Rat.divInt 0 1 := by decide +kernel
theorem ai_pow2 : aiL.pow 0 2 = Rat.divInt (-587562) 100000000000 := by decide +kernel
end Go.Mono
namespace Go.Mono
open Go.RowKit
/-- a panic of this package -/
def brk (z : Int) (t : TypeId) : PanicEntry := { v := .iface t (.agg #[.int .i64 z]), recovered := false }
end Go.Mono
namespace Go.Proofs.YtepodcocemmejaaGreatDoor
open Go.RowKit Go.Mono
set_option maxRecDepth 100000 in
set_option maxHeartbeats 1000000 in
theorem at_ok (a : Lns) (q : Plc) (k s : Nat) (w : World) (s1 : s < a.ns) :
    Calls Tryz.prog 76 #[.agg (a.vvals q k), .int .i64 (s : Int)] w fun e w' => e = .returned (.tuple #[]) ∧ Below w.heap.size w w' := by
  have s1' : (s : Int) < a.ns := by omega
  have s0' : ¬ ((s : Int) < 0) := by omega
  simp only [Lns.vvals]
  go_enter Tryz.func76, Tryz.ntmps76
  go_wp2
  go_end0
  exact ⟨rfl, (Below.refl _ _).alloc (Nat.le_refl _) _⟩
set_option maxRecDepth 100000 in
set_option maxHeartbeats 1000000 in
theorem at_high (a : Lns) (q : Plc) (k : Nat) (s : Int) (w : World) (s1 : (a.ns : Int) ≤ s) :
    Calls Tryz.prog 76 #[.agg (a.vvals q k), .int .i64 s] w fun e w' => e = .panicked [{ v := .iface 126 (.agg #[.int .i64 2]), recovered := false }] ∧ Below w.heap.size w w' := by
  have s0' : ¬ (s < 0) := by omega
  simp only [Lns.vvals]
  go_enter Tryz.func76, Tryz.ntmps76
  go_wp2
  exact ⟨rfl, rfl, (Below.refl _ _).alloc (Nat.le_refl _) _⟩
set_option maxRecDepth 100000 in
set_option maxHeartbeats 1000000 in
theorem at_low (a : Lns) (q : Plc) (k : Nat) (s : Int) (w : World) (s1 : s < 0) :
    Calls Tryz.prog 76 #[.agg (a.vvals q k), .int .i64 s] w fun e w' => e = .panicked [{ v := .iface 126 (.agg #[.int .i64 2]), recovered := false }] ∧ Below w.heap.size w w' := by
  simp only [Lns.vvals]
  go_enter Tryz.func76, Tryz.ntmps76
  go_wp2
  exact ⟨rfl, rfl, (Below.refl _ _).alloc (Nat.le_refl _) _⟩
set_option maxRecDepth 100000 in
set_option maxHeartbeats 1000000 in
theorem index1_ok (a : Lns) (ha : a.opt) (q : Plc) (hchk : Chk a q) (s k : Nat) (w : World) (h : OptAt w a q) (s1 : s < a.ns) (k1 : k < a.nw) (Bo Bk Bs : Nat) (bo : Box w Bo 45 (a.ovals q)) (bk : Box w Bk 3 #[.int .i64 (k : Int)]) (bs : Box w Bs 3 #[.int .i64 (s : Int)]) :
    Calls Tryz.prog 75 #[.pointer (some ⟨Bo, 0, none⟩), .pointer (some ⟨Bk, 0, none⟩), .pointer (some ⟨Bs, 0, none⟩)] w fun e w' => ∃ C, e = .returned (.agg C) ∧ QV w' (.agg C) (a.nI k s) ∧ Below w.heap.size w w' := by
  have hlook := fun W (hW : Below w.heap.size w W) => look_ok a q hchk k W (h.below hW) k1
  have hix := fun W (hW : Below w.heap.size w W) => index_ok a ha q hchk s k W (h.below hW) s1 k1
  have hat := fun W => at_ok a q k s W s1
  have co := bo.cell
  have lo := bo.lt
  have ck := bk.cell
  have lk := bk.lt
  have cs := bs.cell
  have ls := bs.lt
  simp only [Lns.ovals, Lns.vvals] at hlook hix hat
  simp only [Lns.ovals] at co
  go_enter Tryz.func75, Tryz.ntmps75
  go_wp2_with fail
  refine boxes1c fun W hB hsz bOut => ?_
  refine (hlook W hB).mono ?_
  rintro e W1 ⟨rfl, hb⟩
  have hB1 := belowCall hB hb
  replace bOut := bOut.below hb
  clear hlook co lo ck lk cs ls
  have cs := (bs.below hB1).cell
  have ls := (bs.below hB1).lt
  go_wp2_with fail
  refine boxes1c fun W2 hB2 hs2 bV => ?_
  have hB2' := belowCall hB1 hB2
  refine (hat W2).mono ?_
  rintro e W3 ⟨rfl, hb3⟩
  have hB3 := belowCall hB2' hb3
  replace bV := bV.below hb3
  replace bOut := (bOut.below hB2).below hb3
  clear cs ls hat
  have cs := (bs.below hB3).cell
  have ls := (bs.below hB3).lt
  have cV := bV.cell
  have lV := bV.lt
  go_wp2_with fail
  refine (hix W3 hB3).mono ?_
  rintro e W4 ⟨C, rfl, hr, hb4⟩
  obtain ⟨C', hC', hC, h1⟩ := hr.cells
  cases hC'
  have hi : (Tryz.prog.info? 54).map (·.size) = some C.size := by rw [hC]; exact sizeQuot
  have hB4 := belowCall hB3 hb4
  replace bOut := bOut.below hb4
  go_wp2_with (refine wpList_store_box rfl 54 _ _ rfl w.heap.size 0 54 _ C C rfl rfl bOut hi (Nat.le_of_eq (by rw [hC]; rfl)) h1 (whole_new (by rw [hC]; rfl)) ?_; intro W5 hk5 b5)
  refine bodyPost_ret (b5.results rfl _ _ rfl Tryz.underlying54 rfl hi) rfl ?_
  exact ⟨C, rfl, hr.ext (hk5.ext bOut (by decide)), hk5.below hB4 (Nat.le_refl _) hB4.size⟩
end Go.Proofs.YtepodcocemmejaaGreatDoor
namespace Go.Proofs.YtepodcocemmejaaGreatDoor
open Go.RowKit Go.Mono
theorem sz_nil (w : World) : Sz 600 w (.slice none 0 0) 0 := ⟨0, fun _ => 0, .inl ⟨rfl, rfl⟩, ⟨fun i hi => by omega, fun i hi => by omega, fun h => by omega⟩, rfl, by omega⟩
set_option maxRecDepth 100000 in
set_option maxHeartbeats 1000000 in
/-- quot.Check of the zero value -/
theorem qcheck_zero (w : World) : Calls Tryz.prog 95 #[.agg quot0] w fun e w' => e = .returned (.int .i64 40) ∧ Below w.heap.size w w' := by
  unfold quot0
  go_enter Tryz.func95, Tryz.ntmps95
  go_wp2_with fail
  refine boxes1 fun W hB hs b0 => ?_
  have cb0 := b0.cell
  have lb0 := b0.lt
  have fb0 := b0.frozen
  refine wp_region_held_drew (S := fun w' => (∀ b o, b < W.heap.size → w'.cell? ⟨b, o, none⟩ = W.cell? ⟨b, o, none⟩) ∧ Below W.heap.size W w') (by kernel_rfl) (belowS (Below.refl _ _).drew) (fun hHeld => ?_)
  refine take_want 0 (some 3) rfl (by kernel_rfl) (by kernel_rfl) (by kernel_rfl) rfl (fun _ _ _ h => h) (by rfl) (v := ?_) ?_ (by assumption) ?_
  rotate_left
  · intro w hSw; (try dsimp only at hSw); go_simp; all_goals with_reducible rfl
  simp only [Act.put, List.setIfInBounds_toArray, List.set_cons_zero, List.set_cons_succ]
  refine take_want 1 (some 4) rfl (by kernel_rfl) (by kernel_rfl) (by kernel_rfl) rfl (fun _ _ _ h => h) (by rfl) (v := ?_) ?_ (by assumption) ?_
  rotate_left
  · intro w hSw; (try dsimp only at hSw); go_simp; all_goals with_reducible rfl
  simp only [Act.put, List.setIfInBounds_toArray, List.set_cons_zero, List.set_cons_succ]
  refine wpAnyH_ready (rs := [2]) (by kernel_rfl) (by simp) ?_
  refine AllReadyH.cons rfl (fun K hK => ?_) AllReadyH.nil
  go_simp
  (refine (lcheck_ok _ _ _ _ _ _ _ (Ext.refl _) (sz_nil _) (by simp)).mono ?_; rintro e W4 ⟨rfl, hb4⟩)
  refine hK.out _ _ ?_ (fun hHeld => ?_)
  · first | exact (belowS (belowCall hHeld.2 hb4)) | fail "keep"
  clear hK K
  try simp only [Act.put, List.setIfInBounds_toArray, List.set_cons_zero, List.set_cons_succ]
  refine take_want 3 (some 6) rfl (by kernel_rfl) (by kernel_rfl) (by kernel_rfl) rfl (fun _ _ _ h => h) (by rfl) (v := ?_) ?_ (by assumption) ?_
  rotate_left
  · intro w hSw; (try dsimp only at hSw); go_simp; all_goals with_reducible rfl
  simp only [Act.put, List.setIfInBounds_toArray, List.set_cons_zero, List.set_cons_succ]
  refine take_want 4 (some 7) rfl (by kernel_rfl) (by kernel_rfl) (by kernel_rfl) rfl (fun _ _ _ h => h) (by rfl) (v := ?_) ?_ (by assumption) ?_
  rotate_left
  · intro w hSw; (try dsimp only at hSw); go_simp; all_goals with_reducible rfl
  simp only [Act.put, List.setIfInBounds_toArray, List.set_cons_zero, List.set_cons_succ]
  refine take_want 5 (some 8) rfl (by kernel_rfl) (by kernel_rfl) (by kernel_rfl) rfl (fun _ _ _ h => h) (by rfl) (v := ?_) ?_ (by assumption) ?_
  rotate_left
  · intro w hSw; (try dsimp only at hSw); go_simp; all_goals with_reducible rfl
  simp only [Act.put, List.setIfInBounds_toArray, List.set_cons_zero, List.set_cons_succ]
  refine take_want 6 (some 9) rfl (by kernel_rfl) (by kernel_rfl) (by kernel_rfl) rfl (fun _ _ _ h => h) (by rfl) (v := ?_) ?_ (by assumption) ?_
  rotate_left
  · intro w hSw; (try dsimp only at hSw); go_simp; all_goals with_reducible rfl
  simp only [Act.put, List.setIfInBounds_toArray, List.set_cons_zero, List.set_cons_succ]
  refine wpAnyH_ready (rs := [7]) (by kernel_rfl) (by simp) ?_
  refine AllReadyH.cons rfl (fun K hK => ?_) AllReadyH.nil
  go_simp
  (refine (lcheck_ok _ _ _ _ _ _ _ (Ext.refl _) (sz_nil _) (by simp)).mono ?_; rintro e W5 ⟨rfl, hb5⟩)
  refine hK.out _ _ ?_ (fun hHeld => ?_)
  · first | exact (belowS (belowCall hHeld.2 hb5)) | fail "keep"
  clear hK K
  try simp only [Act.put, List.setIfInBounds_toArray, List.set_cons_zero, List.set_cons_succ]
  refine take_want 8 (some 11) rfl (by kernel_rfl) (by kernel_rfl) (by kernel_rfl) rfl (fun _ _ _ h => h) (by rfl) (v := ?_) ?_ (by assumption) ?_
  rotate_left
  · intro w hSw; (try dsimp only at hSw); go_simp; all_goals with_reducible rfl
  simp only [Act.put, List.setIfInBounds_toArray, List.set_cons_zero, List.set_cons_succ]
  refine take_want 9 (some 12) rfl (by kernel_rfl) (by kernel_rfl) (by kernel_rfl) rfl (fun _ _ _ h => h) (by rfl) (v := ?_) ?_ (by assumption) ?_
  rotate_left
  · intro w hSw; (try dsimp only at hSw); go_simp; all_goals with_reducible rfl
  simp only [Act.put, List.setIfInBounds_toArray, List.set_cons_zero, List.set_cons_succ]
  refine take_want 10 (some 13) rfl (by kernel_rfl) (by kernel_rfl) (by kernel_rfl) rfl (fun _ _ _ h => h) (by rfl) (v := ?_) ?_ (by assumption) ?_
  rotate_left
  · intro w hSw; (try dsimp only at hSw); go_simp; all_goals with_reducible rfl
  simp only [Act.put, List.setIfInBounds_toArray, List.set_cons_zero, List.set_cons_succ]
  refine take_want 11 (some 14) rfl (by kernel_rfl) (by kernel_rfl) (by kernel_rfl) rfl (fun _ _ _ h => h) (by rfl) (v := ?_) ?_ (by assumption) ?_
  rotate_left
  · intro w hSw; (try dsimp only at hSw); go_simp; all_goals with_reducible rfl
  simp only [Act.put, List.setIfInBounds_toArray, List.set_cons_zero, List.set_cons_succ]
  refine take_want 12 (some 15) rfl (by kernel_rfl) (by kernel_rfl) (by kernel_rfl) rfl (fun _ _ _ h => h) (by rfl) (v := ?_) ?_ (by assumption) ?_
  rotate_left
  · intro w hSw; (try dsimp only at hSw); go_simp; all_goals with_reducible rfl
  simp only [Act.put, List.setIfInBounds_toArray, List.set_cons_zero, List.set_cons_succ]
  refine take_want 13 (some 16) rfl (by kernel_rfl) (by kernel_rfl) (by kernel_rfl) rfl (fun _ _ _ h => h) (by rfl) (v := ?_) ?_ (by assumption) ?_
  rotate_left
  · intro w hSw; (try dsimp only at hSw); go_simp; all_goals with_reducible rfl
  simp only [Act.put, List.setIfInBounds_toArray, List.set_cons_zero, List.set_cons_succ]
  refine take_want 14 (some 17) rfl (by kernel_rfl) (by kernel_rfl) (by kernel_rfl) rfl (fun _ _ _ h => h) (by rfl) (v := ?_) ?_ (by assumption) ?_
  rotate_left
  · intro w hSw; (try dsimp only at hSw); go_simp; all_goals with_reducible rfl
  simp only [Act.put, List.setIfInBounds_toArray, List.set_cons_zero, List.set_cons_succ]
  refine take_want 15 (some 18) rfl (by kernel_rfl) (by kernel_rfl) (by kernel_rfl) rfl (fun _ _ _ h => h) (by rfl) (v := ?_) ?_ (by assumption) ?_
  rotate_left
  · intro w hSw; (try dsimp only at hSw); go_simp; all_goals with_reducible rfl
  simp only [Act.put, List.setIfInBounds_toArray, List.set_cons_zero, List.set_cons_succ]
  refine take_want 16 (some 19) rfl (by kernel_rfl) (by kernel_rfl) (by kernel_rfl) rfl (fun _ _ _ h => h) (by rfl) (v := ?_) ?_ (by assumption) ?_
  rotate_left
  · intro w hSw; (try dsimp only at hSw); go_simp; all_goals with_reducible rfl
  simp only [Act.put, List.setIfInBounds_toArray, List.set_cons_zero, List.set_cons_succ]
  refine take_want 17 (some 20) rfl (by kernel_rfl) (by kernel_rfl) (by kernel_rfl) rfl (fun _ _ _ h => h) (by rfl) (v := ?_) ?_ (by assumption) ?_
  rotate_left
  · intro w hSw; (try dsimp only at hSw); go_simp; all_goals with_reducible rfl
  simp only [Act.put, List.setIfInBounds_toArray, List.set_cons_zero, List.set_cons_succ]
  refine take_want 18 (some 21) rfl (by kernel_rfl) (by kernel_rfl) (by kernel_rfl) rfl (fun _ _ _ h => h) (by rfl) (v := ?_) ?_ (by assumption) ?_
  rotate_left
  · intro w hSw; (try dsimp only at hSw); go_simp; all_goals with_reducible rfl
  simp only [Act.put, List.setIfInBounds_toArray, List.set_cons_zero, List.set_cons_succ]
  refine take_want 19 (some 22) rfl (by kernel_rfl) (by kernel_rfl) (by kernel_rfl) rfl (fun _ _ _ h => h) (by rfl) (v := ?_) ?_ (by assumption) ?_
  rotate_left
  · intro w hSw; (try dsimp only at hSw); go_simp; all_goals with_reducible rfl
  simp only [Act.put, List.setIfInBounds_toArray, List.set_cons_zero, List.set_cons_succ]
  refine take_want 20 (some 23) rfl (by kernel_rfl) (by kernel_rfl) (by kernel_rfl) rfl (fun _ _ _ h => h) (by rfl) (v := ?_) ?_ (by assumption) ?_
  rotate_left
  · intro w hSw; (try dsimp only at hSw); go_simp; all_goals with_reducible rfl
  simp only [Act.put, List.setIfInBounds_toArray, List.set_cons_zero, List.set_cons_succ]
  refine take_want 21 (some 24) rfl (by kernel_rfl) (by kernel_rfl) (by kernel_rfl) rfl (fun _ _ _ h => h) (by rfl) (v := ?_) ?_ (by assumption) ?_
  rotate_left
  · intro w hSw; (try dsimp only at hSw); go_simp; all_goals with_reducible rfl
  simp only [Act.put, List.setIfInBounds_toArray, List.set_cons_zero, List.set_cons_succ]
  refine take_want 22 (some 25) rfl (by kernel_rfl) (by kernel_rfl) (by kernel_rfl) rfl (fun _ _ _ h => h) (by rfl) (v := ?_) ?_ (by assumption) ?_
  rotate_left
  · intro w hSw; (try dsimp only at hSw); go_simp; all_goals with_reducible rfl
  simp only [Act.put, List.setIfInBounds_toArray, List.set_cons_zero, List.set_cons_succ]
  refine take_skip 23 (some 26) rfl (by kernel_rfl) (by kernel_rfl) (by kernel_rfl) rfl (fun _ _ _ h => h) (by rfl) (by assumption) ?_
  simp only [Act.put, List.setIfInBounds_toArray, List.set_cons_zero, List.set_cons_succ]
  refine take_skip 24 (some 27) rfl (by kernel_rfl) (by kernel_rfl) (by kernel_rfl) rfl (fun _ _ _ h => h) (by rfl) (by assumption) ?_
  simp only [Act.put, List.setIfInBounds_toArray, List.set_cons_zero, List.set_cons_succ]
  refine take_skip 25 (some 28) rfl (by kernel_rfl) (by kernel_rfl) (by kernel_rfl) rfl (fun _ _ _ h => h) (by rfl) (by assumption) ?_
  simp only [Act.put, List.setIfInBounds_toArray, List.set_cons_zero, List.set_cons_succ]
  refine take_skip 26 (some 29) rfl (by kernel_rfl) (by kernel_rfl) (by kernel_rfl) rfl (fun _ _ _ h => h) (by rfl) (by assumption) ?_
  simp only [Act.put, List.setIfInBounds_toArray, List.set_cons_zero, List.set_cons_succ]
  refine take_skip 27 (some 30) rfl (by kernel_rfl) (by kernel_rfl) (by kernel_rfl) rfl (fun _ _ _ h => h) (by rfl) (by assumption) ?_
  simp only [Act.put, List.setIfInBounds_toArray, List.set_cons_zero, List.set_cons_succ]
  refine take_skip 28 (some 31) rfl (by kernel_rfl) (by kernel_rfl) (by kernel_rfl) rfl (fun _ _ _ h => h) (by rfl) (by assumption) ?_
  simp only [Act.put, List.setIfInBounds_toArray, List.set_cons_zero, List.set_cons_succ]
  refine take_skip 29 (some 32) rfl (by kernel_rfl) (by kernel_rfl) (by kernel_rfl) rfl (fun _ _ _ h => h) (by rfl) (by assumption) ?_
  simp only [Act.put, List.setIfInBounds_toArray, List.set_cons_zero, List.set_cons_succ]
  refine take_skip 30 (some 33) rfl (by kernel_rfl) (by kernel_rfl) (by kernel_rfl) rfl (fun _ _ _ h => h) (by rfl) (by assumption) ?_
  simp only [Act.put, List.setIfInBounds_toArray, List.set_cons_zero, List.set_cons_succ]
  refine take_skip 31 (some 34) rfl (by kernel_rfl) (by kernel_rfl) (by kernel_rfl) rfl (fun _ _ _ h => h) (by rfl) (by assumption) ?_
  simp only [Act.put, List.setIfInBounds_toArray, List.set_cons_zero, List.set_cons_succ]
  refine take_skip 32 (some 35) rfl (by kernel_rfl) (by kernel_rfl) (by kernel_rfl) rfl (fun _ _ _ h => h) (by rfl) (by assumption) ?_
  simp only [Act.put, List.setIfInBounds_toArray, List.set_cons_zero, List.set_cons_succ]
  refine take_skip 33 (some 36) rfl (by kernel_rfl) (by kernel_rfl) (by kernel_rfl) rfl (fun _ _ _ h => h) (by rfl) (by assumption) ?_
  simp only [Act.put, List.setIfInBounds_toArray, List.set_cons_zero, List.set_cons_succ]
  refine take_want 34 (some 37) rfl (by kernel_rfl) (by kernel_rfl) (by kernel_rfl) rfl (fun _ _ _ h => h) (by rfl) (v := ?_) ?_ (by assumption) ?_
  rotate_left
  · intro w hSw; (try dsimp only at hSw); go_simp; all_goals with_reducible rfl
  simp only [Act.put, List.setIfInBounds_toArray, List.set_cons_zero, List.set_cons_succ]
  refine wpAnyH_done (by kernel_rfl) ?_ _
  go_wp2
  go_ret
  exact ⟨rfl, belowCall hB hHeld.2⟩
set_option maxRecDepth 100000 in
set_option maxHeartbeats 1000000 in
/-- fractions of which number m is the zero value -/
theorem fractions_bad (n m : Nat) (hm : m < n) (p : Option Addr) (c : Nat) (C : Nat → Array Value) (f : Nat → Rat) (w : World) (hr : RdC w p n c 4 (fun i j => (C i).getD j undef)) (hC : ∀ i, (C i).size = 4) (hq : ∀ i, i < m → QV w (.agg (C i)) (f i)) (hz : C m = quot0) :
    Calls Tryz.prog 48 #[.slice p n c] w fun e w' => e = .panicked [{ v := .iface 126 (.agg #[.int .i64 40]), recovered := false }] ∧ Below w.heap.size w w' := by
  obtain ⟨hc1, hn1, hx⟩ := hr
  go_enter Tryz.func48, Tryz.ntmps48
  go_wp2
  go_loopw [7] (fun x wr => ∃ k : Nat, k ≤ m ∧ x = .int .i64 (k : Int) ∧ Below w.heap.size w wr) (fun x _ => (n - intOf x).toNat)
  case atStart => exact ⟨0, Nat.zero_le _, rfl, Below.refl _ _⟩
  case round =>
    obtain ⟨k, hk, rfl, hBr⟩ := hrel
    obtain ⟨b, off, rfl, hbl, hcell⟩ := hx (by omega)
    by_cases hkm : k < m
    · have hkn : k < n := by omega
      have hcel := hcell k
      have gz := hC k
      have Rk := hq k hkm
      obtain ⟨C', hC', _, g1⟩ := Rk.cells
      rw [Value.agg.injEq] at hC'
      rw [← hC'] at g1
      have hsz : (Tryz.prog.info? 54).map (·.size) = some (C k).size := by rw [gz]; exact sizeQuot
      have hsl : (Tryz.prog.info? 54).map (·.size) = some (C k).toList.length := by rw [Array.length_toList, gz]; exact sizeQuot
      have hrange : wr.rangeAt b (off + k * 4) (C k).toList := fun j v hv => by
        have hj : j < 4 := by
          have := (List.getElem?_eq_some_iff.1 hv).1
          simpa [gz] using this
        refine ((hBr.cell (p := ⟨b, off + k * 4 + j, none⟩) hbl).trans (hcel j hkn hj)).trans ?_
        rw [Array.getElem?_toList] at hv
        rw [Array.getD_eq_getD_getElem?, hv]
        rfl
      have hkn' : (k : Int) < n := by omega
      clear hcell hcel hx hC hq hC'
      generalize C k = A at *
      generalize f k = fk at *
      go_wp2_with first | (refine wpList_load_mid rfl 54 _ rfl b (off + k * 4) rfl A.toList _ hrange Tryz.underlying54 rfl hsl ?_) | (refine wpList_new rfl 54 rfl _ alloc_quot ?_; intro W1 B1 hle hB1 b1) | (refine wpList_store_box rfl 54 (.tmp 3) (.tmp 10) rfl B1 0 54 _ A A rfl rfl b1 hsz (Nat.le_of_eq (by rw [gz]; rfl)) g1 (whole_new (by rw [gz]; rfl)) ?_; intro W2 hk2 b2; have hBW2 : Below wr.heap.size wr W2 := hk2.below hB1 hle hB1.size) | (refine wpList_load_box rfl 54 (.tmp 3) rfl B1 rfl 54 A b2 _ Tryz.underlying54 rfl hsz ?_) | (go_at_call 95; refine (qcheck_ok (.agg A) fk W2 w (Ext.of_below (belowCall hBr hBW2)) Rk).mono ?_; rintro e W3 ⟨rfl, hb3⟩)
      go_roundw
      case rel => exact ⟨k + 1, by omega, by simp, belowCall (belowCall hBr hBW2) hb3⟩
      case measure => simp [intOf]; omega
    · obtain rfl : k = m := by omega
      have hcel := hcell k
      have gz := hC k
      have hsz : (Tryz.prog.info? 54).map (·.size) = some (C k).size := by rw [gz]; exact sizeQuot
      have hsl : (Tryz.prog.info? 54).map (·.size) = some (C k).toList.length := by rw [Array.length_toList, gz]; exact sizeQuot
      have g1 : (C k).all (·.oneCell') = true := by rw [hz]; simp [quot0, Value.oneCell']
      have hrange : wr.rangeAt b (off + k * 4) (C k).toList := fun j v hv => by
        have hj : j < 4 := by
          have := (List.getElem?_eq_some_iff.1 hv).1
          simpa [gz] using this
        refine ((hBr.cell (p := ⟨b, off + k * 4 + j, none⟩) hbl).trans (hcel j hm hj)).trans ?_
        rw [Array.getElem?_toList] at hv
        rw [Array.getD_eq_getD_getElem?, hv]
        rfl
      have hkn' : (k : Int) < n := by omega
      have hqc := fun W => qcheck_zero W
      rw [← hz] at hqc
      clear hcell hcel hx hC hq hz
      generalize C k = A at *
      go_wp2_with first | (refine wpList_load_mid rfl 54 _ rfl b (off + k * 4) rfl A.toList _ hrange Tryz.underlying54 rfl hsl ?_) | (refine wpList_new rfl 54 rfl _ alloc_quot ?_; intro W1 B1 hle hB1 b1) | (refine wpList_store_box rfl 54 (.tmp 3) (.tmp 10) rfl B1 0 54 _ A A rfl rfl b1 hsz (Nat.le_of_eq (by rw [gz]; rfl)) g1 (whole_new (by rw [gz]; rfl)) ?_; intro W2 hk2 b2; have hBW2 : Below wr.heap.size wr W2 := hk2.below hB1 hle hB1.size) | (refine wpList_load_box rfl 54 (.tmp 3) rfl B1 rfl 54 A b2 _ Tryz.underlying54 rfl hsz ?_) | (go_at_call 95; refine (hqc W2).mono ?_; rintro e W3 ⟨rfl, hb3⟩)
      exact ⟨rfl, rfl, belowCall (belowCall hBr hBW2) hb3⟩
end Go.Proofs.YtepodcocemmejaaGreatDoor
