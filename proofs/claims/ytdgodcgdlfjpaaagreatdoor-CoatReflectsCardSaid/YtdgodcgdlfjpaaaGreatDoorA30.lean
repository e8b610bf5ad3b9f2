/- Contracts of package coat and of the examples of its law, for the laws of layer 40. Part 30 of 40. No condition beside the row. -/
import Derived.Test.YtdgodcgdlfjpaaaGreatDoorA28
set_option linter.unusedVariables false
set_option linter.unusedSimpArgs false
set_option maxRecDepth 100000
set_option maxHeartbeats 4000000
namespace Go.Proofs.YtdgodcgdlfjpaaaGreatDoor
open Go.RowKit Go.Mono
theorem kept_fm (p : Option Addr) (nf c : Nat) (w : World) : Calls Tryz.prog 210 #[.agg (zS.csn p nf c)] w fun e w' => e = .returned (.agg (zS.csn p nf c)) ∧ Below w.heap.size w w' :=
 kept1f 0 0 0 0 0 0 0 0 0 0 0 0 0 0 0 0 0 0 _ p nf c (zS.csn p nf c) rfl rfl rfl rfl rfl rfl rfl rfl rfl rfl rfl rfl rfl rfl rfl rfl rfl rfl rfl rfl rfl rfl w
theorem same1_fm (p : Option Addr) (nf c : Nat) (w : World) : Calls Tryz.prog 251 #[.agg (zS.csn p nf c)] w fun e w' => e = .returned (.agg zS.flds) ∧ Below w.heap.size w w' :=
 same1_vars zS.kind zS.curv zS.conic zS.curvx zS.conicx zS.a0 zS.a1 zS.a2 zS.a3 zS.p0 zS.p1 zS.order zS.thick zS.semi zS.hole zS.dx zS.dy zS.ax zS.ay zS.az zS.glass (zS.csn p nf c) rfl rfl rfl rfl rfl rfl rfl rfl rfl rfl rfl rfl rfl rfl rfl rfl rfl rfl rfl rfl rfl w
theorem scheck1_fm (b : Nat) (f : Flm) (B : Nat) (w : World) (hof : OneFilm w b f) (b0 : Box w B 104 (zS.csn (some ⟨b, 0, none⟩) 1 1)) :
  Calls Tryz.prog 207 #[.pointer (some ⟨B, 0, none⟩)] w fun e w' => e = .returned (.bool true) ∧ Below w.heap.size w w' := by
 have hsz : (Tryz.prog.info? 104).map (·.size) = some (zS.csn (some ⟨b, 0, none⟩) 1 1).size := by kernel_rfl
 have f0 : w.cell? ⟨B, 0, none⟩ = some (.int .i64 zS.kind) := b0.cell 0
 have lb0 := b0.lt
 have hkept := fun W => kept_fm (some ⟨b, 0, none⟩) 1 1 W
 have hsame := fun W (hW : Below w.heap.size w W) => same_fm (zS.csn (some ⟨b, 0, none⟩) 1 1) (zS.csn (some ⟨b, 0, none⟩) 1 1) zS.flds rfl rfl (some ⟨b, 0, none⟩) 1 1 rfl rfl (fun W => same1_fm (some ⟨b, 0, none⟩) 1 1 W) (fun W => same1_fm (some ⟨b, 0, none⟩) 1 1 W) (eql_flds zS zS_fit) W fun V hV => eqfilm_one b f V (hof.below (belowCall hW hV))
 have k1 := zS_fit.k1
 have k2 := zS_fit.k2
 generalize zS.kind = kd at *
 generalize zS.csn (some ⟨b, 0, none⟩) 1 1 = A at *
 go_enter Tryz.func207, Tryz.ntmps207
 go_wp2_with fail
 refine wp_region_held_drew (S := fun w' => (∀ b o, b < w.heap.size → w'.cell? ⟨b, o, none⟩ = w.cell? ⟨b, o, none⟩) ∧ Below w.heap.size w w') (by kernel_rfl) (belowS (Below.refl _ _).drew) (fun hHeld => ?_)
 refine tk 0 (some 2) ?_
 refine tk 1 (some 3) ?_
 refine Mono.st 2 ?_
 intro K hK
 go_simp
 refine kp hK (belowS (belowAlloc hHeld.2 _)) (fun hHeld => ?_)
 clear hK K
 refine Mono.st 3 ?_
 intro K hK
 go_simp
 (refine (between_ok 1 4 1 _ _ (fun _ => kd) _ (.box (Box.new w 3 #[.int .i64 kd]).drew 0 1 _ (fun i hi => by obtain rfl : i = 0 := (by omega); rfl) (by omega)) (fun _ _ => ⟨k1, k2⟩)).mono ?_; rintro e W1 ⟨rfl, hb⟩)
 refine kp hK (belowS (belowCall hHeld.2 hb)) (fun hHeld => ?_)
 clear hK K
 clear hb
 refine tk 4 (some 6) ?_
 refine tl 5 (some 7) rfl (.agg A) (exec_load 104 _ rfl B 0 rfl A (fun w h => (b0.below h.2).range) _ Tryz.underlying104 rfl hsz) ?_
 refine tl 6 (some 8) rfl (.agg A) (exec_load 104 _ rfl B 0 rfl A (fun w h => (b0.below h.2).range) _ Tryz.underlying104 rfl hsz) ?_
 refine Mono.st 7 ?_
 intro K hK
 go_simp
 (refine (hkept _).mono ?_; rintro e W2 ⟨rfl, hb⟩)
 refine kp hK (belowS (belowCall hHeld.2 hb)) (fun hHeld => ?_)
 clear hK K
 clear hb
 refine Mono.st 8 ?_
 intro K hK
 go_simp
 (refine (hsame _ hHeld.2).mono ?_; rintro e W3 ⟨rfl, hb⟩)
 refine kp hK (belowS (belowCall hHeld.2 hb)) (fun hHeld => ?_)
 clear hK K
 clear hb
 refine tk 9 (some 11) ?_
 refine tk 10 (some 1) ?_
 refine wpAnyH_done (by kernel_rfl) ?_ _
 go_wp2
 go_ret
 exact ⟨rfl, hHeld.2⟩
theorem alloc_film (w : World) : (Instr.alloc 24 true (.tuple #[])).run Tryz.prog w = .ok (.pointer (some ⟨w.heap.size, 0, none⟩)) (w.alloc (.cells #[.int .i64 0, .int .i64 0, .int .i64 0] 24)) := by
 go_simp
theorem scheck_parts_fm (w : World) (A : Array Value) (b : Nat) (f : Flm) (r : Bool) (hr : decide f.ok = r) (hof : OneFilm w b f) (a21 : A[21]? = some (.slice (some ⟨b, 0, none⟩) 1 1))
  (h1 : ∀ W B, Below w.heap.size w W → Box W B 104 A → Calls Tryz.prog 207 #[.pointer (some ⟨B, 0, none⟩)] W fun e w' => e = .returned (.bool true) ∧ Below W.heap.size W w')
  (h2 : ∀ W B, Below w.heap.size w W → Box W B 104 A → Calls Tryz.prog 211 #[.pointer (some ⟨B, 0, none⟩)] W fun e w' => e = .returned (.bool true) ∧ Below W.heap.size W w')
  (h3 : ∀ W B, Below w.heap.size w W → Box W B 104 A → Calls Tryz.prog 213 #[.pointer (some ⟨B, 0, none⟩)] W fun e w' => e = .returned (.bool true) ∧ Below W.heap.size W w')
  (h4 : ∀ W B, Below w.heap.size w W → Box W B 104 A → Calls Tryz.prog 214 #[.pointer (some ⟨B, 0, none⟩)] W fun e w' => e = .returned (.bool true) ∧ Below W.heap.size W w')
  (h5 : ∀ W B, Below w.heap.size w W → Box W B 104 A → Calls Tryz.prog 215 #[.pointer (some ⟨B, 0, none⟩)] W fun e w' => e = .returned (.bool true) ∧ Below W.heap.size W w')
  (h6 : ∀ W B, Below w.heap.size w W → Box W B 104 A → Calls Tryz.prog 216 #[.pointer (some ⟨B, 0, none⟩)] W fun e w' => e = .returned (.bool true) ∧ Below W.heap.size W w')
  (h7 : ∀ W B, Below w.heap.size w W → Box W B 104 A → Calls Tryz.prog 218 #[.pointer (some ⟨B, 0, none⟩)] W fun e w' => e = .returned (.bool true) ∧ Below W.heap.size W w')
  : Calls Tryz.prog 150 #[.agg A] w fun e w' => e = .returned (.int .i64 (if r = true then 0 else 110)) ∧ Below w.heap.size w w' := by
 have hfl := fun W => sfilm_ok f W
 rw [hr] at hfl
 clear hr
 have hmf : ∀ (fn : Fn) (first cap : Array Value) (w : World), (Instr.makeFunc fn first cap).run Tryz.prog w = .ok (.func fn first cap) w := fun _ _ _ _ => rfl
 go_enter Tryz.func150, Tryz.ntmps150
 go_wp2
 refine boxes1 fun W hB hs b0 => ?_
 have hi7 : (Tryz.prog.info? 244).map (·.size) = some 7 := by kernel_rfl
 go_step3
 go_wp2_with first | (refine wpList_new rfl 244 rfl _ alloc_fn7 ?_; intro W1 B1 hle hB1 b1) | (refine wpList_store_box rfl 244 (.tmp 3) (.tmp 16) rfl B1 0 244 _ (tests7 w.heap.size) (tests7 w.heap.size) rfl rfl b1 hi7 (Nat.le_of_ble_eq_true rfl) (by simp [tests7, Value.oneCell']) rfl ?_; intro W2 hk2 b2) | (refine wpList_load_box rfl 244 (.tmp 3) rfl B1 rfl 244 _ b2 _ Tryz.underlying244 rfl hi7 ?_)
 have lb0 := b0.lt
 have hBW : Below w.heap.size w W2 := hk2.below (belowCall hB hB1) (by omega) (by have := hB1.size; omega)
 have b02 : Box W2 w.heap.size 104 A := hk2.box (b0.below hB1) (by have := hB1.size; omega) (by omega)
 clear hk2
 go_step3
 go_wp2_with first | (refine wpList_load_box rfl 244 (.tmp 3) rfl B1 rfl 244 _ b2 _ Tryz.underlying244 rfl hi7 ?_)
 clear b0 b1 b2 hB1 hle hB
 obtain ⟨g1, g2, g3, g4, g5, g6, g7⟩ := enters_tests
 go_loopw [4, 18] (fun l a wr => ∃ k : Nat, k ≤ 7 ∧ l = .int .i64 0 ∧ a = .int .i64 (k : Int) ∧ Below W2.heap.size W2 wr) (fun _ a _ => (7 - intOf a).toNat)
 case atStart => exact ⟨0, Nat.zero_le _, rfl, rfl, Below.refl _ _⟩
 case round =>
  obtain ⟨k, hk, rfl, rfl, hBr⟩ := hrel
  have hb0 := b02.below hBr
  by_cases h0 : k < 7
  ·rcases (by omega : k = 0 ∨ k = 1 ∨ k = 2 ∨ k = 3 ∨ k = 4 ∨ k = 5 ∨ k = 6) with rfl | rfl | rfl | rfl | rfl | rfl | rfl
   ·have hx : ∀ w0, (Instr.index 244 (.agg (tests7 w.heap.size)) (.int .i64 0)).run Tryz.prog w0 = .ok (.func (.func 207) #[] #[.pointer (some ⟨w.heap.size, 0, none⟩)]) w0 := fun _ => by kernel_rfl
    go_wp2_with fail
    refine (h1 _ _ (belowCall hBW hBr) hb0).mono ?_
    rintro e w' ⟨rfl, hb⟩
    go_wp2
    go_roundw
    case rel => exact ⟨1, by omega, rfl, rfl, belowCall hBr hb⟩
    case measure => simp [intOf]
   ·have hx : ∀ w0, (Instr.index 244 (.agg (tests7 w.heap.size)) (.int .i64 1)).run Tryz.prog w0 = .ok (.func (.func 211) #[] #[.pointer (some ⟨w.heap.size, 0, none⟩)]) w0 := fun _ => by kernel_rfl
    go_wp2_with fail
    refine (h2 _ _ (belowCall hBW hBr) hb0).mono ?_
    rintro e w' ⟨rfl, hb⟩
    go_wp2
    go_roundw
    case rel => exact ⟨2, by omega, rfl, rfl, belowCall hBr hb⟩
    case measure => simp [intOf]
   ·have hx : ∀ w0, (Instr.index 244 (.agg (tests7 w.heap.size)) (.int .i64 2)).run Tryz.prog w0 = .ok (.func (.func 213) #[] #[.pointer (some ⟨w.heap.size, 0, none⟩)]) w0 := fun _ => by kernel_rfl
    go_wp2_with fail
    refine (h3 _ _ (belowCall hBW hBr) hb0).mono ?_
    rintro e w' ⟨rfl, hb⟩
    go_wp2
    go_roundw
    case rel => exact ⟨3, by omega, rfl, rfl, belowCall hBr hb⟩
    case measure => simp [intOf]
   ·have hx : ∀ w0, (Instr.index 244 (.agg (tests7 w.heap.size)) (.int .i64 3)).run Tryz.prog w0 = .ok (.func (.func 214) #[] #[.pointer (some ⟨w.heap.size, 0, none⟩)]) w0 := fun _ => by kernel_rfl
    go_wp2_with fail
    refine (h4 _ _ (belowCall hBW hBr) hb0).mono ?_
    rintro e w' ⟨rfl, hb⟩
    go_wp2
    go_roundw
    case rel => exact ⟨4, by omega, rfl, rfl, belowCall hBr hb⟩
    case measure => simp [intOf]
   ·have hx : ∀ w0, (Instr.index 244 (.agg (tests7 w.heap.size)) (.int .i64 4)).run Tryz.prog w0 = .ok (.func (.func 215) #[] #[.pointer (some ⟨w.heap.size, 0, none⟩)]) w0 := fun _ => by kernel_rfl
    go_wp2_with fail
    refine (h5 _ _ (belowCall hBW hBr) hb0).mono ?_
    rintro e w' ⟨rfl, hb⟩
    go_wp2
    go_roundw
    case rel => exact ⟨5, by omega, rfl, rfl, belowCall hBr hb⟩
    case measure => simp [intOf]
   ·have hx : ∀ w0, (Instr.index 244 (.agg (tests7 w.heap.size)) (.int .i64 5)).run Tryz.prog w0 = .ok (.func (.func 216) #[] #[.pointer (some ⟨w.heap.size, 0, none⟩)]) w0 := fun _ => by kernel_rfl
    go_wp2_with fail
    refine (h6 _ _ (belowCall hBW hBr) hb0).mono ?_
    rintro e w' ⟨rfl, hb⟩
    go_wp2
    go_roundw
    case rel => exact ⟨6, by omega, rfl, rfl, belowCall hBr hb⟩
    case measure => simp [intOf]
   ·have hx : ∀ w0, (Instr.index 244 (.agg (tests7 w.heap.size)) (.int .i64 6)).run Tryz.prog w0 = .ok (.func (.func 218) #[] #[.pointer (some ⟨w.heap.size, 0, none⟩)]) w0 := fun _ => by kernel_rfl
    go_wp2_with fail
    refine (h7 _ _ (belowCall hBW hBr) hb0).mono ?_
    rintro e w' ⟨rfl, hb⟩
    go_wp2
    go_roundw
    case rel => exact ⟨7, by omega, rfl, rfl, belowCall hBr hb⟩
    case measure => simp [intOf]
  ·obtain rfl : k = 7 := by omega
   rw [show ((7 : Nat) : Int) = 7 from rfl]
   have f21 : wr.cell? ⟨w.heap.size, 21, none⟩ = some (.slice (some ⟨b, 0, none⟩) 1 1) := (hb0.cell 21).trans a21
   have lwr := hb0.lt
   obtain ⟨w5, hw5⟩ : ∃ w5, w5 = wr := ⟨wr, rfl⟩
   rw [← hw5] at hBr hb0 f21 lwr ⊢
   clear hw5 h1 h2 h3 h4 h5 h6 h7
   go_wp2
   have hofW := hof.below (belowCall hBW hBr)
   obtain ⟨lb, c0, c1, c2⟩ := hofW
   have hrg : ∀ V, Below w5.heap.size w5 V → V.rangeAt b 0 f.vals.toList := fun V hV => (OneFilm.below ⟨lb, c0, c1, c2⟩ hV).range
   have hsz : (Tryz.prog.info? 24).map (·.size) = some f.vals.size := by kernel_rfl
   have hsl : (Tryz.prog.info? 24).map (·.size) = some f.vals.toList.length := hsz
   have h1c : f.vals.all (·.oneCell') = true := by simp [Flm.vals, Value.oneCell']
   clear c0 c1 c2
   have hcs : f.vals.size = 3 := rfl
   generalize f.vals = A3 at *
   cases r with
   | true =>
     go_loopw [4, 28] (fun l a w6 => ∃ j : Nat, j ≤ 1 ∧ l = .int .i64 0 ∧ a = .int .i64 (j : Int) ∧ Below w5.heap.size w5 w6) (fun _ a _ => (1 - intOf a).toNat)
     case atStart => exact ⟨0, by decide, rfl, rfl, Below.refl _ _⟩
     case round =>
      obtain ⟨j, hj, rfl, rfl, hB6⟩ := hrel
      by_cases hj0 : j = 0
      ·subst hj0
       have hrgw := hrg wr hB6
       have lbw := Nat.lt_of_lt_of_le lb hB6.size

       go_wp2_with first | (refine wpList_load_mid rfl 24 _ rfl b 0 rfl A3.toList _ hrgw Tryz.underlying24 rfl hsl ?_) | (refine wpList_new rfl 24 rfl _ alloc_film ?_; intro W1 B1 hle hB1 b1) | (refine wpList_store_box rfl 24 _ _ rfl B1 0 24 _ A3 A3 rfl rfl b1 hsz (Nat.le_of_eq (by rw [hcs]; rfl)) h1c (whole_new (by rw [hcs]; rfl)) ?_; intro W2 hk2 b2) | (refine wpList_load_midG (by rfl) 24 (.tmp 8) rfl B1 0 rfl A3.toList _ b2.range Tryz.underlying24 rfl hsl ?_)
       have hB2 : Below w5.heap.size w5 W2 := belowCall hB6 (hk2.below hB1 hle hB1.size)
       refine (hfl W2).mono ?_
       rintro e W3 ⟨rfl, hb3⟩
       go_wp2
       go_roundw
       case rel => exact ⟨1, by decide, rfl, rfl, belowCall hB2 hb3⟩
       case measure => simp [intOf]
      ·obtain rfl : j = 1 := by omega

       go_wp2
       try rw [Exit.noGoto_ret]
       go_ret
       exact ⟨rfl, belowCall (belowCall hBW hBr) hB6⟩
   | false =>
     go_loopw [4, 28] (fun l a w6 => ∃ j : Nat, j ≤ 1 ∧ l = .int .i64 (if j = 0 then 0 else 110) ∧ a = .int .i64 (j : Int) ∧ Below w5.heap.size w5 w6) (fun _ a _ => (1 - intOf a).toNat)
     case atStart => exact ⟨0, by decide, rfl, rfl, Below.refl _ _⟩
     case round =>
      obtain ⟨j, hj, rfl, rfl, hB6⟩ := hrel
      by_cases hj0 : j = 0
      ·subst hj0
       have hrgw := hrg wr hB6
       have lbw := Nat.lt_of_lt_of_le lb hB6.size
       simp only [if_true]
       go_wp2_with first | (refine wpList_load_mid rfl 24 _ rfl b 0 rfl A3.toList _ hrgw Tryz.underlying24 rfl hsl ?_) | (refine wpList_new rfl 24 rfl _ alloc_film ?_; intro W1 B1 hle hB1 b1) | (refine wpList_store_box rfl 24 _ _ rfl B1 0 24 _ A3 A3 rfl rfl b1 hsz (Nat.le_of_eq (by rw [hcs]; rfl)) h1c (whole_new (by rw [hcs]; rfl)) ?_; intro W2 hk2 b2) | (refine wpList_load_midG (by rfl) 24 (.tmp 8) rfl B1 0 rfl A3.toList _ b2.range Tryz.underlying24 rfl hsl ?_)
       have hB2 : Below w5.heap.size w5 W2 := belowCall hB6 (hk2.below hB1 hle hB1.size)
       refine (hfl W2).mono ?_
       rintro e W3 ⟨rfl, hb3⟩
       go_wp2
       go_roundw
       case rel => exact ⟨1, by decide, rfl, rfl, belowCall hB2 hb3⟩
       case measure => simp [intOf]
      ·obtain rfl : j = 1 := by omega
       simp only [Nat.one_ne_zero, if_false]
       go_wp2
       try rw [Exit.noGoto_ret]
       go_ret
       exact ⟨rfl, belowCall (belowCall hBW hBr) hB6⟩
theorem scheck_film (b : Nat) (f : Flm) (w : World) (hof : OneFilm w b f) :
  Calls Tryz.prog 150 #[.agg (zS.csn (some ⟨b, 0, none⟩) 1 1)] w fun e w' => e = .returned (.int .i64 (if f.ok then 0 else 110)) ∧ Below w.heap.size w w' := by
 have e0 : (if f.ok then (0 : Int) else 110) = if decide f.ok = true then 0 else 110 := by by_cases h : f.ok <;> simp [h]
 rw [e0]
 exact scheck_parts_fm w _ b f _ rfl hof rfl (fun W B hW x => scheck1_fm b f B W (hof.below hW) x) (fun W B _ x => scheck2_fm zS zS_fit _ 1 1 B W x) (fun W B _ x => scheck3_fm zS zS_fit _ 1 1 B W x) (fun W B _ x => scheck4_fm zS zS_fit _ 1 1 B W x) (fun W B _ x => scheck5_fm zS zS_fit _ 1 1 B W x) (fun W B _ x => scheck6_fm zS zS_fit _ 1 1 B W x) (fun W B _ x => scheck7_fm zS zS_fit _ 1 1 B (by decide) W x)
theorem sound_ok (f : Flm) (w : World) : Calls Tryz.prog 72 #[.agg f.vals] w fun e w' => e = .returned (.bool (decide f.ok)) ∧ Below w.heap.size w w' := by
 obtain ⟨ix, p, q⟩ := f
 unfold Flm.vals
 dsimp only
 by_cases h0 : ix = 0 ∧ p = 0 ∧ q = 0
 ·obtain ⟨rfl, rfl, rfl⟩ := h0
  rw [decide_eq_false (by decide)]
  go_enter Tryz.func72, Tryz.ntmps72
  go_wp2
  go_ret
  exact ⟨rfl, belowAlloc (Below.refl _ _) _⟩
 ·have hc := fun W b (h : OneFilm W b ⟨ix, p, q⟩) => scheck_film b ⟨ix, p, q⟩ W h
  have hz : zS.csn = fun p n c => #[.int .i64 1, .int .i64 0, .int .i64 0, .int .i64 0, .int .i64 0, .int .i64 0, .int .i64 0, .int .i64 0, .int .i64 0, .int .i64 0, .int .i64 0, .int .i64 0, .int .i64 0, .string { data := #[] }, .int .i64 0, .int .i64 0, .int .i64 0, .int .i64 0, .int .i64 0, .int .i64 0, .int .i64 0, .slice p n c] := rfl
  simp only [hz] at hc
  clear hz
  have h3 : ¬ ix = 0 ∨ (ix = 0 ∧ ¬ p = 0) ∨ (ix = 0 ∧ p = 0 ∧ ¬ q = 0) := by omega
  clear h0
  by_cases hok : Flm.ok ⟨ix, p, q⟩
  ·rw [decide_eq_true hok]
   simp only [if_pos hok] at hc
   clear hok
   rcases h3 with h3 | ⟨rfl, h3⟩ | ⟨rfl, rfl, h3⟩
   all_goals
    go_enter Tryz.func72, Tryz.ntmps72
    go_wp2_with fail
    refine boxes2c fun W hB hs b0 b1 => ?_
    refine (hc W _ ⟨b1.lt, b1.cell 0, b1.cell 1, b1.cell 2⟩).mono ?_
    rintro e W1 ⟨rfl, hb⟩
    go_wp2
    go_ret
    exact ⟨rfl, belowCall hB hb⟩
  ·rw [decide_eq_false hok]
   simp only [if_neg hok] at hc
   clear hok
   rcases h3 with h3 | ⟨rfl, h3⟩ | ⟨rfl, rfl, h3⟩
   all_goals
    go_enter Tryz.func72, Tryz.ntmps72
    go_wp2_with fail
    refine boxes2c fun W hB hs b0 b1 => ?_
    refine (hc W _ ⟨b1.lt, b1.cell 0, b1.cell 1, b1.cell 2⟩).mono ?_
    rintro e W1 ⟨rfl, hb⟩
    go_wp2
    go_ret
    exact ⟨rfl, belowCall hB hb⟩
end Go.Proofs.YtdgodcgdlfjpaaaGreatDoor
