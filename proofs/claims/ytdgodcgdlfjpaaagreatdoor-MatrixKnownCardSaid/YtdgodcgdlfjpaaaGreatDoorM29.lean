/- The law MatrixKnown: the examples of the ray transfer matrices, afocal lenses, mirrors and the order of errors; its walk by a verified evaluator of the model, and its card. Part 29 of 36. No condition beside the row. -/
import Derived.Test.YtdgodcgdlfjpaaaGreatDoorM28
set_option linter.unusedVariables false
set_option linter.unusedSimpArgs false
set_option maxRecDepth 100000
set_option maxHeartbeats 4000000
namespace Go.Proofs.YtdgodcgdlfjpaaaGreatDoor
open Go.RowKit Go.Mono
theorem alloc_fn7 (w : World) : (Instr.alloc 244 true (.tuple #[])).run Tryz.prog w = .ok (.pointer (some ⟨w.heap.size, 0, none⟩)) (w.alloc (.cells #[.nilFunc, .nilFunc, .nilFunc, .nilFunc, .nilFunc, .nilFunc, .nilFunc] 244)) := by
 go_simp
def tests7 (B : Nat) : Array Value := #[.func (.func 207) #[] #[.pointer (some ⟨B, 0, none⟩)], .func (.func 211) #[] #[.pointer (some ⟨B, 0, none⟩)], .func (.func 213) #[] #[.pointer (some ⟨B, 0, none⟩)], .func (.func 214) #[] #[.pointer (some ⟨B, 0, none⟩)], .func (.func 215) #[] #[.pointer (some ⟨B, 0, none⟩)], .func (.func 216) #[] #[.pointer (some ⟨B, 0, none⟩)], .func (.func 218) #[] #[.pointer (some ⟨B, 0, none⟩)]]
theorem enters_tests : (∀ args w, (callFunc 207 args).run Tryz.prog w = .ok (.enter 207 args) w) ∧ (∀ args w, (callFunc 211 args).run Tryz.prog w = .ok (.enter 211 args) w) ∧ (∀ args w, (callFunc 213 args).run Tryz.prog w = .ok (.enter 213 args) w) ∧ (∀ args w, (callFunc 214 args).run Tryz.prog w = .ok (.enter 214 args) w) ∧ (∀ args w, (callFunc 215 args).run Tryz.prog w = .ok (.enter 215 args) w) ∧ (∀ args w, (callFunc 216 args).run Tryz.prog w = .ok (.enter 216 args) w) ∧ (∀ args w, (callFunc 218 args).run Tryz.prog w = .ok (.enter 218 args) w) :=
 ⟨Go.Proofs.enters_of Tryz.func207 (by kernel_rfl) rfl, Go.Proofs.enters_of Tryz.func211 (by kernel_rfl) rfl, Go.Proofs.enters_of Tryz.func213 (by kernel_rfl) rfl, Go.Proofs.enters_of Tryz.func214 (by kernel_rfl) rfl, Go.Proofs.enters_of Tryz.func215 (by kernel_rfl) rfl, Go.Proofs.enters_of Tryz.func216 (by kernel_rfl) rfl, Go.Proofs.enters_of Tryz.func218 (by kernel_rfl) rfl⟩
theorem scheck_parts (A : Array Value) (p : Option Addr) (c : Nat) (a21 : A[21]? = some (.slice p 0 c))
  (h1 : ∀ W B, Box W B 104 A → Calls Tryz.prog 207 #[.pointer (some ⟨B, 0, none⟩)] W fun e w' => e = .returned (.bool true) ∧ Below W.heap.size W w')
  (h2 : ∀ W B, Box W B 104 A → Calls Tryz.prog 211 #[.pointer (some ⟨B, 0, none⟩)] W fun e w' => e = .returned (.bool true) ∧ Below W.heap.size W w')
  (h3 : ∀ W B, Box W B 104 A → Calls Tryz.prog 213 #[.pointer (some ⟨B, 0, none⟩)] W fun e w' => e = .returned (.bool true) ∧ Below W.heap.size W w')
  (h4 : ∀ W B, Box W B 104 A → Calls Tryz.prog 214 #[.pointer (some ⟨B, 0, none⟩)] W fun e w' => e = .returned (.bool true) ∧ Below W.heap.size W w')
  (h5 : ∀ W B, Box W B 104 A → Calls Tryz.prog 215 #[.pointer (some ⟨B, 0, none⟩)] W fun e w' => e = .returned (.bool true) ∧ Below W.heap.size W w')
  (h6 : ∀ W B, Box W B 104 A → Calls Tryz.prog 216 #[.pointer (some ⟨B, 0, none⟩)] W fun e w' => e = .returned (.bool true) ∧ Below W.heap.size W w')
  (h7 : ∀ W B, Box W B 104 A → Calls Tryz.prog 218 #[.pointer (some ⟨B, 0, none⟩)] W fun e w' => e = .returned (.bool true) ∧ Below W.heap.size W w')
  (w : World) : Calls Tryz.prog 150 #[.agg A] w fun e w' => e = .returned (.int .i64 0) ∧ Below w.heap.size w w' := by
 have hmf : ∀ (fn : Fn) (first cap : Array Value) (w : World), (Instr.makeFunc fn first cap).run Tryz.prog w = .ok (.func fn first cap) w := fun _ _ _ _ => rfl
 go_enter Tryz.func150, Tryz.ntmps150
 go_wp2
 refine boxes1 fun W hB hs b0 => ?_
 have hi7 : (Tryz.prog.info? 244).map (·.size) = some 7 := by kernel_rfl
 go_step3
 go_wp2_with first | (refine wpList_new rfl 244 rfl _ alloc_fn7 ?_; intro W1 B1 hle hB1 b1) | (refine wpList_store_box rfl 244 (.tmp 3) (.tmp 16) rfl B1 0 244 _ (tests7 w.heap.size) (tests7 w.heap.size) rfl rfl b1 hi7 (Nat.le_of_ble_eq_true rfl) (by simp [tests7, Value.oneCell']) rfl ?_; intro W2 hk2 b2) | (refine wpList_load_box rfl 244 (.tmp 3) rfl B1 rfl 244 _ b2 _ Tryz.underlying244 rfl hi7 ?_)
 have lb0 := b0.lt
 have hBW : Below w.heap.size w W2 := hk2.below (belowCall hB hB1) (by omega) (by have := hB1.size; omega)
 have b02 : Box W2 w.heap.size 104 A := hk2.box (b0.below hB1) (by have := hB1.size; omega) (by omega)
 clear hk2
 go_step3
 go_wp2_with first | (refine wpList_load_box rfl 244 (.tmp 3) rfl B1 rfl 244 _ b2 _ Tryz.underlying244 rfl hi7 ?_)
 clear b0 b1 b2 hB1 hle hB
 obtain ⟨g1, g2, g3, g4, g5, g6, g7⟩ := enters_tests
 go_loopw [4, 18] (fun l a wr => ∃ k : Nat, k ≤ 7 ∧ l = .int .i64 0 ∧ a = .int .i64 (k : Int) ∧ Below W2.heap.size W2 wr) (fun _ a _ => (7 - intOf a).toNat)
 case atStart => exact ⟨0, Nat.zero_le _, rfl, rfl, Below.refl _ _⟩
 case round =>
  obtain ⟨k, hk, rfl, rfl, hBr⟩ := hrel
  have hb0 := b02.below hBr
  by_cases h0 : k < 7
  ·rcases (by omega : k = 0 ∨ k = 1 ∨ k = 2 ∨ k = 3 ∨ k = 4 ∨ k = 5 ∨ k = 6) with rfl | rfl | rfl | rfl | rfl | rfl | rfl
   ·have hx : ∀ w0, (Instr.index 244 (.agg (tests7 w.heap.size)) (.int .i64 0)).run Tryz.prog w0 = .ok (.func (.func 207) #[] #[.pointer (some ⟨w.heap.size, 0, none⟩)]) w0 := fun _ => by kernel_rfl
    go_wp2_with fail
    refine (h1 _ _ hb0).mono ?_
    rintro e w' ⟨rfl, hb⟩
    go_wp2
    go_roundw
    case rel => exact ⟨1, by omega, rfl, rfl, belowCall hBr hb⟩
    case measure => simp [intOf]
   ·have hx : ∀ w0, (Instr.index 244 (.agg (tests7 w.heap.size)) (.int .i64 1)).run Tryz.prog w0 = .ok (.func (.func 211) #[] #[.pointer (some ⟨w.heap.size, 0, none⟩)]) w0 := fun _ => by kernel_rfl
    go_wp2_with fail
    refine (h2 _ _ hb0).mono ?_
    rintro e w' ⟨rfl, hb⟩
    go_wp2
    go_roundw
    case rel => exact ⟨2, by omega, rfl, rfl, belowCall hBr hb⟩
    case measure => simp [intOf]
   ·have hx : ∀ w0, (Instr.index 244 (.agg (tests7 w.heap.size)) (.int .i64 2)).run Tryz.prog w0 = .ok (.func (.func 213) #[] #[.pointer (some ⟨w.heap.size, 0, none⟩)]) w0 := fun _ => by kernel_rfl
    go_wp2_with fail
    refine (h3 _ _ hb0).mono ?_
    rintro e w' ⟨rfl, hb⟩
    go_wp2
    go_roundw
    case rel => exact ⟨3, by omega, rfl, rfl, belowCall hBr hb⟩
    case measure => simp [intOf]
   ·have hx : ∀ w0, (Instr.index 244 (.agg (tests7 w.heap.size)) (.int .i64 3)).run Tryz.prog w0 = .ok (.func (.func 214) #[] #[.pointer (some ⟨w.heap.size, 0, none⟩)]) w0 := fun _ => by kernel_rfl
    go_wp2_with fail
    refine (h4 _ _ hb0).mono ?_
    rintro e w' ⟨rfl, hb⟩
    go_wp2
    go_roundw
    case rel => exact ⟨4, by omega, rfl, rfl, belowCall hBr hb⟩
    case measure => simp [intOf]
   ·have hx : ∀ w0, (Instr.index 244 (.agg (tests7 w.heap.size)) (.int .i64 4)).run Tryz.prog w0 = .ok (.func (.func 215) #[] #[.pointer (some ⟨w.heap.size, 0, none⟩)]) w0 := fun _ => by kernel_rfl
    go_wp2_with fail
    refine (h5 _ _ hb0).mono ?_
    rintro e w' ⟨rfl, hb⟩
    go_wp2
    go_roundw
    case rel => exact ⟨5, by omega, rfl, rfl, belowCall hBr hb⟩
    case measure => simp [intOf]
   ·have hx : ∀ w0, (Instr.index 244 (.agg (tests7 w.heap.size)) (.int .i64 5)).run Tryz.prog w0 = .ok (.func (.func 216) #[] #[.pointer (some ⟨w.heap.size, 0, none⟩)]) w0 := fun _ => by kernel_rfl
    go_wp2_with fail
    refine (h6 _ _ hb0).mono ?_
    rintro e w' ⟨rfl, hb⟩
    go_wp2
    go_roundw
    case rel => exact ⟨6, by omega, rfl, rfl, belowCall hBr hb⟩
    case measure => simp [intOf]
   ·have hx : ∀ w0, (Instr.index 244 (.agg (tests7 w.heap.size)) (.int .i64 6)).run Tryz.prog w0 = .ok (.func (.func 218) #[] #[.pointer (some ⟨w.heap.size, 0, none⟩)]) w0 := fun _ => by kernel_rfl
    go_wp2_with fail
    refine (h7 _ _ hb0).mono ?_
    rintro e w' ⟨rfl, hb⟩
    go_wp2
    go_roundw
    case rel => exact ⟨7, by omega, rfl, rfl, belowCall hBr hb⟩
    case measure => simp [intOf]
  ·obtain rfl : k = 7 := by omega
   have f21 : wr.cell? ⟨w.heap.size, 21, none⟩ = some (.slice p 0 c) := (hb0.cell 21).trans a21
   have lwr := hb0.lt
   obtain ⟨w5, hw5⟩ : ∃ w5, w5 = wr := ⟨wr, rfl⟩
   rw [← hw5] at hBr hb0 f21 lwr ⊢
   clear hw5 h1 h2 h3 h4 h5 h6 h7
   go_wp2
   go_loopw [4, 28] (fun l a w6 => l = .int .i64 0 ∧ a = .int .i64 0 ∧ w6 = w5) (fun _ _ _ => 0)
   case atStart => exact ⟨rfl, rfl, rfl⟩
   case round =>
    obtain ⟨rfl, rfl, rfl⟩ := hrel
    go_wp2
    rw [Exit.noGoto_ret]
    go_ret
    exact ⟨rfl, belowCall hBW hBr⟩
theorem scheck_ok (s : Srf) (hs : s.ok) (p : Option Addr) (c : Nat) (w : World) :
  Calls Tryz.prog 150 #[.agg (s.cs p c)] w fun e w' => e = .returned (.int .i64 0) ∧ Below w.heap.size w w' :=
 scheck_parts (s.cs p c) p c rfl (fun W B b => scheck1_ok s hs p c B W b) (fun W B b => scheck2_ok s hs p c B W b) (fun W B b => scheck3_ok s hs p c B W b) (fun W B b => scheck4_ok s hs p c B W b) (fun W B b => scheck5_ok s hs p c B W b) (fun W B b => scheck6_ok s hs p c B W b) (fun W B b => scheck7_ok s hs p c B W b) w
end Go.Proofs.YtdgodcgdlfjpaaaGreatDoor
