/- Contracts of the program's fractions, lenses and rays, and a verified evaluator of the model. Part 25 of 30. No condition beside the row. -/
import Derived.Test.YtcgfdibagldafaaGreatDoorA21
import Derived.Test.YtcgfdibagldafaaGreatDoorA22
import Derived.Test.YtcgfdibagldafaaGreatDoorA24
set_option linter.unusedVariables false
set_option linter.unusedSimpArgs false
set_option maxRecDepth 100000
set_option maxHeartbeats 4000000
namespace Go.Proofs.YtcgfdibagldafaaGreatDoor
open Go.RowKit Go.Mono
theorem alloc_fn7 (w : World) : (Instr.alloc 340 true (.tuple #[])).run Tryz.prog w = .ok (.pointer (some ⟨w.heap.size, 0, none⟩)) (w.alloc (.cells #[.nilFunc, .nilFunc, .nilFunc, .nilFunc, .nilFunc, .nilFunc, .nilFunc] 340)) := by
 go_simp
def tests7 (B : Nat) : Array Value := #[.func (.func 280) #[] #[.pointer (some ⟨B, 0, none⟩)], .func (.func 284) #[] #[.pointer (some ⟨B, 0, none⟩)], .func (.func 286) #[] #[.pointer (some ⟨B, 0, none⟩)], .func (.func 287) #[] #[.pointer (some ⟨B, 0, none⟩)], .func (.func 288) #[] #[.pointer (some ⟨B, 0, none⟩)], .func (.func 289) #[] #[.pointer (some ⟨B, 0, none⟩)], .func (.func 290) #[] #[.pointer (some ⟨B, 0, none⟩)]]
theorem enters_tests : (∀ args w, (callFunc 280 args).run Tryz.prog w = .ok (.enter 280 args) w) ∧ (∀ args w, (callFunc 284 args).run Tryz.prog w = .ok (.enter 284 args) w) ∧ (∀ args w, (callFunc 286 args).run Tryz.prog w = .ok (.enter 286 args) w) ∧ (∀ args w, (callFunc 287 args).run Tryz.prog w = .ok (.enter 287 args) w) ∧ (∀ args w, (callFunc 288 args).run Tryz.prog w = .ok (.enter 288 args) w) ∧ (∀ args w, (callFunc 289 args).run Tryz.prog w = .ok (.enter 289 args) w) ∧ (∀ args w, (callFunc 290 args).run Tryz.prog w = .ok (.enter 290 args) w) :=
 ⟨Go.Proofs.enters_of Tryz.func280 (by kernel_rfl) rfl, Go.Proofs.enters_of Tryz.func284 (by kernel_rfl) rfl, Go.Proofs.enters_of Tryz.func286 (by kernel_rfl) rfl, Go.Proofs.enters_of Tryz.func287 (by kernel_rfl) rfl, Go.Proofs.enters_of Tryz.func288 (by kernel_rfl) rfl, Go.Proofs.enters_of Tryz.func289 (by kernel_rfl) rfl, Go.Proofs.enters_of Tryz.func290 (by kernel_rfl) rfl⟩
theorem scheck_parts (A : Array Value) (p : Option Addr) (c : Nat) (a21 : A[21]? = some (.slice p 0 c))
  (h1 : ∀ W B, Box W B 91 A → Calls Tryz.prog 280 #[.pointer (some ⟨B, 0, none⟩)] W fun e w' => e = .returned (.bool true) ∧ Below W.heap.size W w')
  (h2 : ∀ W B, Box W B 91 A → Calls Tryz.prog 284 #[.pointer (some ⟨B, 0, none⟩)] W fun e w' => e = .returned (.bool true) ∧ Below W.heap.size W w')
  (h3 : ∀ W B, Box W B 91 A → Calls Tryz.prog 286 #[.pointer (some ⟨B, 0, none⟩)] W fun e w' => e = .returned (.bool true) ∧ Below W.heap.size W w')
  (h4 : ∀ W B, Box W B 91 A → Calls Tryz.prog 287 #[.pointer (some ⟨B, 0, none⟩)] W fun e w' => e = .returned (.bool true) ∧ Below W.heap.size W w')
  (h5 : ∀ W B, Box W B 91 A → Calls Tryz.prog 288 #[.pointer (some ⟨B, 0, none⟩)] W fun e w' => e = .returned (.bool true) ∧ Below W.heap.size W w')
  (h6 : ∀ W B, Box W B 91 A → Calls Tryz.prog 289 #[.pointer (some ⟨B, 0, none⟩)] W fun e w' => e = .returned (.bool true) ∧ Below W.heap.size W w')
  (h7 : ∀ W B, Box W B 91 A → Calls Tryz.prog 290 #[.pointer (some ⟨B, 0, none⟩)] W fun e w' => e = .returned (.bool true) ∧ Below W.heap.size W w')
  (w : World) : Calls Tryz.prog 269 #[.agg A] w fun e w' => e = .returned (.int .i64 0) ∧ Below w.heap.size w w' := by
 have hmf : ∀ (fn : Fn) (first cap : Array Value) (w : World), (Instr.makeFunc fn first cap).run Tryz.prog w = .ok (.func fn first cap) w := fun _ _ _ _ => rfl
 go_enter Tryz.func269, Tryz.ntmps269
 go_wp2
 refine boxes1 fun W hB hs b0 => ?_
 have hi7 : (Tryz.prog.info? 340).map (·.size) = some 7 := by kernel_rfl
 go_step3
 go_wp2_with first | (refine wpList_new rfl 340 rfl _ alloc_fn7 ?_; intro W1 B1 hle hB1 b1) | (refine wpList_store_box rfl 340 (.tmp 3) (.tmp 16) rfl B1 0 340 _ (tests7 w.heap.size) (tests7 w.heap.size) rfl rfl b1 hi7 (Nat.le_of_ble_eq_true rfl) (by simp [tests7, Value.oneCell']) rfl ?_; intro W2 hk2 b2) | (refine wpList_load_box rfl 340 (.tmp 3) rfl B1 rfl 340 _ b2 _ Tryz.underlying340 rfl hi7 ?_)
 have lb0 := b0.lt
 have hBW : Below w.heap.size w W2 := hk2.below (belowCall hB hB1) (by omega) (by have := hB1.size; omega)
 have b02 : Box W2 w.heap.size 91 A := hk2.box (b0.below hB1) (by have := hB1.size; omega) (by omega)
 clear hk2
 go_step3
 go_wp2_with first | (refine wpList_load_box rfl 340 (.tmp 3) rfl B1 rfl 340 _ b2 _ Tryz.underlying340 rfl hi7 ?_)
 clear b0 b1 b2 hB1 hle hB
 obtain ⟨g1, g2, g3, g4, g5, g6, g7⟩ := enters_tests
 go_loopw [4, 18] (fun l a wr => ∃ k : Nat, k ≤ 7 ∧ l = .int .i64 0 ∧ a = .int .i64 (k : Int) ∧ Below W2.heap.size W2 wr) (fun _ a _ => (7 - intOf a).toNat)
 case atStart => exact ⟨0, Nat.zero_le _, rfl, rfl, Below.refl _ _⟩
 case round =>
  obtain ⟨k, hk, rfl, rfl, hBr⟩ := hrel
  have hb0 := b02.below hBr
  by_cases h0 : k < 7
  ·rcases (by omega : k = 0 ∨ k = 1 ∨ k = 2 ∨ k = 3 ∨ k = 4 ∨ k = 5 ∨ k = 6) with rfl | rfl | rfl | rfl | rfl | rfl | rfl
   ·have hx : ∀ w0, (Instr.index 340 (.agg (tests7 w.heap.size)) (.int .i64 0)).run Tryz.prog w0 = .ok (.func (.func 280) #[] #[.pointer (some ⟨w.heap.size, 0, none⟩)]) w0 := fun _ => by kernel_rfl
    go_wp2_with fail
    refine (h1 _ _ hb0).mono ?_
    rintro e w' ⟨rfl, hb⟩
    go_wp2
    go_roundw
    case rel => exact ⟨1, by omega, rfl, rfl, belowCall hBr hb⟩
    case measure => simp [intOf]
   ·have hx : ∀ w0, (Instr.index 340 (.agg (tests7 w.heap.size)) (.int .i64 1)).run Tryz.prog w0 = .ok (.func (.func 284) #[] #[.pointer (some ⟨w.heap.size, 0, none⟩)]) w0 := fun _ => by kernel_rfl
    go_wp2_with fail
    refine (h2 _ _ hb0).mono ?_
    rintro e w' ⟨rfl, hb⟩
    go_wp2
    go_roundw
    case rel => exact ⟨2, by omega, rfl, rfl, belowCall hBr hb⟩
    case measure => simp [intOf]
   ·have hx : ∀ w0, (Instr.index 340 (.agg (tests7 w.heap.size)) (.int .i64 2)).run Tryz.prog w0 = .ok (.func (.func 286) #[] #[.pointer (some ⟨w.heap.size, 0, none⟩)]) w0 := fun _ => by kernel_rfl
    go_wp2_with fail
    refine (h3 _ _ hb0).mono ?_
    rintro e w' ⟨rfl, hb⟩
    go_wp2
    go_roundw
    case rel => exact ⟨3, by omega, rfl, rfl, belowCall hBr hb⟩
    case measure => simp [intOf]
   ·have hx : ∀ w0, (Instr.index 340 (.agg (tests7 w.heap.size)) (.int .i64 3)).run Tryz.prog w0 = .ok (.func (.func 287) #[] #[.pointer (some ⟨w.heap.size, 0, none⟩)]) w0 := fun _ => by kernel_rfl
    go_wp2_with fail
    refine (h4 _ _ hb0).mono ?_
    rintro e w' ⟨rfl, hb⟩
    go_wp2
    go_roundw
    case rel => exact ⟨4, by omega, rfl, rfl, belowCall hBr hb⟩
    case measure => simp [intOf]
   ·have hx : ∀ w0, (Instr.index 340 (.agg (tests7 w.heap.size)) (.int .i64 4)).run Tryz.prog w0 = .ok (.func (.func 288) #[] #[.pointer (some ⟨w.heap.size, 0, none⟩)]) w0 := fun _ => by kernel_rfl
    go_wp2_with fail
    refine (h5 _ _ hb0).mono ?_
    rintro e w' ⟨rfl, hb⟩
    go_wp2
    go_roundw
    case rel => exact ⟨5, by omega, rfl, rfl, belowCall hBr hb⟩
    case measure => simp [intOf]
   ·have hx : ∀ w0, (Instr.index 340 (.agg (tests7 w.heap.size)) (.int .i64 5)).run Tryz.prog w0 = .ok (.func (.func 289) #[] #[.pointer (some ⟨w.heap.size, 0, none⟩)]) w0 := fun _ => by kernel_rfl
    go_wp2_with fail
    refine (h6 _ _ hb0).mono ?_
    rintro e w' ⟨rfl, hb⟩
    go_wp2
    go_roundw
    case rel => exact ⟨6, by omega, rfl, rfl, belowCall hBr hb⟩
    case measure => simp [intOf]
   ·have hx : ∀ w0, (Instr.index 340 (.agg (tests7 w.heap.size)) (.int .i64 6)).run Tryz.prog w0 = .ok (.func (.func 290) #[] #[.pointer (some ⟨w.heap.size, 0, none⟩)]) w0 := fun _ => by kernel_rfl
    go_wp2_with fail
    refine (h7 _ _ hb0).mono ?_
    rintro e w' ⟨rfl, hb⟩
    go_wp2
    go_roundw
    case rel => exact ⟨7, by omega, rfl, rfl, belowCall hBr hb⟩
    case measure => simp [intOf]
  ·obtain rfl : k = 7 := by omega
   have f21 : wr.cell? ⟨w.heap.size, 21, none⟩ = some (.slice p 0 c) := (hb0.cell 21).trans a21
   have lwr := hb0.lt
   obtain ⟨w5, hw5⟩ : ∃ w5, w5 = wr := ⟨wr, rfl⟩
   rw [← hw5] at hBr hb0 f21 lwr ⊢
   clear hw5 h1 h2 h3 h4 h5 h6 h7
   go_wp2
   go_loopw [4, 28] (fun l a w6 => l = .int .i64 0 ∧ a = .int .i64 0 ∧ w6 = w5) (fun _ _ _ => 0)
   case atStart => exact ⟨rfl, rfl, rfl⟩
   case round =>
    obtain ⟨rfl, rfl, rfl⟩ := hrel
    go_wp2
    rw [Exit.noGoto_ret]
    go_ret
    exact ⟨rfl, belowCall hBW hBr⟩
theorem scheck_ok (s : Srf) (hs : s.ok) (p : Option Addr) (c : Nat) (w : World) :
  Calls Tryz.prog 269 #[.agg (s.cs p c)] w fun e w' => e = .returned (.int .i64 0) ∧ Below w.heap.size w w' :=
 scheck_parts (s.cs p c) p c rfl (fun W B b => scheck1_ok s hs p c B W b) (fun W B b => scheck2_ok s hs p c B W b) (fun W B b => scheck3_ok s hs p c B W b) (fun W B b => scheck4_ok s hs p c B W b) (fun W B b => scheck5_ok s hs p c B W b) (fun W B b => scheck6_ok s hs p c B W b) (fun W B b => scheck7_ok s hs p c B W b) w
theorem lens_ok (a : Lns) (ha : a.ok) (q : Plc) (w : World) (h : LnsAt w a q) :
  Calls Tryz.prog 153 #[.agg (a.lvals q)] w fun e w' => e = .returned (.int .i64 0) ∧ Below w.heap.size w w' := by
 have hns := ha.ns
 have hst := ha.st
 obtain ⟨m, hm⟩ : ∃ m, a.ns = m + 1 := ⟨a.ns - 1, by omega⟩
 obtain ⟨k, hk⟩ : ∃ k : Nat, a.st = (k : Int) := ⟨a.st.toNat, by omega⟩
 have hsr := h.surfs
 obtain ⟨b, off, hps, _⟩ := hsr.2.2 (by omega)
 refine lenscheck_ok a.nm a.di a.pu a.st a.pr q.pf q.pw q.ps q.pc a.nf q.cf a.nw q.cw a.ns q.cs 0 q.cc w fun B W hB b0 => ?_
 have hW := h.below hB
 refine valid_ok B W (fun A W' hW' a0 => ?_) (fun A W' hW' a0 => ?_) (fun W' hW' => ?_) (fun W' hW' => ?_) (fun W' hW' => ?_) (fun W' hW' => ?_)
 ·exact valid1_ok A B a.nm W' a0 ((b0.below hW').cell 0) ha.name.1 ha.name.2.1 ha.name.2.2
 ·exact valid2_ok A B a.di a.pu W' a0 ((b0.below hW').cell 1) ((b0.below hW').cell 2) ha.di.1 ha.di.2 ha.pu.1 ha.pu.2
 ·exact fields_ok B a.nm a.di a.pu a.st a.pr q.pf q.pw q.ps q.pc a.nf q.cf a.nw q.cw a.ns q.cs 0 q.cc a.X a.Y W' (b0.below hW') (hW.below hW').fields ha.nf.1 ha.nf.2 _ rfl (fun i hi => ⟨(ha.fr i hi).1, (ha.fr i hi).2⟩) ha.fd
 ·exact waves_ok B a.nm a.di a.pu a.st a.pr q.pf q.pw q.ps q.pc a.nf q.cf a.nw q.cw a.ns q.cs 0 q.cc a.L a.W W' (b0.below hW') (hW.below hW').waves ha.nw.1 ha.nw.2 ha.pr.1 ha.pr.2 ha.wl ha.wm ha.ww
 ·have hr := (hW.below hW').surfs
  have hbx := b0.below hW'
  rw [hps, hm] at hr
  rw [hps, hm, hk] at hbx
  refine lsurfaces_parts B a.nm a.di a.pu a.pr k q.pf q.pw q.pc a.nf q.cf a.nw q.cw m q.cs q.cc b off (fun i => (a.S i).cs (q.cp i) (q.cl i)) (fun _ => rfl) W' hbx hr (by omega) (by omega) (by omega) (fun i hi W2 => scheck_ok (a.S i) (ha.sok i (by omega)) _ _ W2) (fun W2 => ?_) (a.S k).kind rfl ?_
  ·have hi := ha.image
   rw [hm, Nat.add_sub_cancel] at hi
   exact image_ok (a.S m) _ _ W2 hi.1 hi.2.1 hi.2.2.1 hi.2.2.2
  ·have := ha.stop
   rw [hk] at this
   simpa using this
 ·exact configs_ok B a.nm a.di a.pu a.st a.pr q.pf q.pw q.ps q.pc a.nf q.cf a.nw q.cw a.ns q.cs q.cc W' (b0.below hW')
end Go.Proofs.YtcgfdibagldafaaGreatDoor
