/- Contracts of package coat and of the examples of its law, for the laws of layer 40. Part 28 of 40. No condition beside the row. -/
import Derived.Test.YtdgodcgdlfjpaaaGreatDoorA20
import Derived.Test.YtdgodcgdlfjpaaaGreatDoorA23
import Derived.Test.YtdgodcgdlfjpaaaGreatDoorA27
set_option linter.unusedVariables false
set_option linter.unusedSimpArgs false
set_option maxRecDepth 100000
set_option maxHeartbeats 4000000
namespace Go.Mono
open Go.RowKit
def Srf.csn (s : Srf) (p : Option Addr) (n c : Nat) : Array Value :=
 #[.int .i64 s.kind, .int .i64 s.curv, .int .i64 s.conic, .int .i64 s.curvx, .int .i64 s.conicx, .int .i64 s.a0, .int .i64 s.a1, .int .i64 s.a2, .int .i64 s.a3, .int .i64 s.p0, .int .i64 s.p1, .int .i64 s.order, .int .i64 s.thick, .string s.glass, .int .i64 s.semi, .int .i64 s.hole, .int .i64 s.dx, .int .i64 s.dy, .int .i64 s.ax, .int .i64 s.ay, .int .i64 s.az, .slice p n c]
theorem zS_fit : zS.ok := by
 constructor
 case kept => rfl
 case glass => exact .inl rfl
 all_goals first | decide | (unfold In; decide) | (left; decide)
end Go.Mono
namespace Go.Proofs.YtdgodcgdlfjpaaaGreatDoor
open Go.RowKit Go.Mono
theorem scheck2_fm (s : Srf) (hs : s.ok) (p : Option Addr) (nf c B : Nat) (w : World) (b0 : Box w B 104 (s.csn p nf c)) :
  Calls Tryz.prog 211 #[.pointer (some ⟨B, 0, none⟩)] w fun e w' => e = .returned (.bool true) ∧ Below w.heap.size w w' := by
 have cb0 := b0.cell
 have bx := fun W (h : Below w.heap.size w W) => (b0.below h).cell
 simp only [Srf.csn] at cb0 bx
 have h5 : ∀ x ∈ [s.curv, s.curvx, s.thick, s.dx, s.dy], In 1000000000 x := by
  intro x hx
  have := hs.curv; have := hs.curvx; have := hs.thick; have := hs.dx; have := hs.dy
  simp at hx
  rcases hx with rfl | rfl | rfl | rfl | rfl <;> assumption
 have h4 : ∀ x ∈ [s.a0, s.a1, s.a2, s.a3], In 1000000000 x := by
  intro x hx
  have := hs.a0; have := hs.a1; have := hs.a2; have := hs.a3
  simp at hx
  rcases hx with rfl | rfl | rfl | rfl <;> assumption
 have h2 : ∀ x ∈ [s.p0, s.p1], In 1000000000 x := by
  intro x hx
  have := hs.p0; have := hs.p1
  simp at hx
  rcases hx with rfl | rfl <;> assumption
 go_enter Tryz.func211, Tryz.ntmps211
 go_wp2_with fail
 refine (about_ok 1000000000 5 _ 5 (fun i => [s.curv, s.curvx, s.thick, s.dx, s.dy].getD i 0) _ (rdF_list w 3 [s.curv, s.curvx, s.thick, s.dx, s.dy] (by simp)) (by omega) (by omega) (getD_in h5)).mono ?_
 rintro e W1 ⟨rfl, hb1⟩
 have hB1 := belowCall (belowAlloc (Below.refl _ _) _) hb1
 have b1 := b0.below hB1
 have cb1 := bx W1 hB1
 go_wp2_with fail
 refine (about_ok 1000000000 4 _ 4 (fun i => [s.a0, s.a1, s.a2, s.a3].getD i 0) _ (RdF.box b1 5 4 _ ?_ (by decide)) (by omega) (by omega) (getD_in h4)).mono ?_
 ·intro i hi
  rcases (by omega : i = 0 ∨ i = 1 ∨ i = 2 ∨ i = 3) with rfl | rfl | rfl | rfl <;> rfl
 rintro e W2 ⟨rfl, hb2⟩
 have hB2 := belowCall hB1 hb2
 have b2 := b0.below hB2
 have cb2 := bx W2 hB2
 go_wp2_with fail
 refine (about_ok 1000000000 2 _ 2 (fun i => [s.p0, s.p1].getD i 0) _ (RdF.box b2 9 2 _ ?_ (by decide)) (by omega) (by omega) (getD_in h2)).mono ?_
 ·intro i hi
  rcases (by omega : i = 0 ∨ i = 1) with rfl | rfl <;> rfl
 rintro e W3 ⟨rfl, hb3⟩
 go_wp2
 go_ret
 exact ⟨rfl, belowCall hB2 hb3⟩
theorem scheck3_fm (s : Srf) (hs : s.ok) (p : Option Addr) (nf c B : Nat) (w : World) (b0 : Box w B 104 (s.csn p nf c)) :
  Calls Tryz.prog 213 #[.pointer (some ⟨B, 0, none⟩)] w fun e w' => e = .returned (.bool true) ∧ Below w.heap.size w w' := by
 have cb0 := b0.cell
 have bx := fun W (h : Below w.heap.size w W) => (b0.below h).cell
 simp only [Srf.csn] at cb0 bx
 have h2 : ∀ x ∈ [s.conic, s.conicx], In 100000000 x := by
  intro x hx
  have := hs.conic; have := hs.conicx
  simp at hx
  rcases hx with rfl | rfl <;> assumption
 have h3 : ∀ x ∈ [s.ax, s.ay, s.az], In 90000000 x := by
  intro x hx
  have := hs.ax; have := hs.ay; have := hs.az
  simp at hx
  rcases hx with rfl | rfl | rfl <;> assumption
 go_enter Tryz.func213, Tryz.ntmps213
 go_wp2_with fail
 refine (about_ok 100000000 2 _ 2 (fun i => [s.conic, s.conicx].getD i 0) _ (rdF_list w 3 [s.conic, s.conicx] (by simp)) (by omega) (by omega) (getD_in h2)).mono ?_
 rintro e W1 ⟨rfl, hb1⟩
 have hB1 := belowCall (belowAlloc (Below.refl _ _) _) hb1
 have cb1 := bx W1 hB1
 go_wp2_with fail
 refine (about_ok 90000000 3 _ 3 (fun i => [s.ax, s.ay, s.az].getD i 0) _ (rdF_list W1 3 [s.ax, s.ay, s.az] (by simp)) (by omega) (by omega) (getD_in h3)).mono ?_
 rintro e W2 ⟨rfl, hb2⟩
 go_wp2
 go_ret
 exact ⟨rfl, belowCall (belowAlloc hB1 _) hb2⟩
theorem scheck4_fm (s : Srf) (hs : s.ok) (p : Option Addr) (nf c B : Nat) (w : World) (b0 : Box w B 104 (s.csn p nf c)) :
  Calls Tryz.prog 214 #[.pointer (some ⟨B, 0, none⟩)] w fun e w' => e = .returned (.bool true) ∧ Below w.heap.size w w' := by
 have cb0 := b0.cell
 have bx := fun W (h : Below w.heap.size w W) => (b0.below h).cell
 simp only [Srf.csn] at cb0 bx
 have h1 : ∀ x ∈ [s.order], In 3 x := by
  intro x hx
  have := hs.order
  simp at hx
  subst hx
  assumption
 have h2 : ∀ i, i < 2 → 0 ≤ [s.semi, s.hole].getD i 0 ∧ [s.semi, s.hole].getD i 0 ≤ 1000000000 := by
  intro i hi
  have := hs.semi0; have := hs.semi1; have := hs.hole0; have := hs.hole1
  rcases (by omega : i = 0 ∨ i = 1) with rfl | rfl <;> constructor <;> assumption
 go_enter Tryz.func214, Tryz.ntmps214
 go_wp2_with fail
 refine (about_ok 3 1 _ 1 (fun i => [s.order].getD i 0) _ (rdF_list w 3 [s.order] (by simp)) (by omega) (by omega) (getD_in h1)).mono ?_
 rintro e W1 ⟨rfl, hb1⟩
 have hB1 := belowCall (belowAlloc (Below.refl _ _) _) hb1
 have cb1 := bx W1 hB1
 go_wp2_with fail
 refine (between_ok 0 1000000000 2 _ 2 (fun i => [s.semi, s.hole].getD i 0) _ (rdF_list W1 3 [s.semi, s.hole] (by simp)) h2).mono ?_
 rintro e W2 ⟨rfl, hb2⟩
 go_wp2
 go_ret
 exact ⟨rfl, belowCall (belowAlloc hB1 _) hb2⟩
theorem scheck5_fm (s : Srf) (hs : s.ok) (p : Option Addr) (nf c B : Nat) (w : World) (b0 : Box w B 104 (s.csn p nf c)) :
  Calls Tryz.prog 215 #[.pointer (some ⟨B, 0, none⟩)] w fun e w' => e = .returned (.bool true) ∧ Below w.heap.size w w' := by
 have cb0 := b0.cell
 simp only [Srf.csn] at cb0
 have h := hs.ring
 by_cases h0 : s.semi = 0
 ·rw [h0] at cb0
  go_enter Tryz.func215, Tryz.ntmps215
  go_wp2
  go_ret
  exact ⟨rfl, Below.refl _ _⟩
 ·have h1 : s.hole < s.semi := by omega
  have h2 : (s.semi == 0) = false := by simpa using h0
  clear h h0
  go_enter Tryz.func215, Tryz.ntmps215
  go_wp2
  go_ret
  exact ⟨rfl, Below.refl _ _⟩
theorem scheck6_fm (s : Srf) (hs : s.ok) (p : Option Addr) (nf c B : Nat) (w : World) (b0 : Box w B 104 (s.csn p nf c)) :
  Calls Tryz.prog 216 #[.pointer (some ⟨B, 0, none⟩)] w fun e w' => e = .returned (.bool true) ∧ Below w.heap.size w w' := by
 have cb0 := b0.cell
 simp only [Srf.csn] at cb0
 rcases hs.glass with h | h
 ·rw [h] at cb0
  go_enter Tryz.func216, Tryz.ntmps216
  go_wp2
  go_ret
  exact ⟨rfl, Below.refl _ _⟩
 ·have hn := name_ok s.glass h.1 h.2.1 h.2.2 w
  clear h hs b0
  go_enter Tryz.func216, Tryz.ntmps216
  go_wp2_with (go_at_call 217; refine hn.mono ?_; rintro e w' ⟨rfl, rfl⟩)
  all_goals
   go_ret
   exact ⟨rfl, Below.refl _ _⟩
theorem scheck7_fm (s : Srf) (_ : s.ok) (p : Option Addr) (nf c B : Nat) (hn : nf ≤ 8) (w : World) (b0 : Box w B 104 (s.csn p nf c)) :
  Calls Tryz.prog 218 #[.pointer (some ⟨B, 0, none⟩)] w fun e w' => e = .returned (.bool true) ∧ Below w.heap.size w w' := by
 have cb0 := b0.cell
 simp only [Srf.csn] at cb0
 have hn8 : (nf : Int) ≤ 8 := by omega
 go_enter Tryz.func218, Tryz.ntmps218
 go_wp2
 go_ret
 exact ⟨rfl, Below.refl _ _⟩
theorem kept1f (curv conic curvx conicx a0 a1 a2 a3 p0 p1 thick semi hole dx dy ax ay az : Int) (glass : ByteArray) (p : Option Addr) (nf c : Nat) (A : Array Value)
  (e0 : A[0]? = some (.int .i64 1))
  (e1 : A[1]? = some (.int .i64 curv))
  (e2 : A[2]? = some (.int .i64 conic))
  (e3 : A[3]? = some (.int .i64 curvx))
  (e4 : A[4]? = some (.int .i64 conicx))
  (e5 : A[5]? = some (.int .i64 a0))
  (e6 : A[6]? = some (.int .i64 a1))
  (e7 : A[7]? = some (.int .i64 a2))
  (e8 : A[8]? = some (.int .i64 a3))
  (e9 : A[9]? = some (.int .i64 p0))
  (e10 : A[10]? = some (.int .i64 p1))
  (e11 : A[11]? = some (.int .i64 0))
  (e12 : A[12]? = some (.int .i64 thick))
  (e13 : A[13]? = some (.string glass))
  (e14 : A[14]? = some (.int .i64 semi))
  (e15 : A[15]? = some (.int .i64 hole))
  (e16 : A[16]? = some (.int .i64 dx))
  (e17 : A[17]? = some (.int .i64 dy))
  (e18 : A[18]? = some (.int .i64 ax))
  (e19 : A[19]? = some (.int .i64 ay))
  (e20 : A[20]? = some (.int .i64 az))
  (e21 : A[21]? = some (.slice p nf c))
  (w : World) : Calls Tryz.prog 210 #[.agg A] w fun e w' => e = .returned (.agg #[.int .i64 1, .int .i64 curv, .int .i64 conic, .int .i64 0, .int .i64 0, .int .i64 a0, .int .i64 a1, .int .i64 a2, .int .i64 a3, .int .i64 0, .int .i64 0, .int .i64 0, .int .i64 thick, .string glass, .int .i64 semi, .int .i64 hole, .int .i64 0, .int .i64 0, .int .i64 0, .int .i64 0, .int .i64 0, .slice p nf c]) ∧ Below w.heap.size w w' := by
 go_enter Tryz.func210, Tryz.ntmps210
 have hi : (Tryz.prog.info? 104).map (·.size) = some 22 := by kernel_rfl
 have hi2 : (Tryz.prog.info? 29).map (·.size) = some 2 := by kernel_rfl
 have hi4 : (Tryz.prog.info? 102).map (·.size) = some 4 := by kernel_rfl
 go_step
 go_step
 go_step
 go_step
 go_step
 go_step
 go_step
 go_step
 go_step
 refine boxes2l fun W hB hsz b0 b1 => ?_
 have cb0 := b0.cell
 have lb0 := b0.lt
 go_wp2_with first | (refine wpList_build2 rfl 104 _ rfl #[.int .i64 1, .int .i64 0, .int .i64 0, .int .i64 0, .int .i64 0, .int .i64 0, .int .i64 0, .int .i64 0, .int .i64 0, .int .i64 0, .int .i64 0, .int .i64 0, .int .i64 thick, .string { data := #[] }, .int .i64 0, .int .i64 0, .int .i64 0, .int .i64 0, .int .i64 0, .int .i64 0, .int .i64 0, .slice none 0 0] (by as_aux_lemma => kernel_rfl) ?_) | (refine wpList_new rfl 104 rfl _ alloc_surface ?_; intro W1 B2 hle hB1 b2; have b01 := b0.below hB1; have b11 := b1.below hB1) | (refine wpList_store_box rfl 104 (.tmp 3) (.tmp 8) rfl B2 0 104 _ #[.int .i64 1, .int .i64 0, .int .i64 0, .int .i64 0, .int .i64 0, .int .i64 0, .int .i64 0, .int .i64 0, .int .i64 0, .int .i64 0, .int .i64 0, .int .i64 0, .int .i64 thick, .string { data := #[] }, .int .i64 0, .int .i64 0, .int .i64 0, .int .i64 0, .int .i64 0, .int .i64 0, .int .i64 0, .slice none 0 0] #[.int .i64 1, .int .i64 0, .int .i64 0, .int .i64 0, .int .i64 0, .int .i64 0, .int .i64 0, .int .i64 0, .int .i64 0, .int .i64 0, .int .i64 0, .int .i64 0, .int .i64 thick, .string { data := #[] }, .int .i64 0, .int .i64 0, .int .i64 0, .int .i64 0, .int .i64 0, .int .i64 0, .int .i64 0, .slice none 0 0] rfl rfl b2 hi (Nat.le_of_ble_eq_true rfl) (by simp [Value.oneCell']) rfl ?_; intro W2 hk2 b22; have b02 := hk2.box b01 b01.lt (by have := b0.lt; omega); have b12 := hk2.box b11 b11.lt (by have := b1.lt; omega); have cb2 := b02.cell) | (refine wpList_store_box rfl 102 (.tmp 15) (.tmp 14) rfl B2 5 104 _ #[.int .i64 a0, .int .i64 a1, .int .i64 a2, .int .i64 a3] #[.int .i64 1, .int .i64 0, .int .i64 0, .int .i64 0, .int .i64 0, .int .i64 a0, .int .i64 a1, .int .i64 a2, .int .i64 a3, .int .i64 0, .int .i64 0, .int .i64 0, .int .i64 thick, .string { data := #[] }, .int .i64 0, .int .i64 0, .int .i64 0, .int .i64 0, .int .i64 0, .int .i64 0, .int .i64 0, .slice none 0 0] rfl rfl b22 hi4 (Nat.le_of_ble_eq_true rfl) (by simp [Value.oneCell']) rfl ?_; intro W3 hk3 b23; have b03 := hk3.box b02 b02.lt (by have := b0.lt; omega); have b13 := hk3.box b12 b12.lt (by have := b1.lt; omega); have cb3 := b03.cell)
 have lw := b0.lt
 have hBW : Below w.heap.size w W3 := hk3.below (hk2.below (belowCall hB hB1) (by omega) (by have := hB1.size; omega)) (by omega) (by have := b02.lt; omega)
 have lb0 := b03.lt
 have nb0 : w.heap.size ≠ B2 := by omega
 have lb2 : w.heap.size + 2 ≤ B2 := by omega
 clear cb0 cb2 cb3 hk2 hk3 b0 b1 b01 b11 b02 b12 b22 b2
 have b0 := b03
 have b2 := b23
 clear b03 b23
 refine wp_region_held_drew (S := fun w' => (∀ o, w'.cell? ⟨w.heap.size, o, none⟩ = A[o]?) ∧ KeepBut B2 W3.heap.size W3 w') (by kernel_rfl) ⟨b0.cell, (KeepBut.refl _ _).drew⟩ (fun hHeld => ?_)
 have hst : ∀ (w' : World) (i : Nat) (u : Value), ((∀ o, w'.cell? ⟨w.heap.size, o, none⟩ = A[o]?) ∧ KeepBut B2 W3.heap.size W3 w') → ((∀ o, (w'.setCell ⟨B2, i, none⟩ u).cell? ⟨w.heap.size, o, none⟩ = A[o]?) ∧ KeepBut B2 W3.heap.size W3 (w'.setCell ⟨B2, i, none⟩ u)) := fun w' i u h => ⟨fun o => (World.cell?_setCell_other _ _ _ _ (by intro e; have := congrArg Addr.block e; simp at this; omega)).trans (h.1 o), h.2.set i u⟩
 have g0 := b0
 replace b2 := b2.drew
 replace hst := Lib.hid hst
 refine tk 0 (some 68) ?_
 refine tk 1 (some 69) ?_
 refine tk 2 (some 70) ?_
 refine tk 3 (some 71) ?_
 refine tk 4 (some 72) ?_
 refine tk 5 (some 73) ?_
 refine tk 6 (some 74) ?_
 refine tk 7 (some 75) ?_
 refine tk 8 (some 76) ?_
 refine tk 9 (some 77) ?_
 refine tk 10 (some 78) ?_
 refine tk 11 (some 79) ?_
 refine tk 12 (some 80) ?_
 refine wpAnyH_store1 B2 104 13 rfl rfl rfl rfl 1 (.int .i64 curv) _ #[.int .i64 1, .int .i64 curv, .int .i64 0, .int .i64 0, .int .i64 0, .int .i64 a0, .int .i64 a1, .int .i64 a2, .int .i64 a3, .int .i64 0, .int .i64 0, .int .i64 0, .int .i64 thick, .string { data := #[] }, .int .i64 0, .int .i64 0, .int .i64 0, .int .i64 0, .int .i64 0, .int .i64 0, .int .i64 0, .slice none 0 0] (by as_aux_lemma => kernel_rfl) hst.out rfl rfl (store_int _ _ _) b2 hHeld (Nat.le_of_ble_eq_true rfl) rfl ?_
 clear b2 hHeld
 intro W4 b2 hHeld
 try simp only [List.setIfInBounds_toArray, List.set_cons_zero, List.set_cons_succ]
 refine tk 14 (some 81) ?_
 refine wpAnyH_store1 B2 104 15 rfl rfl rfl rfl 2 (.int .i64 conic) _ #[.int .i64 1, .int .i64 curv, .int .i64 conic, .int .i64 0, .int .i64 0, .int .i64 a0, .int .i64 a1, .int .i64 a2, .int .i64 a3, .int .i64 0, .int .i64 0, .int .i64 0, .int .i64 thick, .string { data := #[] }, .int .i64 0, .int .i64 0, .int .i64 0, .int .i64 0, .int .i64 0, .int .i64 0, .int .i64 0, .slice none 0 0] (by as_aux_lemma => kernel_rfl) hst.out rfl rfl (store_int _ _ _) b2 hHeld (Nat.le_of_ble_eq_true rfl) rfl ?_
 clear b2 hHeld
 intro W4 b2 hHeld
 try simp only [List.setIfInBounds_toArray, List.set_cons_zero, List.set_cons_succ]
 refine tk 16 (some 82) ?_
 refine wpAnyH_store1 B2 104 17 rfl rfl rfl rfl 13 (.string glass) _ #[.int .i64 1, .int .i64 curv, .int .i64 conic, .int .i64 0, .int .i64 0, .int .i64 a0, .int .i64 a1, .int .i64 a2, .int .i64 a3, .int .i64 0, .int .i64 0, .int .i64 0, .int .i64 thick, .string glass, .int .i64 0, .int .i64 0, .int .i64 0, .int .i64 0, .int .i64 0, .int .i64 0, .int .i64 0, .slice none 0 0] (by as_aux_lemma => kernel_rfl) hst.out rfl rfl (store_str _ _ _) b2 hHeld (Nat.le_of_ble_eq_true rfl) rfl ?_
 clear b2 hHeld
 intro W4 b2 hHeld
 try simp only [List.setIfInBounds_toArray, List.set_cons_zero, List.set_cons_succ]
 refine tk 18 (some 83) ?_
 refine wpAnyH_store1 B2 104 19 rfl rfl rfl rfl 14 (.int .i64 semi) _ #[.int .i64 1, .int .i64 curv, .int .i64 conic, .int .i64 0, .int .i64 0, .int .i64 a0, .int .i64 a1, .int .i64 a2, .int .i64 a3, .int .i64 0, .int .i64 0, .int .i64 0, .int .i64 thick, .string glass, .int .i64 semi, .int .i64 0, .int .i64 0, .int .i64 0, .int .i64 0, .int .i64 0, .int .i64 0, .slice none 0 0] (by as_aux_lemma => kernel_rfl) hst.out rfl rfl (store_int _ _ _) b2 hHeld (Nat.le_of_ble_eq_true rfl) rfl ?_
 clear b2 hHeld
 intro W4 b2 hHeld
 try simp only [List.setIfInBounds_toArray, List.set_cons_zero, List.set_cons_succ]
 refine tk 20 (some 84) ?_
 refine wpAnyH_store1 B2 104 21 rfl rfl rfl rfl 15 (.int .i64 hole) _ #[.int .i64 1, .int .i64 curv, .int .i64 conic, .int .i64 0, .int .i64 0, .int .i64 a0, .int .i64 a1, .int .i64 a2, .int .i64 a3, .int .i64 0, .int .i64 0, .int .i64 0, .int .i64 thick, .string glass, .int .i64 semi, .int .i64 hole, .int .i64 0, .int .i64 0, .int .i64 0, .int .i64 0, .int .i64 0, .slice none 0 0] (by as_aux_lemma => kernel_rfl) hst.out rfl rfl (store_int _ _ _) b2 hHeld (Nat.le_of_ble_eq_true rfl) rfl ?_
 clear b2 hHeld
 intro W4 b2 hHeld
 try simp only [List.setIfInBounds_toArray, List.set_cons_zero, List.set_cons_succ]
 refine tk 22 (some 85) ?_
 refine wpAnyH_store1 B2 104 23 rfl rfl rfl rfl 21 (.slice p nf c) _ #[.int .i64 1, .int .i64 curv, .int .i64 conic, .int .i64 0, .int .i64 0, .int .i64 a0, .int .i64 a1, .int .i64 a2, .int .i64 a3, .int .i64 0, .int .i64 0, .int .i64 0, .int .i64 thick, .string glass, .int .i64 semi, .int .i64 hole, .int .i64 0, .int .i64 0, .int .i64 0, .int .i64 0, .int .i64 0, .slice p nf c] (by as_aux_lemma => kernel_rfl) hst.out rfl rfl (store_films _ _ p nf c) b2 hHeld (Nat.le_of_ble_eq_true rfl) rfl ?_
 clear b2 hHeld
 intro W4 b2 hHeld
 try simp only [List.setIfInBounds_toArray, List.set_cons_zero, List.set_cons_succ]
 refine wpAnyH_done (by as_aux_lemma => kernel_rfl) ?_ _
 have b0 : Box W4 w.heap.size 104 A := hHeld.2.box g0 (by omega) (by omega)
 have hK : KeepBut B2 W3.heap.size W3 W4 := hHeld.2
 clear hHeld hst g0
 have b1 : Box W4 (w.heap.size + 1) 104 _ := hK.box b13 (by have := b13.lt; omega) (by omega)
 go_wp2_with first | (refine wpList_load_box rfl 104 (.tmp 3) rfl B2 rfl 104 _ b2 _ Tryz.underlying104 rfl hi ?_) | (refine wpList_store_box rfl 104 (.tmp 2) (.tmp 86) rfl (w.heap.size + 1) 0 104 _ #[.int .i64 1, .int .i64 curv, .int .i64 conic, .int .i64 0, .int .i64 0, .int .i64 a0, .int .i64 a1, .int .i64 a2, .int .i64 a3, .int .i64 0, .int .i64 0, .int .i64 0, .int .i64 thick, .string glass, .int .i64 semi, .int .i64 hole, .int .i64 0, .int .i64 0, .int .i64 0, .int .i64 0, .int .i64 0, .slice p nf c] #[.int .i64 1, .int .i64 curv, .int .i64 conic, .int .i64 0, .int .i64 0, .int .i64 a0, .int .i64 a1, .int .i64 a2, .int .i64 a3, .int .i64 0, .int .i64 0, .int .i64 0, .int .i64 thick, .string glass, .int .i64 semi, .int .i64 hole, .int .i64 0, .int .i64 0, .int .i64 0, .int .i64 0, .int .i64 0, .slice p nf c] rfl rfl b1 hi (Nat.le_of_ble_eq_true rfl) (by simp [Value.oneCell']) rfl ?_; intro W9 hk9 b19)
 refine bodyPost_ret (b19.results rfl _ _ rfl Tryz.underlying104 rfl hi) rfl ?_
 exact ⟨rfl, hk9.below (hK.below hBW (by omega) (by omega)) (by omega) (by have := b0.lt; omega)⟩
theorem same_fm (A C FL : Array Value) (hA : A.size = 22) (hC : C.size = 22) (p : Option Addr) (nf c : Nat) (a21 : A[21]? = some (.slice p nf c)) (c21 : C[21]? = some (.slice p nf c))
  (hca : ∀ W, Calls Tryz.prog 251 #[.agg A] W fun e w' => e = .returned (.agg FL) ∧ Below W.heap.size W w') (hcc : ∀ W, Calls Tryz.prog 251 #[.agg C] W fun e w' => e = .returned (.agg FL) ∧ Below W.heap.size W w')
  (heq : ∀ w, (binOp .eql 267 (.agg FL) (.agg FL)).run Tryz.prog w = .ok (.bool true) w) (w : World) (heqf : ∀ W, Below w.heap.size w W → Calls Tryz.prog 57 #[.slice p nf c, .slice p nf c] W fun e w' => e = .returned (.bool true) ∧ Below W.heap.size W w') :
  Calls Tryz.prog 209 #[.agg A, .agg C] w fun e w' => e = .returned (.bool true) ∧ Below w.heap.size w w' := by
 have hsz : (Tryz.prog.info? 104).map (·.size) = some 22 := by kernel_rfl
 have eg := enters_same1
 go_enter Tryz.func209, Tryz.ntmps209
 go_wp2_with fail
 refine boxes2 fun W hB hs b0 b1 => ?_
 have f0 : W.cell? ⟨w.heap.size, 21, none⟩ = some (.slice p nf c) := (b0.cell 21).trans a21
 have f1 : W.cell? ⟨w.heap.size + 1, 21, none⟩ = some (.slice p nf c) := (b1.cell 21).trans c21
 have lb0 := b0.lt
 have lb1 := b1.lt
 have sA : (Tryz.prog.info? 104).map (·.size) = some A.size := by rw [hsz, hA]
 have sC : (Tryz.prog.info? 104).map (·.size) = some C.size := by rw [hsz, hC]
 clear hA hC hsz a21 c21
 refine wp_region_held_drew (S := fun w' => (∀ b o, b < W.heap.size → w'.cell? ⟨b, o, none⟩ = W.cell? ⟨b, o, none⟩) ∧ Below W.heap.size W w') (by kernel_rfl) (belowS (Below.refl _ _).drew) (fun hHeld => ?_)
 refine tk 0 (some 6) ?_
 refine tk 3 (some 9) ?_
 refine tl 1 (some 7) rfl (.agg A) (exec_load 104 _ rfl w.heap.size 0 rfl A (fun w h => (b0.below h.2).range) _ Tryz.underlying104 rfl sA) ?_
 refine tl 4 (some 10) rfl (.agg C) (exec_load 104 _ rfl (w.heap.size + 1) 0 rfl C (fun w h => (b1.below h.2).range) _ Tryz.underlying104 rfl sC) ?_
 refine Mono.st 2 ?_
 intro K hK
 go_simp
 (refine (hca _).mono ?_; rintro e W1 ⟨rfl, hb⟩)
 refine kp hK (belowS (belowCall hHeld.2 hb)) (fun hHeld => ?_)
 clear hK K
 clear hb
 refine Mono.st 5 ?_
 intro K hK
 go_simp
 (refine (hcc _).mono ?_; rintro e W2 ⟨rfl, hb⟩)
 refine kp hK (belowS (belowCall hHeld.2 hb)) (fun hHeld => ?_)
 clear hK K
 clear hb
 refine tk 6 (some 12) ?_
 refine tk 7 (some 13) ?_
 refine tk 8 (some 14) ?_
 refine tk 9 (some 15) ?_
 refine tk 10 (some 16) ?_
 refine tk 11 (some 17) ?_
 refine Mono.st 12 ?_
 intro K hK
 go_simp
 (refine (heqf _ (belowCall hB hHeld.2)).mono ?_; rintro e W3 ⟨rfl, hb⟩)
 refine kp hK (belowS (belowCall hHeld.2 hb)) (fun hHeld => ?_)
 clear hK K
 refine tk 13 (some 19) ?_
 refine tk 14 (some 4) ?_
 refine wpAnyH_done (by kernel_rfl) ?_ _
 go_wp2
 go_ret
 exact ⟨rfl, belowCall hB hHeld.2⟩
def OneFilm (w : World) (b : Nat) (f : Flm) : Prop := b < w.heap.size ∧ w.cell? ⟨b, 0, none⟩ = some (.int .i64 f.ix) ∧ w.cell? ⟨b, 1, none⟩ = some (.int .i64 f.p) ∧ w.cell? ⟨b, 2, none⟩ = some (.int .i64 f.q)
theorem OneFilm.below {w w' : World} {b : Nat} {f : Flm} (h : OneFilm w b f) (hB : Below w.heap.size w w') : OneFilm w' b f :=
 ⟨Nat.lt_of_lt_of_le h.1 hB.size, (hB.cell (p := ⟨b, 0, none⟩) h.1).trans h.2.1, (hB.cell (p := ⟨b, 1, none⟩) h.1).trans h.2.2.1, (hB.cell (p := ⟨b, 2, none⟩) h.1).trans h.2.2.2⟩
theorem OneFilm.range {w : World} {b : Nat} {f : Flm} (h : OneFilm w b f) : w.rangeAt b 0 f.vals.toList := fun j v hv => by
 obtain ⟨_, h0, h1, h2⟩ := h
 match j, hv with
 | 0, hv => simpa [Flm.vals, h0] using hv
 | 1, hv => simpa [Flm.vals, h1] using hv
 | 2, hv => simpa [Flm.vals, h2] using hv
 | n + 3, hv => simp [Flm.vals] at hv
theorem eqfilm_one (b : Nat) (f : Flm) (w : World) (h : OneFilm w b f) :
  Calls Tryz.prog 57 #[.slice (some ⟨b, 0, none⟩) 1 1, .slice (some ⟨b, 0, none⟩) 1 1] w fun e w' => e = .returned (.bool true) ∧ Below w.heap.size w w' := by
 obtain ⟨hb, c0, c1, c2⟩ := h
 generalize f.ix = v0 at *
 generalize f.p = v1 at *
 generalize f.q = v2 at *
 go_enter Tryz.func57, Tryz.ntmps57
 go_wp2
 go_loopw [13] (fun a wr => ∃ j : Nat, j ≤ 1 ∧ a = .int .i64 (j : Int) ∧ (j = 0 → wr = w) ∧ ∃ k, wr = w.drewN k) (fun a _ => (1 - intOf a).toNat)
 case atStart => exact ⟨0, by decide, rfl, fun _ => rfl, 0, rfl⟩
 case round =>
  obtain ⟨j, hj, rfl, h0, hk⟩ := hrel
  by_cases hj0 : j = 0
  ·subst hj0
   obtain rfl := h0 rfl
   clear h0 hk
   go_wp2
   go_quiet (fail)
   go_wp2
   go_roundw
   case rel => exact ⟨1, by decide, rfl, fun h => by omega, _, rfl⟩
   case measure => simp [intOf]
  ·obtain rfl : j = 1 := by omega
   obtain ⟨k, rfl⟩ := hk
   clear h0
   go_wp2
   go_ret
   exact ⟨rfl, below_drewK _ _⟩
end Go.Proofs.YtdgodcgdlfjpaaaGreatDoor
