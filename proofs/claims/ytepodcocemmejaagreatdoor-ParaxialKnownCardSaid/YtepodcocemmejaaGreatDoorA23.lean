/- Part 23 of 52 of the proof that the law ParaxialKnown returns true, whatever stands in memory, if the two listed variables hold what the text lays: contracts of the functions that it reaches. No condition beside the row. -/
import Derived.Test.YtepodcocemmejaaGreatDoorA06
import Derived.Test.YtepodcocemmejaaGreatDoorA21
import Derived.Test.YtepodcocemmejaaGreatDoorA22
set_option linter.unusedVariables false
set_option linter.unusedSimpArgs false
namespace Go.Proofs.YtepodcocemmejaaGreatDoor
open Go.RowKit Go.Mono
set_option maxRecDepth 100000 in
set_option maxHeartbeats 2000000 in
theorem lsurfaces_parts (B : Nat) (nm : ByteArray) (di pu pr : Int) (st : Nat) (pf pw' pc : Option Addr) (nf cf nw cw m cs cc b off : Nat) (A : Nat → Array Value) (hA : ∀ i, (A i).size = 22) (w : World)
    (b0 : Box w B 249 #[.string nm, .int .i64 di, .int .i64 pu, .int .i64 (st : Int), .int .i64 pr, .slice pf nf cf, .slice pw' nw cw, .slice (some ⟨b, off, none⟩) (m + 1) cs, .slice pc 0 cc])
    (hr : RdC w (some ⟨b, off, none⟩) (m + 1) cs 22 (fun i j => (A i).getD j undef)) (m1 : 1 ≤ m) (m2 : m + 1 ≤ 16) (s1 : st + 1 ≤ m)
    (hc : ∀ i, i < m + 1 → ∀ W, Calls Tryz.prog 223 #[.agg (A i)] W fun e w' => e = .returned (.int .i64 0) ∧ Below W.heap.size W w')
    (him : ∀ W, Calls Tryz.prog 225 #[.agg (A m)] W fun e w' => e = .returned (.bool true) ∧ Below W.heap.size W w')
    (kd : Int) (hkd : (A st)[0]? = some (.int .i64 kd)) (hk3 : (kd != 3) = true) :
    Calls Tryz.prog 210 #[.pointer (some ⟨B, 0, none⟩)] w fun e w' => e = .returned (.bool true) ∧ Below w.heap.size w w' := by
  have cb0 := b0.cell
  have lb0 := b0.lt
  have hsz : (Tryz.prog.info? 95).map (·.size) = some 22 := by kernel_rfl
  have e1 : (2 : Int) ≤ (m : Int) + 1 := by omega
  have e2 : (m : Int) + 1 ≤ 16 := by omega
  have e3 : IntKind.i64.wrap ((m : Int) + 1 - 2) = (m : Int) - 1 := by rw [IntKind.wrap_i64]; omega
  have e4 : (0 : Int) ≤ (st : Int) := by omega
  have e5 : (st : Int) ≤ (m : Int) - 1 := by omega
  go_enter Tryz.func210, Tryz.ntmps210
  go_wp2_with first | (go_at_call 207; (with_reducible refine (lbetween_ok _ _ _ e1 e2 _).mono ?_); rintro e w' ⟨rfl, rfl⟩) | (go_at_call 207; (with_reducible refine (lbetween_ok _ _ _ e4 e5 _).mono ?_); rintro e w' ⟨rfl, rfl⟩)
  have h5 := hr
  obtain ⟨_, _, hx⟩ := h5
  obtain ⟨b', off', hp, hbl, hcell⟩ := hx (by omega)
  obtain ⟨rfl, rfl⟩ : b = b' ∧ off = off' := by simpa using hp
  clear hx hp
  dsimp only at hcell
  have hcs := csurf_none (m + 1) cs (some ⟨b, off, none⟩) A hA 222 enters_surfaces1
  have hsA : ∀ i, (Tryz.prog.info? 95).map (·.size) = some (A i).size := fun i => by rw [hsz, hA]
  have fk : w'.cell? ⟨b, off + st * 22, none⟩ = some (.int .i64 kd) := by
    have := hcell st 0 (by omega) (by omega)
    rw [Array.getD_eq_getD_getElem?, hkd] at this
    simpa using this
  have hrange : ∀ w2, Below w'.heap.size w' w2 → w2.rangeAt b (off + m * 22) (A m).toList := fun w2 hw2 j v hv => by
    have hj : j < 22 := by
      have := (List.getElem?_eq_some_iff.1 hv).1
      simpa [hA] using this
    refine ((hw2.cell (p := ⟨b, off + m * 22 + j, none⟩) hbl).trans (hcell m j (by omega) hj)).trans ?_
    rw [Array.getElem?_toList] at hv
    rw [Array.getD_eq_getD_getElem?, hv]
    rfl
  have m3 : (m : Int) ≤ 15 := by omega
  have m4 : (0 : Int) ≤ m := by omega
  have m6 : (m : Int) < (m : Int) + 1 := by omega
  have m5 : IntKind.i64.wrap (m : Int) = m := by rw [IntKind.wrap_i64]; omega
  have s3 : (st : Int) < (m : Int) + 1 := by omega
  clear hcell hsz hkd e1 e2 e3
  refine wp_region_held_drew (S := fun w2 => (∀ b o, b < w'.heap.size → w2.cell? ⟨b, o, none⟩ = w'.cell? ⟨b, o, none⟩) ∧ Below w'.heap.size w' w2) (by kernel_rfl) (belowS (Below.refl _ _).drew) (fun hHeld => ?_)
  refine take_want 0 (some 25) rfl (by kernel_rfl) (by kernel_rfl) (by kernel_rfl) rfl (fun _ _ _ h => h) (by rfl) (v := ?_) ?_ (by assumption) ?_
  rotate_left
  · intro w hSw; (try dsimp only at hSw); go_simp; all_goals with_reducible rfl
  simp only [Act.put, List.setIfInBounds_toArray, List.set_cons_zero, List.set_cons_succ]
  refine take_want 1 (some 26) rfl (by kernel_rfl) (by kernel_rfl) (by kernel_rfl) rfl (fun _ _ _ h => h) (by rfl) (v := ?_) ?_ (by assumption) ?_
  rotate_left
  · intro w hSw; (try dsimp only at hSw); go_simp; all_goals with_reducible rfl
  simp only [Act.put, List.setIfInBounds_toArray, List.set_cons_zero, List.set_cons_succ]
  refine take_want 2 (some 27) rfl (by kernel_rfl) (by kernel_rfl) (by kernel_rfl) rfl (fun _ _ _ h => h) (by rfl) (v := ?_) ?_ (by assumption) ?_
  rotate_left
  · intro w hSw; (try dsimp only at hSw); go_simp; all_goals with_reducible rfl
  simp only [Act.put, List.setIfInBounds_toArray, List.set_cons_zero, List.set_cons_succ]
  refine take_want 3 (some 28) rfl (by kernel_rfl) (by kernel_rfl) (by kernel_rfl) rfl (fun _ _ _ h => h) (by rfl) (v := ?_) ?_ (by assumption) ?_
  rotate_left
  · intro w hSw; (try dsimp only at hSw); go_simp; all_goals with_reducible rfl
  simp only [Act.put, List.setIfInBounds_toArray, List.set_cons_zero, List.set_cons_succ]
  refine take_want 4 (some 29) rfl (by kernel_rfl) (by kernel_rfl) (by kernel_rfl) rfl (fun _ _ _ h => h) (by rfl) (v := ?_) ?_ (by assumption) ?_
  rotate_left
  · intro w hSw; (try dsimp only at hSw); go_simp; all_goals with_reducible rfl
  simp only [Act.put, List.setIfInBounds_toArray, List.set_cons_zero, List.set_cons_succ]
  refine take_want 5 (some 30) rfl (by kernel_rfl) (by kernel_rfl) (by kernel_rfl) rfl (fun _ _ _ h => h) (by rfl) (v := ?_) ?_ (by assumption) ?_
  rotate_left
  · intro w hSw; (try dsimp only at hSw); go_simp; all_goals with_reducible rfl
  simp only [Act.put, List.setIfInBounds_toArray, List.set_cons_zero, List.set_cons_succ]
  refine wpAnyH_ready (rs := [6]) (by kernel_rfl) (by simp) ?_
  refine AllReadyH.cons rfl (fun K hK => ?_) AllReadyH.nil
  go_simp
  (refine (hcs _ (hr.below hHeld.2) (fun i hi W hW => surfaces1_ok (A i) (hA i) W (fun W2 _ => hc i hi W2))).mono ?_; rintro e W1 ⟨rfl, hb⟩)
  refine hK.out _ _ ?_ (fun hHeld => ?_)
  · first | exact (belowS (belowCall hHeld.2 hb)) | fail "keep"
  clear hK K
  try simp only [Act.put, List.setIfInBounds_toArray, List.set_cons_zero, List.set_cons_succ]
  clear hb
  refine take_want 7 (some 32) rfl (by kernel_rfl) (by kernel_rfl) (by kernel_rfl) rfl (fun _ _ _ h => h) (by rfl) (v := ?_) ?_ (by assumption) ?_
  rotate_left
  · intro w hSw; (try dsimp only at hSw); go_simp; all_goals with_reducible rfl
  simp only [Act.put, List.setIfInBounds_toArray, List.set_cons_zero, List.set_cons_succ]
  refine take_want 8 (some 33) rfl (by kernel_rfl) (by kernel_rfl) (by kernel_rfl) rfl (fun _ _ _ h => h) (by rfl) (v := ?_) ?_ (by assumption) ?_
  rotate_left
  · intro w hSw; (try dsimp only at hSw); go_simp; all_goals with_reducible rfl
  simp only [Act.put, List.setIfInBounds_toArray, List.set_cons_zero, List.set_cons_succ]
  refine take_want 9 (some 34) rfl (by kernel_rfl) (by kernel_rfl) (by kernel_rfl) rfl (fun _ _ _ h => h) (by rfl) (v := ?_) ?_ (by assumption) ?_
  rotate_left
  · intro w hSw; (try dsimp only at hSw); go_simp; all_goals with_reducible rfl
  simp only [Act.put, List.setIfInBounds_toArray, List.set_cons_zero, List.set_cons_succ]
  refine take_want 10 (some 35) rfl (by kernel_rfl) (by kernel_rfl) (by kernel_rfl) rfl (fun _ _ _ h => h) (by rfl) (v := ?_) ?_ (by assumption) ?_
  rotate_left
  · intro w hSw; (try dsimp only at hSw); go_simp; all_goals with_reducible rfl
  simp only [Act.put, List.setIfInBounds_toArray, List.set_cons_zero, List.set_cons_succ]
  refine take_want 11 (some 36) rfl (by kernel_rfl) (by kernel_rfl) (by kernel_rfl) rfl (fun _ _ _ h => h) (by rfl) (v := ?_) ?_ (by assumption) ?_
  rotate_left
  · intro w hSw; (try dsimp only at hSw); go_simp; all_goals with_reducible rfl
  simp only [Act.put, List.setIfInBounds_toArray, List.set_cons_zero, List.set_cons_succ]
  refine take_want 12 (some 37) rfl (by kernel_rfl) (by kernel_rfl) (by kernel_rfl) rfl (fun _ _ _ h => h) (by rfl) (v := ?_) ?_ (by assumption) ?_
  rotate_left
  · intro w hSw; (try dsimp only at hSw); go_simp; all_goals with_reducible rfl
  simp only [Act.put, List.setIfInBounds_toArray, List.set_cons_zero, List.set_cons_succ]
  refine take_want 13 (some 38) rfl (by kernel_rfl) (by kernel_rfl) (by kernel_rfl) rfl (fun _ _ _ h => h) (by rfl) (v := ?_) ?_ (by assumption) ?_
  rotate_left
  · intro w hSw; (try dsimp only at hSw); go_simp; all_goals with_reducible rfl
  simp only [Act.put, List.setIfInBounds_toArray, List.set_cons_zero, List.set_cons_succ]
  refine take_want 14 (some 39) rfl (by kernel_rfl) (by kernel_rfl) (by kernel_rfl) rfl (fun _ _ _ h => h) (by rfl) (v := ?_) ?_ (by assumption) ?_
  rotate_left
  · intro w hSw; (try dsimp only at hSw); go_simp; all_goals with_reducible rfl
  simp only [Act.put, List.setIfInBounds_toArray, List.set_cons_zero, List.set_cons_succ]
  refine take_want 15 (some 40) rfl (by kernel_rfl) (by kernel_rfl) (by kernel_rfl) rfl (fun _ _ _ h => h) (by rfl) (v := ?_) ?_ (by assumption) ?_
  rotate_left
  · intro w hSw; (try dsimp only at hSw); go_simp; all_goals with_reducible rfl
  simp only [Act.put, List.setIfInBounds_toArray, List.set_cons_zero, List.set_cons_succ]
  refine take_want 16 (some 41) rfl (by kernel_rfl) (by kernel_rfl) (by kernel_rfl) rfl (fun _ _ _ h => h) (by rfl) (v := ?_) ?_ (by assumption) ?_
  rotate_left
  · intro w hSw; (try dsimp only at hSw); go_simp; all_goals with_reducible rfl
  simp only [Act.put, List.setIfInBounds_toArray, List.set_cons_zero, List.set_cons_succ]
  refine take_want 17 (some 42) rfl (by as_aux_lemma => kernel_rfl) (by as_aux_lemma => kernel_rfl) (by as_aux_lemma => kernel_rfl) rfl (fun _ _ _ h => h) (by rfl) (v := (.agg (A m))) (exec_load 95 _ rfl b (off + m * 22) rfl (A m) (fun w h => hrange w h.2) _ Tryz.underlying95 rfl (hsA m)) (by assumption) ?_
  simp only [Act.put, List.setIfInBounds_toArray, List.set_cons_zero, List.set_cons_succ]
  refine wpAnyH_ready (rs := [18]) (by kernel_rfl) (by simp) ?_
  refine AllReadyH.cons rfl (fun K hK => ?_) AllReadyH.nil
  go_simp
  (refine (him _).mono ?_; rintro e W2 ⟨rfl, hb⟩)
  refine hK.out _ _ ?_ (fun hHeld => ?_)
  · first | exact (belowS (belowCall hHeld.2 hb)) | fail "keep"
  clear hK K
  try simp only [Act.put, List.setIfInBounds_toArray, List.set_cons_zero, List.set_cons_succ]
  clear hb
  refine take_want 19 (some 44) rfl (by kernel_rfl) (by kernel_rfl) (by kernel_rfl) rfl (fun _ _ _ h => h) (by rfl) (v := ?_) ?_ (by assumption) ?_
  rotate_left
  · intro w hSw; (try dsimp only at hSw); go_simp; all_goals with_reducible rfl
  simp only [Act.put, List.setIfInBounds_toArray, List.set_cons_zero, List.set_cons_succ]
  refine take_want 20 (some 45) rfl (by kernel_rfl) (by kernel_rfl) (by kernel_rfl) rfl (fun _ _ _ h => h) (by rfl) (v := ?_) ?_ (by assumption) ?_
  rotate_left
  · intro w hSw; (try dsimp only at hSw); go_simp; all_goals with_reducible rfl
  simp only [Act.put, List.setIfInBounds_toArray, List.set_cons_zero, List.set_cons_succ]
  refine take_want 21 (some 46) rfl (by kernel_rfl) (by kernel_rfl) (by kernel_rfl) rfl (fun _ _ _ h => h) (by rfl) (v := ?_) ?_ (by assumption) ?_
  rotate_left
  · intro w hSw; (try dsimp only at hSw); go_simp; all_goals with_reducible rfl
  simp only [Act.put, List.setIfInBounds_toArray, List.set_cons_zero, List.set_cons_succ]
  refine take_want 22 (some 47) rfl (by kernel_rfl) (by kernel_rfl) (by kernel_rfl) rfl (fun _ _ _ h => h) (by rfl) (v := ?_) ?_ (by assumption) ?_
  rotate_left
  · intro w hSw; (try dsimp only at hSw); go_simp; all_goals with_reducible rfl
  simp only [Act.put, List.setIfInBounds_toArray, List.set_cons_zero, List.set_cons_succ]
  refine take_want 23 (some 48) rfl (by kernel_rfl) (by kernel_rfl) (by kernel_rfl) rfl (fun _ _ _ h => h) (by rfl) (v := ?_) ?_ (by assumption) ?_
  rotate_left
  · intro w hSw; (try dsimp only at hSw); go_simp; all_goals with_reducible rfl
  simp only [Act.put, List.setIfInBounds_toArray, List.set_cons_zero, List.set_cons_succ]
  refine take_want 24 (some 49) rfl (by kernel_rfl) (by kernel_rfl) (by kernel_rfl) rfl (fun _ _ _ h => h) (by rfl) (v := ?_) ?_ (by assumption) ?_
  rotate_left
  · intro w hSw; (try dsimp only at hSw); go_simp; all_goals with_reducible rfl
  simp only [Act.put, List.setIfInBounds_toArray, List.set_cons_zero, List.set_cons_succ]
  refine take_want 25 (some 50) rfl (by kernel_rfl) (by kernel_rfl) (by kernel_rfl) rfl (fun _ _ _ h => h) (by rfl) (v := ?_) ?_ (by assumption) ?_
  rotate_left
  · intro w hSw; (try dsimp only at hSw); go_simp; all_goals with_reducible rfl
  simp only [Act.put, List.setIfInBounds_toArray, List.set_cons_zero, List.set_cons_succ]
  refine take_want 26 (some 51) rfl (by kernel_rfl) (by kernel_rfl) (by kernel_rfl) rfl (fun _ _ _ h => h) (by rfl) (v := ?_) ?_ (by assumption) ?_
  rotate_left
  · intro w hSw; (try dsimp only at hSw); go_simp; all_goals with_reducible rfl
  simp only [Act.put, List.setIfInBounds_toArray, List.set_cons_zero, List.set_cons_succ]
  refine take_want 27 (some 52) rfl (by kernel_rfl) (by kernel_rfl) (by kernel_rfl) rfl (fun _ _ _ h => h) (by rfl) (v := ?_) ?_ (by assumption) ?_
  rotate_left
  · intro w hSw; (try dsimp only at hSw); go_simp; all_goals with_reducible rfl
  simp only [Act.put, List.setIfInBounds_toArray, List.set_cons_zero, List.set_cons_succ]
  refine take_want 28 (some 53) rfl (by kernel_rfl) (by kernel_rfl) (by kernel_rfl) rfl (fun _ _ _ h => h) (by rfl) (v := ?_) ?_ (by assumption) ?_
  rotate_left
  · intro w hSw; (try dsimp only at hSw); go_simp; all_goals with_reducible rfl
  simp only [Act.put, List.setIfInBounds_toArray, List.set_cons_zero, List.set_cons_succ]
  refine take_want 29 (some 54) rfl (by kernel_rfl) (by kernel_rfl) (by kernel_rfl) rfl (fun _ _ _ h => h) (by rfl) (v := ?_) ?_ (by assumption) ?_
  rotate_left
  · intro w hSw; (try dsimp only at hSw); go_simp; all_goals with_reducible rfl
  simp only [Act.put, List.setIfInBounds_toArray, List.set_cons_zero, List.set_cons_succ]
  refine take_want 30 (some 55) rfl (by kernel_rfl) (by kernel_rfl) (by kernel_rfl) rfl (fun _ _ _ h => h) (by rfl) (v := ?_) ?_ (by assumption) ?_
  rotate_left
  · intro w hSw; (try dsimp only at hSw); go_simp; all_goals with_reducible rfl
  simp only [Act.put, List.setIfInBounds_toArray, List.set_cons_zero, List.set_cons_succ]
  refine take_want 31 (some 56) rfl (by kernel_rfl) (by kernel_rfl) (by kernel_rfl) rfl (fun _ _ _ h => h) (by rfl) (v := ?_) ?_ (by assumption) ?_
  rotate_left
  · intro w hSw; (try dsimp only at hSw); go_simp; all_goals with_reducible rfl
  simp only [Act.put, List.setIfInBounds_toArray, List.set_cons_zero, List.set_cons_succ]
  refine take_want 32 (some 57) rfl (by kernel_rfl) (by kernel_rfl) (by kernel_rfl) rfl (fun _ _ _ h => h) (by rfl) (v := ?_) ?_ (by assumption) ?_
  rotate_left
  · intro w hSw; (try dsimp only at hSw); go_simp; all_goals with_reducible rfl
  simp only [Act.put, List.setIfInBounds_toArray, List.set_cons_zero, List.set_cons_succ]
  refine take_want 33 (some 58) rfl (by kernel_rfl) (by kernel_rfl) (by kernel_rfl) rfl (fun _ _ _ h => h) (by rfl) (v := ?_) ?_ (by assumption) ?_
  rotate_left
  · intro w hSw; (try dsimp only at hSw); go_simp; all_goals with_reducible rfl
  simp only [Act.put, List.setIfInBounds_toArray, List.set_cons_zero, List.set_cons_succ]
  refine take_want 34 (some 59) rfl (by kernel_rfl) (by kernel_rfl) (by kernel_rfl) rfl (fun _ _ _ h => h) (by rfl) (v := ?_) ?_ (by assumption) ?_
  rotate_left
  · intro w hSw; (try dsimp only at hSw); go_simp; all_goals with_reducible rfl
  simp only [Act.put, List.setIfInBounds_toArray, List.set_cons_zero, List.set_cons_succ]
  refine take_want 35 (some 60) rfl (by kernel_rfl) (by kernel_rfl) (by kernel_rfl) rfl (fun _ _ _ h => h) (by rfl) (v := ?_) ?_ (by assumption) ?_
  rotate_left
  · intro w hSw; (try dsimp only at hSw); go_simp; all_goals with_reducible rfl
  simp only [Act.put, List.setIfInBounds_toArray, List.set_cons_zero, List.set_cons_succ]
  refine take_want 36 (some 2) rfl (by kernel_rfl) (by kernel_rfl) (by kernel_rfl) rfl (fun _ _ _ h => h) (by rfl) (v := ?_) ?_ (by assumption) ?_
  rotate_left
  · intro w hSw; (try dsimp only at hSw); go_simp; all_goals with_reducible rfl
  simp only [Act.put, List.setIfInBounds_toArray, List.set_cons_zero, List.set_cons_succ]
  refine wpAnyH_done (by kernel_rfl) ?_ _
  go_wp2
  go_ret
  exact ⟨rfl, hHeld.2⟩
end Go.Proofs.YtepodcocemmejaaGreatDoor
namespace Go.Mono
open Go.RowKit
/-- a surface without anything -/
def zS : Srf := { kind := 1, curv := 0, conic := 0, curvx := 0, conicx := 0, a0 := 0, a1 := 0, a2 := 0, a3 := 0, p0 := 0, p1 := 0, order := 0, thick := 0, glass := { data := #[] }, semi := 0, hole := 0, dx := 0, dy := 0, ax := 0, ay := 0, az := 0 }
/-- the surfaces of the chapter's lens, and of its mirror -/
def chG : Srf := { zS with curv := 20000000, thick := 30000000, glass := { data := #[71] } }
def chM : Srf := { zS with curv := 20000000, thick := -30000000, glass := mirror }
def chS (m : Bool) (i : Nat) : Srf := if i = 0 then (if m = true then chM else chG) else zS
def chN (m : Bool) : Int := if m = true then 10000000 else 15000000
def chL (m : Bool) : Lns := { nm := { data := #[65] }, di := 0, pu := 1000000, st := 0, pr := 0, nf := 1, X := fun _ => 0, Y := fun _ => 0, nw := 1, L := fun _ => 587562, W := fun _ => 1, ns := 2, S := chS m, ix := fun _ _ => chN m }
def ai0 : Srf := { zS with kind := 4, curv := 50000000, thick := 5000000 }
def ai1 : Srf := { zS with kind := 3, dx := 1, ax := 1000000, thick := 5000000 }
def ai2 : Srf := { zS with order := 1, p0 := 500 }
def aiS (i : Nat) : Srf := if i = 0 then ai0 else if i = 1 then ai1 else if i = 2 then ai2 else zS
def aiL : Lns := { nm := { data := #[65] }, di := 0, pu := 1000000, st := 0, pr := 0, nf := 1, X := fun _ => 0, Y := fun _ => 0, nw := 1, L := fun _ => 587562, W := fun _ => 1, ns := 4, S := aiS, ix := fun _ _ => 10000000 }
end Go.Mono
