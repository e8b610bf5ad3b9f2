/- The law MatrixKnown: the examples of the ray transfer matrices, afocal lenses, mirrors and the order of errors; its walk by a verified evaluator of the model, and its card. Part 25 of 36. No condition beside the row. -/
import Derived.Test.YtdgodcgdlfjpaaaGreatDoorM03
import Derived.Test.YtdgodcgdlfjpaaaGreatDoorM23
set_option linter.unusedVariables false
set_option linter.unusedSimpArgs false
set_option maxRecDepth 100000
set_option maxHeartbeats 4000000
namespace Go.Proofs.YtdgodcgdlfjpaaaGreatDoor
open Go.RowKit Go.Mono
theorem lsurfaces_parts (B : Nat) (nm : ByteArray) (di pu pr : Int) (st : Nat) (pf pw' pc : Option Addr) (nf cf nw cw m cs cc b off : Nat) (A : Nat → Array Value) (hA : ∀ i, (A i).size = 22) (w : World)
  (b0 : Box w B 258 #[.string nm, .int .i64 di, .int .i64 pu, .int .i64 (st : Int), .int .i64 pr, .slice pf nf cf, .slice pw' nw cw, .slice (some ⟨b, off, none⟩) (m + 1) cs, .slice pc 0 cc])
  (hr : RdC w (some ⟨b, off, none⟩) (m + 1) cs 22 (fun i j => (A i).getD j undef)) (m1 : 1 ≤ m) (m2 : m + 1 ≤ 16) (s1 : st + 1 ≤ m)
  (hc : ∀ i, i < m + 1 → ∀ W, Calls Tryz.prog 150 #[.agg (A i)] W fun e w' => e = .returned (.int .i64 0) ∧ Below W.heap.size W w')
  (him : ∀ W, Calls Tryz.prog 284 #[.agg (A m)] W fun e w' => e = .returned (.bool true) ∧ Below W.heap.size W w')
  (kd : Int) (hkd : (A st)[0]? = some (.int .i64 kd)) (hk3 : (kd != 3) = true) :
  Calls Tryz.prog 271 #[.pointer (some ⟨B, 0, none⟩)] w fun e w' => e = .returned (.bool true) ∧ Below w.heap.size w w' := by
 have cb0 := b0.cell
 have lb0 := b0.lt
 have hsz : (Tryz.prog.info? 104).map (·.size) = some 22 := by kernel_rfl
 have e1 : (2 : Int) ≤ (m : Int) + 1 := by omega
 have e2 : (m : Int) + 1 ≤ 16 := by omega
 have e3 : IntKind.i64.wrap ((m : Int) + 1 - 2) = (m : Int) - 1 := by rw [IntKind.wrap_i64]; omega
 have e4 : (0 : Int) ≤ (st : Int) := by omega
 have e5 : (st : Int) ≤ (m : Int) - 1 := by omega
 go_enter Tryz.func271, Tryz.ntmps271
 go_wp2_with first | (go_at_call 268; (with_reducible refine (lbetween_ok _ _ _ e1 e2 _).mono ?_); rintro e w' ⟨rfl, rfl⟩) | (go_at_call 268; (with_reducible refine (lbetween_ok _ _ _ e4 e5 _).mono ?_); rintro e w' ⟨rfl, rfl⟩)
 have h5 := hr
 obtain ⟨_, _, hx⟩ := h5
 obtain ⟨b', off', hp, hbl, hcell⟩ := hx (by omega)
 obtain ⟨rfl, rfl⟩ : b = b' ∧ off = off' := by simpa using hp
 clear hx hp
 dsimp only at hcell
 have hcs := csurf_none (m + 1) cs (some ⟨b, off, none⟩) A hA 282 enters_surfaces1
 have hsA : ∀ i, (Tryz.prog.info? 104).map (·.size) = some (A i).size := fun i => by rw [hsz, hA]
 have fk : w'.cell? ⟨b, off + st * 22, none⟩ = some (.int .i64 kd) := by
  have := hcell st 0 (by omega) (by omega)
  rw [Array.getD_eq_getD_getElem?, hkd] at this
  simpa using this
 have hrange : ∀ w2, Below w'.heap.size w' w2 → w2.rangeAt b (off + m * 22) (A m).toList := fun w2 hw2 j v hv => by
  have hj : j < 22 := by
   have := (List.getElem?_eq_some_iff.1 hv).1
   simpa [hA] using this
  refine ((hw2.cell (p := ⟨b, off + m * 22 + j, none⟩) hbl).trans (hcell m j (by omega) hj)).trans ?_
  rw [Array.getElem?_toList] at hv
  rw [Array.getD_eq_getD_getElem?, hv]
  rfl
 have m3 : (m : Int) ≤ 15 := by omega
 have m4 : (0 : Int) ≤ m := by omega
 have m6 : (m : Int) < (m : Int) + 1 := by omega
 have m5 : IntKind.i64.wrap (m : Int) = m := by rw [IntKind.wrap_i64]; omega
 have s3 : (st : Int) < (m : Int) + 1 := by omega
 clear hcell hsz hkd e1 e2 e3
 refine wp_region_held_drew (S := fun w2 => (∀ b o, b < w'.heap.size → w2.cell? ⟨b, o, none⟩ = w'.cell? ⟨b, o, none⟩) ∧ Below w'.heap.size w' w2) (by kernel_rfl) (belowS (Below.refl _ _).drew) (fun hHeld => ?_)
 refine tk 0 (some 25) ?_
 refine tk 1 (some 26) ?_
 refine tk 2 (some 27) ?_
 refine tk 3 (some 28) ?_
 refine tk 4 (some 29) ?_
 refine tk 5 (some 30) ?_
 refine Mono.st 6 ?_
 intro K hK
 go_simp
 (refine (hcs _ (hr.below hHeld.2) (fun i hi W hW => surfaces1_ok (A i) (hA i) W (fun W2 _ => hc i hi W2))).mono ?_; rintro e W1 ⟨rfl, hb⟩)
 refine kp hK (belowS (belowCall hHeld.2 hb)) (fun hHeld => ?_)
 clear hK K
 clear hb
 refine tk 7 (some 32) ?_
 refine tk 8 (some 33) ?_
 refine tk 9 (some 34) ?_
 refine tk 10 (some 35) ?_
 refine tk 11 (some 36) ?_
 refine tk 12 (some 37) ?_
 refine tk 13 (some 38) ?_
 refine tk 14 (some 39) ?_
 refine tk 15 (some 40) ?_
 refine tk 16 (some 41) ?_
 refine tl 17 (some 42) rfl (.agg (A m)) (exec_load 104 _ rfl b (off + m * 22) rfl (A m) (fun w h => hrange w h.2) _ Tryz.underlying104 rfl (hsA m)) ?_
 refine Mono.st 18 ?_
 intro K hK
 go_simp
 (refine (him _).mono ?_; rintro e W2 ⟨rfl, hb⟩)
 refine kp hK (belowS (belowCall hHeld.2 hb)) (fun hHeld => ?_)
 clear hK K
 clear hb
 refine tk 19 (some 44) ?_
 refine tk 20 (some 45) ?_
 refine tk 21 (some 46) ?_
 refine tk 22 (some 47) ?_
 refine tk 23 (some 48) ?_
 refine tk 24 (some 49) ?_
 refine tk 25 (some 50) ?_
 refine tk 26 (some 51) ?_
 refine tk 27 (some 52) ?_
 refine tk 28 (some 53) ?_
 refine tk 29 (some 54) ?_
 refine tk 30 (some 55) ?_
 refine tk 31 (some 56) ?_
 refine tk 32 (some 57) ?_
 refine tk 33 (some 58) ?_
 refine tk 34 (some 59) ?_
 refine tk 35 (some 60) ?_
 refine tk 36 (some 2) ?_
 refine wpAnyH_done (by kernel_rfl) ?_ _
 go_wp2
 go_ret
 exact ⟨rfl, hHeld.2⟩
end Go.Proofs.YtdgodcgdlfjpaaaGreatDoor
