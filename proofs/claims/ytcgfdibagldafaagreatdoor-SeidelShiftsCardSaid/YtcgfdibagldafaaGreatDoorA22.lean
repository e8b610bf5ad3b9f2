/- Contracts of the program's fractions, lenses and rays, and a verified evaluator of the model. Part 22 of 30. No condition beside the row. -/
import Derived.Test.YtcgfdibagldafaaGreatDoorA02
import Derived.Test.YtcgfdibagldafaaGreatDoorA17
import Derived.Test.YtcgfdibagldafaaGreatDoorA18
import Derived.Test.YtcgfdibagldafaaGreatDoorA20
import Derived.Test.YtcgfdibagldafaaGreatDoorA21
set_option linter.unusedVariables false
set_option linter.unusedSimpArgs false
set_option maxRecDepth 100000
set_option maxHeartbeats 4000000
namespace Go.Proofs.YtcgfdibagldafaaGreatDoor
open Go.RowKit Go.Mono
theorem lsurfaces_parts (B : Nat) (nm : ByteArray) (di pu pr : Int) (st : Nat) (pf pw' pc : Option Addr) (nf cf nw cw m cs cc b off : Nat) (A : Nat → Array Value) (hA : ∀ i, (A i).size = 22) (w : World)
  (b0 : Box w B 291 #[.string nm, .int .i64 di, .int .i64 pu, .int .i64 (st : Int), .int .i64 pr, .slice pf nf cf, .slice pw' nw cw, .slice (some ⟨b, off, none⟩) (m + 1) cs, .slice pc 0 cc])
  (hr : RdC w (some ⟨b, off, none⟩) (m + 1) cs 22 (fun i j => (A i).getD j undef)) (m1 : 1 ≤ m) (m2 : m + 1 ≤ 16) (s1 : st + 1 ≤ m)
  (hc : ∀ i, i < m + 1 → ∀ W, Calls Tryz.prog 269 #[.agg (A i)] W fun e w' => e = .returned (.int .i64 0) ∧ Below W.heap.size W w')
  (him : ∀ W, Calls Tryz.prog 271 #[.agg (A m)] W fun e w' => e = .returned (.bool true) ∧ Below W.heap.size W w')
  (kd : Int) (hkd : (A st)[0]? = some (.int .i64 kd)) (hk3 : (kd != 3) = true) :
  Calls Tryz.prog 246 #[.pointer (some ⟨B, 0, none⟩)] w fun e w' => e = .returned (.bool true) ∧ Below w.heap.size w w' := by
 have cb0 := b0.cell
 have lb0 := b0.lt
 have hsz : (Tryz.prog.info? 91).map (·.size) = some 22 := by kernel_rfl
 have e1 : (2 : Int) ≤ (m : Int) + 1 := by omega
 have e2 : (m : Int) + 1 ≤ 16 := by omega
 have e3 : IntKind.i64.wrap ((m : Int) + 1 - 2) = (m : Int) - 1 := by rw [IntKind.wrap_i64]; omega
 have e4 : (0 : Int) ≤ (st : Int) := by omega
 have e5 : (st : Int) ≤ (m : Int) - 1 := by omega
 go_enter Tryz.func246, Tryz.ntmps246
 go_wp2_with first | (go_at_call 243; (with_reducible refine (lbetween_ok _ _ _ e1 e2 _).mono ?_); rintro e w' ⟨rfl, rfl⟩) | (go_at_call 243; (with_reducible refine (lbetween_ok _ _ _ e4 e5 _).mono ?_); rintro e w' ⟨rfl, rfl⟩)
 have h5 := hr
 obtain ⟨_, _, hx⟩ := h5
 obtain ⟨b', off', hp, hbl, hcell⟩ := hx (by omega)
 obtain ⟨rfl, rfl⟩ : b = b' ∧ off = off' := by simpa using hp
 clear hx hp
 dsimp only at hcell
 have hcs := csurf_none (m + 1) cs (some ⟨b, off, none⟩) A hA 268 enters_surfaces1
 have hsA : ∀ i, (Tryz.prog.info? 91).map (·.size) = some (A i).size := fun i => by rw [hsz, hA]
 have fk : w'.cell? ⟨b, off + st * 22, none⟩ = some (.int .i64 kd) := by
  have := hcell st 0 (by omega) (by omega)
  rw [Array.getD_eq_getD_getElem?, hkd] at this
  simpa using this
 have hrange : ∀ w2, Below w'.heap.size w' w2 → w2.rangeAt b (off + m * 22) (A m).toList := fun w2 hw2 j v hv => by
  have hj : j < 22 := by
   have := (List.getElem?_eq_some_iff.1 hv).1
   simpa [hA] using this
  refine ((hw2.cell (p := ⟨b, off + m * 22 + j, none⟩) hbl).trans (hcell m j (by omega) hj)).trans ?_
  rw [Array.getElem?_toList] at hv
  rw [Array.getD_eq_getD_getElem?, hv]
  rfl
 have m3 : (m : Int) ≤ 15 := by omega
 have m4 : (0 : Int) ≤ m := by omega
 have m6 : (m : Int) < (m : Int) + 1 := by omega
 have m5 : IntKind.i64.wrap (m : Int) = m := by rw [IntKind.wrap_i64]; omega
 have s3 : (st : Int) < (m : Int) + 1 := by omega
 clear hcell hsz hkd e1 e2 e3
 refine wp_region_held_drew (S := fun w2 => (∀ b o, b < w'.heap.size → w2.cell? ⟨b, o, none⟩ = w'.cell? ⟨b, o, none⟩) ∧ Below w'.heap.size w' w2) (by kernel_rfl) (belowS (Below.refl _ _).drew) (fun hHeld => ?_)
 refine tk 0 (some 25) ?_
 refine tk 1 (some 26) ?_
 refine tk 2 (some 27) ?_
 refine tk 3 (some 28) ?_
 refine tk 4 (some 29) ?_
 refine tk 5 (some 30) ?_
 refine Mono.st 6 ?_
 intro K hK
 go_simp
 (refine (hcs _ (hr.below hHeld.2) (fun i hi W hW => surfaces1_ok (A i) (hA i) W (fun W2 _ => hc i hi W2))).mono ?_; rintro e W1 ⟨rfl, hb⟩)
 refine kp hK (belowS (belowCall hHeld.2 hb)) (fun hHeld => ?_)
 clear hK K
 clear hb
 refine tk 7 (some 32) ?_
 refine tk 8 (some 33) ?_
 refine tk 9 (some 34) ?_
 refine tk 10 (some 35) ?_
 refine tk 11 (some 36) ?_
 refine tk 12 (some 37) ?_
 refine tk 13 (some 38) ?_
 refine tk 14 (some 39) ?_
 refine tk 15 (some 40) ?_
 refine tk 16 (some 41) ?_
 refine tl 17 (some 42) rfl (.agg (A m)) (exec_load 91 _ rfl b (off + m * 22) rfl (A m) (fun w h => hrange w h.2) _ Tryz.underlying91 rfl (hsA m)) ?_
 refine Mono.st 18 ?_
 intro K hK
 go_simp
 (refine (him _).mono ?_; rintro e W2 ⟨rfl, hb⟩)
 refine kp hK (belowS (belowCall hHeld.2 hb)) (fun hHeld => ?_)
 clear hK K
 clear hb
 refine tk 19 (some 44) ?_
 refine tk 20 (some 45) ?_
 refine tk 21 (some 46) ?_
 refine tk 22 (some 47) ?_
 refine tk 23 (some 48) ?_
 refine tk 24 (some 49) ?_
 refine tk 25 (some 50) ?_
 refine tk 26 (some 51) ?_
 refine tk 27 (some 52) ?_
 refine tk 28 (some 53) ?_
 refine tk 29 (some 54) ?_
 refine tk 30 (some 55) ?_
 refine tk 31 (some 56) ?_
 refine tk 32 (some 57) ?_
 refine tk 33 (some 58) ?_
 refine tk 34 (some 59) ?_
 refine tk 35 (some 60) ?_
 refine tk 36 (some 2) ?_
 refine wpAnyH_done (by kernel_rfl) ?_ _
 go_wp2
 go_ret
 exact ⟨rfl, hHeld.2⟩
theorem eqint_rd (p q : Option Addr) (n m c1 c2 : Nat) (f g : Nat → Int) (w : World) (h1 : RdF w p n c1 f) (h2 : RdF w q m c2 g) :
  Calls Tryz.prog 97 #[.slice p n c1, .slice q m c2] w fun e w' => ∃ r : Bool, e = .returned (.bool r) ∧ (r = true ↔ n = m ∧ ∀ i, i < n → f i = g i) ∧ ∃ k, w' = w.drewN k := by
 obtain ⟨hc1, hn1, hx1⟩ := h1
 obtain ⟨hc2, hn2, hx2⟩ := h2
 by_cases hnm : n = m
 ·subst hnm
  go_enter Tryz.func97, Tryz.ntmps97
  go_wp2
  go_loopw [13] (fun a wr => ∃ k : Nat, k ≤ n ∧ a = .int .i64 (k : Int) ∧ (∀ i, i < k → f i = g i) ∧ ∃ j, wr = w.drewN j) (fun a _ => (n - intOf a).toNat)
  case atStart => exact ⟨0, Nat.zero_le _, rfl, fun i hi => by omega, 0, rfl⟩
  case round =>
   obtain ⟨k, hk, rfl, ht, j, rfl⟩ := hrel
   have HT := Lib.hid ht; clear ht
   by_cases h0 : k < n
   ·obtain ⟨b, off, rfl, hb, hcell⟩ := hx1 (by omega)
    obtain ⟨b2, off2, rfl, hb2, hcell2⟩ := hx2 (by omega)
    have a1 := hcell k (by omega)
    have a2 := hcell2 k (by omega)
    clear hcell hcell2 hx1 hx2
    have h0' : (k : Int) < n := by omega
    by_cases hfg : f k = g k
    ·have hq : (f k != g k) = false := by simpa using hfg
     have HF := Lib.hid hfg; clear hfg
     go_wp2
     go_quiet (fail)
     go_wp2
     go_roundw
     case rel =>
      refine ⟨k + 1, by omega, by simp, fun i hi => ?_, _, rfl⟩
      by_cases h : i < k
      ·exact HT.out i h
      ·obtain rfl : i = k := by omega
       exact HF.out
     case measure => simp [intOf]; omega
    ·have hq : (f k != g k) = true := by simpa using hfg
     have HF := Lib.hid hfg; clear hfg
     go_wp2
     go_quiet (fail)
     go_wp2
     go_ret
     exact ⟨false, rfl, ⟨by simp, fun h => absurd (h.2 k h0) HF.out⟩, _, by rw [World.drewN_drewN]⟩
   ·obtain rfl : k = n := by omega
    go_wp2
    go_ret
    refine ⟨true, rfl, ?_, _, rfl⟩
    simp only [true_and]
    first | exact HT.out | exact ⟨trivial, HT.out⟩ | (simp; exact HT.out)
 ·have hq : ((n : Int) != m) = true := by simp; omega
  have HN := Lib.hid hnm; clear hnm
  go_enter Tryz.func97, Tryz.ntmps97
  go_wp2
  go_ret
  exact ⟨false, rfl, ⟨by simp, fun h => absurd h.1 HN.out⟩, 0, rfl⟩
theorem bytes_ne {g : ByteArray} (h : g ≠ mirror) : (g.toList == [77, 73, 82, 82, 79, 82]) = false := by
 rw [beq_eq_false_iff_ne]
 intro e
 apply h
 have : g.data.toList = [77, 73, 82, 82, 79, 82] := by rw [← e]; simp [ByteArray.toList_eq]
 cases g with
 | mk d =>
   simp only [mirror, ByteArray.mk.injEq]
   apply Array.ext'
   simpa using this
theorem kept_ok (s : Srf) (hs : s.ok) (p : Option Addr) (c : Nat) (w : World) :
  Calls Tryz.prog 283 #[.agg (s.cs p c)] w fun e w' => (∃ p' c', e = .returned (.agg (s.cs p' c'))) ∧ Below w.heap.size w w' := by
 have hk := hs.kept
 have k1 := hs.k1
 have k2 := hs.k2
 clear hs
 obtain ⟨kind, curv, conic, curvx, conicx, a0, a1, a2, a3, p0, p1, order, thick, glass, semi, hole, dx, dy, ax, ay, az⟩ := s
 rcases (by simp only at k1 k2; omega : kind = 1 ∨ kind = 2 ∨ kind = 3 ∨ kind = 4) with rfl | rfl | rfl | rfl
 ·by_cases h0 : order = 0
  ·subst h0
   simp [Srf.kept] at hk
   obtain ⟨rfl, rfl, rfl, rfl, rfl, rfl, rfl, rfl, rfl⟩ := hk
   refine (kept1a _ _ 0 0 _ _ _ _ 0 0 _ _ _ 0 0 0 0 0 _ p c _ rfl rfl rfl rfl rfl rfl rfl rfl rfl rfl rfl rfl rfl rfl rfl rfl rfl rfl rfl rfl rfl rfl w).mono ?_
   rintro e w' ⟨rfl, hb⟩
   exact ⟨⟨p, c, rfl⟩, hb⟩
  ·by_cases hg : glass = mirror
   ·subst hg
    simp [Srf.kept, h0] at hk
    exact absurd hk.2.2.2.2.1.symm h0
   ·simp [Srf.kept, h0, hg] at hk
    obtain ⟨rfl, rfl, rfl, rfl, rfl, rfl, rfl⟩ := hk
    refine (kept1b _ _ 0 0 _ _ _ _ _ _ _ _ _ _ 0 0 0 0 0 _ p c _ h0 (bytes_ne hg) rfl rfl rfl rfl rfl rfl rfl rfl rfl rfl rfl rfl rfl rfl rfl rfl rfl rfl rfl rfl rfl rfl w).mono ?_
    rintro e w' ⟨rfl, hb⟩
    exact ⟨⟨_, _, rfl⟩, hb⟩
 ·simp [Srf.kept] at hk
  obtain ⟨rfl, rfl, rfl, rfl, rfl, rfl, rfl, rfl, rfl, rfl, rfl, rfl⟩ := hk
  refine (kept2a _ _ _ _ 0 0 0 0 0 0 0 _ _ _ 0 0 0 0 0 _ p c _ rfl rfl rfl rfl rfl rfl rfl rfl rfl rfl rfl rfl rfl rfl rfl rfl rfl rfl rfl rfl rfl rfl w).mono ?_
  rintro e w' ⟨rfl, hb⟩
  exact ⟨⟨_, _, rfl⟩, hb⟩
 ·simp [Srf.kept] at hk
  obtain ⟨rfl, rfl, rfl, rfl, rfl, rfl, rfl, rfl, rfl, rfl, rfl, rfl, rfl, rfl⟩ := hk
  refine (kept3a 0 0 0 0 0 0 0 0 0 0 0 _ 0 0 _ _ _ _ _ _ p c _ rfl rfl rfl rfl rfl rfl rfl rfl rfl rfl rfl rfl rfl rfl rfl rfl rfl rfl rfl rfl rfl rfl w).mono ?_
  rintro e w' ⟨rfl, hb⟩
  exact ⟨⟨_, _, rfl⟩, hb⟩
 ·simp [Srf.kept] at hk
  obtain ⟨rfl, rfl, rfl, rfl, rfl, rfl, rfl, rfl, rfl, rfl, rfl, rfl, rfl, rfl, rfl, rfl⟩ := hk
  refine (kept4a _ 0 0 0 0 0 0 0 0 0 0 _ _ _ 0 0 0 0 0 _ p c _ rfl rfl rfl rfl rfl rfl rfl rfl rfl rfl rfl rfl rfl rfl rfl rfl rfl rfl rfl rfl rfl rfl w).mono ?_
  rintro e w' ⟨rfl, hb⟩
  exact ⟨⟨_, _, rfl⟩, hb⟩
theorem same1_ok (s : Srf) (p : Option Addr) (c : Nat) (w : World) : Calls Tryz.prog 305 #[.agg (s.cs p c)] w fun e w' => e = .returned (.agg s.flds) ∧ Below w.heap.size w w' :=
 same1_vars s.kind s.curv s.conic s.curvx s.conicx s.a0 s.a1 s.a2 s.a3 s.p0 s.p1 s.order s.thick s.semi s.hole s.dx s.dy s.ax s.ay s.az s.glass (s.cs p c) rfl rfl rfl rfl rfl rfl rfl rfl rfl rfl rfl rfl rfl rfl rfl rfl rfl rfl rfl rfl rfl w
end Go.Proofs.YtcgfdibagldafaaGreatDoor
