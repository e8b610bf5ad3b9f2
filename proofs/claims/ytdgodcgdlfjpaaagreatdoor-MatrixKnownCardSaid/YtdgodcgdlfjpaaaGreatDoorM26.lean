/- The law MatrixKnown: the examples of the ray transfer matrices, afocal lenses, mirrors and the order of errors; its walk by a verified evaluator of the model, and its card. Part 26 of 36. No condition beside the row. -/
import Derived.Test.YtdgodcgdlfjpaaaGreatDoorM20
import Derived.Test.YtdgodcgdlfjpaaaGreatDoorM21
import Derived.Test.YtdgodcgdlfjpaaaGreatDoorM24
set_option linter.unusedVariables false
set_option linter.unusedSimpArgs false
set_option maxRecDepth 100000
set_option maxHeartbeats 4000000
namespace Go.Proofs.YtdgodcgdlfjpaaaGreatDoor
open Go.RowKit Go.Mono
theorem eqint_rd (p q : Option Addr) (n m c1 c2 : Nat) (f g : Nat → Int) (w : World) (h1 : RdF w p n c1 f) (h2 : RdF w q m c2 g) :
  Calls Tryz.prog 155 #[.slice p n c1, .slice q m c2] w fun e w' => ∃ r : Bool, e = .returned (.bool r) ∧ (r = true ↔ n = m ∧ ∀ i, i < n → f i = g i) ∧ ∃ k, w' = w.drewN k := by
 obtain ⟨hc1, hn1, hx1⟩ := h1
 obtain ⟨hc2, hn2, hx2⟩ := h2
 by_cases hnm : n = m
 ·subst hnm
  go_enter Tryz.func155, Tryz.ntmps155
  go_wp2
  go_loopw [13] (fun a wr => ∃ k : Nat, k ≤ n ∧ a = .int .i64 (k : Int) ∧ (∀ i, i < k → f i = g i) ∧ ∃ j, wr = w.drewN j) (fun a _ => (n - intOf a).toNat)
  case atStart => exact ⟨0, Nat.zero_le _, rfl, fun i hi => by omega, 0, rfl⟩
  case round =>
   obtain ⟨k, hk, rfl, ht, j, rfl⟩ := hrel
   have HT := Lib.hid ht; clear ht
   by_cases h0 : k < n
   ·obtain ⟨b, off, rfl, hb, hcell⟩ := hx1 (by omega)
    obtain ⟨b2, off2, rfl, hb2, hcell2⟩ := hx2 (by omega)
    have a1 := hcell k (by omega)
    have a2 := hcell2 k (by omega)
    clear hcell hcell2 hx1 hx2
    have h0' : (k : Int) < n := by omega
    by_cases hfg : f k = g k
    ·have hq : (f k != g k) = false := by simpa using hfg
     have HF := Lib.hid hfg; clear hfg
     go_wp2
     go_quiet (fail)
     go_wp2
     go_roundw
     case rel =>
      refine ⟨k + 1, by omega, by simp, fun i hi => ?_, _, rfl⟩
      by_cases h : i < k
      ·exact HT.out i h
      ·obtain rfl : i = k := by omega
       exact HF.out
     case measure => simp [intOf]; omega
    ·have hq : (f k != g k) = true := by simpa using hfg
     have HF := Lib.hid hfg; clear hfg
     go_wp2
     go_quiet (fail)
     go_wp2
     go_ret
     exact ⟨false, rfl, ⟨by simp, fun h => absurd (h.2 k h0) HF.out⟩, _, by rw [World.drewN_drewN]⟩
   ·obtain rfl : k = n := by omega
    go_wp2
    go_ret
    refine ⟨true, rfl, ?_, _, rfl⟩
    simp only [true_and]
    first | exact HT.out | exact ⟨trivial, HT.out⟩ | (simp; exact HT.out)
 ·have hq : ((n : Int) != m) = true := by simp; omega
  have HN := Lib.hid hnm; clear hnm
  go_enter Tryz.func155, Tryz.ntmps155
  go_wp2
  go_ret
  exact ⟨false, rfl, ⟨by simp, fun h => absurd h.1 HN.out⟩, 0, rfl⟩
theorem bytes_ne {g : ByteArray} (h : g ≠ mirror) : (g.toList == [77, 73, 82, 82, 79, 82]) = false := by
 rw [beq_eq_false_iff_ne]
 intro e
 apply h
 have : g.data.toList = [77, 73, 82, 82, 79, 82] := by rw [← e]; simp [ByteArray.toList_eq]
 cases g with
 | mk d =>
   simp only [mirror, ByteArray.mk.injEq]
   apply Array.ext'
   simpa using this
theorem kept_ok (s : Srf) (hs : s.ok) (p : Option Addr) (c : Nat) (w : World) :
  Calls Tryz.prog 210 #[.agg (s.cs p c)] w fun e w' => (∃ p' c', e = .returned (.agg (s.cs p' c'))) ∧ Below w.heap.size w w' := by
 have hk := hs.kept
 have k1 := hs.k1
 have k2 := hs.k2
 clear hs
 obtain ⟨kind, curv, conic, curvx, conicx, a0, a1, a2, a3, p0, p1, order, thick, glass, semi, hole, dx, dy, ax, ay, az⟩ := s
 rcases (by simp only at k1 k2; omega : kind = 1 ∨ kind = 2 ∨ kind = 3 ∨ kind = 4) with rfl | rfl | rfl | rfl
 ·by_cases h0 : order = 0
  ·subst h0
   simp [Srf.kept] at hk
   obtain ⟨rfl, rfl, rfl, rfl, rfl, rfl, rfl, rfl, rfl⟩ := hk
   refine (kept1a _ _ 0 0 _ _ _ _ 0 0 _ _ _ 0 0 0 0 0 _ p c _ rfl rfl rfl rfl rfl rfl rfl rfl rfl rfl rfl rfl rfl rfl rfl rfl rfl rfl rfl rfl rfl rfl w).mono ?_
   rintro e w' ⟨rfl, hb⟩
   exact ⟨⟨p, c, rfl⟩, hb⟩
  ·by_cases hg : glass = mirror
   ·subst hg
    simp [Srf.kept, h0] at hk
    exact absurd hk.2.2.2.2.1.symm h0
   ·simp [Srf.kept, h0, hg] at hk
    obtain ⟨rfl, rfl, rfl, rfl, rfl, rfl, rfl⟩ := hk
    refine (kept1b _ _ 0 0 _ _ _ _ _ _ _ _ _ _ 0 0 0 0 0 _ p c _ h0 (bytes_ne hg) rfl rfl rfl rfl rfl rfl rfl rfl rfl rfl rfl rfl rfl rfl rfl rfl rfl rfl rfl rfl rfl rfl w).mono ?_
    rintro e w' ⟨rfl, hb⟩
    exact ⟨⟨_, _, rfl⟩, hb⟩
 ·simp [Srf.kept] at hk
  obtain ⟨rfl, rfl, rfl, rfl, rfl, rfl, rfl, rfl, rfl, rfl, rfl, rfl⟩ := hk
  refine (kept2a _ _ _ _ 0 0 0 0 0 0 0 _ _ _ 0 0 0 0 0 _ p c _ rfl rfl rfl rfl rfl rfl rfl rfl rfl rfl rfl rfl rfl rfl rfl rfl rfl rfl rfl rfl rfl rfl w).mono ?_
  rintro e w' ⟨rfl, hb⟩
  exact ⟨⟨_, _, rfl⟩, hb⟩
 ·simp [Srf.kept] at hk
  obtain ⟨rfl, rfl, rfl, rfl, rfl, rfl, rfl, rfl, rfl, rfl, rfl, rfl, rfl, rfl⟩ := hk
  refine (kept3a 0 0 0 0 0 0 0 0 0 0 0 _ 0 0 _ _ _ _ _ _ p c _ rfl rfl rfl rfl rfl rfl rfl rfl rfl rfl rfl rfl rfl rfl rfl rfl rfl rfl rfl rfl rfl rfl w).mono ?_
  rintro e w' ⟨rfl, hb⟩
  exact ⟨⟨_, _, rfl⟩, hb⟩
 ·simp [Srf.kept] at hk
  obtain ⟨rfl, rfl, rfl, rfl, rfl, rfl, rfl, rfl, rfl, rfl, rfl, rfl, rfl, rfl, rfl, rfl⟩ := hk
  refine (kept4a _ 0 0 0 0 0 0 0 0 0 0 _ _ _ 0 0 0 0 0 _ p c _ rfl rfl rfl rfl rfl rfl rfl rfl rfl rfl rfl rfl rfl rfl rfl rfl rfl rfl rfl rfl rfl rfl w).mono ?_
  rintro e w' ⟨rfl, hb⟩
  exact ⟨⟨_, _, rfl⟩, hb⟩
theorem same1_ok (s : Srf) (p : Option Addr) (c : Nat) (w : World) : Calls Tryz.prog 251 #[.agg (s.cs p c)] w fun e w' => e = .returned (.agg s.flds) ∧ Below w.heap.size w w' :=
 same1_vars s.kind s.curv s.conic s.curvx s.conicx s.a0 s.a1 s.a2 s.a3 s.p0 s.p1 s.order s.thick s.semi s.hole s.dx s.dy s.ax s.ay s.az s.glass (s.cs p c) rfl rfl rfl rfl rfl rfl rfl rfl rfl rfl rfl rfl rfl rfl rfl rfl rfl rfl rfl rfl rfl w
end Go.Proofs.YtdgodcgdlfjpaaaGreatDoor
