/- Part 28 of 52 of the proof that the law ParaxialKnown returns true, whatever stands in memory, if the two listed variables hold what the text lays: contracts of the functions that it reaches. No condition beside the row. -/
import Derived.Test.YtepodcocemmejaaGreatDoorA19
import Derived.Test.YtepodcocemmejaaGreatDoorA20
set_option linter.unusedVariables false
set_option linter.unusedSimpArgs false
namespace Go.Proofs.YtepodcocemmejaaGreatDoor
open Go.RowKit Go.Mono
theorem bytes_ne {g : ByteArray} (h : g ≠ mirror) : (g.toList == [77, 73, 82, 82, 79, 82]) = false := by
  rw [beq_eq_false_iff_ne]
  intro e
  apply h
  have : g.data.toList = [77, 73, 82, 82, 79, 82] := by rw [← e]; simp [ByteArray.toList_eq]
  cases g with
  | mk d =>
    simp only [mirror, ByteArray.mk.injEq]
    apply Array.ext'
    simpa using this
set_option maxRecDepth 100000 in
set_option maxHeartbeats 1000000 in
theorem kept_ok (s : Srf) (hs : s.ok) (p : Option Addr) (c : Nat) (w : World) :
    Calls Tryz.prog 233 #[.agg (s.cs p c)] w fun e w' => (∃ p' c', e = .returned (.agg (s.cs p' c'))) ∧ Below w.heap.size w w' := by
  have hk := hs.kept
  have k1 := hs.k1
  have k2 := hs.k2
  clear hs
  obtain ⟨kind, curv, conic, curvx, conicx, a0, a1, a2, a3, p0, p1, order, thick, glass, semi, hole, dx, dy, ax, ay, az⟩ := s
  rcases (by simp only at k1 k2; omega : kind = 1 ∨ kind = 2 ∨ kind = 3 ∨ kind = 4) with rfl | rfl | rfl | rfl
  · by_cases h0 : order = 0
    · subst h0
      simp [Srf.kept] at hk
      obtain ⟨rfl, rfl, rfl, rfl, rfl, rfl, rfl, rfl, rfl⟩ := hk
      refine (kept1a _ _ 0 0 _ _ _ _ 0 0 _ _ _ 0 0 0 0 0 _ p c _ rfl rfl rfl rfl rfl rfl rfl rfl rfl rfl rfl rfl rfl rfl rfl rfl rfl rfl rfl rfl rfl rfl w).mono ?_
      rintro e w' ⟨rfl, hb⟩
      exact ⟨⟨p, c, rfl⟩, hb⟩
    · by_cases hg : glass = mirror
      · subst hg
        simp [Srf.kept, h0] at hk
        exact absurd hk.2.2.2.2.1.symm h0
      · simp [Srf.kept, h0, hg] at hk
        obtain ⟨rfl, rfl, rfl, rfl, rfl, rfl, rfl⟩ := hk
        refine (kept1b _ _ 0 0 _ _ _ _ _ _ _ _ _ _ 0 0 0 0 0 _ p c _ h0 (bytes_ne hg) rfl rfl rfl rfl rfl rfl rfl rfl rfl rfl rfl rfl rfl rfl rfl rfl rfl rfl rfl rfl rfl rfl w).mono ?_
        rintro e w' ⟨rfl, hb⟩
        exact ⟨⟨_, _, rfl⟩, hb⟩
  · simp [Srf.kept] at hk
    obtain ⟨rfl, rfl, rfl, rfl, rfl, rfl, rfl, rfl, rfl, rfl, rfl, rfl⟩ := hk
    refine (kept2a _ _ _ _ 0 0 0 0 0 0 0 _ _ _ 0 0 0 0 0 _ p c _ rfl rfl rfl rfl rfl rfl rfl rfl rfl rfl rfl rfl rfl rfl rfl rfl rfl rfl rfl rfl rfl rfl w).mono ?_
    rintro e w' ⟨rfl, hb⟩
    exact ⟨⟨_, _, rfl⟩, hb⟩
  · simp [Srf.kept] at hk
    obtain ⟨rfl, rfl, rfl, rfl, rfl, rfl, rfl, rfl, rfl, rfl, rfl, rfl, rfl, rfl⟩ := hk
    refine (kept3a 0 0 0 0 0 0 0 0 0 0 0 _ 0 0 _ _ _ _ _ _ p c _ rfl rfl rfl rfl rfl rfl rfl rfl rfl rfl rfl rfl rfl rfl rfl rfl rfl rfl rfl rfl rfl rfl w).mono ?_
    rintro e w' ⟨rfl, hb⟩
    exact ⟨⟨_, _, rfl⟩, hb⟩
  · simp [Srf.kept] at hk
    obtain ⟨rfl, rfl, rfl, rfl, rfl, rfl, rfl, rfl, rfl, rfl, rfl, rfl, rfl, rfl, rfl, rfl⟩ := hk
    refine (kept4a _ 0 0 0 0 0 0 0 0 0 0 _ _ _ 0 0 0 0 0 _ p c _ rfl rfl rfl rfl rfl rfl rfl rfl rfl rfl rfl rfl rfl rfl rfl rfl rfl rfl rfl rfl rfl rfl w).mono ?_
    rintro e w' ⟨rfl, hb⟩
    exact ⟨⟨_, _, rfl⟩, hb⟩
/-- Same's closure, at a surface -/
theorem same1_ok (s : Srf) (p : Option Addr) (c : Nat) (w : World) : Calls Tryz.prog 250 #[.agg (s.cs p c)] w fun e w' => e = .returned (.agg s.flds) ∧ Below w.heap.size w w' :=
  same1_vars s.kind s.curv s.conic s.curvx s.conicx s.a0 s.a1 s.a2 s.a3 s.p0 s.p1 s.order s.thick s.semi s.hole s.dx s.dy s.ax s.ay s.az s.glass (s.cs p c) rfl rfl rfl rfl rfl rfl rfl rfl rfl rfl rfl rfl rfl rfl rfl rfl rfl rfl rfl rfl rfl w
end Go.Proofs.YtepodcocemmejaaGreatDoor
