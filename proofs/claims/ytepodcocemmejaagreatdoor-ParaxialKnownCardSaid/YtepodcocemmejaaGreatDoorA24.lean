/- Part 24 of 52 of the proof that the law ParaxialKnown returns true, whatever stands in memory, if the two listed variables hold what the text lays: contracts of the functions that it reaches. No condition beside the row. -/
import Derived.Test.YtepodcocemmejaaGreatDoorA22
import Derived.Test.YtepodcocemmejaaGreatDoorA23
set_option linter.unusedVariables false
set_option linter.unusedSimpArgs false
namespace Go.Proofs.YtepodcocemmejaaGreatDoor
open Go.RowKit Go.Mono
set_option maxRecDepth 100000 in
set_option maxHeartbeats 1000000 in
theorem eqint_rd (p q : Option Addr) (n m c1 c2 : Nat) (f g : Nat → Int) (w : World) (h1 : RdF w p n c1 f) (h2 : RdF w q m c2 g) :
    Calls Tryz.prog 114 #[.slice p n c1, .slice q m c2] w fun e w' => ∃ r : Bool, e = .returned (.bool r) ∧ (r = true ↔ n = m ∧ ∀ i, i < n → f i = g i) ∧ ∃ k, w' = w.drewN k := by
  obtain ⟨hc1, hn1, hx1⟩ := h1
  obtain ⟨hc2, hn2, hx2⟩ := h2
  by_cases hnm : n = m
  · subst hnm
    go_enter Tryz.func114, Tryz.ntmps114
    go_wp2
    go_loopw [13] (fun a wr => ∃ k : Nat, k ≤ n ∧ a = .int .i64 (k : Int) ∧ (∀ i, i < k → f i = g i) ∧ ∃ j, wr = w.drewN j) (fun a _ => (n - intOf a).toNat)
    case atStart => exact ⟨0, Nat.zero_le _, rfl, fun i hi => by omega, 0, rfl⟩
    case round =>
      obtain ⟨k, hk, rfl, ht, j, rfl⟩ := hrel
      have HT := Lib.hid ht; clear ht
      by_cases h0 : k < n
      · obtain ⟨b, off, rfl, hb, hcell⟩ := hx1 (by omega)
        obtain ⟨b2, off2, rfl, hb2, hcell2⟩ := hx2 (by omega)
        have a1 := hcell k (by omega)
        have a2 := hcell2 k (by omega)
        clear hcell hcell2 hx1 hx2
        have h0' : (k : Int) < n := by omega
        by_cases hfg : f k = g k
        · have hq : (f k != g k) = false := by simpa using hfg
          have HF := Lib.hid hfg; clear hfg
          go_wp2
          go_quiet (fail)
          go_wp2
          go_roundw
          case rel =>
            refine ⟨k + 1, by omega, by simp, fun i hi => ?_, _, rfl⟩
            by_cases h : i < k
            · exact HT.out i h
            · obtain rfl : i = k := by omega
              exact HF.out
          case measure => simp [intOf]; omega
        · have hq : (f k != g k) = true := by simpa using hfg
          have HF := Lib.hid hfg; clear hfg
          go_wp2
          go_quiet (fail)
          go_wp2
          go_ret
          exact ⟨false, rfl, ⟨by simp, fun h => absurd (h.2 k h0) HF.out⟩, _, by rw [World.drewN_drewN]⟩
      · obtain rfl : k = n := by omega
        go_wp2
        go_ret
        refine ⟨true, rfl, ?_, _, rfl⟩
        simp only [true_and]
        first | exact HT.out | exact ⟨trivial, HT.out⟩ | (simp; exact HT.out)
  · have hq : ((n : Int) != m) = true := by simp; omega
    have HN := Lib.hid hnm; clear hnm
    go_enter Tryz.func114, Tryz.ntmps114
    go_wp2
    go_ret
    exact ⟨false, rfl, ⟨by simp, fun h => absurd h.1 HN.out⟩, 0, rfl⟩
end Go.Proofs.YtepodcocemmejaaGreatDoor
namespace Go.Proofs.YtepodcocemmejaaGreatDoor
open Go.RowKit Go.Mono
theorem within12_ok (n lo hi : Int) (h1 : lo ≤ n) (h2 : n ≤ hi) (w : World) :
    Calls Tryz.prog 132 #[.int .i64 n, .int .i64 lo, .int .i64 hi] w fun e w' => e = .returned (.bool true) ∧ w' = w := by
  go_enter Tryz.func132, Tryz.ntmps132
  go_wp2
  go_ret
  exact ⟨rfl, rfl⟩
theorem within11_ok (n m : Int) (m1 : 0 ≤ m) (m2 : m ≤ 1000000000) (h1 : -m ≤ n) (h2 : n ≤ m) (w : World) :
    Calls Tryz.prog 217 #[.int .i64 n, .int .i64 m] w fun e w' => e = .returned (.bool true) ∧ w' = w := by
  have hw : IntKind.i64.wrap (-m) = -m := by rw [IntKind.wrap_i64]; omega
  go_enter Tryz.func217, Tryz.ntmps217
  go_wp2
  go_ret
  exact ⟨rfl, rfl⟩
/-- Name of a text of one letter -/
theorem name09_one (s : ByteArray) (hs : s = { data := #[65] } ∨ s = { data := #[71] }) (w : World) :
    Calls Tryz.prog 131 #[.string s] w fun e w' => e = .returned (.bool true) ∧ w' = w := by
  rcases hs with rfl | rfl
  all_goals
    go_enter Tryz.func131, Tryz.ntmps131
    go_wp2
    go_loopw [3] (fun x wr => (x = .int .i64 0 ∨ x = .int .i64 1) ∧ wr = w) (fun x _ => (1 - intOf x).toNat)
    case atStart => exact ⟨.inl rfl, rfl⟩
    case round =>
      obtain ⟨rfl | rfl, rfl⟩ := hrel
      · go_wp2
        go_roundw
        case rel => first | exact ⟨.inr rfl, rfl⟩ | simp
        case measure => simp [intOf]
      · go_wp2
        go_ret
        exact ⟨rfl, rfl⟩
end Go.Proofs.YtepodcocemmejaaGreatDoor
