/- Contracts of package coat and of the examples of its law, for the laws of layer 40. Part 13 of 39. No condition beside the row. -/
import Derived.DeepKeys
import Derived.Test.YtdgodcgdlfjpaaaGreatDoorA12
set_option linter.unusedVariables false
set_option linter.unusedSimpArgs false
namespace Go.Mono
def isLetter (z : Int) : Prop := (65 ≤ z ∧ z ≤ 90) ∨ (97 ≤ z ∧ z ≤ 122) ∨ (48 ≤ z ∧ z ≤ 57) ∨ z = 45 ∨ z = 95
end Go.Mono
namespace Go.Proofs.YtdgodcgdlfjpaaaGreatDoor
open Go.RowKit Go.Mono
set_option maxRecDepth 100000 in
set_option maxHeartbeats 1000000 in
theorem letter_ok (z : Int) (h : isLetter z) (w : World) :
    Calls Tryz.prog 252 #[.int .u8 z] w fun e w' => e = .returned (.bool true) ∧ w' = w := by
  rcases h with ⟨h1, h2⟩ | ⟨h1, h2⟩ | ⟨h1, h2⟩ | rfl | rfl
  · go_enter Tryz.func252, Tryz.ntmps252
    go_wp2
    go_ret
    exact ⟨rfl, rfl⟩
  · have h3 : 65 ≤ z := by omega
    have h4 : ¬ (z ≤ 90) := by omega
    go_enter Tryz.func252, Tryz.ntmps252
    go_wp2
    go_ret
    exact ⟨rfl, rfl⟩
  · have h3 : ¬ (65 ≤ z) := by omega
    have h4 : ¬ (97 ≤ z) := by omega
    go_enter Tryz.func252, Tryz.ntmps252
    go_wp2
    go_ret
    exact ⟨rfl, rfl⟩
  · go_enter Tryz.func252, Tryz.ntmps252
    go_wp2
    go_ret
    exact ⟨rfl, rfl⟩
  · go_enter Tryz.func252, Tryz.ntmps252
    go_wp2
    go_ret
    exact ⟨rfl, rfl⟩
set_option maxRecDepth 100000 in
set_option maxHeartbeats 1000000 in
theorem name_ok (s : ByteArray) (h0 : 1 ≤ s.size) (h1 : s.size ≤ 16) (hl : ∀ i (hi : i < s.size), isLetter (s[i].toNat : Int)) (w : World) :
    Calls Tryz.prog 217 #[.string s] w fun e w' => e = .returned (.bool true) ∧ w' = w := by
  go_enter Tryz.func217, Tryz.ntmps217
  go_wp2
  go_loopw [6] (fun a wr => ∃ k : Nat, k ≤ s.size ∧ a = .int .i64 (k : Int) ∧ wr = w) (fun a _ => (s.size - intOf a).toNat)
  case atStart => exact ⟨0, Nat.zero_le _, rfl, rfl⟩
  case round =>
    obtain ⟨k, hk, rfl, rfl⟩ := hrel
    by_cases hks : k < s.size
    · have hlk := letter_ok _ (hl k hks) wr
      have h0' : (k : Int) < s.size := by omega
      have hg : s.data[k]? = some s[k] := by
        rw [Array.getElem?_eq_getElem (by exact hks)]; rfl
      clear hl
      go_wp2_with (go_at_call 252; refine hlk.mono ?_; rintro e w' ⟨rfl, rfl⟩)
      go_roundw
      case rel => refine ⟨k + 1, by omega, ?_⟩; simp
      case measure => simp [intOf]; omega
    · obtain rfl : k = s.size := by omega
      have h0' : (1 : Int) ≤ s.size := by omega
      have h1' : (s.size : Int) ≤ 16 := by omega
      go_wp2
      go_ret
      exact ⟨rfl, rfl⟩
end Go.Proofs.YtdgodcgdlfjpaaaGreatDoor
namespace Go.Mono
open Go.RowKit
/-- a surface without films, as its fields are -/
structure Srf where
  kind : Int
  curv : Int
  conic : Int
  curvx : Int
  conicx : Int
  a0 : Int
  a1 : Int
  a2 : Int
  a3 : Int
  p0 : Int
  p1 : Int
  order : Int
  thick : Int
  glass : ByteArray
  semi : Int
  hole : Int
  dx : Int
  dy : Int
  ax : Int
  ay : Int
  az : Int
/-- its cells in memory -/
def Srf.cs (s : Srf) (p : Option Addr) (c : Nat) : Array Value :=
  #[.int .i64 s.kind, .int .i64 s.curv, .int .i64 s.conic, .int .i64 s.curvx, .int .i64 s.conicx, .int .i64 s.a0, .int .i64 s.a1, .int .i64 s.a2, .int .i64 s.a3, .int .i64 s.p0, .int .i64 s.p1, .int .i64 s.order, .int .i64 s.thick, .string s.glass, .int .i64 s.semi, .int .i64 s.hole, .int .i64 s.dx, .int .i64 s.dy, .int .i64 s.ax, .int .i64 s.ay, .int .i64 s.az, .slice p 0 c]
def NameOk (s : ByteArray) : Prop := 1 ≤ s.size ∧ s.size ≤ 16 ∧ ∀ i (hi : i < s.size), isLetter (s[i].toNat : Int)
def mirror : ByteArray := { data := #[77, 73, 82, 82, 79, 82] }
/-- the fields that a kind has -/
def Srf.kept (s : Srf) : Srf :=
  let z : Srf := { kind := s.kind, curv := 0, conic := 0, curvx := 0, conicx := 0, a0 := 0, a1 := 0, a2 := 0, a3 := 0, p0 := 0, p1 := 0, order := 0, thick := s.thick, glass := { data := #[] }, semi := 0, hole := 0, dx := 0, dy := 0, ax := 0, ay := 0, az := 0 }
  let all : Srf → Srf := fun z => { z with curv := s.curv, conic := s.conic, glass := s.glass, semi := s.semi, hole := s.hole }
  if s.kind = 1 then
    let z := { z with a0 := s.a0, a1 := s.a1, a2 := s.a2, a3 := s.a3 }
    all (if s.order ≠ 0 ∧ s.glass ≠ mirror then { z with order := s.order, p0 := s.p0, p1 := s.p1 } else z)
  else if s.kind = 2 then all { z with curvx := s.curvx, conicx := s.conicx }
  else if s.kind = 3 then { z with dx := s.dx, dy := s.dy, ax := s.ax, ay := s.ay, az := s.az }
  else if s.kind = 4 then { z with curv := s.curv, semi := s.semi, hole := s.hole }
  else all z
def In (m z : Int) : Prop := -m ≤ z ∧ z ≤ m
/-- what surface.Check asks -/
structure Srf.ok (s : Srf) : Prop where
  k1 : 1 ≤ s.kind
  k2 : s.kind ≤ 4
  kept : s.kept = s
  curv : In 1000000000 s.curv
  curvx : In 1000000000 s.curvx
  thick : In 1000000000 s.thick
  dx : In 1000000000 s.dx
  dy : In 1000000000 s.dy
  a0 : In 1000000000 s.a0
  a1 : In 1000000000 s.a1
  a2 : In 1000000000 s.a2
  a3 : In 1000000000 s.a3
  p0 : In 1000000000 s.p0
  p1 : In 1000000000 s.p1
  conic : In 100000000 s.conic
  conicx : In 100000000 s.conicx
  ax : In 90000000 s.ax
  ay : In 90000000 s.ay
  az : In 90000000 s.az
  order : In 3 s.order
  semi0 : 0 ≤ s.semi
  semi1 : s.semi ≤ 1000000000
  hole0 : 0 ≤ s.hole
  hole1 : s.hole ≤ 1000000000
  ring : s.semi = 0 ∨ s.hole < s.semi
  glass : s.glass = { data := #[] } ∨ NameOk s.glass
/-- a slice just built -/
theorem rdF_new (w : World) (T : TypeId) (cs : Array Value) (n : Nat) (f : Nat → Int) (h : ∀ i, i < n → cs[i]? = some (.int .i64 (f i))) (hn : n ≤ 1000) : RdF (w.alloc (.cells cs T)) (some ⟨w.heap.size, 0, none⟩) n n f := by
  refine ⟨Nat.le_refl _, by omega, fun _ => ⟨_, _, rfl, by simp, fun i hi => ?_⟩⟩
  rw [(Box.new w T cs).cell, Nat.zero_add]
  exact h i hi
theorem RdF.box {w : World} {B : Nat} {T : TypeId} {cs : Array Value} (b : Box w B T cs) (off n : Nat) (f : Nat → Int) (h : ∀ i, i < n → cs[off + i]? = some (.int .i64 (f i))) (hn : n ≤ 1000) : RdF w (some ⟨B, off, none⟩) n n f := by
  refine ⟨Nat.le_refl _, by omega, fun _ => ⟨_, _, rfl, b.lt, fun i hi => ?_⟩⟩
  rw [b.cell]
  exact h i hi
end Go.Mono
namespace Go.Proofs.YtdgodcgdlfjpaaaGreatDoor
open Go.RowKit Go.Mono
set_option maxRecDepth 100000 in
set_option maxHeartbeats 1000000 in
theorem scheck7_ok (s : Srf) (_ : s.ok) (p : Option Addr) (c B : Nat) (w : World) (b0 : Box w B 104 (s.cs p c)) :
    Calls Tryz.prog 218 #[.pointer (some ⟨B, 0, none⟩)] w fun e w' => e = .returned (.bool true) ∧ Below w.heap.size w w' := by
  have cb0 := b0.cell
  simp only [Srf.cs] at cb0
  go_enter Tryz.func218, Tryz.ntmps218
  go_wp2
  go_ret
  exact ⟨rfl, Below.refl _ _⟩
set_option maxRecDepth 100000 in
set_option maxHeartbeats 1000000 in
theorem scheck6_ok (s : Srf) (hs : s.ok) (p : Option Addr) (c B : Nat) (w : World) (b0 : Box w B 104 (s.cs p c)) :
    Calls Tryz.prog 216 #[.pointer (some ⟨B, 0, none⟩)] w fun e w' => e = .returned (.bool true) ∧ Below w.heap.size w w' := by
  have cb0 := b0.cell
  simp only [Srf.cs] at cb0
  rcases hs.glass with h | h
  · rw [h] at cb0
    go_enter Tryz.func216, Tryz.ntmps216
    go_wp2
    go_ret
    exact ⟨rfl, Below.refl _ _⟩
  · have hn := name_ok s.glass h.1 h.2.1 h.2.2 w
    clear h hs b0
    go_enter Tryz.func216, Tryz.ntmps216
    go_wp2_with (go_at_call 217; refine hn.mono ?_; rintro e w' ⟨rfl, rfl⟩)
    all_goals
      go_ret
      exact ⟨rfl, Below.refl _ _⟩
set_option maxRecDepth 100000 in
set_option maxHeartbeats 1000000 in
theorem scheck5_ok (s : Srf) (hs : s.ok) (p : Option Addr) (c B : Nat) (w : World) (b0 : Box w B 104 (s.cs p c)) :
    Calls Tryz.prog 215 #[.pointer (some ⟨B, 0, none⟩)] w fun e w' => e = .returned (.bool true) ∧ Below w.heap.size w w' := by
  have cb0 := b0.cell
  simp only [Srf.cs] at cb0
  have h := hs.ring
  by_cases h0 : s.semi = 0
  · rw [h0] at cb0
    go_enter Tryz.func215, Tryz.ntmps215
    go_wp2
    go_ret
    exact ⟨rfl, Below.refl _ _⟩
  · have h1 : s.hole < s.semi := by omega
    have h2 : (s.semi == 0) = false := by simpa using h0
    clear h h0
    go_enter Tryz.func215, Tryz.ntmps215
    go_wp2
    go_ret
    exact ⟨rfl, Below.refl _ _⟩
end Go.Proofs.YtdgodcgdlfjpaaaGreatDoor
namespace Go.Mono
open Go.RowKit
theorem rdF_list (w : World) (T : TypeId) (l : List Int) (hn : l.length ≤ 1000) : RdF (w.alloc (.cells (l.map (Value.int .i64)).toArray T)) (some ⟨w.heap.size, 0, none⟩) l.length l.length (fun i => l.getD i 0) := by
  refine rdF_new w T _ _ _ (fun i hi => ?_) hn
  simp [hi]
theorem getD_in {m : Int} {l : List Int} (h : ∀ x ∈ l, In m x) : ∀ i, i < l.length → -m ≤ l.getD i 0 ∧ l.getD i 0 ≤ m := by
  intro i hi
  have := h l[i] (List.getElem_mem hi)
  simpa [hi, In] using this
end Go.Mono
namespace Go.Proofs.YtdgodcgdlfjpaaaGreatDoor
open Go.RowKit Go.Mono
set_option maxRecDepth 100000 in
set_option maxHeartbeats 1000000 in
theorem scheck2_ok (s : Srf) (hs : s.ok) (p : Option Addr) (c B : Nat) (w : World) (b0 : Box w B 104 (s.cs p c)) :
    Calls Tryz.prog 211 #[.pointer (some ⟨B, 0, none⟩)] w fun e w' => e = .returned (.bool true) ∧ Below w.heap.size w w' := by
  have cb0 := b0.cell
  have bx := fun W (h : Below w.heap.size w W) => (b0.below h).cell
  simp only [Srf.cs] at cb0 bx
  have h5 : ∀ x ∈ [s.curv, s.curvx, s.thick, s.dx, s.dy], In 1000000000 x := by
    intro x hx
    have := hs.curv; have := hs.curvx; have := hs.thick; have := hs.dx; have := hs.dy
    simp at hx
    rcases hx with rfl | rfl | rfl | rfl | rfl <;> assumption
  have h4 : ∀ x ∈ [s.a0, s.a1, s.a2, s.a3], In 1000000000 x := by
    intro x hx
    have := hs.a0; have := hs.a1; have := hs.a2; have := hs.a3
    simp at hx
    rcases hx with rfl | rfl | rfl | rfl <;> assumption
  have h2 : ∀ x ∈ [s.p0, s.p1], In 1000000000 x := by
    intro x hx
    have := hs.p0; have := hs.p1
    simp at hx
    rcases hx with rfl | rfl <;> assumption
  go_enter Tryz.func211, Tryz.ntmps211
  go_wp2_with fail
  refine (about_ok 1000000000 5 _ 5 (fun i => [s.curv, s.curvx, s.thick, s.dx, s.dy].getD i 0) _ (rdF_list w 3 [s.curv, s.curvx, s.thick, s.dx, s.dy] (by simp)) (by omega) (by omega) (getD_in h5)).mono ?_
  rintro e W1 ⟨rfl, hb1⟩
  have hB1 := belowCall (belowAlloc (Below.refl _ _) _) hb1
  have b1 := b0.below hB1
  have cb1 := bx W1 hB1
  go_wp2_with fail
  refine (about_ok 1000000000 4 _ 4 (fun i => [s.a0, s.a1, s.a2, s.a3].getD i 0) _ (RdF.box b1 5 4 _ ?_ (by decide)) (by omega) (by omega) (getD_in h4)).mono ?_
  · intro i hi
    rcases (by omega : i = 0 ∨ i = 1 ∨ i = 2 ∨ i = 3) with rfl | rfl | rfl | rfl <;> rfl
  rintro e W2 ⟨rfl, hb2⟩
  have hB2 := belowCall hB1 hb2
  have b2 := b0.below hB2
  have cb2 := bx W2 hB2
  go_wp2_with fail
  refine (about_ok 1000000000 2 _ 2 (fun i => [s.p0, s.p1].getD i 0) _ (RdF.box b2 9 2 _ ?_ (by decide)) (by omega) (by omega) (getD_in h2)).mono ?_
  · intro i hi
    rcases (by omega : i = 0 ∨ i = 1) with rfl | rfl <;> rfl
  rintro e W3 ⟨rfl, hb3⟩
  go_wp2
  go_ret
  exact ⟨rfl, belowCall hB2 hb3⟩
set_option maxRecDepth 100000 in
set_option maxHeartbeats 1000000 in
theorem scheck3_ok (s : Srf) (hs : s.ok) (p : Option Addr) (c B : Nat) (w : World) (b0 : Box w B 104 (s.cs p c)) :
    Calls Tryz.prog 213 #[.pointer (some ⟨B, 0, none⟩)] w fun e w' => e = .returned (.bool true) ∧ Below w.heap.size w w' := by
  have cb0 := b0.cell
  have bx := fun W (h : Below w.heap.size w W) => (b0.below h).cell
  simp only [Srf.cs] at cb0 bx
  have h2 : ∀ x ∈ [s.conic, s.conicx], In 100000000 x := by
    intro x hx
    have := hs.conic; have := hs.conicx
    simp at hx
    rcases hx with rfl | rfl <;> assumption
  have h3 : ∀ x ∈ [s.ax, s.ay, s.az], In 90000000 x := by
    intro x hx
    have := hs.ax; have := hs.ay; have := hs.az
    simp at hx
    rcases hx with rfl | rfl | rfl <;> assumption
  go_enter Tryz.func213, Tryz.ntmps213
  go_wp2_with fail
  refine (about_ok 100000000 2 _ 2 (fun i => [s.conic, s.conicx].getD i 0) _ (rdF_list w 3 [s.conic, s.conicx] (by simp)) (by omega) (by omega) (getD_in h2)).mono ?_
  rintro e W1 ⟨rfl, hb1⟩
  have hB1 := belowCall (belowAlloc (Below.refl _ _) _) hb1
  have cb1 := bx W1 hB1
  go_wp2_with fail
  refine (about_ok 90000000 3 _ 3 (fun i => [s.ax, s.ay, s.az].getD i 0) _ (rdF_list W1 3 [s.ax, s.ay, s.az] (by simp)) (by omega) (by omega) (getD_in h3)).mono ?_
  rintro e W2 ⟨rfl, hb2⟩
  go_wp2
  go_ret
  exact ⟨rfl, belowCall (belowAlloc hB1 _) hb2⟩
set_option maxRecDepth 100000 in
set_option maxHeartbeats 1000000 in
theorem scheck4_ok (s : Srf) (hs : s.ok) (p : Option Addr) (c B : Nat) (w : World) (b0 : Box w B 104 (s.cs p c)) :
    Calls Tryz.prog 214 #[.pointer (some ⟨B, 0, none⟩)] w fun e w' => e = .returned (.bool true) ∧ Below w.heap.size w w' := by
  have cb0 := b0.cell
  have bx := fun W (h : Below w.heap.size w W) => (b0.below h).cell
  simp only [Srf.cs] at cb0 bx
  have h1 : ∀ x ∈ [s.order], In 3 x := by
    intro x hx
    have := hs.order
    simp at hx
    subst hx
    assumption
  have h2 : ∀ i, i < 2 → 0 ≤ [s.semi, s.hole].getD i 0 ∧ [s.semi, s.hole].getD i 0 ≤ 1000000000 := by
    intro i hi
    have := hs.semi0; have := hs.semi1; have := hs.hole0; have := hs.hole1
    rcases (by omega : i = 0 ∨ i = 1) with rfl | rfl <;> constructor <;> assumption
  go_enter Tryz.func214, Tryz.ntmps214
  go_wp2_with fail
  refine (about_ok 3 1 _ 1 (fun i => [s.order].getD i 0) _ (rdF_list w 3 [s.order] (by simp)) (by omega) (by omega) (getD_in h1)).mono ?_
  rintro e W1 ⟨rfl, hb1⟩
  have hB1 := belowCall (belowAlloc (Below.refl _ _) _) hb1
  have cb1 := bx W1 hB1
  go_wp2_with fail
  refine (between_ok 0 1000000000 2 _ 2 (fun i => [s.semi, s.hole].getD i 0) _ (rdF_list W1 3 [s.semi, s.hole] (by simp)) h2).mono ?_
  rintro e W2 ⟨rfl, hb2⟩
  go_wp2
  go_ret
  exact ⟨rfl, belowCall (belowAlloc hB1 _) hb2⟩
end Go.Proofs.YtdgodcgdlfjpaaaGreatDoor
namespace Go.Mono
open Go.RowKit
/-- n elements of sz cells each -/
def RdC (w : World) (p : Option Addr) (n c sz : Nat) (cell : Nat → Nat → Value) : Prop :=
  n ≤ c ∧ n ≤ 140737488351232 ∧ (0 < n → ∃ b off, p = some ⟨b, off, none⟩ ∧ b < w.heap.size ∧ (∀ i j, i < n → j < sz → w.cell? ⟨b, off + i * sz + j, none⟩ = some (cell i j)))
theorem RdC.below {w w' : World} {p : Option Addr} {n c sz : Nat} {f : Nat → Nat → Value} (h : RdC w p n c sz f) (hB : Below w.heap.size w w') : RdC w' p n c sz f := by
  obtain ⟨h1, h2, h3⟩ := h
  refine ⟨h1, h2, fun hn => ?_⟩
  obtain ⟨b, off, hp, hb, hc⟩ := h3 hn
  exact ⟨b, off, hp, Nat.lt_of_lt_of_le hb hB.size, fun i j hi hj => (hB.cell hb).trans (hc i j hi hj)⟩
end Go.Mono
namespace Go.Proofs.YtdgodcgdlfjpaaaGreatDoor
open Go.RowKit Go.Mono
theorem lbetween_ok (n lo hi : Int) (h1 : lo ≤ n) (h2 : n ≤ hi) (w : World) :
    Calls Tryz.prog 268 #[.int .i64 n, .int .i64 lo, .int .i64 hi] w fun e w' => e = .returned (.bool true) ∧ w' = w := by
  go_enter Tryz.func268, Tryz.ntmps268
  go_wp2
  go_ret
  exact ⟨rfl, rfl⟩
set_option maxRecDepth 100000 in
set_option maxHeartbeats 1000000 in
theorem waves_ok (B : Nat) (nm : ByteArray) (di pu st pr : Int) (pf pw' ps pc : Option Addr) (nf cf n cw ns cs nc cc : Nat) (L W : Nat → Int) (w : World)
    (b0 : Box w B 258 #[.string nm, .int .i64 di, .int .i64 pu, .int .i64 st, .int .i64 pr, .slice pf nf cf, .slice pw' n cw, .slice ps ns cs, .slice pc nc cc])
    (hr : RdC w pw' n cw 2 (fun i j => if j = 0 then .int .i64 (L i) else .int .i64 (W i)))
    (n1 : 1 ≤ n) (n2 : n ≤ 5) (q1 : 0 ≤ pr) (q2 : pr ≤ n - 1)
    (l0 : ∀ i, i < n → 300000 ≤ L i ∧ L i ≤ 2500000) (l1 : ∀ i, i + 1 < n → L i < L (i + 1)) (w0 : ∀ i, i < n → 1 ≤ W i ∧ W i ≤ 100) :
    Calls Tryz.prog 270 #[.pointer (some ⟨B, 0, none⟩)] w fun e w' => e = .returned (.bool true) ∧ Below w.heap.size w w' := by
  have cb0 := b0.cell
  obtain ⟨hc1, hn1, hx⟩ := hr
  obtain ⟨b, off, rfl, hb, hcell⟩ := hx (by omega)
  go_enter Tryz.func270, Tryz.ntmps270
  go_wp2
  go_loopw [3, 12] (fun l a wr => ∃ (i : Nat) (la : Int), i ≤ n ∧ a = .int .i64 (i : Int) ∧ l = .int .i64 la ∧ (i = 0 → la = 299999) ∧ (0 < i → la = L (i - 1)) ∧ Below w.heap.size w wr) (fun _ a _ => (n - intOf a).toNat)
  case atStart => exact ⟨0, 299999, Nat.zero_le _, rfl, rfl, fun _ => rfl, fun h => by omega, Below.refl _ _⟩
  case round =>
    obtain ⟨i, la, hi, rfl, rfl, ha0, ha1, hB⟩ := hrel
    by_cases hin : i < n
    · have hlt : la < L i := by
        by_cases h0 : i = 0
        · have := ha0 h0; have := l0 i hin; omega
        · have := ha1 (by omega); have := l1 (i - 1) (by omega)
          rw [show i - 1 + 1 = i by omega] at this
          omega
      obtain ⟨l2, l3⟩ := l0 i hin
      obtain ⟨w1, w2⟩ := w0 i hin
      have f1 : ¬ (L i ≤ la) := by omega
      have f2 : ¬ (2500000 < L i) := by omega
      have hin' : (i : Int) < n := by omega
      have a0 := (hB.cell hb).trans (hcell i 0 hin (by omega))
      have a1 := (hB.cell hb).trans (hcell i 1 hin (by omega))
      simp only [if_true, Nat.add_zero, Nat.succ_ne_self, if_false] at a0 a1
      replace l0 := Lib.hid l0; replace l1 := Lib.hid l1; replace w0 := Lib.hid w0; replace ha0 := Lib.hid ha0; replace ha1 := Lib.hid ha1
      clear hcell
      go_wp2_with (go_at_call 268; refine (lbetween_ok _ _ _ w1 w2 _).mono ?_; rintro e w' ⟨rfl, rfl⟩)
      go_roundw
      case rel => exact ⟨i + 1, L i, by omega, by simp, rfl, fun h => by omega, fun _ => rfl, belowAlloc hB _⟩
      case measure => simp [intOf]; omega
    · obtain rfl : i = n := by omega
      have hb0 := b0.below hB
      have cbb := hb0.cell
      have lbb := hb0.lt
      clear hcell cb0 l0 l1 w0 ha0 ha1
      have e1 : (1 : Int) ≤ i := by omega
      have e2 : (i : Int) ≤ 5 := by omega
      have hw : pr ≤ IntKind.i64.wrap ((i : Int) - 1) := by
        have : IntKind.i64.wrap ((i : Int) - 1) = (i : Int) - 1 := by rw [IntKind.wrap_i64]; omega
        omega
      go_wp2_with fail
      go_region_held3 (fun w' => (∀ b o, b < wr.heap.size → w'.cell? ⟨b, o, none⟩ = wr.cell? ⟨b, o, none⟩) ∧ Below wr.heap.size wr w') ((refine belowS ?_; first | exact (Below.refl _ _).drew | (repeat' (first | exact And.right ‹_› | exact belowCall (And.right ‹_›) ‹_› | exact belowAlloc (And.right ‹_›) _ | exact belowAlloc ‹_› _ | refine belowSet ?_ (by omega) _ _)))) (first | (go_at_call 268; (with_reducible refine (lbetween_ok (i : Int) 1 5 e1 e2 _).mono ?_); rintro e w' ⟨rfl, rfl⟩) | (go_at_call 268; (with_reducible refine (lbetween_ok pr 0 (IntKind.i64.wrap ((i : Int) - 1)) q1 hw _).mono ?_); rintro e w' ⟨rfl, rfl⟩))
      all_goals
        go_wp2
        go_ret
        exact ⟨rfl, belowCall hB (And.right ‹_›)⟩
end Go.Proofs.YtdgodcgdlfjpaaaGreatDoor
namespace Go.Mono
open Go.RowKit
def Srf.flds (s : Srf) : Array Value := #[.int .i64 s.kind, .int .i64 s.curv, .int .i64 s.conic, .int .i64 s.curvx, .int .i64 s.conicx, .int .i64 s.order, .int .i64 s.thick, .int .i64 s.semi, .int .i64 s.hole, .int .i64 s.dx, .int .i64 s.dy, .int .i64 s.ax, .int .i64 s.ay, .int .i64 s.az, .int .i64 0, .int .i64 0, .int .i64 s.a0, .int .i64 s.a1, .int .i64 s.a2, .int .i64 s.a3, .int .i64 s.p0, .int .i64 s.p1, .string s.glass]
def Srf.lits (s : Srf) : List Lit := [.int .i64 s.kind, .int .i64 s.curv, .int .i64 s.conic, .int .i64 s.curvx, .int .i64 s.conicx, .int .i64 s.order, .int .i64 s.thick, .int .i64 s.semi, .int .i64 s.hole, .int .i64 s.dx, .int .i64 s.dy, .int .i64 s.ax, .int .i64 s.ay, .int .i64 s.az, .int .i64 0, .int .i64 0, .int .i64 s.a0, .int .i64 s.a1, .int .i64 s.a2, .int .i64 s.a3, .int .i64 s.p0, .int .i64 s.p1, .string s.glass.data.toList]
theorem wf_in {m z : Int} (h : In m z) (hm : m ≤ 1000000000) : (Lit.int .i64 z).wf = true := by
  obtain ⟨h1, h2⟩ := h
  have e1 : IntKind.i64.min = -9223372036854775808 := by decide
  have e2 : IntKind.i64.max = 9223372036854775807 := by decide
  simp only [Lit.wf, e1, e2, Bool.and_eq_true, decide_eq_true_eq]
  omega
theorem glass_size {s : Srf} (h : s.ok) : s.glass.size ≤ 16 := by
  rcases h.glass with h | h
  · rw [h]; decide
  · exact h.2.1
end Go.Mono
namespace Go.Proofs.YtdgodcgdlfjpaaaGreatDoor
open Go.RowKit Go.Mono
theorem lits_int (d : Nat) (z : Int) (h : (Lit.int .i64 z).wf = true) : Tryz.prog.keyLits (d + 1) 3 [.int .i64 z] = some [.int .i64 z] := by
  have hu : Tryz.prog.underlying 3 = some (.int .i64) := by kernel_rfl
  simp [Program.keyLits, hu, h]
theorem lits_str (d : Nat) (s : ByteArray) (h : s.size ≤ 16) : Tryz.prog.keyLits (d + 1) 9 [.string s] = some [.string s.data.toList] := by
  have hu : Tryz.prog.underlying 9 = some .string := by kernel_rfl
  have : s.size ≤ maxLen := Nat.le_trans h (by decide)
  simp [Program.keyLits, hu, this]
set_option maxRecDepth 100000 in
set_option maxHeartbeats 1000000 in
theorem lits_flds (s : Srf) (hs : s.ok) : Tryz.prog.keyLits 6 267 s.flds.toList = some s.lits := by
  have c299 : Tryz.prog.cellsOf 267 = 23 := by kernel_rfl
  have c297 : Tryz.prog.cellsOf 265 = 16 := by kernel_rfl
  have c91 : Tryz.prog.cellsOf 102 = 4 := by kernel_rfl
  have c49 : Tryz.prog.cellsOf 29 = 2 := by kernel_rfl
  have c3 : Tryz.prog.cellsOf 3 = 1 := by kernel_rfl
  have c9 : Tryz.prog.cellsOf 9 = 1 := by kernel_rfl
  have hg := lits_str 4 s.glass (glass_size hs)
  have w0 : (Lit.int .i64 0).wf = true := by decide
  have w_kind : (Lit.int .i64 s.kind).wf = true := wf_in (m := 4) ⟨by have := hs.k1; omega, hs.k2⟩ (by omega)
  have w_curv : (Lit.int .i64 s.curv).wf = true := wf_in hs.curv (by omega)
  have w_conic : (Lit.int .i64 s.conic).wf = true := wf_in hs.conic (by omega)
  have w_curvx : (Lit.int .i64 s.curvx).wf = true := wf_in hs.curvx (by omega)
  have w_conicx : (Lit.int .i64 s.conicx).wf = true := wf_in hs.conicx (by omega)
  have w_order : (Lit.int .i64 s.order).wf = true := wf_in hs.order (by omega)
  have w_thick : (Lit.int .i64 s.thick).wf = true := wf_in hs.thick (by omega)
  have w_semi : (Lit.int .i64 s.semi).wf = true := wf_in (m := 1000000000) ⟨by have := hs.semi0; omega, hs.semi1⟩ (by omega)
  have w_hole : (Lit.int .i64 s.hole).wf = true := wf_in (m := 1000000000) ⟨by have := hs.hole0; omega, hs.hole1⟩ (by omega)
  have w_dx : (Lit.int .i64 s.dx).wf = true := wf_in hs.dx (by omega)
  have w_dy : (Lit.int .i64 s.dy).wf = true := wf_in hs.dy (by omega)
  have w_ax : (Lit.int .i64 s.ax).wf = true := wf_in hs.ax (by omega)
  have w_ay : (Lit.int .i64 s.ay).wf = true := wf_in hs.ay (by omega)
  have w_az : (Lit.int .i64 s.az).wf = true := wf_in hs.az (by omega)
  have w_a0 : (Lit.int .i64 s.a0).wf = true := wf_in hs.a0 (by omega)
  have w_a1 : (Lit.int .i64 s.a1).wf = true := wf_in hs.a1 (by omega)
  have w_a2 : (Lit.int .i64 s.a2).wf = true := wf_in hs.a2 (by omega)
  have w_a3 : (Lit.int .i64 s.a3).wf = true := wf_in hs.a3 (by omega)
  have w_p0 : (Lit.int .i64 s.p0).wf = true := wf_in hs.p0 (by omega)
  have w_p1 : (Lit.int .i64 s.p1).wf = true := wf_in hs.p1 (by omega)
  clear hs
  have h297 : Tryz.prog.keyLits 5 265 [.int .i64 s.kind, .int .i64 s.curv, .int .i64 s.conic, .int .i64 s.curvx, .int .i64 s.conicx, .int .i64 s.order, .int .i64 s.thick, .int .i64 s.semi, .int .i64 s.hole, .int .i64 s.dx, .int .i64 s.dy, .int .i64 s.ax, .int .i64 s.ay, .int .i64 s.az, .int .i64 0, .int .i64 0] = some [.int .i64 s.kind, .int .i64 s.curv, .int .i64 s.conic, .int .i64 s.curvx, .int .i64 s.conicx, .int .i64 s.order, .int .i64 s.thick, .int .i64 s.semi, .int .i64 s.hole, .int .i64 s.dx, .int .i64 s.dy, .int .i64 s.ax, .int .i64 s.ay, .int .i64 s.az, .int .i64 0, .int .i64 0] := by
    simp [Program.keyLits, Tryz.underlying265, List.range_succ, *]
  have h91 : Tryz.prog.keyLits 5 102 [.int .i64 s.a0, .int .i64 s.a1, .int .i64 s.a2, .int .i64 s.a3] = some [.int .i64 s.a0, .int .i64 s.a1, .int .i64 s.a2, .int .i64 s.a3] := by
    simp [Program.keyLits, Tryz.underlying102, List.range_succ, *]
  have h49 : Tryz.prog.keyLits 5 29 [.int .i64 s.p0, .int .i64 s.p1] = some [.int .i64 s.p0, .int .i64 s.p1] := by
    simp [Program.keyLits, Tryz.underlying29, List.range_succ, *]
  rw [Program.keyLits.eq_def]
  simp only [Tryz.underlying267]
  simp [Srf.flds, Srf.lits, h297, h91, h49, hg, c299, c297, c91, c49, c9]
set_option maxRecDepth 100000 in
theorem eql_flds (s : Srf) (hs : s.ok) (w : World) : (binOp .eql 267 (.agg s.flds) (.agg s.flds)).run Tryz.prog w = .ok (.bool true) w := by
  obtain ⟨r, h1, h2⟩ := run_equalIn_deep (P := Tryz.prog) 9995 5 267 (by kernel_rfl) w 6 6 (.agg s.flds) (.agg s.flds) s.lits s.lits (by kernel_rfl) (by kernel_rfl) (lits_flds s hs) (lits_flds s hs)
  rw [run_eql_struct]
  have h3 : r = true := h2.2 rfl
  subst h3
  rw [show (10000 : Nat) = 9995 + 5 from rfl, h1]
  rfl
end Go.Proofs.YtdgodcgdlfjpaaaGreatDoor
