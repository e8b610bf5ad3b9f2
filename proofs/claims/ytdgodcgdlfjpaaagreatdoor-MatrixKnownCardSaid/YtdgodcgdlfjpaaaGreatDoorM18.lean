/- The law MatrixKnown: the examples of the ray transfer matrices, afocal lenses, mirrors and the order of errors; its walk by a verified evaluator of the model, and its card. Part 18 of 36. No condition beside the row. -/
import Derived.Test.YtdgodcgdlfjpaaaGreatDoorM17
set_option linter.unusedVariables false
set_option linter.unusedSimpArgs false
set_option maxRecDepth 100000
set_option maxHeartbeats 4000000
namespace Go.Proofs.YtdgodcgdlfjpaaaGreatDoor
open Go.RowKit Go.Mono Go.Ex
section
variable {K : Nat → Value} {hK : ∀ i, (K i).oneCell' = true}
def PFits (a b c d e f g h : Rat) : Prop :=
 Fits (a * e) ∧ Fits (b * g) ∧ Fits (a * e + b * g) ∧ Fits (a * f) ∧ Fits (b * h) ∧ Fits (a * f + b * h) ∧ Fits (c * e) ∧ Fits (d * g) ∧ Fits (c * e + d * g) ∧ Fits (c * f) ∧ Fits (d * h) ∧ Fits (c * f + d * h)
theorem z0_ : mkRat (Int.ofNat 0) (0 + 1) = 0 := rfl
theorem quos_any {ρ ρ' : Nm} {w : World} : ∀ {l : List Rat} {cs : List Value}, denL (qDen K hK) ρ w (l.map .quo) cs → denL (qDen K hK) ρ' w (l.map .quo) cs
 | [], _, h => h
 | q :: l, _, ⟨c, d, e, hc, hd⟩ => ⟨c, d, e, hc, quos_any hd⟩
theorem product_ev (a b c d e f g h : Rat) (H : PFits a b c d e f g h) (w : World) {u v : Value} (hu : denA (qDen K hK) (fun _ => none) w (.agg [.quo a, .quo b, .quo c, .quo d]) u) (hv : denA (qDen K hK) (fun _ => none) w (.agg [.quo e, .quo f, .quo g, .quo h]) v) :
  Calls Tryz.prog 111 #[u, v] w fun e' w' => ∃ x ρ', e' = .returned x ∧ denV (qDen K hK) ρ' w' (.a (.agg [.quo (mkRat (Int.ofNat 0) (0 + 1) + a * e + b * g), .quo (mkRat (Int.ofNat 0) (0 + 1) + a * f + b * h), .quo (mkRat (Int.ofNat 0) (0 + 1) + c * e + d * g), .quo (mkRat (Int.ofNat 0) (0 + 1) + c * f + d * h)])) x ∧ Below w.heap.size w w' := by
 obtain ⟨h1, h2, h3, h4, h5, h6, h7, h8, h9, h10, h11, h12⟩ := H
 refine evRun0 (D := qDen K hK) (d := 12) (orc := []) (args := [.agg [.quo a, .quo b, .quo c, .quo d], .agg [.quo e, .quo f, .quo g, .quo h]]) wide_ (spS w (fun _ => False)) [] _
  [Fits (a * e), Fits (mkRat (Int.ofNat 0) (0 + 1) + a * e), Fits (b * g), Fits (mkRat (Int.ofNat 0) (0 + 1) + a * e + b * g),
   Fits (a * f), Fits (mkRat (Int.ofNat 0) (0 + 1) + a * f), Fits (b * h), Fits (mkRat (Int.ofNat 0) (0 + 1) + a * f + b * h),
   Fits (c * e), Fits (mkRat (Int.ofNat 0) (0 + 1) + c * e), Fits (d * g), Fits (mkRat (Int.ofNat 0) (0 + 1) + c * e + d * g),
   Fits (c * f), Fits (mkRat (Int.ofNat 0) (0 + 1) + c * f), Fits (d * h), Fits (mkRat (Int.ofNat 0) (0 + 1) + c * f + d * h)]
  (by kernel_rfl) ?_ (vals := [u, v]) ⟨u, _, rfl, hu, v, _, rfl, hv, rfl⟩
 rw [z0_]
 simp only [Rat.zero_add]
 exact ⟨h1, h1, h2, h3, h4, h4, h5, h6, h7, h7, h8, h9, h10, h10, h11, h12, trivial⟩
def fitsC : List Rat → Bool
 | [] => true
 | q :: r => match fitC q with
   | some _ => fitsC r
   | none => false
theorem fitC_ok' {q : Rat} {L : List Prop} (h : fitC q = some L) : Fits q := by
 have hL : L = [] := by
  unfold fitC at h
  split at h
  ·cases h; rfl
  ·cases h
 subst hL
 exact sideC.hfit q [] h (by simp)
theorem fitsC_ok : ∀ {l : List Rat}, fitsC l = true → ∀ q ∈ l, Fits q
 | [], _, q, hq => by cases hq
 | x :: r, h, q, hq => by
   unfold fitsC at h
   split at h
   ·rename_i L hL
    rcases List.mem_cons.1 hq with rfl | hq
    ·exact fitC_ok' hL
    ·exact fitsC_ok h q hq
   ·cases h
def prodRun (args : List SA) (bk : List (Nat × Blk)) (orc : List (Option Bool)) : Option (SV × List Prop × List (Option Bool)) :=
 match args with
 | [.agg [.quo a, .quo b, .quo c, .quo d], .agg [.quo e, .quo f, .quo g, .quo h]] =>
   if fitsC [a * e, b * g, a * e + b * g, a * f, b * h, a * f + b * h, c * e, d * g, c * e + d * g, c * f, d * h, c * f + d * h] then
    qcase (a * e + b * g) fun x => qcase (a * f + b * h) fun y => qcase (c * e + d * g) fun z => qcase (c * f + d * h) fun t => some (.a (.agg [.quo x, .quo y, .quo z, .quo t]), [], orc)
   else none
 | _ => none
def cProduct (w0 : World) (X : Nat → Prop) : Ctr (qDen K hK) Tryz.prog w0 X := .plain 111 prodRun <| by
    intro args bk orc v obl orc' hr hobl ρ w vals hfr hb hargs
    unfold prodRun at hr
    split at hr
    ·rename_i a b c d e f g h
     split at hr
     ·rename_i hok
      rw [qcase_eq, qcase_eq, qcase_eq, qcase_eq] at hr
      cases hr
      obtain ⟨v1, r1, rfl, ⟨cs1, rfl, h1⟩, v2, r2, rfl, ⟨cs2, rfl, h2⟩, h3⟩ := hargs
      obtain rfl : r2 = [] := h3
      have F := fitsC_ok hok
      refine (product_ev a b c d e f g h ⟨F _ (by simp), F _ (by simp), F _ (by simp), F _ (by simp), F _ (by simp), F _ (by simp), F _ (by simp), F _ (by simp), F _ (by simp), F _ (by simp), F _ (by simp), F _ (by simp)⟩ w
       ⟨cs1, rfl, quos_any (l := [a, b, c, d]) h1⟩ ⟨cs2, rfl, quos_any (l := [e, f, g, h]) h2⟩).mono ?_
      rintro e' w' ⟨x, ρ', rfl, ⟨cs, rfl, hx⟩, hbl⟩
      rw [z0_] at hx
      simp only [Rat.zero_add] at hx
      exact ⟨_, rfl, ⟨cs, rfl, quos_any (l := [a * e + b * g, a * f + b * h, c * e + d * g, c * f + d * h]) hx⟩, hbl⟩
     ·cases hr
    ·cases hr
end
end Go.Proofs.YtdgodcgdlfjpaaaGreatDoor
namespace Go.Mono
open Go.RowKit
structure Srf where
 kind : Int
 curv : Int
 conic : Int
 curvx : Int
 conicx : Int
 a0 : Int
 a1 : Int
 a2 : Int
 a3 : Int
 p0 : Int
 p1 : Int
 order : Int
 thick : Int
 glass : ByteArray
 semi : Int
 hole : Int
 dx : Int
 dy : Int
 ax : Int
 ay : Int
 az : Int
def Srf.cs (s : Srf) (p : Option Addr) (c : Nat) : Array Value :=
 #[.int .i64 s.kind, .int .i64 s.curv, .int .i64 s.conic, .int .i64 s.curvx, .int .i64 s.conicx, .int .i64 s.a0, .int .i64 s.a1, .int .i64 s.a2, .int .i64 s.a3, .int .i64 s.p0, .int .i64 s.p1, .int .i64 s.order, .int .i64 s.thick, .string s.glass, .int .i64 s.semi, .int .i64 s.hole, .int .i64 s.dx, .int .i64 s.dy, .int .i64 s.ax, .int .i64 s.ay, .int .i64 s.az, .slice p 0 c]
def NameOk (s : ByteArray) : Prop := 1 ≤ s.size ∧ s.size ≤ 16 ∧ ∀ i (hi : i < s.size), isLetter (s[i].toNat : Int)
def mirror : ByteArray := { data := #[77, 73, 82, 82, 79, 82] }
def Srf.kept (s : Srf) : Srf :=
 let z : Srf := { kind := s.kind, curv := 0, conic := 0, curvx := 0, conicx := 0, a0 := 0, a1 := 0, a2 := 0, a3 := 0, p0 := 0, p1 := 0, order := 0, thick := s.thick, glass := { data := #[] }, semi := 0, hole := 0, dx := 0, dy := 0, ax := 0, ay := 0, az := 0 }
 let all : Srf → Srf := fun z => { z with curv := s.curv, conic := s.conic, glass := s.glass, semi := s.semi, hole := s.hole }
 if s.kind = 1 then
  let z := { z with a0 := s.a0, a1 := s.a1, a2 := s.a2, a3 := s.a3 }
  all (if s.order ≠ 0 ∧ s.glass ≠ mirror then { z with order := s.order, p0 := s.p0, p1 := s.p1 } else z)
 else if s.kind = 2 then all { z with curvx := s.curvx, conicx := s.conicx }
 else if s.kind = 3 then { z with dx := s.dx, dy := s.dy, ax := s.ax, ay := s.ay, az := s.az }
 else if s.kind = 4 then { z with curv := s.curv, semi := s.semi, hole := s.hole }
 else all z
def In (m z : Int) : Prop := -m ≤ z ∧ z ≤ m
structure Srf.ok (s : Srf) : Prop where
 k1 : 1 ≤ s.kind
 k2 : s.kind ≤ 4
 kept : s.kept = s
 curv : In 1000000000 s.curv
 curvx : In 1000000000 s.curvx
 thick : In 1000000000 s.thick
 dx : In 1000000000 s.dx
 dy : In 1000000000 s.dy
 a0 : In 1000000000 s.a0
 a1 : In 1000000000 s.a1
 a2 : In 1000000000 s.a2
 a3 : In 1000000000 s.a3
 p0 : In 1000000000 s.p0
 p1 : In 1000000000 s.p1
 conic : In 100000000 s.conic
 conicx : In 100000000 s.conicx
 ax : In 90000000 s.ax
 ay : In 90000000 s.ay
 az : In 90000000 s.az
 order : In 3 s.order
 semi0 : 0 ≤ s.semi
 semi1 : s.semi ≤ 1000000000
 hole0 : 0 ≤ s.hole
 hole1 : s.hole ≤ 1000000000
 ring : s.semi = 0 ∨ s.hole < s.semi
 glass : s.glass = { data := #[] } ∨ NameOk s.glass
theorem rdF_new (w : World) (T : TypeId) (cs : Array Value) (n : Nat) (f : Nat → Int) (h : ∀ i, i < n → cs[i]? = some (.int .i64 (f i))) (hn : n ≤ 1000) : RdF (w.alloc (.cells cs T)) (some ⟨w.heap.size, 0, none⟩) n n f := by
 refine ⟨Nat.le_refl _, by omega, fun _ => ⟨_, _, rfl, by simp, fun i hi => ?_⟩⟩
 rw [(Box.new w T cs).cell, Nat.zero_add]
 exact h i hi
theorem RdF.box {w : World} {B : Nat} {T : TypeId} {cs : Array Value} (b : Box w B T cs) (off n : Nat) (f : Nat → Int) (h : ∀ i, i < n → cs[off + i]? = some (.int .i64 (f i))) (hn : n ≤ 1000) : RdF w (some ⟨B, off, none⟩) n n f := by
 refine ⟨Nat.le_refl _, by omega, fun _ => ⟨_, _, rfl, b.lt, fun i hi => ?_⟩⟩
 rw [b.cell]
 exact h i hi
end Go.Mono
namespace Go.Proofs.YtdgodcgdlfjpaaaGreatDoor
open Go.RowKit Go.Mono
theorem scheck7_ok (s : Srf) (_ : s.ok) (p : Option Addr) (c B : Nat) (w : World) (b0 : Box w B 104 (s.cs p c)) :
  Calls Tryz.prog 218 #[.pointer (some ⟨B, 0, none⟩)] w fun e w' => e = .returned (.bool true) ∧ Below w.heap.size w w' := by
 have cb0 := b0.cell
 simp only [Srf.cs] at cb0
 go_enter Tryz.func218, Tryz.ntmps218
 go_wp2
 go_ret
 exact ⟨rfl, Below.refl _ _⟩
theorem scheck6_ok (s : Srf) (hs : s.ok) (p : Option Addr) (c B : Nat) (w : World) (b0 : Box w B 104 (s.cs p c)) :
  Calls Tryz.prog 216 #[.pointer (some ⟨B, 0, none⟩)] w fun e w' => e = .returned (.bool true) ∧ Below w.heap.size w w' := by
 have cb0 := b0.cell
 simp only [Srf.cs] at cb0
 rcases hs.glass with h | h
 ·rw [h] at cb0
  go_enter Tryz.func216, Tryz.ntmps216
  go_wp2
  go_ret
  exact ⟨rfl, Below.refl _ _⟩
 ·have hn := name_ok s.glass h.1 h.2.1 h.2.2 w
  clear h hs b0
  go_enter Tryz.func216, Tryz.ntmps216
  go_wp2_with (go_at_call 217; refine hn.mono ?_; rintro e w' ⟨rfl, rfl⟩)
  all_goals
   go_ret
   exact ⟨rfl, Below.refl _ _⟩
theorem scheck5_ok (s : Srf) (hs : s.ok) (p : Option Addr) (c B : Nat) (w : World) (b0 : Box w B 104 (s.cs p c)) :
  Calls Tryz.prog 215 #[.pointer (some ⟨B, 0, none⟩)] w fun e w' => e = .returned (.bool true) ∧ Below w.heap.size w w' := by
 have cb0 := b0.cell
 simp only [Srf.cs] at cb0
 have h := hs.ring
 by_cases h0 : s.semi = 0
 ·rw [h0] at cb0
  go_enter Tryz.func215, Tryz.ntmps215
  go_wp2
  go_ret
  exact ⟨rfl, Below.refl _ _⟩
 ·have h1 : s.hole < s.semi := by omega
  have h2 : (s.semi == 0) = false := by simpa using h0
  clear h h0
  go_enter Tryz.func215, Tryz.ntmps215
  go_wp2
  go_ret
  exact ⟨rfl, Below.refl _ _⟩
end Go.Proofs.YtdgodcgdlfjpaaaGreatDoor
namespace Go.Mono
open Go.RowKit
theorem rdF_list (w : World) (T : TypeId) (l : List Int) (hn : l.length ≤ 1000) : RdF (w.alloc (.cells (l.map (Value.int .i64)).toArray T)) (some ⟨w.heap.size, 0, none⟩) l.length l.length (fun i => l.getD i 0) := by
 refine rdF_new w T _ _ _ (fun i hi => ?_) hn
 simp [hi]
theorem getD_in {m : Int} {l : List Int} (h : ∀ x ∈ l, In m x) : ∀ i, i < l.length → -m ≤ l.getD i 0 ∧ l.getD i 0 ≤ m := by
 intro i hi
 have := h l[i] (List.getElem_mem hi)
 simpa [hi, In] using this
end Go.Mono
namespace Go.Proofs.YtdgodcgdlfjpaaaGreatDoor
open Go.RowKit Go.Mono
theorem scheck2_ok (s : Srf) (hs : s.ok) (p : Option Addr) (c B : Nat) (w : World) (b0 : Box w B 104 (s.cs p c)) :
  Calls Tryz.prog 211 #[.pointer (some ⟨B, 0, none⟩)] w fun e w' => e = .returned (.bool true) ∧ Below w.heap.size w w' := by
 have cb0 := b0.cell
 have bx := fun W (h : Below w.heap.size w W) => (b0.below h).cell
 simp only [Srf.cs] at cb0 bx
 have h5 : ∀ x ∈ [s.curv, s.curvx, s.thick, s.dx, s.dy], In 1000000000 x := by
  intro x hx
  have := hs.curv; have := hs.curvx; have := hs.thick; have := hs.dx; have := hs.dy
  simp at hx
  rcases hx with rfl | rfl | rfl | rfl | rfl <;> assumption
 have h4 : ∀ x ∈ [s.a0, s.a1, s.a2, s.a3], In 1000000000 x := by
  intro x hx
  have := hs.a0; have := hs.a1; have := hs.a2; have := hs.a3
  simp at hx
  rcases hx with rfl | rfl | rfl | rfl <;> assumption
 have h2 : ∀ x ∈ [s.p0, s.p1], In 1000000000 x := by
  intro x hx
  have := hs.p0; have := hs.p1
  simp at hx
  rcases hx with rfl | rfl <;> assumption
 go_enter Tryz.func211, Tryz.ntmps211
 go_wp2_with fail
 refine (about_ok 1000000000 5 _ 5 (fun i => [s.curv, s.curvx, s.thick, s.dx, s.dy].getD i 0) _ (rdF_list w 3 [s.curv, s.curvx, s.thick, s.dx, s.dy] (by simp)) (by omega) (by omega) (getD_in h5)).mono ?_
 rintro e W1 ⟨rfl, hb1⟩
 have hB1 := belowCall (belowAlloc (Below.refl _ _) _) hb1
 have b1 := b0.below hB1
 have cb1 := bx W1 hB1
 go_wp2_with fail
 refine (about_ok 1000000000 4 _ 4 (fun i => [s.a0, s.a1, s.a2, s.a3].getD i 0) _ (RdF.box b1 5 4 _ ?_ (by decide)) (by omega) (by omega) (getD_in h4)).mono ?_
 ·intro i hi
  rcases (by omega : i = 0 ∨ i = 1 ∨ i = 2 ∨ i = 3) with rfl | rfl | rfl | rfl <;> rfl
 rintro e W2 ⟨rfl, hb2⟩
 have hB2 := belowCall hB1 hb2
 have b2 := b0.below hB2
 have cb2 := bx W2 hB2
 go_wp2_with fail
 refine (about_ok 1000000000 2 _ 2 (fun i => [s.p0, s.p1].getD i 0) _ (RdF.box b2 9 2 _ ?_ (by decide)) (by omega) (by omega) (getD_in h2)).mono ?_
 ·intro i hi
  rcases (by omega : i = 0 ∨ i = 1) with rfl | rfl <;> rfl
 rintro e W3 ⟨rfl, hb3⟩
 go_wp2
 go_ret
 exact ⟨rfl, belowCall hB2 hb3⟩
theorem scheck3_ok (s : Srf) (hs : s.ok) (p : Option Addr) (c B : Nat) (w : World) (b0 : Box w B 104 (s.cs p c)) :
  Calls Tryz.prog 213 #[.pointer (some ⟨B, 0, none⟩)] w fun e w' => e = .returned (.bool true) ∧ Below w.heap.size w w' := by
 have cb0 := b0.cell
 have bx := fun W (h : Below w.heap.size w W) => (b0.below h).cell
 simp only [Srf.cs] at cb0 bx
 have h2 : ∀ x ∈ [s.conic, s.conicx], In 100000000 x := by
  intro x hx
  have := hs.conic; have := hs.conicx
  simp at hx
  rcases hx with rfl | rfl <;> assumption
 have h3 : ∀ x ∈ [s.ax, s.ay, s.az], In 90000000 x := by
  intro x hx
  have := hs.ax; have := hs.ay; have := hs.az
  simp at hx
  rcases hx with rfl | rfl | rfl <;> assumption
 go_enter Tryz.func213, Tryz.ntmps213
 go_wp2_with fail
 refine (about_ok 100000000 2 _ 2 (fun i => [s.conic, s.conicx].getD i 0) _ (rdF_list w 3 [s.conic, s.conicx] (by simp)) (by omega) (by omega) (getD_in h2)).mono ?_
 rintro e W1 ⟨rfl, hb1⟩
 have hB1 := belowCall (belowAlloc (Below.refl _ _) _) hb1
 have cb1 := bx W1 hB1
 go_wp2_with fail
 refine (about_ok 90000000 3 _ 3 (fun i => [s.ax, s.ay, s.az].getD i 0) _ (rdF_list W1 3 [s.ax, s.ay, s.az] (by simp)) (by omega) (by omega) (getD_in h3)).mono ?_
 rintro e W2 ⟨rfl, hb2⟩
 go_wp2
 go_ret
 exact ⟨rfl, belowCall (belowAlloc hB1 _) hb2⟩
theorem scheck4_ok (s : Srf) (hs : s.ok) (p : Option Addr) (c B : Nat) (w : World) (b0 : Box w B 104 (s.cs p c)) :
  Calls Tryz.prog 214 #[.pointer (some ⟨B, 0, none⟩)] w fun e w' => e = .returned (.bool true) ∧ Below w.heap.size w w' := by
 have cb0 := b0.cell
 have bx := fun W (h : Below w.heap.size w W) => (b0.below h).cell
 simp only [Srf.cs] at cb0 bx
 have h1 : ∀ x ∈ [s.order], In 3 x := by
  intro x hx
  have := hs.order
  simp at hx
  subst hx
  assumption
 have h2 : ∀ i, i < 2 → 0 ≤ [s.semi, s.hole].getD i 0 ∧ [s.semi, s.hole].getD i 0 ≤ 1000000000 := by
  intro i hi
  have := hs.semi0; have := hs.semi1; have := hs.hole0; have := hs.hole1
  rcases (by omega : i = 0 ∨ i = 1) with rfl | rfl <;> constructor <;> assumption
 go_enter Tryz.func214, Tryz.ntmps214
 go_wp2_with fail
 refine (about_ok 3 1 _ 1 (fun i => [s.order].getD i 0) _ (rdF_list w 3 [s.order] (by simp)) (by omega) (by omega) (getD_in h1)).mono ?_
 rintro e W1 ⟨rfl, hb1⟩
 have hB1 := belowCall (belowAlloc (Below.refl _ _) _) hb1
 have cb1 := bx W1 hB1
 go_wp2_with fail
 refine (between_ok 0 1000000000 2 _ 2 (fun i => [s.semi, s.hole].getD i 0) _ (rdF_list W1 3 [s.semi, s.hole] (by simp)) h2).mono ?_
 rintro e W2 ⟨rfl, hb2⟩
 go_wp2
 go_ret
 exact ⟨rfl, belowCall (belowAlloc hB1 _) hb2⟩
end Go.Proofs.YtdgodcgdlfjpaaaGreatDoor
