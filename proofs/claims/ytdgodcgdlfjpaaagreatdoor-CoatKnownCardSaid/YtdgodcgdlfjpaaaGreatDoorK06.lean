/- CoatKnown returns true. Part 6 of 8. No condition beside the row. -/
import Derived.Test.YtdgodcgdlfjpaaaGreatDoorA35
import Derived.Test.YtdgodcgdlfjpaaaGreatDoorA38
import Derived.Test.YtdgodcgdlfjpaaaGreatDoorK02
import Derived.Test.YtdgodcgdlfjpaaaGreatDoorK03
set_option linter.unusedVariables false
set_option linter.unusedSimpArgs false
namespace Go.Mono
def badF (i : Nat) : Flm := match i with
  | 0 => ⟨10000000, 1, 0⟩
  | 1 => ⟨9999999, 0, 1⟩
  | 2 => ⟨40000001, 0, 1⟩
  | 3 => ⟨10000000, -1, 1⟩
  | 4 => ⟨10000000, 1001, 1⟩
  | 5 => ⟨10000000, 0, 1001⟩
  | _ => ⟨0, 0, 0⟩
theorem badF_bad : ∀ i, ¬ (badF i).ok
  | 0 => by decide
  | 1 => by decide
  | 2 => by decide
  | 3 => by decide
  | 4 => by decide
  | 5 => by decide
  | _ + 6 => fun h => absurd (show (10000000 : Int) ≤ 0 from h.1) (by decide)
def two (f g : Flm) (i : Nat) : Flm := if i = 0 then f else g
theorem fG_ok : fG.ok := by decide
theorem fB_bad : ¬ fB.ok := by decide
theorem fT_ok : fT.ok := by decide
end Go.Mono
namespace Go.Proofs.YtdgodcgdlfjpaaaGreatDoor
open Go.RowKit Go.Mono
theorem film_no (f : Flm) (hf : ¬ f.ok) (w : World) : Calls Tryz.prog 24 #[.agg f.vals] w fun e w' => e = .returned (.tuple #[.agg quad0, .int .i64 400]) ∧ Below w.heap.size w w' :=
  filmX_panic f.vals rfl (film_ones f) 400 w fun W _ => layer_bad f hf W
theorem stack_no (F : Nat → Flm) (n m : Nat) (hn : n ≤ 8) (hm : m < n) (hF : ∀ i, i < m → (F i).ok) (hbad : ¬ (F m).ok) (p : Option Addr) (c : Nat) (w : World) (h : FilmsAt w p n c F) :
    Calls Tryz.prog 27 #[.slice p n c] w fun e w' => e = .returned (.tuple #[.agg quad0, .int .i64 400]) ∧ Below w.heap.size w w' :=
  stackX_panic p n c 400 w fun W hW => cstack_bad F n m hn hm hF hbad p c W (h.below hW)
theorem stack_long (n : Nat) (hn : 8 < n) (p : Option Addr) (c : Nat) (w : World) :
    Calls Tryz.prog 27 #[.slice p n c] w fun e w' => e = .returned (.tuple #[.agg quad0, .int .i64 3]) ∧ Below w.heap.size w w' :=
  stackX_panic p n c 3 w fun W hW => cstack_long n hn p c W
theorem refl_arg (na nb : Int) (hbad : ¬ ((10000000 ≤ na ∧ na ≤ 40000000) ∧ (10000000 ≤ nb ∧ nb ≤ 40000000))) (p : Option Addr) (n c : Nat) (w : World) :
    Calls Tryz.prog 15 #[.int .i64 na, .int .i64 nb, .slice p n c] w fun e w' => e = .returned (.tuple #[.agg quot0, .agg quot0, .int .i64 2]) ∧ Below w.heap.size w w' :=
  reflX_panic na nb p n c 2 w fun W _ => creflect_arg na nb hbad p n c W
theorem refl_long (na nb : Int) (a1 : 10000000 ≤ na ∧ na ≤ 40000000) (b1 : 10000000 ≤ nb ∧ nb ≤ 40000000) (n : Nat) (hn : 8 < n) (p : Option Addr) (c : Nat) (w : World) :
    Calls Tryz.prog 15 #[.int .i64 na, .int .i64 nb, .slice p n c] w fun e w' => e = .returned (.tuple #[.agg quot0, .agg quot0, .int .i64 3]) ∧ Below w.heap.size w w' :=
  reflX_panic na nb p n c 3 w fun W _ => creflect_stack na nb a1 b1 p n c 3 W fun V _ => cstack_long n hn p c V
theorem refl_no (na nb : Int) (a1 : 10000000 ≤ na ∧ na ≤ 40000000) (b1 : 10000000 ≤ nb ∧ nb ≤ 40000000) (F : Nat → Flm) (n m : Nat) (hn : n ≤ 8) (hm : m < n) (hF : ∀ i, i < m → (F i).ok) (hbad : ¬ (F m).ok) (p : Option Addr) (c : Nat) (w : World) (h : FilmsAt w p n c F) :
    Calls Tryz.prog 15 #[.int .i64 na, .int .i64 nb, .slice p n c] w fun e w' => e = .returned (.tuple #[.agg quot0, .agg quot0, .int .i64 400]) ∧ Below w.heap.size w w' :=
  reflX_panic na nb p n c 400 w fun W hW => creflect_stack na nb a1 b1 p n c 400 W fun V hV => cstack_bad F n m hn hm hF hbad p c V ((h.below hW).below hV)
theorem best_e1 (nb most : Int) (pc : Option Addr) (n cc : Nat) (w : World) :
    Calls Tryz.prog 18 #[.int .i64 0, .int .i64 nb, .slice pc n cc, .int .i64 most] w fun e w' => e = .returned (.tuple #[.slice none 0 0, .agg quot0, .int .i64 2]) ∧ Below w.heap.size w w' :=
  best_panic 0 nb most 2 pc n cc w fun W P0 P1 P2 P3 hW p0 p1 p2 p3 => best1_index nb most pc n cc W P0 P1 P2 P3 p0 p1 p2 p3
theorem best_e2 (pc : Option Addr) (n cc : Nat) (w : World) :
    Calls Tryz.prog 18 #[.int .i64 10000000, .int .i64 10000000, .slice pc n cc, .int .i64 4] w fun e w' => e = .returned (.tuple #[.slice none 0 0, .agg quot0, .int .i64 2]) ∧ Below w.heap.size w w' :=
  best_panic 10000000 10000000 4 2 pc n cc w fun W P0 P1 P2 P3 hW p0 p1 p2 p3 => best1_above pc n cc W P0 P1 P2 P3 p0 p1 p2 p3
theorem best_e3 (pc : Option Addr) (n cc : Nat) (w : World) :
    Calls Tryz.prog 18 #[.int .i64 10000000, .int .i64 10000000, .slice pc n cc, .int .i64 (-1)] w fun e w' => e = .returned (.tuple #[.slice none 0 0, .agg quot0, .int .i64 2]) ∧ Below w.heap.size w w' :=
  best_panic 10000000 10000000 (-1) 2 pc n cc w fun W P0 P1 P2 P3 hW p0 p1 p2 p3 => best1_under pc n cc W P0 P1 P2 P3 p0 p1 p2 p3
theorem best_e4 (most : Nat) (hm : most ≤ 3) (pc : Option Addr) (n cc : Nat) (hn : 6 < n) (w : World) :
    Calls Tryz.prog 18 #[.int .i64 10000000, .int .i64 10000000, .slice pc n cc, .int .i64 (most : Int)] w fun e w' => e = .returned (.tuple #[.slice none 0 0, .agg quot0, .int .i64 3]) ∧ Below w.heap.size w w' :=
  best_panic 10000000 10000000 most 3 pc n cc w fun W P0 P1 P2 P3 hW p0 p1 p2 p3 => best1_many 10000000 10000000 (by decide) (by decide) (by decide) (by decide) most hm pc n cc W hn P0 P1 P2 P3 p0 p1 p2 p3
theorem best_e5 (most : Nat) (hmost : most ≤ 3) (F : Nat → Flm) (n m : Nat) (hn : n ≤ 6) (hm : m < n) (hF : ∀ i, i < m → (F i).ok) (hbad : ¬ (F m).ok) (pc : Option Addr) (cc : Nat) (w : World) (h : FilmsAt w pc n cc F) :
    Calls Tryz.prog 18 #[.int .i64 10000000, .int .i64 10000000, .slice pc n cc, .int .i64 (most : Int)] w fun e w' => e = .returned (.tuple #[.slice none 0 0, .agg quot0, .int .i64 400]) ∧ Below w.heap.size w w' :=
  best_panic 10000000 10000000 most 400 pc n cc w fun W P0 P1 P2 P3 hW p0 p1 p2 p3 => best1_bad 10000000 10000000 (by decide) (by decide) (by decide) (by decide) most hmost F m pc n cc W hn hm hF hbad (h.below hW) P0 P1 P2 P3 p0 p1 p2 p3
theorem valike_zero (w : World) : Calls Tryz.prog 29 #[.agg quad0, .agg quad0] w fun e w' => e = .returned (.bool true) ∧ Below w.heap.size w w' :=
  valike_of _ _ _ _ _ _ _ _ _ _ _ _ _ _ _ _ _ _ _ _ _ _ _ _ _ _ _ _ _ _ _ _ w (fun W _ => qsame_zero W) (fun W _ => qsame_zero W) (fun W _ => qsame_zero W) (fun W _ => qsame_zero W)
end Go.Proofs.YtdgodcgdlfjpaaaGreatDoor
