/- The law CoatJoins: two films of one index are one, and films of the outer indices change nothing: its walk and its card. Part 3 of 9. No condition beside the row. -/
import Derived.LaidOnce
import Derived.LaidMore
import Derived.ProofKit
import Derived.Stop.Joined
import Derived.Test.YtdgodcgdlfjpaaaGreatDoorRows
import Derived.Test.YtdgodcgdlfjpaaaGreatDoorTie
import Derived.Test.YtdgodcgdlfjpaaaGreatDoorCards
import Derived.SevenTiedAt
import Derived.Deep.Onto
import Derived.Test.YtdgodcgdlfjpaaaGreatDoorA04
import Derived.Test.YtdgodcgdlfjpaaaGreatDoorA25
import Derived.Test.YtdgodcgdlfjpaaaGreatDoorJ01
set_option linter.unusedVariables false
set_option linter.unusedSimpArgs false
namespace Go.Proofs.YtdgodcgdlfjpaaaGreatDoor
open Go Go.ChangeShapes Go.WideShapes Go.ChangeAt Go.RowKit Go.Mono
theorem own40 : ownKnob Tryz.prog.godebug = none := by kernel_rfl
theorem door40 (os : Os) (args : Array Value) : laidMetH Tryz.prog Rows.coatKnownRow.laid ((World.doorLaid Tryz.prog 4000 os).forCall (fun _ _ => 0) ⟨#[], args, []⟩).memory :=
 laidMetH_of_parts3 (fuel := 8) (laidMet_of_run' 8 (by kernel_rfl) (by kernel_rfl)) (by kernel_rfl) (by kernel_rfl)
theorem keptBut40 {w w' : World} (h : Below w.heap.size w w') (may : MemPlace → Prop) : w.keptBut w' may :=
 (World.keptBut_refl w may).congr h.os h.output (fun i hi => h.block i hi)
end Go.Proofs.YtdgodcgdlfjpaaaGreatDoor
namespace Go.Proofs.YtdgodcgdlfjpaaaGreatDoor
open Go.RowKit Go.Mono
theorem frow_ones (G : Nat → Flm) (n : Nat) : ∀ u ∈ frow G n, u.oneCell' = true := by
 induction n with
 | zero => intro u hu; cases hu
 | succ n ih =>
   intro u hu
   rw [frow, List.mem_append] at hu
   rcases hu with hu | hu
   ·exact ih u hu
   ·simp [Flm.vals] at hu
    rcases hu with rfl | rfl | rfl <;> rfl
theorem films_cells {w : World} {b : Addr} {n c : Nat} {F : Nat → Flm} (h : FilmsAt w (some b) n c F) : ∀ j u, (frow F n)[j]? = some u → w.cell? (b.add j) = some u := by
 intro j u hj
 have hl : j < (frow F n).length := (List.getElem?_eq_some_iff.1 hj).1
 rw [frow_length] at hl
 obtain ⟨b', off, hp, hb, hc⟩ := h.2.2 (by omega)
 cases hp
 have h1 := hc (j / 3) (j % 3) (by omega) (by omega)
 have h2 := frow_get F n (j / 3) (j % 3) (by omega) (by omega)
 rw [show j / 3 * 3 + j % 3 = j by omega] at h2
 rw [h2] at hj
 cases hj
 rw [Addr.add_lit, ← h1]
 congr 2
 omega
set_option maxRecDepth 100000 in
set_option maxHeartbeats 2000000 in
theorem clone_ok (p : Option Addr) (n c : Nat) (hn : n ≤ 1000) (F : Nat → Flm) (w : World) (h : FilmsAt w p n c F) (hp : p = none → n = 0 ∧ c = 0) :
  Calls Tryz.prog 33 #[.slice p n c] w fun e w' => ∃ p' c', e = .returned (.slice p' n c') ∧ w'.ownsRow w.heap.size 24 3 (.slice p' n c') n (frow F n) ∧ Below w.heap.size w w' := by
 obtain ⟨ti, hti1, htz, hts, htb⟩ := info_parts infoFilm
 cases p with
 | none =>
   obtain ⟨rfl, rfl⟩ := hp rfl
   have hnil : ∀ w, (binOp BinOp.eql 27 (Value.slice none 0 0) (Value.slice none 0 0)).run Tryz.prog w = .ok (.bool true) w := fun w => by kernel_rfl
   go_enter Tryz.func33, Tryz.ntmps33
   go_wp2
   go_ret
   exact ⟨none, 0, rfl, World.ownsRow_nil _ _ _ _, Below.refl _ _⟩
 | some b =>
   have hb1 : Below w.heap.size w (w.alloc (.cells #[] 24)) := belowAlloc (Below.refl _ _) _
   have hcl := films_cells (h.below hb1)
   have hown : (w.alloc (.cells #[] 24)).ownsRow w.heap.size 24 3 (.slice (some ⟨w.heap.size, 0, none⟩) 0 0) 0 [] := ⟨rfl, .inr ⟨w.heap.size, 0, #[], rfl, Nat.le_refl _, (Box.new _ _ _).blk, Nat.le_refl _, Nat.zero_le _, rfl, rfl⟩⟩
   have hnil : ∀ w, (binOp BinOp.eql 27 (Value.slice (some b) n c) (Value.slice none 0 0)).run Tryz.prog w = .ok (.bool false) w := fun w => by kernel_rfl
   have hfl := frow_length F n
   have hf1 := frow_ones F n
   generalize frow F n = row at *
   go_enter Tryz.func33, Tryz.ntmps33
   go_wp2_with first | (refine wpList_append_own _ rfl _ _ 27 rfl w.heap.size 24 ti _ 3 24 Tryz.underlying27 hti1 htz hts htb rfl (by decide) _ _ _ rfl hown b n c row rfl hfl hcl hf1 (by simp [maxLen]; omega) (by omega) hb1.size ?_; intro v' W3 hown3 hgrow _)
   have hB3 := Below.appended hown hgrow hb1 (Nat.le_refl _)
   rw [Nat.zero_add] at hown3
   obtain ⟨p', c', rfl⟩ := ownsRow_slice hown3
   go_wp2
   go_ret
   exact ⟨p', c', rfl, hown3, hB3⟩
end Go.Proofs.YtdgodcgdlfjpaaaGreatDoor
