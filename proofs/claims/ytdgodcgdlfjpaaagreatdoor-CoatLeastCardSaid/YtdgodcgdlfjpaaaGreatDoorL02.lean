/- CoatLeast returns true for every list of thin films, every list of octets and every two small numbers. Part 2 of 7. No condition beside the row. -/
import Derived.LaidOnce
import Derived.LaidMore
import Derived.ProofKit
import Derived.Stop.Joined
import Derived.Test.YtdgodcgdlfjpaaaGreatDoorRows
import Derived.Test.YtdgodcgdlfjpaaaGreatDoorTie
import Derived.Test.YtdgodcgdlfjpaaaGreatDoorCards
import Derived.SevenTiedAt
import Derived.Deep.Onto
import Derived.Test.YtdgodcgdlfjpaaaGreatDoorA21
set_option linter.unusedVariables false
set_option linter.unusedSimpArgs false
namespace Go.Proofs.YtdgodcgdlfjpaaaGreatDoor
open Go Go.ChangeShapes Go.WideShapes Go.ChangeAt Go.RowKit Go.Mono
theorem own40 : ownKnob Tryz.prog.godebug = none := by kernel_rfl
theorem door40 (os : Os) (args : Array Value) : laidMetH Tryz.prog Rows.coatKnownRow.laid ((World.doorLaid Tryz.prog 4000 os).forCall (fun _ _ => 0) ⟨#[], args, []⟩).memory :=
  laidMetH_of_parts3 (fuel := 8) (laidMet_of_run' 8 (by kernel_rfl) (by kernel_rfl)) (by kernel_rfl) (by kernel_rfl)
theorem keptBut40 {w w' : World} (h : Below w.heap.size w w') (may : MemPlace → Prop) : w.keptBut w' may :=
  (World.keptBut_refl w may).congr h.os h.output (fun i hi => h.block i hi)
end Go.Proofs.YtdgodcgdlfjpaaaGreatDoor
