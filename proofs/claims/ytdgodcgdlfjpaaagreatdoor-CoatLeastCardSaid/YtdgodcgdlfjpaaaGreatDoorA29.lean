/- Contracts of package coat and of the examples of its law, for the laws of layer 40. Part 29 of 39. No condition beside the row. -/
import Derived.WalkMore
import Derived.Outline
import Derived.Defers
import Derived.Recover
import Derived.Laws.Pointers
import Derived.Test.YtdgodcgdlfjpaaaGreatDoorA03
import Derived.Test.YtdgodcgdlfjpaaaGreatDoorA28
set_option linter.unusedVariables false
set_option linter.unusedSimpArgs false
namespace Go.Proofs.YtdgodcgdlfjpaaaGreatDoor
open Go.RowKit Go.Mono
def qq0 : Array Value := #[.bool false, .slice none 0 0, .bool false, .slice none 0 0, .bool false, .slice none 0 0, .bool false, .slice none 0 0]
theorem alloc_q2 (w : World) : (Instr.alloc 55 true (.tuple #[])).run Tryz.prog w = .ok (.pointer (some ⟨w.heap.size, 0, none⟩)) (w.alloc (.cells qq0 55)) := by
  unfold qq0
  go_simp
theorem sizeQ2 : (Tryz.prog.info? 55).map (·.size) = some 8 := by kernel_rfl
end Go.Proofs.YtdgodcgdlfjpaaaGreatDoor

