/- The law MatrixUnit: its walk and its card. Part 1 of 5. No condition beside the row. -/
import Derived.Test.YtdocaccajammkaaGreatDoorTie
import Derived.Test.YtdocaccajammkaaGreatDoorCards
import Derived.SevenTiedAt
import Derived.Test.YtdocaccajammkaaGreatDoorA01
set_option linter.unusedVariables false
set_option linter.unusedSimpArgs false
set_option maxRecDepth 100000
set_option maxHeartbeats 4000000
namespace Go.Proofs.YtdocaccajammkaaGreatDoor
open Go.RowKit
section
open Go Go.Proofs.W
theorem rf2P:joinedFacts Tryz.pinned.checked.prog 4 Tryz.f4 Rows.matrixUnitSpec Rows.matrixUnitRow=true:=by
 unfold joinedFacts;simp only[Yam];repeat' apply And.intro
 all_goals (as_aux_lemma=>kernel_rfl)
end
end Go.Proofs.YtdocaccajammkaaGreatDoor
