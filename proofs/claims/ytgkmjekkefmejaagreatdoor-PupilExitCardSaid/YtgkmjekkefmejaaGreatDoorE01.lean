/- The law PupilExit: the chief ray meets the center of the exit pupil,the marginal ray its edge;its contracts,its walk and its card. Part 1 of 11. No condition beside the row. -/
import Derived.Test.YtgkmjekkefmejaaGreatDoorTie
import Derived.Test.YtgkmjekkefmejaaGreatDoorCards
import Derived.SevenTiedAt
import Derived.Test.YtgkmjekkefmejaaGreatDoorA01
set_option linter.unusedVariables false
set_option linter.unusedSimpArgs false
set_option maxRecDepth 100000
set_option maxHeartbeats 4000000
namespace Go.Proofs.YtgkmjekkefmejaaGreatDoor
open Go.RowKit
section
open Go Go.Proofs.W
theorem Zz6:joinedFacts Tryz.pinned.checked.prog 4 Tryz.f4 Rows.pupilExitSpec Rows.pupilExitRow=true:=by
 unfold joinedFacts;simp only[Yam];repeat' apply And.intro
 all_goals (as_aux_lemma=>kernel_rfl)
end
end Go.Proofs.YtgkmjekkefmejaaGreatDoor
