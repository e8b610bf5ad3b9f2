/- The law ParaxialPowers: Index and Power equal the reference,its walk by a verified evaluator,and its card. Part 1 of 9. No condition beside the row. -/
import Derived.Test.YtpfpiecljfimjaaGreatDoorTie
import Derived.Test.YtpfpiecljfimjaaGreatDoorCards
import Derived.SevenTiedAt
import Derived.Test.YtpfpiecljfimjaaGreatDoorA01
set_option linter.unusedVariables false
set_option linter.unusedSimpArgs false
set_option maxRecDepth 100000
set_option maxHeartbeats 4000000
namespace Go.Proofs.YtpfpiecljfimjaaGreatDoor
open Go.RowKit
section
open Go Go.Proofs.W
theorem Zzp:joinedFacts Tryz.pinned.checked.prog 3 Tryz.f3 Rows.paraxialPowersSpec Rows.paraxialPowersRow=true:=by
 unfold joinedFacts;simp only[Yam];repeat' apply And.intro
 all_goals (as_aux_lemma=>kernel_rfl)
end
end Go.Proofs.YtpfpiecljfimjaaGreatDoor
