/- The last step of the proof that the law ParaxialKnown returns true, whatever stands in memory, if the two listed variables hold what the text lays: contracts of the functions that it reaches. No condition beside the row. -/
import Derived.Test.YtepodcocemmejaaGreatDoorA37
import Derived.Test.YtepodcocemmejaaGreatDoorA51
import Derived.Test.YtepodcocemmejaaGreatDoorA53
set_option linter.unusedVariables false
set_option linter.unusedSimpArgs false
namespace Go.Proofs.YtepodcocemmejaaGreatDoor
open Go.RowKit Go.Mono
/-- ParaxialKnown returns true -/
theorem known_holds : Rows.ParaxialKnownCardSaid := known_card fun w m hp => known_of (Lib.hid works_ok) w m hp
#print axioms known_holds
end Go.Proofs.YtepodcocemmejaaGreatDoor
