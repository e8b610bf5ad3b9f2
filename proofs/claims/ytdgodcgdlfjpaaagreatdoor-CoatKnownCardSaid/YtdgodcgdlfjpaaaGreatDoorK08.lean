/- CoatKnown returns true. Part 8 of 8. No condition beside the row. -/
import Derived.Test.YtdgodcgdlfjpaaaGreatDoorA39
import Derived.Test.YtdgodcgdlfjpaaaGreatDoorK05
import Derived.Test.YtdgodcgdlfjpaaaGreatDoorK07
set_option linter.unusedVariables false
set_option linter.unusedSimpArgs false
namespace Go.Proofs.YtdgodcgdlfjpaaaGreatDoor
open Go.RowKit Go.Mono
/-- CoatKnown returns true -/
theorem coatKnown_holds : Rows.CoatKnownCardSaid := coatKnown_card fun w => vknown_of (Lib.hid fun w => vworks_ok w) w
#print axioms coatKnown_holds
end Go.Proofs.YtdgodcgdlfjpaaaGreatDoor
