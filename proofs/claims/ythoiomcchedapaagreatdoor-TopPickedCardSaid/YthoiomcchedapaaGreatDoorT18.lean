/-
  One closed fact, or a few, that the tie of the listed variables, or the start that fits, asks for.
-/
import Derived.Test.YthoiomcchedapaaGreatDoorT0
import Derived.JoinedOf
import Derived.SevenTiedAt
import Derived.Test.YthoiomcchedapaaGreatDoorCards
set_option autoImplicit true
set_option relaxedAutoImplicit true
set_option linter.unusedVariables false
set_option linter.unusedSimpArgs false
namespace Go.Proofs.YthoiomcchedapaaGreatDoor
open Go
theorem j12 : ((Rows.topPickedRow.named == Tryz.pinned.checked.prog.varsNamed 8)) = true := by kernel_rfl

end Go.Proofs.YthoiomcchedapaaGreatDoor
