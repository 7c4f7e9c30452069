/-
  One closed fact, or a few, that the tie of the listed variables, or the start that fits, asks for.
-/
import Derived.Test.YthoiomcchedapaaGreatDoorT0
import Derived.JoinedOf
import Derived.SevenTiedAt
import Derived.Test.YthoiomcchedapaaGreatDoorCards
set_option autoImplicit true
set_option relaxedAutoImplicit true
set_option linter.unusedVariables false
set_option linter.unusedSimpArgs false
namespace Go.Proofs.YthoiomcchedapaaGreatDoor
open Go
theorem j3 : (Tryz.f8.params.all (Tryz.pinned.checked.prog.readableRec ·)) = true := by kernel_rfl
theorem j4 : (namedTie Tryz.pinned.checked.prog Rows.topPickedRow.named Rows.topPickedSpec.vars) = true := by kernel_rfl
theorem j5 : ((Rows.topPickedRow.stops == [])) = true := by kernel_rfl
theorem j6 : ((Tryz.pinned.checked.prog.stops == [])) = true := by kernel_rfl
theorem j7 : ((Rows.topPickedRow.knobs == [])) = true := by kernel_rfl
theorem j8 : ((Tryz.pinned.checked.prog.stopKnobs == [])) = true := by kernel_rfl

end Go.Proofs.YthoiomcchedapaaGreatDoor
