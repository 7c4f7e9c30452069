/-
  One closed fact, or a few, that the tie of the listed variables, or the start that fits, asks for.
-/
import Derived.Test.YthoiomcchedapaaGreatDoorT0
import Derived.JoinedOf
import Derived.SevenTiedAt
import Derived.Test.YthoiomcchedapaaGreatDoorCards
set_option autoImplicit true
set_option relaxedAutoImplicit true
set_option linter.unusedVariables false
set_option linter.unusedSimpArgs false
namespace Go.Proofs.YthoiomcchedapaaGreatDoor
open Go
theorem j27 : ((Tryz.pinned.checked.prog.make == some Rows.topPickedRow.make)) = true := by kernel_rfl
theorem j28 : ((Rows.topPickedRow.kinds == (if Rows.topPickedRow.domain.isEmpty then [] else Tryz.f8.params.toList.map fun t => match Tryz.pinned.checked.prog.underlying t with | some (.int k) => some k | _ => none))) = true := by kernel_rfl
theorem j29 : ((Rows.topPickedRow.pinned == Rows.topPickedRow.pinnedBy)) = true := by kernel_rfl
theorem j30 : ((Rows.topPickedRow.veiled == (Tryz.f8.params.toList ++ Rows.topPickedSpec.plain.varTypes Tryz.pinned.checked.prog ++ Tryz.f8.resultTypes.toList).any (Tryz.pinned.checked.prog.veiledRec ·))) = true := by kernel_rfl
theorem j31 : (Rows.topPickedRow.veiledFits Tryz.pinned.checked.prog Tryz.f8.params.toList (Tryz.f8.params.toList ++ Rows.topPickedSpec.plain.varTypes Tryz.pinned.checked.prog ++ Tryz.f8.resultTypes.toList)) = true := by kernel_rfl

end Go.Proofs.YthoiomcchedapaaGreatDoor
