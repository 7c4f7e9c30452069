/-
  One closed fact, or a few, that the tie of the listed variables, or the start that fits, asks for.
-/
import Derived.Test.YthoiomcchedapaaGreatDoorT0
import Derived.JoinedOf
import Derived.SevenTiedAt
import Derived.Test.YthoiomcchedapaaGreatDoorCards
set_option autoImplicit true
set_option relaxedAutoImplicit true
set_option linter.unusedVariables false
set_option linter.unusedSimpArgs false
namespace Go.Proofs.YthoiomcchedapaaGreatDoor
open Go
theorem fc : Tryz.f8.isInstance Tryz.pinned.checked.prog Rows.topPickedRow.origin Rows.topPickedRow.targs := of_decide_eq_true (by kernel_rfl)
theorem fd : Tryz.f8.isWrapper Tryz.pinned.checked.prog Rows.topPickedRow.wrapper Rows.topPickedRow.mainSum := by unfold Func.isWrapper; rw [if_neg (of_decide_eq_false (by kernel_rfl))]; exact ⟨rfl, rfl⟩
theorem fe : Rows.topPickedRow.wfByText (OpenSpec.ofChange Rows.topPickedSpec) = true := by kernel_rfl
theorem ff : Tryz.pinned.checked.prog.mainIs = some (true, "eb50079ca19638c513abbdedf89215c81b995313272d55e78b4851633219906b".toList) := by kernel_rfl
theorem fg : true = Tryz.prog.looks [] := by kernel_rfl
theorem fh : (([46, 4, 5, 46, 5, 5] : List TypeId).all fun u => !Tryz.prog.wantsStandIn u) = true := by kernel_rfl

end Go.Proofs.YthoiomcchedapaaGreatDoor
