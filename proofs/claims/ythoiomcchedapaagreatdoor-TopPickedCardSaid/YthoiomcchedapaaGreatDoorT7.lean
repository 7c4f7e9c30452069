/-
  One closed fact, or a few, that the tie of the listed variables, or the start that fits, asks for.
-/
import Derived.Test.YthoiomcchedapaaGreatDoorT0
set_option autoImplicit true
set_option relaxedAutoImplicit true
set_option linter.unusedVariables false
set_option linter.unusedSimpArgs false
namespace Go.Proofs.YthoiomcchedapaaGreatDoor
open Go
theorem tka : Tryz.prog.worded (varsWordLater true) = true := by kernel_rfl
theorem tkb : Tryz.prog.worded (varsWordLater !true) = false := by kernel_rfl
theorem tkc : Tryz.prog.worded rootWordLater = true := by kernel_rfl
theorem tkd : laidL.map (fun x => Tryz.prog.kindOfLater x.1) = [LaidKind.data, .listed, .sentinel, .sentinel, .data, .data, .data, .data, .handle].map some := by kernel_rfl
theorem tke : (Tryz.prog.funcNamed "gosem.cut.vars").isSome = true := by kernel_rfl
theorem tkf : Tryz.pinned.checked.prog.headLifts.contains "ownunsafe" = false := by kernel_rfl
end Go.Proofs.YthoiomcchedapaaGreatDoor
