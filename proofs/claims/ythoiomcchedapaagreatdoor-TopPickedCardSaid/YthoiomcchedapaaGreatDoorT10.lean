/-
  One closed fact, or a few, that the tie of the listed variables, or the start that fits, asks for.
-/
import Derived.Test.YthoiomcchedapaaGreatDoorT0
set_option autoImplicit true
set_option relaxedAutoImplicit true
set_option linter.unusedVariables false
set_option linter.unusedSimpArgs false
namespace Go.Proofs.YthoiomcchedapaaGreatDoor
open Go
theorem wt3 (os : Os) : Input.okWideB Tryz.prog ((World.doorLaid Tryz.prog 400 os).forCall (fun _ _ => 0) ⟨#[], #[.slice none 0 0, .bool false, .int .u8 0, .slice none 0 0, .int .u8 0, .int .u8 0], []⟩) 8 ⟨#[], #[.slice none 0 0, .bool false, .int .u8 0, .slice none 0 0, .int .u8 0, .int .u8 0], []⟩ = true := by kernel_rfl
theorem wt4 {H : Type} (enc : TypeId × Value → H) (os : Os) : Rows.topPickedSpec.preB enc Tryz.prog Tryz.f8 Rows.topPickedRow.domain false ((World.doorLaid Tryz.prog 400 os).forCall (fun _ _ => 0) ⟨#[], #[.slice none 0 0, .bool false, .int .u8 0, .slice none 0 0, .int .u8 0, .int .u8 0], []⟩).memory #[.slice none 0 0, .bool false, .int .u8 0, .slice none 0 0, .int .u8 0, .int .u8 0] 8 = true := by kernel_rfl
theorem wt5 {H : Type} (enc : TypeId × Value → H) (os : Os) : Rows.topPickedSpec.sizedB enc Tryz.prog Tryz.f8 false ((World.doorLaid Tryz.prog 400 os).forCall (fun _ _ => 0) ⟨#[], #[.slice none 0 0, .bool false, .int .u8 0, .slice none 0 0, .int .u8 0, .int .u8 0], []⟩).memory #[.slice none 0 0, .bool false, .int .u8 0, .slice none 0 0, .int .u8 0, .int .u8 0] 8 = true := by kernel_rfl
end Go.Proofs.YthoiomcchedapaaGreatDoor
