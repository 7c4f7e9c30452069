/-
  stands(), and what it asks, reckoned once for all by the kernel over the heap of the listed rows: from there each call of them may be taken as done.
-/
import Derived.Test.YthoiomcchedapaaGreatDoorM1
set_option autoImplicit true
set_option relaxedAutoImplicit true
set_option linter.unusedVariables false
set_option linter.unusedSimpArgs false
open Go Go.Proofs Go.Fal
namespace K
/-- the machine runs -/
theorem run_stands (m : Int) : enterK c2 (runK c2 1000000) 24 [] (hb m) (fun u _ => vbF u (.bool true)) = true := by kernel_rfl
end K
