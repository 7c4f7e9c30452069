/-
  stands(), and what it asks, reckoned once for all by the kernel over the heap of the listed rows: from there each call of them may be taken as done.
-/
import Derived.Test.YthoiomcchedapaaGreatDoorM1
set_option autoImplicit true
set_option relaxedAutoImplicit true
set_option linter.unusedVariables false
set_option linter.unusedSimpArgs false
open Go Go.Proofs Go.Fal
namespace K
/-- the source is compiled -/
theorem run_compile (m : Int) : enterK c1 (runK c1 1000000) 169 [.str srcS, .int .i64 24] (hb m) (fun u _ => vbF u (.tup [.str imgS, .nili])) = true := by kernel_rfl
end K
