/-
  stands(), and what it asks, reckoned once for all by the kernel over the heap of the listed rows: from there each call of them may be taken as done.
-/
import Derived.Test.YthoiomcchedapaaGreatDoorM1
set_option autoImplicit true
set_option relaxedAutoImplicit true
set_option linter.unusedVariables false
set_option linter.unusedSimpArgs false
open Go Go.Proofs Go.Fal
namespace K
/-- strings.Index, at the one place that the limit decides -/
theorem run_index0 : enterK c0 (runK c0 2000) 483 [.str opsS, .str [32, 42, 32]] (hb (.ofNat 0)) (fun u _ => vbF u (.int .i64 30)) = true := by kernel_rfl
theorem run_index1 : enterK c0 (runK c0 2000) 483 [.str opsS, .str [32, 42, 32]] (hb (.ofNat 1)) (fun u _ => vbF u (.int .i64 30)) = true := by kernel_rfl
theorem run_index2 : enterK c0 (runK c0 2000) 483 [.str opsS, .str [32, 42, 32]] (hb (.ofNat 2)) (fun u _ => vbF u (.int .i64 30)) = true := by kernel_rfl
theorem run_index3 (k : Nat) : enterK c0 (runK c0 2000) 483 [.str opsS, .str [32, 42, 32]] (hb (.ofNat (Nat.succ (Nat.succ (Nat.succ k))))) (fun u _ => vbF u (.int .i64 30)) = true := by kernel_rfl
theorem run_index4 (k : Nat) : enterK c0 (runK c0 2000) 483 [.str opsS, .str [32, 42, 32]] (hb (.negSucc k)) (fun u _ => vbF u (.int .i64 30)) = true := by kernel_rfl
theorem run_index (m : Int) : enterK c0 (runK c0 2000) 483 [.str opsS, .str [32, 42, 32]] (hb m) (fun u _ => vbF u (.int .i64 30)) = true := by
  cases m with
  | ofNat k =>
    cases k with
    | zero => exact run_index0
    | succ k => cases k with
      | zero => exact run_index1
      | succ k => cases k with
        | zero => exact run_index2
        | succ k => exact run_index3 k
  | negSucc k => exact run_index4 k
end K
