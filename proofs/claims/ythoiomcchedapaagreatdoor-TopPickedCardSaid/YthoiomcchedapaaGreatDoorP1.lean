/-
  fallowtop.TopPicked: for every input, where the listed variables hold what the program's text lays: it returns true, and what came in reads as it did.
-/
import Derived.Test.YthoiomcchedapaaGreatDoorX3
import Derived.Test.YthoiomcchedapaaGreatDoorT8
import Derived.Test.YthoiomcchedapaaGreatDoorT9
import Derived.Test.YthoiomcchedapaaGreatDoorT10
import Derived.Test.YthoiomcchedapaaGreatDoorT3
import Derived.Test.YthoiomcchedapaaGreatDoorT4
import Derived.Test.YthoiomcchedapaaGreatDoorT5
import Derived.Test.YthoiomcchedapaaGreatDoorT6
import Derived.Stop.Joined
set_option autoImplicit true
set_option relaxedAutoImplicit true
set_option linter.unusedVariables false
set_option linter.unusedSimpArgs false
open Go Go.Proofs Go.Fal
namespace K
open Go.Proofs.YthoiomcchedapaaGreatDoor
open Go.ChangeShapes Go.WideShapes Go.ChangeAt Go.RowKit

theorem th2 : ∀ os tape, (DataW.laidRun Tryz.prog (varsWorld Tryz.prog 400 (varsId Tryz.prog) os tape).memory 8 ((laidL.filter fun x => x.2.handleName?.isNone).map (·.1))).map (fun x => decide x.2.Nodup && laidRowsB Tryz.prog (varsWorld Tryz.prog 400 (varsId Tryz.prog) os tape).memory x.2) = some true := by
  intro os tape
  have a := th2n os tape
  have b := th2b os tape
  generalize DataW.laidRun Tryz.prog (varsWorld Tryz.prog 400 (varsId Tryz.prog) os tape).memory 8 ((laidL.filter fun x => x.2.handleName?.isNone).map (·.1)) = r at *
  cases r with
  | none => cases a
  | some x =>
    simp only [Option.map_some, Option.some.injEq] at a b ⊢
    rw [b, decide_eq_true (chk_nodup a).2]
    rfl

theorem door_run (os : Os) (tape : Tape) : laidMetH Tryz.prog laidL (varsWorld Tryz.prog 400 (varsId Tryz.prog) os tape).memory :=
  laidMetH_of_parts (laidMet_of_run' 8 (th1 os tape) (th2 os tape)) (th3 os tape)

theorem door_met (os : Os) (args : Array Value) : laidMetH Tryz.prog laidL ((World.doorLaid Tryz.prog 400 os).forCall (fun _ _ => 0) ⟨#[], args, []⟩).memory :=
  laidMetH.of_heap (by simp [World.memory, World.forCall, World.doorLaid, Input.heap]) (door_run os (fun _ _ => 0))

theorem rowLaid : Rows.topPickedRow.laid = laidL := rfl

set_option maxRecDepth 100000 in
theorem picked_lifted (os : Os) (started : os.Started) (H : Type) (enc : TypeId × Value → H) :
    ReturnsInHanded {} Tryz.checked os 8 .any (fun w args => (Rows.topPickedSpec.pre enc Tryz.prog Tryz.f8 Rows.topPickedRow.domain false w args ∧ laidMetH Tryz.prog Rows.topPickedRow.laid w) ∧ sizedMet enc Tryz.prog Tryz.f8 (OpenSpec.ofChange Rows.topPickedSpec) false w args)
      (Rows.topPickedSpec.post enc Tryz.prog Tryz.f8 false true false false) := by
  refine handed_shaped (C := Tryz.checked) (X := fun w _ => laidMetH Tryz.prog Rows.topPickedRow.laid w) (fun _ _ _ hh h => laidMetH.of_heap hh h) own0 started (by kernel_rfl) Tryz.func8
    (ChangeSpec.witness_shaped (enc := enc) (C := Tryz.checked) (os := os) (X := fun w _ => laidMetH Tryz.prog Rows.topPickedRow.laid w) false (World.doorLaid Tryz.prog 400 os) _ 8 rfl (World.shaped_of_RefB (wt1 os) (wt2 os)) (wt3 os) (wt4 enc os) (wt5 enc os) (door_met os _)) ?_
  intro W base args ds gs before hsh hval hW _ hz hL _
  exact picked_contract W base args ds gs before hsh hval hW hz hL
end K
