/-
  One closed fact, or a few, that the tie of the listed variables, or the start that fits, asks for.
-/
import Derived.Test.YthoiomcchedapaaGreatDoorT0
import Derived.JoinedOf
import Derived.SevenTiedAt
import Derived.Test.YthoiomcchedapaaGreatDoorCards
set_option autoImplicit true
set_option relaxedAutoImplicit true
set_option linter.unusedVariables false
set_option linter.unusedSimpArgs false
namespace Go.Proofs.YthoiomcchedapaaGreatDoor
open Go
theorem noGo : Tryz.pinned.checked.prog.funcs.any Func.goes = false := by kernel_rfl
theorem goes_false {P : Program} (h : P.funcs.any Func.goes = false) (f : FuncId) : P.goes f = false := by
  unfold Program.goes
  rw [h, Bool.and_false, Bool.or_false, List.any_eq_false]
  intro g _
  cases hf : P.funcs[g]? with
  | none => simp
  | some fn =>
    have := Array.any_eq_false.1 h
    obtain ⟨hi, e⟩ := Array.getElem?_eq_some_iff.1 hf
    have h2 := this g hi
    rw [e] at h2
    simpa using h2
theorem goesBy_false {c : OpenClaim} {P : Program} (h : P.funcs.any Func.goes = false) (hs : c.start = .entering) : c.goesBy P = false := by
  unfold OpenClaim.goesBy Program.goesAt Program.goesFrom
  rw [hs]
  cases P.funcNamed c.func with
  | none => rfl
  | some f => simp [goes_false h]
theorem fi : false = Rows.topPickedRow.goesBy Tryz.pinned.checked.prog := (goesBy_false noGo rfl).symm

end Go.Proofs.YthoiomcchedapaaGreatDoor
