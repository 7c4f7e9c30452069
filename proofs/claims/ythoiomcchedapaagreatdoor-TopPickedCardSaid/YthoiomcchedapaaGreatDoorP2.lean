/-
  fallowtop.TopPicked: for every input, where the listed variables hold what the program's text lays: it returns true, and what came in reads as it did.
-/
import Derived.Test.YthoiomcchedapaaGreatDoorP1
import Derived.Test.YthoiomcchedapaaGreatDoorT1
import Derived.Test.YthoiomcchedapaaGreatDoorT2
import Derived.Test.YthoiomcchedapaaGreatDoorT7
import Derived.Test.YthoiomcchedapaaGreatDoorT11
import Derived.Test.YthoiomcchedapaaGreatDoorT12
import Derived.Test.YthoiomcchedapaaGreatDoorT13
import Derived.Test.YthoiomcchedapaaGreatDoorT23
import Derived.SevenTiedAt
import Derived.Test.YthoiomcchedapaaGreatDoorCards
set_option autoImplicit true
set_option relaxedAutoImplicit true
set_option linter.unusedVariables false
set_option linter.unusedSimpArgs false
open Go Go.Proofs Go.Fal
namespace Go.Proofs.YthoiomcchedapaaGreatDoor
open Go.ChangeShapes Go.WideShapes Go.ChangeAt Go.RowKit

theorem topPicked_holds : Rows.TopPickedSaid :=
  OpenClaim.holds_of_wide 8 Tryz.f8 rfl rfl rfl rfl rfl rfl rfl ⟨rfl, rfl, rfl, rfl, rfl⟩ rfl rfl rfl rfl rfl fa Tryz.func8 fb fc fd
    (fun os started H enc _ => K.picked_lifted os started H enc)

theorem tie0 : Tryz.prog.laidByTextLater laidL [.data, .listed, .sentinel, .sentinel, .data, .data, .data, .data, .handle] true :=
  Program.laidByTextLater_by_run_h 400 8 tka tkb tkc tkd tke thn thd th1 K.th2 th3
theorem picked_row_tie : Rows.topPickedRow.laidByTextAt .later Tryz.pinned [.data, .listed, .sentinel, .sentinel, .data, .data, .data, .data, .handle] true :=
  OpenClaim.laidByTextAt_later rfl rfl tie0 tkf

theorem topPickedCard_holds : Rows.TopPickedCardSaid :=
  Claim7.holds_tied_plain_at .later [] [.data, .listed, .sentinel, .sentinel, .data, .data, .data, .data, .handle] true (true, "eb50079ca19638c513abbdedf89215c81b995313272d55e78b4851633219906b") true
    topPicked_holds (fun _ h => by cases h) fe (fun _ h => by cases h) picked_row_tie rfl ⟨rfl, rfl⟩ ff rfl
    (fun f fn hf hfn => by
      obtain rfl : f = 8 := (Option.some.inj (fa.symm.trans hf)).symm
      obtain rfl : fn = Tryz.f8 := (Option.some.inj (Tryz.func8.symm.trans hfn)).symm
      exact ⟨fg, fun j t ht => by
        rw [Tryz.params8] at ht
        have hm : t ∈ [46, 4, 5, 46, 5, 5] := by simpa using Array.mem_of_getElem? ht
        exact (show Tryz.prog.wantsStandIn t = false by simpa using List.all_eq_true.1 fh t hm)⟩)
    fi
end Go.Proofs.YthoiomcchedapaaGreatDoor
