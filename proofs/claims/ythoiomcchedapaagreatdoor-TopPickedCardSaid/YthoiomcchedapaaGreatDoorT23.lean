/-
  One closed fact, or a few, that the tie of the listed variables, or the start that fits, asks for.
-/
import Derived.Test.YthoiomcchedapaaGreatDoorT14
import Derived.Test.YthoiomcchedapaaGreatDoorT15
import Derived.Test.YthoiomcchedapaaGreatDoorT16
import Derived.Test.YthoiomcchedapaaGreatDoorT17
import Derived.Test.YthoiomcchedapaaGreatDoorT18
import Derived.Test.YthoiomcchedapaaGreatDoorT19
import Derived.Test.YthoiomcchedapaaGreatDoorT20
import Derived.Test.YthoiomcchedapaaGreatDoorT21
import Derived.Test.YthoiomcchedapaaGreatDoorT22
import Derived.JoinedOf
import Derived.SevenTiedAt
import Derived.Test.YthoiomcchedapaaGreatDoorCards
set_option autoImplicit true
set_option relaxedAutoImplicit true
set_option linter.unusedVariables false
set_option linter.unusedSimpArgs false
namespace Go.Proofs.YthoiomcchedapaaGreatDoor
open Go
theorem andT {a b : Bool} (h : a = true) (h2 : b = true) : (a && b) = true := by rw [h, h2]; rfl
set_option maxRecDepth 100000 in
theorem fb : joinedFacts Tryz.pinned.checked.prog 8 Tryz.f8 Rows.topPickedSpec Rows.topPickedRow = true := by
  unfold joinedFacts
  exact (andT (andT (andT (andT (andT (andT (andT (andT (andT (andT (andT (andT (andT (andT (andT (andT (andT (andT (andT (andT (andT (andT (andT (andT (andT (andT (andT (andT (andT (andT (andT j0 j1) j2) j3) j4) j5) j6) j7) j8) j9) j10) j11) j12) j13) j14) j15) j16) j17) j18) j19) j20) j21) j22) j23) j24) j25) j26) j27) j28) j29) j30) j31)
end Go.Proofs.YthoiomcchedapaaGreatDoor
