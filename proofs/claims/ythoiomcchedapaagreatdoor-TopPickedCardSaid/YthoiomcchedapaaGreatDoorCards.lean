/-
  DERIVED. GIVEN WITH THE SEED: THE CARDS: each row of YthoiomcchedapaaGreatDoorRows.lean that lists a variable, with what it lists TIED to the program's text (the seventh form; the later family's looks); each row that meets fmt, with fmt's text TOLD by the authors' own Lean function (tested against real Go, not proved from fmt's source: count such statements apart). THE CARD IS WHAT COUNTS. Prove the row's statement (the work); the ties are given (YthoiomcchedapaaGreatDoorTie.lean); close each card by the builder's one call (the guide's Derived/Test/ToyasCard.lean, 'card_holds'). Laid BY PROGRAM, IN A SANDBOX (cutbox-door.mjs). By AI agents, Wed Nov 11 2026. No macro, syntax, notation, axiom, sorry.
-/
import Derived.Test.YthoiomcchedapaaGreatDoorRows
import GoSem.ClaimSeven
namespace Go.Proofs.YthoiomcchedapaaGreatDoor
namespace Rows

/-- THE TIED CARD OF 'fallowtop.TopDerived'. -/
def topDerivedCard : Claim7 := { stood := { row := topDerivedRow, standIns := [], harness := (true, "eb50079ca19638c513abbdedf89215c81b995313272d55e78b4851633219906b"), looks := true }, kinds := [], alts := [], laidByText := true, laidKinds := [.data, .listed, .sentinel, .sentinel, .data, .data, .data, .data, .handle], laidTests := true, laidLooks := .later }
def TopDerivedCardSaid : Prop := Claim7.holds Tryz.pinned (.plain (OpenSpec.ofChange topDerivedSpec)) topDerivedCard

/-- THE TIED CARD OF 'fallowtop.TopPlayed'. -/
def topPlayedCard : Claim7 := { stood := { row := topPlayedRow, standIns := [], harness := (true, "eb50079ca19638c513abbdedf89215c81b995313272d55e78b4851633219906b"), looks := true }, kinds := [], alts := [], laidByText := true, laidKinds := [.data, .data, .data, .data, .listed, .sentinel, .sentinel, .data, .handle], laidTests := true, laidLooks := .later }
def TopPlayedCardSaid : Prop := Claim7.holds Tryz.pinned (.plain (OpenSpec.ofChange topPlayedSpec)) topPlayedCard

/-- THE TIED CARD OF 'fallowtop.TopBounded'. -/
def topBoundedCard : Claim7 := { stood := { row := topBoundedRow, standIns := [], harness := (true, "eb50079ca19638c513abbdedf89215c81b995313272d55e78b4851633219906b"), looks := true }, kinds := [], alts := [], laidByText := true, laidKinds := [.data, .listed, .sentinel, .sentinel, .data, .data, .data, .data, .handle], laidTests := true, laidLooks := .later }
def TopBoundedCardSaid : Prop := Claim7.holds Tryz.pinned (.plain (OpenSpec.ofChange topBoundedSpec)) topBoundedCard

/-- THE TIED CARD OF 'fallowtop.TopStowed'. -/
def topStowedCard : Claim7 := { stood := { row := topStowedRow, standIns := [], harness := (true, "eb50079ca19638c513abbdedf89215c81b995313272d55e78b4851633219906b"), looks := true }, kinds := [], alts := [], laidByText := true, laidKinds := [.data, .listed, .sentinel, .sentinel, .data, .data, .data, .data, .handle], laidTests := true, laidLooks := .later }
def TopStowedCardSaid : Prop := Claim7.holds Tryz.pinned (.plain (OpenSpec.ofChange topStowedSpec)) topStowedCard

/-- THE TIED CARD OF 'fallowtop.TopRun'. -/
def topRunCard : Claim7 := { stood := { row := topRunRow, standIns := [], harness := (true, "eb50079ca19638c513abbdedf89215c81b995313272d55e78b4851633219906b"), looks := true }, kinds := [], alts := [], laidByText := true, laidKinds := [.data, .data, .listed, .sentinel, .sentinel, .data, .data, .data, .handle], laidTests := true, laidLooks := .later }
def TopRunCardSaid : Prop := Claim7.holds Tryz.pinned (.plain (OpenSpec.ofChange topRunSpec)) topRunCard

/-- THE TIED CARD OF 'fallowtop.TopPicked'. -/
def topPickedCard : Claim7 := { stood := { row := topPickedRow, standIns := [], harness := (true, "eb50079ca19638c513abbdedf89215c81b995313272d55e78b4851633219906b"), looks := true }, kinds := [], alts := [], laidByText := true, laidKinds := [.data, .listed, .sentinel, .sentinel, .data, .data, .data, .data, .handle], laidTests := true, laidLooks := .later }
def TopPickedCardSaid : Prop := Claim7.holds Tryz.pinned (.plain (OpenSpec.ofChange topPickedSpec)) topPickedCard

/-- THE SECOND FORM's CARD OF 'fallowtop.TopDerived'. -/
def topDerivedUptoCard : Claim7 := { stood := { row := topDerivedUptoRow, standIns := [], harness := (true, "eb50079ca19638c513abbdedf89215c81b995313272d55e78b4851633219906b"), looks := true }, kinds := [], alts := [], laidByText := true, laidKinds := [.data, .listed, .sentinel, .sentinel, .data, .data, .data, .data, .handle], laidTests := true, laidLooks := .later }
def TopDerivedUptoCardSaid : Prop := Claim7.holds Tryz.pinned (.plain (OpenSpec.upto topDerivedSpec)) topDerivedUptoCard

/-- THE SECOND FORM's CARD OF 'fallowtop.TopPlayed'. -/
def topPlayedUptoCard : Claim7 := { stood := { row := topPlayedUptoRow, standIns := [], harness := (true, "eb50079ca19638c513abbdedf89215c81b995313272d55e78b4851633219906b"), looks := true }, kinds := [], alts := [], laidByText := true, laidKinds := [.data, .data, .data, .data, .listed, .sentinel, .sentinel, .data, .handle], laidTests := true, laidLooks := .later }
def TopPlayedUptoCardSaid : Prop := Claim7.holds Tryz.pinned (.plain (OpenSpec.upto topPlayedSpec)) topPlayedUptoCard

/-- THE SECOND FORM's CARD OF 'fallowtop.TopBounded'. -/
def topBoundedUptoCard : Claim7 := { stood := { row := topBoundedUptoRow, standIns := [], harness := (true, "eb50079ca19638c513abbdedf89215c81b995313272d55e78b4851633219906b"), looks := true }, kinds := [], alts := [], laidByText := true, laidKinds := [.data, .listed, .sentinel, .sentinel, .data, .data, .data, .data, .handle], laidTests := true, laidLooks := .later }
def TopBoundedUptoCardSaid : Prop := Claim7.holds Tryz.pinned (.plain (OpenSpec.upto topBoundedSpec)) topBoundedUptoCard

/-- THE SECOND FORM's CARD OF 'fallowtop.TopStowed'. -/
def topStowedUptoCard : Claim7 := { stood := { row := topStowedUptoRow, standIns := [], harness := (true, "eb50079ca19638c513abbdedf89215c81b995313272d55e78b4851633219906b"), looks := true }, kinds := [], alts := [], laidByText := true, laidKinds := [.data, .listed, .sentinel, .sentinel, .data, .data, .data, .data, .handle], laidTests := true, laidLooks := .later }
def TopStowedUptoCardSaid : Prop := Claim7.holds Tryz.pinned (.plain (OpenSpec.upto topStowedSpec)) topStowedUptoCard

/-- THE SECOND FORM's CARD OF 'fallowtop.TopRun'. -/
def topRunUptoCard : Claim7 := { stood := { row := topRunUptoRow, standIns := [], harness := (true, "eb50079ca19638c513abbdedf89215c81b995313272d55e78b4851633219906b"), looks := true }, kinds := [], alts := [], laidByText := true, laidKinds := [.data, .data, .listed, .sentinel, .sentinel, .data, .data, .data, .handle], laidTests := true, laidLooks := .later }
def TopRunUptoCardSaid : Prop := Claim7.holds Tryz.pinned (.plain (OpenSpec.upto topRunSpec)) topRunUptoCard

/-- THE SECOND FORM's CARD OF 'fallowtop.TopPicked'. -/
def topPickedUptoCard : Claim7 := { stood := { row := topPickedUptoRow, standIns := [], harness := (true, "eb50079ca19638c513abbdedf89215c81b995313272d55e78b4851633219906b"), looks := true }, kinds := [], alts := [], laidByText := true, laidKinds := [.data, .listed, .sentinel, .sentinel, .data, .data, .data, .data, .handle], laidTests := true, laidLooks := .later }
def TopPickedUptoCardSaid : Prop := Claim7.holds Tryz.pinned (.plain (OpenSpec.upto topPickedSpec)) topPickedUptoCard
end Rows
end Go.Proofs.YthoiomcchedapaaGreatDoor
