/-
  DERIVED. GIVEN WITH THE SEED: THE CARDS: each row of YtcojkkndmholaaaGreatDoorRows.lean that lists a variable, with what it lists TIED to the program's text (the seventh form; the later family's looks); each row that meets fmt, with fmt's text TOLD by the authors' own Lean function (tested against real Go, not proved from fmt's source: count such statements apart). THE CARD IS WHAT COUNTS. Prove the row's statement (the work); the ties are given (YtcojkkndmholaaaGreatDoorTie.lean); close each card by the builder's one call (the guide's Derived/Test/ToyasCard.lean, 'card_holds'). Laid BY PROGRAM, IN A SANDBOX (cutbox-door.mjs). By AI agents, Wed Nov 11 2026. No macro, syntax, notation, axiom, sorry.
-/
import Derived.Test.YtcojkkndmholaaaGreatDoorRows
import GoSem.ClaimSeven
namespace Go.Proofs.YtcojkkndmholaaaGreatDoor
namespace Rows

/-- THE TIED CARD OF 'gafferlaw08.BookDoes'. -/
def bookDoesCard : Claim7 := { stood := { row := bookDoesRow, standIns := [], harness := (true, "d3fd5a4fcc7ec5332ee1b29932b71f11cf721f4874388b7e0d2ccbf4459de6dc"), looks := false }, kinds := [], alts := [], laidByText := true, laidKinds := [.data, .pinned], laidTests := true, laidLooks := .later }
def BookDoesCardSaid : Prop := Claim7.holds Tryz.pinned (.plain (OpenSpec.ofChange bookDoesSpec)) bookDoesCard

/-- THE TIED CARD OF 'gafferlaw08.BookRight'. -/
def bookRightCard : Claim7 := { stood := { row := bookRightRow, standIns := [], harness := (true, "d3fd5a4fcc7ec5332ee1b29932b71f11cf721f4874388b7e0d2ccbf4459de6dc"), looks := false }, kinds := [], alts := [], laidByText := true, laidKinds := [.data, .pinned], laidTests := true, laidLooks := .later }
def BookRightCardSaid : Prop := Claim7.holds Tryz.pinned (.plain (OpenSpec.ofChange bookRightSpec)) bookRightCard

/-- THE TIED CARD OF 'gafferlaw08.BookFenced'. -/
def bookFencedCard : Claim7 := { stood := { row := bookFencedRow, standIns := [], harness := (true, "d3fd5a4fcc7ec5332ee1b29932b71f11cf721f4874388b7e0d2ccbf4459de6dc"), looks := false }, kinds := [], alts := [], laidByText := true, laidKinds := [.data, .pinned], laidTests := true, laidLooks := .later }
def BookFencedCardSaid : Prop := Claim7.holds Tryz.pinned (.plain (OpenSpec.ofChange bookFencedSpec)) bookFencedCard

/-- THE TIED CARD OF 'gafferlaw08.BookOwn'. -/
def bookOwnCard : Claim7 := { stood := { row := bookOwnRow, standIns := [], harness := (true, "d3fd5a4fcc7ec5332ee1b29932b71f11cf721f4874388b7e0d2ccbf4459de6dc"), looks := false }, kinds := [], alts := [], laidByText := true, laidKinds := [.data, .pinned], laidTests := true, laidLooks := .later }
def BookOwnCardSaid : Prop := Claim7.holds Tryz.pinned (.plain (OpenSpec.ofChange bookOwnSpec)) bookOwnCard

/-- THE TIED CARD OF 'gafferlaw08.BookNames'. -/
def bookNamesCard : Claim7 := { stood := { row := bookNamesRow, standIns := [], harness := (true, "d3fd5a4fcc7ec5332ee1b29932b71f11cf721f4874388b7e0d2ccbf4459de6dc"), looks := false }, kinds := [], alts := [], laidByText := true, laidKinds := [.data, .pinned], laidTests := true, laidLooks := .later }
def BookNamesCardSaid : Prop := Claim7.holds Tryz.pinned (.plain (OpenSpec.ofChange bookNamesSpec)) bookNamesCard

/-- THE TIED CARD OF 'gafferlaw08.BookCan'. -/
def bookCanCard : Claim7 := { stood := { row := bookCanRow, standIns := [], harness := (true, "d3fd5a4fcc7ec5332ee1b29932b71f11cf721f4874388b7e0d2ccbf4459de6dc"), looks := false }, kinds := [], alts := [], laidByText := true, laidKinds := [.data, .pinned], laidTests := true, laidLooks := .later }
def BookCanCardSaid : Prop := Claim7.holds Tryz.pinned (.plain (OpenSpec.ofChange bookCanSpec)) bookCanCard

/-- THE TIED CARD OF 'gafferlaw08.BookUsed'. -/
def bookUsedCard : Claim7 := { stood := { row := bookUsedRow, standIns := [], harness := (true, "d3fd5a4fcc7ec5332ee1b29932b71f11cf721f4874388b7e0d2ccbf4459de6dc"), looks := false }, kinds := [], alts := [], laidByText := true, laidKinds := [.data, .pinned], laidTests := true, laidLooks := .later }
def BookUsedCardSaid : Prop := Claim7.holds Tryz.pinned (.plain (OpenSpec.ofChange bookUsedSpec)) bookUsedCard

/-- THE TIED CARD OF 'gafferlaw08.BookAsks'. -/
def bookAsksCard : Claim7 := { stood := { row := bookAsksRow, standIns := [], harness := (true, "d3fd5a4fcc7ec5332ee1b29932b71f11cf721f4874388b7e0d2ccbf4459de6dc"), looks := false }, kinds := [], alts := [], laidByText := true, laidKinds := [.data, .pinned], laidTests := true, laidLooks := .later }
def BookAsksCardSaid : Prop := Claim7.holds Tryz.pinned (.plain (OpenSpec.ofChange bookAsksSpec)) bookAsksCard

/-- THE SECOND FORM's CARD OF 'gafferlaw08.BookDoes'. -/
def bookDoesUptoCard : Claim7 := { stood := { row := bookDoesUptoRow, standIns := [], harness := (true, "d3fd5a4fcc7ec5332ee1b29932b71f11cf721f4874388b7e0d2ccbf4459de6dc"), looks := false }, kinds := [], alts := [], laidByText := true, laidKinds := [.data, .pinned], laidTests := true, laidLooks := .later }
def BookDoesUptoCardSaid : Prop := Claim7.holds Tryz.pinned (.plain (OpenSpec.upto bookDoesSpec)) bookDoesUptoCard

/-- THE SECOND FORM's CARD OF 'gafferlaw08.BookRight'. -/
def bookRightUptoCard : Claim7 := { stood := { row := bookRightUptoRow, standIns := [], harness := (true, "d3fd5a4fcc7ec5332ee1b29932b71f11cf721f4874388b7e0d2ccbf4459de6dc"), looks := false }, kinds := [], alts := [], laidByText := true, laidKinds := [.data, .pinned], laidTests := true, laidLooks := .later }
def BookRightUptoCardSaid : Prop := Claim7.holds Tryz.pinned (.plain (OpenSpec.upto bookRightSpec)) bookRightUptoCard

/-- THE SECOND FORM's CARD OF 'gafferlaw08.BookFenced'. -/
def bookFencedUptoCard : Claim7 := { stood := { row := bookFencedUptoRow, standIns := [], harness := (true, "d3fd5a4fcc7ec5332ee1b29932b71f11cf721f4874388b7e0d2ccbf4459de6dc"), looks := false }, kinds := [], alts := [], laidByText := true, laidKinds := [.data, .pinned], laidTests := true, laidLooks := .later }
def BookFencedUptoCardSaid : Prop := Claim7.holds Tryz.pinned (.plain (OpenSpec.upto bookFencedSpec)) bookFencedUptoCard

/-- THE SECOND FORM's CARD OF 'gafferlaw08.BookOwn'. -/
def bookOwnUptoCard : Claim7 := { stood := { row := bookOwnUptoRow, standIns := [], harness := (true, "d3fd5a4fcc7ec5332ee1b29932b71f11cf721f4874388b7e0d2ccbf4459de6dc"), looks := false }, kinds := [], alts := [], laidByText := true, laidKinds := [.data, .pinned], laidTests := true, laidLooks := .later }
def BookOwnUptoCardSaid : Prop := Claim7.holds Tryz.pinned (.plain (OpenSpec.upto bookOwnSpec)) bookOwnUptoCard

/-- THE SECOND FORM's CARD OF 'gafferlaw08.BookNames'. -/
def bookNamesUptoCard : Claim7 := { stood := { row := bookNamesUptoRow, standIns := [], harness := (true, "d3fd5a4fcc7ec5332ee1b29932b71f11cf721f4874388b7e0d2ccbf4459de6dc"), looks := false }, kinds := [], alts := [], laidByText := true, laidKinds := [.data, .pinned], laidTests := true, laidLooks := .later }
def BookNamesUptoCardSaid : Prop := Claim7.holds Tryz.pinned (.plain (OpenSpec.upto bookNamesSpec)) bookNamesUptoCard

/-- THE SECOND FORM's CARD OF 'gafferlaw08.BookCan'. -/
def bookCanUptoCard : Claim7 := { stood := { row := bookCanUptoRow, standIns := [], harness := (true, "d3fd5a4fcc7ec5332ee1b29932b71f11cf721f4874388b7e0d2ccbf4459de6dc"), looks := false }, kinds := [], alts := [], laidByText := true, laidKinds := [.data, .pinned], laidTests := true, laidLooks := .later }
def BookCanUptoCardSaid : Prop := Claim7.holds Tryz.pinned (.plain (OpenSpec.upto bookCanSpec)) bookCanUptoCard

/-- THE SECOND FORM's CARD OF 'gafferlaw08.BookUsed'. -/
def bookUsedUptoCard : Claim7 := { stood := { row := bookUsedUptoRow, standIns := [], harness := (true, "d3fd5a4fcc7ec5332ee1b29932b71f11cf721f4874388b7e0d2ccbf4459de6dc"), looks := false }, kinds := [], alts := [], laidByText := true, laidKinds := [.data, .pinned], laidTests := true, laidLooks := .later }
def BookUsedUptoCardSaid : Prop := Claim7.holds Tryz.pinned (.plain (OpenSpec.upto bookUsedSpec)) bookUsedUptoCard

/-- THE SECOND FORM's CARD OF 'gafferlaw08.BookAsks'. -/
def bookAsksUptoCard : Claim7 := { stood := { row := bookAsksUptoRow, standIns := [], harness := (true, "d3fd5a4fcc7ec5332ee1b29932b71f11cf721f4874388b7e0d2ccbf4459de6dc"), looks := false }, kinds := [], alts := [], laidByText := true, laidKinds := [.data, .pinned], laidTests := true, laidLooks := .later }
def BookAsksUptoCardSaid : Prop := Claim7.holds Tryz.pinned (.plain (OpenSpec.upto bookAsksSpec)) bookAsksUptoCard
end Rows
end Go.Proofs.YtcojkkndmholaaaGreatDoor
