/-
  DERIVED. GIVEN WITH THE SEED: THE CARDS: each row of YtajpakifkinadaaGreatDoorRows.lean that lists a variable, with what it lists TIED to the program's text (the seventh form; the later family's looks); each row that meets fmt, with fmt's text TOLD by the authors' own Lean function (tested against real Go, not proved from fmt's source: count such statements apart). THE CARD IS WHAT COUNTS. Prove the row's statement (the work); the ties are given (YtajpakifkinadaaGreatDoorTie.lean); close each card by the builder's one call (the guide's Derived/Test/ToyasCard.lean, 'card_holds'). Laid BY PROGRAM, IN A SANDBOX (cutbox-door.mjs). By AI agents, Wed Nov 11 2026. No macro, syntax, notation, axiom, sorry.
-/
import Derived.Test.YtajpakifkinadaaGreatDoorRows
import GoSem.ClaimSeven
namespace Go.Proofs.YtajpakifkinadaaGreatDoor
namespace Rows

/-- THE TIED CARD OF 'gafferlaw08.BookOwn'. -/
def bookOwnCard : Claim7 := { stood := { row := bookOwnRow, standIns := [], harness := (true, "5637b40adfa2d9fb05d428c68344a95db36caa04c2b0399110372864593dac65"), looks := false }, kinds := [], alts := [], laidByText := true, laidKinds := [.data, .pinned], laidTests := true, laidLooks := .later }
def BookOwnCardSaid : Prop := Claim7.holds Tryz.pinned (.plain (OpenSpec.ofChange bookOwnSpec)) bookOwnCard

/-- THE TIED CARD OF 'gafferlaw11.QueueOwn'. -/
def queueOwnCard : Claim7 := { stood := { row := queueOwnRow, standIns := [], harness := (true, "5637b40adfa2d9fb05d428c68344a95db36caa04c2b0399110372864593dac65"), looks := false }, kinds := [], alts := [], laidByText := true, laidKinds := [.data, .pinned], laidTests := true, laidLooks := .later }
def QueueOwnCardSaid : Prop := Claim7.holds Tryz.pinned (.plain (OpenSpec.ofChange queueOwnSpec)) queueOwnCard

/-- THE SECOND FORM's CARD OF 'gafferlaw08.BookOwn'. -/
def bookOwnUptoCard : Claim7 := { stood := { row := bookOwnUptoRow, standIns := [], harness := (true, "5637b40adfa2d9fb05d428c68344a95db36caa04c2b0399110372864593dac65"), looks := false }, kinds := [], alts := [], laidByText := true, laidKinds := [.data, .pinned], laidTests := true, laidLooks := .later }
def BookOwnUptoCardSaid : Prop := Claim7.holds Tryz.pinned (.plain (OpenSpec.upto bookOwnSpec)) bookOwnUptoCard

/-- THE SECOND FORM's CARD OF 'gafferlaw11.QueueOwn'. -/
def queueOwnUptoCard : Claim7 := { stood := { row := queueOwnUptoRow, standIns := [], harness := (true, "5637b40adfa2d9fb05d428c68344a95db36caa04c2b0399110372864593dac65"), looks := false }, kinds := [], alts := [], laidByText := true, laidKinds := [.data, .pinned], laidTests := true, laidLooks := .later }
def QueueOwnUptoCardSaid : Prop := Claim7.holds Tryz.pinned (.plain (OpenSpec.upto queueOwnSpec)) queueOwnUptoCard
end Rows
end Go.Proofs.YtajpakifkinadaaGreatDoor
