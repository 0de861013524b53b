/-
  DERIVED. GIVEN WITH THE SEED: THE CARDS: each row of YtamgiiohaojelaaDoorRows.lean that lists a variable, with what it lists TIED to the program's text (the seventh form; the later family's looks); each row that meets fmt, with fmt's text TOLD by the authors' own Lean function (tested against real Go, not proved from fmt's source: count such statements apart). THE CARD IS WHAT COUNTS. Prove the row's statement (the work); the ties are given (YtamgiiohaojelaaDoorTie.lean); close each card by the builder's one call (the guide's Derived/Test/ToyasCard.lean, 'card_holds'). Laid BY PROGRAM, IN A SANDBOX (cutbox-door.mjs). By AI agents, Wed Nov 11 2026. No macro, syntax, notation, axiom, sorry.
-/
import Derived.Test.YtamgiiohaojelaaDoorRows
import GoSem.ClaimSeven
namespace Go.Proofs.YtamgiiohaojelaaDoor
namespace Rows

/-- THE TIED CARD OF 'gafferlaw06.RigNames'. -/
def rigNamesCard : Claim7 := { stood := { row := rigNamesRow, standIns := [], harness := (true, "c3ac4e5d5bb0bd6d11d1823dbf6ea7bf418b0940f3a2fe4345e5884ab9cf32c7"), looks := false }, kinds := [], alts := [], laidByText := true, laidKinds := [.data, .pinned], laidTests := true, laidLooks := .later }
def RigNamesCardSaid : Prop := Claim7.holds Tryd.pinned (.plain (OpenSpec.ofChange rigNamesSpec)) rigNamesCard

/-- THE TIED CARD OF 'gafferlaw06.RigChecks'. -/
def rigChecksCard : Claim7 := { stood := { row := rigChecksRow, standIns := [], harness := (true, "c3ac4e5d5bb0bd6d11d1823dbf6ea7bf418b0940f3a2fe4345e5884ab9cf32c7"), looks := false }, kinds := [], alts := [], laidByText := true, laidKinds := [.data, .pinned], laidTests := true, laidLooks := .later }
def RigChecksCardSaid : Prop := Claim7.holds Tryd.pinned (.plain (OpenSpec.ofChange rigChecksSpec)) rigChecksCard

/-- THE SECOND FORM's CARD OF 'gafferlaw06.RigNames'. -/
def rigNamesUptoCard : Claim7 := { stood := { row := rigNamesUptoRow, standIns := [], harness := (true, "c3ac4e5d5bb0bd6d11d1823dbf6ea7bf418b0940f3a2fe4345e5884ab9cf32c7"), looks := false }, kinds := [], alts := [], laidByText := true, laidKinds := [.data, .pinned], laidTests := true, laidLooks := .later }
def RigNamesUptoCardSaid : Prop := Claim7.holds Tryd.pinned (.plain (OpenSpec.upto rigNamesSpec)) rigNamesUptoCard

/-- THE SECOND FORM's CARD OF 'gafferlaw06.RigChecks'. -/
def rigChecksUptoCard : Claim7 := { stood := { row := rigChecksUptoRow, standIns := [], harness := (true, "c3ac4e5d5bb0bd6d11d1823dbf6ea7bf418b0940f3a2fe4345e5884ab9cf32c7"), looks := false }, kinds := [], alts := [], laidByText := true, laidKinds := [.data, .pinned], laidTests := true, laidLooks := .later }
def RigChecksUptoCardSaid : Prop := Claim7.holds Tryd.pinned (.plain (OpenSpec.upto rigChecksSpec)) rigChecksUptoCard
end Rows
end Go.Proofs.YtamgiiohaojelaaDoor
