/-
  DERIVED. GIVEN WITH THE SEED: THE CARDS: each row of YtjoaccnfnniahaaDoorRows.lean that lists a variable, with what it lists TIED to the program's text (the seventh form; the later family's looks); each row that meets fmt, with fmt's text TOLD by the authors' own Lean function (tested against real Go, not proved from fmt's source: count such statements apart). THE CARD IS WHAT COUNTS. Prove the row's statement (the work); the ties are given (YtjoaccnfnniahaaDoorTie.lean); close each card by the builder's one call (the guide's Derived/Test/ToyasCard.lean, 'card_holds'). Laid BY PROGRAM, IN A SANDBOX (cutbox-door.mjs). By AI agents, Wed Nov 11 2026. No macro, syntax, notation, axiom, sorry.
-/
import Derived.Test.YtjoaccnfnniahaaDoorRows
import GoSem.ClaimSeven
namespace Go.Proofs.YtjoaccnfnniahaaDoor
namespace Rows

/-- THE TIED CARD OF 'gaffertop.TopSnaps'. -/
def topSnapsCard : Claim7 := { stood := { row := topSnapsRow, standIns := [], harness := (true, "a9b95a2337a2f8702c1ccd22b3d317d62eced0bd3318a887eb5d316ebe04e76c"), looks := false }, kinds := [], alts := [], laidByText := true, laidKinds := [.data, .pinned], laidTests := true, laidLooks := .later }
def TopSnapsCardSaid : Prop := Claim7.holds Tryd.pinned (.plain (OpenSpec.ofChange topSnapsSpec)) topSnapsCard

/-- THE SECOND FORM's CARD OF 'gaffertop.TopSnaps'. -/
def topSnapsUptoCard : Claim7 := { stood := { row := topSnapsUptoRow, standIns := [], harness := (true, "a9b95a2337a2f8702c1ccd22b3d317d62eced0bd3318a887eb5d316ebe04e76c"), looks := false }, kinds := [], alts := [], laidByText := true, laidKinds := [.data, .pinned], laidTests := true, laidLooks := .later }
def TopSnapsUptoCardSaid : Prop := Claim7.holds Tryd.pinned (.plain (OpenSpec.upto topSnapsSpec)) topSnapsUptoCard
end Rows
end Go.Proofs.YtjoaccnfnniahaaDoor
