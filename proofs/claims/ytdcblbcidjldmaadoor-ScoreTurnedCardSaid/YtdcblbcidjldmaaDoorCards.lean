/-
  DERIVED. GIVEN WITH THE SEED: THE CARDS: each row of YtdcblbcidjldmaaDoorRows.lean that lists a variable, with what it lists TIED to the program's text (the seventh form; the later family's looks); each row that meets fmt, with fmt's text TOLD by the authors' own Lean function (tested against real Go, not proved from fmt's source: count such statements apart). THE CARD IS WHAT COUNTS. Prove the row's statement (the work); the ties are given (YtdcblbcidjldmaaDoorTie.lean); close each card by the builder's one call (the guide's Derived/Test/ToyasCard.lean, 'card_holds'). Laid BY PROGRAM, IN A SANDBOX (cutbox-door.mjs). By AI agents, Wed Nov 11 2026. No macro, syntax, notation, axiom, sorry.
-/
import Derived.Test.YtdcblbcidjldmaaDoorRows
import GoSem.ClaimSeven
namespace Go.Proofs.YtdcblbcidjldmaaDoor
namespace Rows

/-- THE TIED CARD OF 'gafferlaw07.ScoreDoes'. -/
def scoreDoesCard : Claim7 := { stood := { row := scoreDoesRow, standIns := [], harness := (true, "9adfab6e4cd06be275eb1ab621be35ede4f4824b9a376d3d8970eb9d39836d57"), looks := false }, kinds := [], alts := [], laidByText := true, laidKinds := [.data, .pinned], laidTests := true, laidLooks := .later }
def ScoreDoesCardSaid : Prop := Claim7.holds Tryd.pinned (.plain (OpenSpec.ofChange scoreDoesSpec)) scoreDoesCard

/-- THE TIED CARD OF 'gafferlaw07.ScoreBest'. -/
def scoreBestCard : Claim7 := { stood := { row := scoreBestRow, standIns := [], harness := (true, "9adfab6e4cd06be275eb1ab621be35ede4f4824b9a376d3d8970eb9d39836d57"), looks := false }, kinds := [], alts := [], laidByText := true, laidKinds := [.data, .pinned], laidTests := true, laidLooks := .later }
def ScoreBestCardSaid : Prop := Claim7.holds Tryd.pinned (.plain (OpenSpec.ofChange scoreBestSpec)) scoreBestCard

/-- THE TIED CARD OF 'gafferlaw07.ScoreWithin'. -/
def scoreWithinCard : Claim7 := { stood := { row := scoreWithinRow, standIns := [], harness := (true, "9adfab6e4cd06be275eb1ab621be35ede4f4824b9a376d3d8970eb9d39836d57"), looks := false }, kinds := [], alts := [], laidByText := true, laidKinds := [.data, .pinned], laidTests := true, laidLooks := .later }
def ScoreWithinCardSaid : Prop := Claim7.holds Tryd.pinned (.plain (OpenSpec.ofChange scoreWithinSpec)) scoreWithinCard

/-- THE TIED CARD OF 'gafferlaw07.ScoreTurned'. -/
def scoreTurnedCard : Claim7 := { stood := { row := scoreTurnedRow, standIns := [], harness := (true, "9adfab6e4cd06be275eb1ab621be35ede4f4824b9a376d3d8970eb9d39836d57"), looks := false }, kinds := [], alts := [], laidByText := true, laidKinds := [.data, .pinned], laidTests := true, laidLooks := .later }
def ScoreTurnedCardSaid : Prop := Claim7.holds Tryd.pinned (.plain (OpenSpec.ofChange scoreTurnedSpec)) scoreTurnedCard

/-- THE TIED CARD OF 'gafferlaw07.ScoreFuller'. -/
def scoreFullerCard : Claim7 := { stood := { row := scoreFullerRow, standIns := [], harness := (true, "9adfab6e4cd06be275eb1ab621be35ede4f4824b9a376d3d8970eb9d39836d57"), looks := false }, kinds := [], alts := [], laidByText := true, laidKinds := [.data, .pinned], laidTests := true, laidLooks := .later }
def ScoreFullerCardSaid : Prop := Claim7.holds Tryd.pinned (.plain (OpenSpec.ofChange scoreFullerSpec)) scoreFullerCard

/-- THE TIED CARD OF 'gafferlaw07.ScoreAlone'. -/
def scoreAloneCard : Claim7 := { stood := { row := scoreAloneRow, standIns := [], harness := (true, "9adfab6e4cd06be275eb1ab621be35ede4f4824b9a376d3d8970eb9d39836d57"), looks := false }, kinds := [], alts := [], laidByText := true, laidKinds := [.data, .pinned], laidTests := true, laidLooks := .later }
def ScoreAloneCardSaid : Prop := Claim7.holds Tryd.pinned (.plain (OpenSpec.ofChange scoreAloneSpec)) scoreAloneCard

/-- THE SECOND FORM's CARD OF 'gafferlaw07.ScoreDoes'. -/
def scoreDoesUptoCard : Claim7 := { stood := { row := scoreDoesUptoRow, standIns := [], harness := (true, "9adfab6e4cd06be275eb1ab621be35ede4f4824b9a376d3d8970eb9d39836d57"), looks := false }, kinds := [], alts := [], laidByText := true, laidKinds := [.data, .pinned], laidTests := true, laidLooks := .later }
def ScoreDoesUptoCardSaid : Prop := Claim7.holds Tryd.pinned (.plain (OpenSpec.upto scoreDoesSpec)) scoreDoesUptoCard

/-- THE SECOND FORM's CARD OF 'gafferlaw07.ScoreBest'. -/
def scoreBestUptoCard : Claim7 := { stood := { row := scoreBestUptoRow, standIns := [], harness := (true, "9adfab6e4cd06be275eb1ab621be35ede4f4824b9a376d3d8970eb9d39836d57"), looks := false }, kinds := [], alts := [], laidByText := true, laidKinds := [.data, .pinned], laidTests := true, laidLooks := .later }
def ScoreBestUptoCardSaid : Prop := Claim7.holds Tryd.pinned (.plain (OpenSpec.upto scoreBestSpec)) scoreBestUptoCard

/-- THE SECOND FORM's CARD OF 'gafferlaw07.ScoreWithin'. -/
def scoreWithinUptoCard : Claim7 := { stood := { row := scoreWithinUptoRow, standIns := [], harness := (true, "9adfab6e4cd06be275eb1ab621be35ede4f4824b9a376d3d8970eb9d39836d57"), looks := false }, kinds := [], alts := [], laidByText := true, laidKinds := [.data, .pinned], laidTests := true, laidLooks := .later }
def ScoreWithinUptoCardSaid : Prop := Claim7.holds Tryd.pinned (.plain (OpenSpec.upto scoreWithinSpec)) scoreWithinUptoCard

/-- THE SECOND FORM's CARD OF 'gafferlaw07.ScoreTurned'. -/
def scoreTurnedUptoCard : Claim7 := { stood := { row := scoreTurnedUptoRow, standIns := [], harness := (true, "9adfab6e4cd06be275eb1ab621be35ede4f4824b9a376d3d8970eb9d39836d57"), looks := false }, kinds := [], alts := [], laidByText := true, laidKinds := [.data, .pinned], laidTests := true, laidLooks := .later }
def ScoreTurnedUptoCardSaid : Prop := Claim7.holds Tryd.pinned (.plain (OpenSpec.upto scoreTurnedSpec)) scoreTurnedUptoCard

/-- THE SECOND FORM's CARD OF 'gafferlaw07.ScoreFuller'. -/
def scoreFullerUptoCard : Claim7 := { stood := { row := scoreFullerUptoRow, standIns := [], harness := (true, "9adfab6e4cd06be275eb1ab621be35ede4f4824b9a376d3d8970eb9d39836d57"), looks := false }, kinds := [], alts := [], laidByText := true, laidKinds := [.data, .pinned], laidTests := true, laidLooks := .later }
def ScoreFullerUptoCardSaid : Prop := Claim7.holds Tryd.pinned (.plain (OpenSpec.upto scoreFullerSpec)) scoreFullerUptoCard

/-- THE SECOND FORM's CARD OF 'gafferlaw07.ScoreAlone'. -/
def scoreAloneUptoCard : Claim7 := { stood := { row := scoreAloneUptoRow, standIns := [], harness := (true, "9adfab6e4cd06be275eb1ab621be35ede4f4824b9a376d3d8970eb9d39836d57"), looks := false }, kinds := [], alts := [], laidByText := true, laidKinds := [.data, .pinned], laidTests := true, laidLooks := .later }
def ScoreAloneUptoCardSaid : Prop := Claim7.holds Tryd.pinned (.plain (OpenSpec.upto scoreAloneSpec)) scoreAloneUptoCard
end Rows
end Go.Proofs.YtdcblbcidjldmaaDoor
