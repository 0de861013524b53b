/-
  DERIVED. GIVEN WITH THE SEED: THE CARDS: each row of YtmmokaockpghaaaGreatDoorRows.lean that lists a variable, with what it lists TIED to the program's text (the seventh form; the later family's looks); each row that meets fmt, with fmt's text TOLD by the authors' own Lean function (tested against real Go, not proved from fmt's source: count such statements apart). THE CARD IS WHAT COUNTS. Prove the row's statement (the work); the ties are given (YtmmokaockpghaaaGreatDoorTie.lean); close each card by the builder's one call (the guide's Derived/Test/ToyasCard.lean, 'card_holds'). Laid BY PROGRAM, IN A SANDBOX (cutbox-door.mjs). By AI agents, Wed Nov 11 2026. No macro, syntax, notation, axiom, sorry.
-/
import Derived.Test.YtmmokaockpghaaaGreatDoorRows
import GoSem.ClaimSeven
namespace Go.Proofs.YtmmokaockpghaaaGreatDoor
namespace Rows

/-- THE TIED CARD OF 'gafferlaw11.QueueAsks'. -/
def queueAsksCard : Claim7 := { stood := { row := queueAsksRow, standIns := [], harness := (true, "c09550dece30e06d06671d19d98a58f0c4e75d0d512fcb7081bf8b0b867d77e1"), looks := false }, kinds := [], alts := [], laidByText := true, laidKinds := [.data, .pinned], laidTests := true, laidLooks := .later }
def QueueAsksCardSaid : Prop := Claim7.holds Tryz.pinned (.plain (OpenSpec.ofChange queueAsksSpec)) queueAsksCard

/-- THE TIED CARD OF 'gafferlaw11.QueueEach'. -/
def queueEachCard : Claim7 := { stood := { row := queueEachRow, standIns := [], harness := (true, "c09550dece30e06d06671d19d98a58f0c4e75d0d512fcb7081bf8b0b867d77e1"), looks := false }, kinds := [], alts := [], laidByText := true, laidKinds := [.data, .pinned], laidTests := true, laidLooks := .later }
def QueueEachCardSaid : Prop := Claim7.holds Tryz.pinned (.plain (OpenSpec.ofChange queueEachSpec)) queueEachCard

/-- THE TIED CARD OF 'gafferlaw11.QueueLoads'. -/
def queueLoadsCard : Claim7 := { stood := { row := queueLoadsRow, standIns := [], harness := (true, "c09550dece30e06d06671d19d98a58f0c4e75d0d512fcb7081bf8b0b867d77e1"), looks := false }, kinds := [], alts := [], laidByText := true, laidKinds := [.data, .pinned], laidTests := true, laidLooks := .later }
def QueueLoadsCardSaid : Prop := Claim7.holds Tryz.pinned (.plain (OpenSpec.ofChange queueLoadsSpec)) queueLoadsCard

/-- THE TIED CARD OF 'gafferlaw11.QueueOwn'. -/
def queueOwnCard : Claim7 := { stood := { row := queueOwnRow, standIns := [], harness := (true, "c09550dece30e06d06671d19d98a58f0c4e75d0d512fcb7081bf8b0b867d77e1"), looks := false }, kinds := [], alts := [], laidByText := true, laidKinds := [.data, .pinned], laidTests := true, laidLooks := .later }
def QueueOwnCardSaid : Prop := Claim7.holds Tryz.pinned (.plain (OpenSpec.ofChange queueOwnSpec)) queueOwnCard

/-- THE TIED CARD OF 'gafferlaw11.QueueFree'. -/
def queueFreeCard : Claim7 := { stood := { row := queueFreeRow, standIns := [], harness := (true, "c09550dece30e06d06671d19d98a58f0c4e75d0d512fcb7081bf8b0b867d77e1"), looks := false }, kinds := [], alts := [], laidByText := true, laidKinds := [.data, .pinned], laidTests := true, laidLooks := .later }
def QueueFreeCardSaid : Prop := Claim7.holds Tryz.pinned (.plain (OpenSpec.ofChange queueFreeSpec)) queueFreeCard

/-- THE TIED CARD OF 'gafferlaw12.SchedPlans'. -/
def schedPlansCard : Claim7 := { stood := { row := schedPlansRow, standIns := [], harness := (true, "c09550dece30e06d06671d19d98a58f0c4e75d0d512fcb7081bf8b0b867d77e1"), looks := false }, kinds := [], alts := [], laidByText := true, laidKinds := [.data, .pinned], laidTests := true, laidLooks := .later }
def SchedPlansCardSaid : Prop := Claim7.holds Tryz.pinned (.plain (OpenSpec.ofChange schedPlansSpec)) schedPlansCard

/-- THE TIED CARD OF 'gafferlaw12.SchedAll'. -/
def schedAllCard : Claim7 := { stood := { row := schedAllRow, standIns := [], harness := (true, "c09550dece30e06d06671d19d98a58f0c4e75d0d512fcb7081bf8b0b867d77e1"), looks := false }, kinds := [], alts := [], laidByText := true, laidKinds := [.data, .pinned], laidTests := true, laidLooks := .later }
def SchedAllCardSaid : Prop := Claim7.holds Tryz.pinned (.plain (OpenSpec.ofChange schedAllSpec)) schedAllCard

/-- THE TIED CARD OF 'gafferlaw12.SchedEnds'. -/
def schedEndsCard : Claim7 := { stood := { row := schedEndsRow, standIns := [], harness := (true, "c09550dece30e06d06671d19d98a58f0c4e75d0d512fcb7081bf8b0b867d77e1"), looks := false }, kinds := [], alts := [], laidByText := true, laidKinds := [.data, .pinned], laidTests := true, laidLooks := .later }
def SchedEndsCardSaid : Prop := Claim7.holds Tryz.pinned (.plain (OpenSpec.ofChange schedEndsSpec)) schedEndsCard

/-- THE TIED CARD OF 'gafferlaw12.SchedFirst'. -/
def schedFirstCard : Claim7 := { stood := { row := schedFirstRow, standIns := [], harness := (true, "c09550dece30e06d06671d19d98a58f0c4e75d0d512fcb7081bf8b0b867d77e1"), looks := false }, kinds := [], alts := [], laidByText := true, laidKinds := [.data, .pinned], laidTests := true, laidLooks := .later }
def SchedFirstCardSaid : Prop := Claim7.holds Tryz.pinned (.plain (OpenSpec.ofChange schedFirstSpec)) schedFirstCard

/-- THE TIED CARD OF 'gafferlaw12.SchedFence'. -/
def schedFenceCard : Claim7 := { stood := { row := schedFenceRow, standIns := [], harness := (true, "c09550dece30e06d06671d19d98a58f0c4e75d0d512fcb7081bf8b0b867d77e1"), looks := false }, kinds := [], alts := [], laidByText := true, laidKinds := [.data, .pinned], laidTests := true, laidLooks := .later }
def SchedFenceCardSaid : Prop := Claim7.holds Tryz.pinned (.plain (OpenSpec.ofChange schedFenceSpec)) schedFenceCard

/-- THE TIED CARD OF 'gaffertop.TopFull'. -/
def topFullCard : Claim7 := { stood := { row := topFullRow, standIns := [], harness := (true, "c09550dece30e06d06671d19d98a58f0c4e75d0d512fcb7081bf8b0b867d77e1"), looks := false }, kinds := [], alts := [], laidByText := true, laidKinds := [.data, .pinned], laidTests := true, laidLooks := .later }
def TopFullCardSaid : Prop := Claim7.holds Tryz.pinned (.plain (OpenSpec.ofChange topFullSpec)) topFullCard

/-- THE SECOND FORM's CARD OF 'gafferlaw11.QueueAsks'. -/
def queueAsksUptoCard : Claim7 := { stood := { row := queueAsksUptoRow, standIns := [], harness := (true, "c09550dece30e06d06671d19d98a58f0c4e75d0d512fcb7081bf8b0b867d77e1"), looks := false }, kinds := [], alts := [], laidByText := true, laidKinds := [.data, .pinned], laidTests := true, laidLooks := .later }
def QueueAsksUptoCardSaid : Prop := Claim7.holds Tryz.pinned (.plain (OpenSpec.upto queueAsksSpec)) queueAsksUptoCard

/-- THE SECOND FORM's CARD OF 'gafferlaw11.QueueEach'. -/
def queueEachUptoCard : Claim7 := { stood := { row := queueEachUptoRow, standIns := [], harness := (true, "c09550dece30e06d06671d19d98a58f0c4e75d0d512fcb7081bf8b0b867d77e1"), looks := false }, kinds := [], alts := [], laidByText := true, laidKinds := [.data, .pinned], laidTests := true, laidLooks := .later }
def QueueEachUptoCardSaid : Prop := Claim7.holds Tryz.pinned (.plain (OpenSpec.upto queueEachSpec)) queueEachUptoCard

/-- THE SECOND FORM's CARD OF 'gafferlaw11.QueueLoads'. -/
def queueLoadsUptoCard : Claim7 := { stood := { row := queueLoadsUptoRow, standIns := [], harness := (true, "c09550dece30e06d06671d19d98a58f0c4e75d0d512fcb7081bf8b0b867d77e1"), looks := false }, kinds := [], alts := [], laidByText := true, laidKinds := [.data, .pinned], laidTests := true, laidLooks := .later }
def QueueLoadsUptoCardSaid : Prop := Claim7.holds Tryz.pinned (.plain (OpenSpec.upto queueLoadsSpec)) queueLoadsUptoCard

/-- THE SECOND FORM's CARD OF 'gafferlaw11.QueueOwn'. -/
def queueOwnUptoCard : Claim7 := { stood := { row := queueOwnUptoRow, standIns := [], harness := (true, "c09550dece30e06d06671d19d98a58f0c4e75d0d512fcb7081bf8b0b867d77e1"), looks := false }, kinds := [], alts := [], laidByText := true, laidKinds := [.data, .pinned], laidTests := true, laidLooks := .later }
def QueueOwnUptoCardSaid : Prop := Claim7.holds Tryz.pinned (.plain (OpenSpec.upto queueOwnSpec)) queueOwnUptoCard

/-- THE SECOND FORM's CARD OF 'gafferlaw11.QueueFree'. -/
def queueFreeUptoCard : Claim7 := { stood := { row := queueFreeUptoRow, standIns := [], harness := (true, "c09550dece30e06d06671d19d98a58f0c4e75d0d512fcb7081bf8b0b867d77e1"), looks := false }, kinds := [], alts := [], laidByText := true, laidKinds := [.data, .pinned], laidTests := true, laidLooks := .later }
def QueueFreeUptoCardSaid : Prop := Claim7.holds Tryz.pinned (.plain (OpenSpec.upto queueFreeSpec)) queueFreeUptoCard

/-- THE SECOND FORM's CARD OF 'gafferlaw12.SchedPlans'. -/
def schedPlansUptoCard : Claim7 := { stood := { row := schedPlansUptoRow, standIns := [], harness := (true, "c09550dece30e06d06671d19d98a58f0c4e75d0d512fcb7081bf8b0b867d77e1"), looks := false }, kinds := [], alts := [], laidByText := true, laidKinds := [.data, .pinned], laidTests := true, laidLooks := .later }
def SchedPlansUptoCardSaid : Prop := Claim7.holds Tryz.pinned (.plain (OpenSpec.upto schedPlansSpec)) schedPlansUptoCard

/-- THE SECOND FORM's CARD OF 'gafferlaw12.SchedAll'. -/
def schedAllUptoCard : Claim7 := { stood := { row := schedAllUptoRow, standIns := [], harness := (true, "c09550dece30e06d06671d19d98a58f0c4e75d0d512fcb7081bf8b0b867d77e1"), looks := false }, kinds := [], alts := [], laidByText := true, laidKinds := [.data, .pinned], laidTests := true, laidLooks := .later }
def SchedAllUptoCardSaid : Prop := Claim7.holds Tryz.pinned (.plain (OpenSpec.upto schedAllSpec)) schedAllUptoCard

/-- THE SECOND FORM's CARD OF 'gafferlaw12.SchedEnds'. -/
def schedEndsUptoCard : Claim7 := { stood := { row := schedEndsUptoRow, standIns := [], harness := (true, "c09550dece30e06d06671d19d98a58f0c4e75d0d512fcb7081bf8b0b867d77e1"), looks := false }, kinds := [], alts := [], laidByText := true, laidKinds := [.data, .pinned], laidTests := true, laidLooks := .later }
def SchedEndsUptoCardSaid : Prop := Claim7.holds Tryz.pinned (.plain (OpenSpec.upto schedEndsSpec)) schedEndsUptoCard

/-- THE SECOND FORM's CARD OF 'gafferlaw12.SchedFirst'. -/
def schedFirstUptoCard : Claim7 := { stood := { row := schedFirstUptoRow, standIns := [], harness := (true, "c09550dece30e06d06671d19d98a58f0c4e75d0d512fcb7081bf8b0b867d77e1"), looks := false }, kinds := [], alts := [], laidByText := true, laidKinds := [.data, .pinned], laidTests := true, laidLooks := .later }
def SchedFirstUptoCardSaid : Prop := Claim7.holds Tryz.pinned (.plain (OpenSpec.upto schedFirstSpec)) schedFirstUptoCard

/-- THE SECOND FORM's CARD OF 'gafferlaw12.SchedFence'. -/
def schedFenceUptoCard : Claim7 := { stood := { row := schedFenceUptoRow, standIns := [], harness := (true, "c09550dece30e06d06671d19d98a58f0c4e75d0d512fcb7081bf8b0b867d77e1"), looks := false }, kinds := [], alts := [], laidByText := true, laidKinds := [.data, .pinned], laidTests := true, laidLooks := .later }
def SchedFenceUptoCardSaid : Prop := Claim7.holds Tryz.pinned (.plain (OpenSpec.upto schedFenceSpec)) schedFenceUptoCard

/-- THE SECOND FORM's CARD OF 'gaffertop.TopFull'. -/
def topFullUptoCard : Claim7 := { stood := { row := topFullUptoRow, standIns := [], harness := (true, "c09550dece30e06d06671d19d98a58f0c4e75d0d512fcb7081bf8b0b867d77e1"), looks := false }, kinds := [], alts := [], laidByText := true, laidKinds := [.data, .pinned], laidTests := true, laidLooks := .later }
def TopFullUptoCardSaid : Prop := Claim7.holds Tryz.pinned (.plain (OpenSpec.upto topFullSpec)) topFullUptoCard
end Rows
end Go.Proofs.YtmmokaockpghaaaGreatDoor
