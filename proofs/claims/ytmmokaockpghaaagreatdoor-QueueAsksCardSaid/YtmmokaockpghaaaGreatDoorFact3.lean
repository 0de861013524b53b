/- More facts. -/
import Derived.Test.YtmmokaockpghaaaGreatDoorFact2
namespace Go.Proofs.YtmmokaockpghaaaGreatDoor
open Go.Sy
theorem sl171 : slOf Tryz.prog 171 = some (28, 1) := by kernel_rfl
end Go.Proofs.YtmmokaockpghaaaGreatDoor
