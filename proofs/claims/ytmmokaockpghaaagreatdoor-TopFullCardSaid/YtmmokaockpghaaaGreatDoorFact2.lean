/- More facts. -/
import Derived.Test.YtmmokaockpghaaaGreatDoorFacts
namespace Go.Proofs.YtmmokaockpghaaaGreatDoor
open Go.Sy
theorem ce51 : Tryz.prog.cellsOf 51 = 2 := by kernel_rfl
theorem ce27 : Tryz.prog.cellsOf 27 = 4 := by kernel_rfl
theorem ce22 : Tryz.prog.cellsOf 22 = 1 := by kernel_rfl
theorem be45 : Tryz.prog.bytesOf 45 = 88 := by kernel_rfl
theorem ce23 : Tryz.prog.cellsOf 23 = 1 := by kernel_rfl
theorem be42 : Tryz.prog.bytesOf 42 = 128 := by kernel_rfl
theorem ce24 : Tryz.prog.cellsOf 24 = 1 := by kernel_rfl
theorem be51 : Tryz.prog.bytesOf 51 = 32 := by kernel_rfl
theorem ce25 : Tryz.prog.cellsOf 25 = 1 := by kernel_rfl
theorem ce65 : Tryz.prog.cellsOf 65 = 19 := by kernel_rfl
theorem ce63 : Tryz.prog.cellsOf 63 = 1 := by kernel_rfl
end Go.Proofs.YtmmokaockpghaaaGreatDoor
