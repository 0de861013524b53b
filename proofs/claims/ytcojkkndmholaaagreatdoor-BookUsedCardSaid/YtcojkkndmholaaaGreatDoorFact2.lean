/- More facts. -/
import Derived.Test.YtcojkkndmholaaaGreatDoorFacts
namespace Go.Proofs.YtcojkkndmholaaaGreatDoor
open Go.Sy
theorem ce56 : Tryz.prog.cellsOf 56 = 2 := by kernel_rfl
theorem ce27 : Tryz.prog.cellsOf 27 = 4 := by kernel_rfl
theorem ce22 : Tryz.prog.cellsOf 22 = 1 := by kernel_rfl
theorem be32 : Tryz.prog.bytesOf 32 = 88 := by kernel_rfl
theorem ce23 : Tryz.prog.cellsOf 23 = 1 := by kernel_rfl
theorem be34 : Tryz.prog.bytesOf 34 = 128 := by kernel_rfl
theorem ce24 : Tryz.prog.cellsOf 24 = 1 := by kernel_rfl
theorem be56 : Tryz.prog.bytesOf 56 = 32 := by kernel_rfl
theorem ce25 : Tryz.prog.cellsOf 25 = 1 := by kernel_rfl
theorem ce36 : Tryz.prog.cellsOf 36 = 19 := by kernel_rfl
theorem ce28 : Tryz.prog.cellsOf 28 = 1 := by kernel_rfl
theorem be36 : Tryz.prog.bytesOf 36 = 264 := by kernel_rfl
end Go.Proofs.YtcojkkndmholaaaGreatDoor
