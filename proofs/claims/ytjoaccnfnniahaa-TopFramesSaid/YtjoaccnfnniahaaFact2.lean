/- More facts. -/
import Derived.Test.YtjoaccnfnniahaaFacts
namespace Go.Proofs.Ytjoaccnfnniahaa
open Go.Sy
theorem ce9 : Try.prog.cellsOf 9 = 1 := by kernel_rfl
theorem be9 : Try.prog.bytesOf 9 = 16 := by kernel_rfl
theorem ce4 : Try.prog.cellsOf 4 = 1 := by kernel_rfl
theorem be4 : Try.prog.bytesOf 4 = 1 := by kernel_rfl
theorem ce3 : Try.prog.cellsOf 3 = 1 := by kernel_rfl
theorem be3 : Try.prog.bytesOf 3 = 8 := by kernel_rfl
end Go.Proofs.Ytjoaccnfnniahaa
