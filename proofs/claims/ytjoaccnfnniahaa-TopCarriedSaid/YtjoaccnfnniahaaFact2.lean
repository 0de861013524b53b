/- More facts. -/
import Derived.Test.YtjoaccnfnniahaaFacts
namespace Go.Proofs.Ytjoaccnfnniahaa
open Go.Sy
theorem ce77 : Try.prog.cellsOf 77 = 5 := by kernel_rfl
theorem ce40 : Try.prog.cellsOf 40 = 1 := by kernel_rfl
theorem ce75 : Try.prog.cellsOf 75 = 1 := by kernel_rfl
theorem ce24 : Try.prog.cellsOf 24 = 1 := by kernel_rfl
theorem ce43 : Try.prog.cellsOf 43 = 3 := by kernel_rfl
theorem ce41 : Try.prog.cellsOf 41 = 1 := by kernel_rfl
theorem be77 : Try.prog.bytesOf 77 = 64 := by kernel_rfl
end Go.Proofs.Ytjoaccnfnniahaa
