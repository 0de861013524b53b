/- More facts. -/
import Derived.Test.YtjoaccnfnniahaaDoorFacts
namespace Go.Proofs.YtjoaccnfnniahaaDoor
open Go.Sy
theorem ce9 : Tryd.prog.cellsOf 9 = 1 := by kernel_rfl
theorem be9 : Tryd.prog.bytesOf 9 = 16 := by kernel_rfl
theorem ce3 : Tryd.prog.cellsOf 3 = 1 := by kernel_rfl
theorem be3 : Tryd.prog.bytesOf 3 = 8 := by kernel_rfl
end Go.Proofs.YtjoaccnfnniahaaDoor
