/- Facts on the types and functions of the program, met by the kernel. -/
import Derived.Test.YtgiddbcadhigcaaSyE
import Derived.Test.YtgiddbcadhigcaaProg
namespace Go.Proofs.Ytgiddbcadhigcaa
open Go.Sy
theorem ag3 : aggOf Try.prog 3 = some false := by kernel_rfl
theorem ag9 : aggOf Try.prog 9 = some false := by kernel_rfl
theorem cal26 : callee Try.prog 26 = true := by kernel_rfl
theorem sl22 : slOf Try.prog 22 = some (30, 3) := by kernel_rfl
theorem zv30 : zvOf Try.prog 30 = some (.agg ⟨[.int .i64 0, .int .i64 0, .string ⟨#[]⟩]⟩) := by kernel_rfl
theorem ag30 : aggOf Try.prog 30 = some true := by kernel_rfl
theorem sz30 : szOf Try.prog 30 = some 3 := by kernel_rfl
theorem sl44 : slOf Try.prog 44 = some (22, 1) := by kernel_rfl
theorem ag22 : aggOf Try.prog 22 = some false := by kernel_rfl
theorem fo30_0 : fieldOff Try.prog 30 0 = some 0 := by kernel_rfl
theorem fo30_1 : fieldOff Try.prog 30 1 = some 1 := by kernel_rfl
theorem cal21 : callee Try.prog 21 = true := by kernel_rfl
theorem cal27 : callee Try.prog 27 = true := by kernel_rfl
theorem fo24_0 : fieldOff Try.prog 24 0 = some 0 := by kernel_rfl
theorem cal25 : callee Try.prog 25 = true := by kernel_rfl
theorem zr30 : zrOf Try.prog 30 = some [.int .i64 0, .int .i64 0, .string ⟨#[]⟩] := by kernel_rfl
theorem cal23 : callee Try.prog 23 = true := by kernel_rfl
theorem mixed : Try.prog.follows .mixedOrders = true := by kernel_rfl
theorem by30 : byOf Try.prog 30 = some 32 := by kernel_rfl
theorem zr24 : zrOf Try.prog 24 = some [.slice none 0 0] := by kernel_rfl
theorem bs24 : structAt Try.prog 24 = some [(0, 1)] := by kernel_rfl
theorem zv24 : zvOf Try.prog 24 = some (.agg ⟨[.slice none 0 0]⟩) := by kernel_rfl
theorem sz24 : szOf Try.prog 24 = some 1 := by kernel_rfl
theorem ag24 : aggOf Try.prog 24 = some true := by kernel_rfl
theorem cal18 : callee Try.prog 18 = true := by kernel_rfl
theorem cal22 : callee Try.prog 22 = true := by kernel_rfl
theorem cal19 : callee Try.prog 19 = true := by kernel_rfl
theorem cal7 : callee Try.prog 7 = true := by kernel_rfl
theorem sz22 : szOf Try.prog 22 = some 1 := by kernel_rfl
theorem bs30 : structAt Try.prog 30 = some [(0, 1), (1, 1), (2, 1)] := by kernel_rfl
theorem cal24 : callee Try.prog 24 = true := by kernel_rfl
theorem ft24_0 : fieldTy Try.prog 24 0 = some (22, 0) := by kernel_rfl
theorem cal8 : callee Try.prog 8 = true := by kernel_rfl
theorem cal14 : callee Try.prog 14 = true := by kernel_rfl
theorem cal10 : callee Try.prog 10 = true := by kernel_rfl
theorem cal16 : callee Try.prog 16 = true := by kernel_rfl
theorem cal9 : callee Try.prog 9 = true := by kernel_rfl
theorem cal11 : callee Try.prog 11 = true := by kernel_rfl
theorem cal12 : callee Try.prog 12 = true := by kernel_rfl
theorem cal13 : callee Try.prog 13 = true := by kernel_rfl
theorem cal15 : callee Try.prog 15 = true := by kernel_rfl
theorem cal17 : callee Try.prog 17 = true := by kernel_rfl
theorem sl41 : slOf Try.prog 41 = some (3, 1) := by kernel_rfl
theorem cal20 : callee Try.prog 20 = true := by kernel_rfl
theorem ce30 : Try.prog.cellsOf 30 = 3 := by kernel_rfl
theorem ce3 : Try.prog.cellsOf 3 = 1 := by kernel_rfl
theorem ce9 : Try.prog.cellsOf 9 = 1 := by kernel_rfl
theorem ce24 : Try.prog.cellsOf 24 = 1 := by kernel_rfl
theorem ce22 : Try.prog.cellsOf 22 = 1 := by kernel_rfl
theorem be30 : Try.prog.bytesOf 30 = 32 := by kernel_rfl
theorem be3 : Try.prog.bytesOf 3 = 8 := by kernel_rfl
theorem zv22 : zvOf Try.prog 22 = some (.slice none 0 0) := by kernel_rfl
theorem fo30_2 : fieldOff Try.prog 30 2 = some 2 := by kernel_rfl
theorem sz9 : szOf Try.prog 9 = some 1 := by kernel_rfl
end Go.Proofs.Ytgiddbcadhigcaa
