/- Facts on the types and functions of the program, met by the kernel. -/
import Derived.Test.YteajcmnbjpbnpaaSyE
import Derived.Test.YteajcmnbjpbnpaaProg
namespace Go.Proofs.Yteajcmnbjpbnpaa
open Go.Sy
theorem sl23 : slOf Try.prog 23 = some (41, 5) := by kernel_rfl
theorem ag39 : aggOf Try.prog 39 = some false := by kernel_rfl
theorem ag25 : aggOf Try.prog 25 = some true := by kernel_rfl
theorem sz25 : szOf Try.prog 25 = some 3 := by kernel_rfl
theorem ag22 : aggOf Try.prog 22 = some false := by kernel_rfl
theorem sl39 : slOf Try.prog 39 = some (3, 1) := by kernel_rfl
theorem ag3 : aggOf Try.prog 3 = some false := by kernel_rfl
theorem fo41_0 : fieldOff Try.prog 41 0 = some 0 := by kernel_rfl
theorem fo41_3 : fieldOff Try.prog 41 3 = some 3 := by kernel_rfl
theorem ag9 : aggOf Try.prog 9 = some false := by kernel_rfl
theorem fo41_2 : fieldOff Try.prog 41 2 = some 2 := by kernel_rfl
theorem ag38 : aggOf Try.prog 38 = some false := by kernel_rfl
theorem fo41_4 : fieldOff Try.prog 41 4 = some 4 := by kernel_rfl
theorem cal46 : callee Try.prog 46 = true := by kernel_rfl
theorem cal45 : callee Try.prog 45 = true := by kernel_rfl
theorem mixed : Try.prog.follows .mixedOrders = true := by kernel_rfl
theorem fo25_0 : fieldOff Try.prog 25 0 = some 0 := by kernel_rfl
theorem fo25_1 : fieldOff Try.prog 25 1 = some 1 := by kernel_rfl
theorem fo25_2 : fieldOff Try.prog 25 2 = some 2 := by kernel_rfl
theorem ag23 : aggOf Try.prog 23 = some false := by kernel_rfl
theorem ag41 : aggOf Try.prog 41 = some true := by kernel_rfl
theorem sz41 : szOf Try.prog 41 = some 5 := by kernel_rfl
theorem zr41 : zrOf Try.prog 41 = some [.int .u64 0, .int .u64 0, .int .u8 0, .string ⟨#[]⟩, .slice none 0 0] := by kernel_rfl
theorem cal41 : callee Try.prog 41 = true := by kernel_rfl
theorem fo41_1 : fieldOff Try.prog 41 1 = some 1 := by kernel_rfl
theorem cal36 : callee Try.prog 36 = true := by kernel_rfl
theorem cal29 : callee Try.prog 29 = true := by kernel_rfl
theorem cal40 : callee Try.prog 40 = true := by kernel_rfl
theorem cal17 : callee Try.prog 17 = true := by kernel_rfl
theorem cal18 : callee Try.prog 18 = true := by kernel_rfl
theorem cal33 : callee Try.prog 33 = true := by kernel_rfl
theorem cal34 : callee Try.prog 34 = true := by kernel_rfl
theorem cal20 : callee Try.prog 20 = true := by kernel_rfl
theorem cal30 : callee Try.prog 30 = true := by kernel_rfl
theorem cal37 : callee Try.prog 37 = true := by kernel_rfl
theorem cal38 : callee Try.prog 38 = true := by kernel_rfl
theorem sz3 : szOf Try.prog 3 = some 1 := by kernel_rfl
theorem zv3 : zvOf Try.prog 3 = some (.int .i64 0) := by kernel_rfl
theorem by3 : byOf Try.prog 3 = some 8 := by kernel_rfl
theorem zv41 : zvOf Try.prog 41 = some (.agg ⟨[.int .u64 0, .int .u64 0, .int .u8 0, .string ⟨#[]⟩, .slice none 0 0]⟩) := by kernel_rfl
theorem by41 : byOf Try.prog 41 = some 64 := by kernel_rfl
theorem cal44 : callee Try.prog 44 = true := by kernel_rfl
theorem cal43 : callee Try.prog 43 = true := by kernel_rfl
theorem sz39 : szOf Try.prog 39 = some 1 := by kernel_rfl
theorem zr25 : zrOf Try.prog 25 = some [.int .u64 0, .int .u64 0, .slice none 0 0] := by kernel_rfl
theorem cal35 : callee Try.prog 35 = true := by kernel_rfl
theorem sz23 : szOf Try.prog 23 = some 1 := by kernel_rfl
theorem cal10 : callee Try.prog 10 = true := by kernel_rfl
theorem bs25 : structAt Try.prog 25 = some [(0, 1), (1, 1), (2, 1)] := by kernel_rfl
theorem zv25 : zvOf Try.prog 25 = some (.agg ⟨[.int .u64 0, .int .u64 0, .slice none 0 0]⟩) := by kernel_rfl
theorem cal32 : callee Try.prog 32 = true := by kernel_rfl
theorem sz22 : szOf Try.prog 22 = some 1 := by kernel_rfl
theorem cal9 : callee Try.prog 9 = true := by kernel_rfl
theorem cal31 : callee Try.prog 31 = true := by kernel_rfl
theorem bs41 : structAt Try.prog 41 = some [(0, 1), (1, 1), (2, 1), (3, 1), (4, 1)] := by kernel_rfl
theorem cal39 : callee Try.prog 39 = true := by kernel_rfl
theorem cal11 : callee Try.prog 11 = true := by kernel_rfl
theorem cal13 : callee Try.prog 13 = true := by kernel_rfl
theorem cal19 : callee Try.prog 19 = true := by kernel_rfl
theorem cal21 : callee Try.prog 21 = true := by kernel_rfl
theorem cal15 : callee Try.prog 15 = true := by kernel_rfl
theorem cal22 : callee Try.prog 22 = true := by kernel_rfl
theorem ce41 : Try.prog.cellsOf 41 = 5 := by kernel_rfl
theorem ce22 : Try.prog.cellsOf 22 = 1 := by kernel_rfl
theorem ce38 : Try.prog.cellsOf 38 = 1 := by kernel_rfl
theorem ce9 : Try.prog.cellsOf 9 = 1 := by kernel_rfl
theorem ce39 : Try.prog.cellsOf 39 = 1 := by kernel_rfl
theorem ce3 : Try.prog.cellsOf 3 = 1 := by kernel_rfl
theorem be3 : Try.prog.bytesOf 3 = 8 := by kernel_rfl
theorem ce25 : Try.prog.cellsOf 25 = 3 := by kernel_rfl
theorem ce23 : Try.prog.cellsOf 23 = 1 := by kernel_rfl
theorem be41 : Try.prog.bytesOf 41 = 64 := by kernel_rfl
theorem cal16 : callee Try.prog 16 = true := by kernel_rfl
theorem cal12 : callee Try.prog 12 = true := by kernel_rfl
theorem cal14 : callee Try.prog 14 = true := by kernel_rfl
theorem cal23 : callee Try.prog 23 = true := by kernel_rfl
theorem cal24 : callee Try.prog 24 = true := by kernel_rfl
theorem cal25 : callee Try.prog 25 = true := by kernel_rfl
theorem cal26 : callee Try.prog 26 = true := by kernel_rfl
theorem cal27 : callee Try.prog 27 = true := by kernel_rfl
theorem cal28 : callee Try.prog 28 = true := by kernel_rfl
end Go.Proofs.Yteajcmnbjpbnpaa
