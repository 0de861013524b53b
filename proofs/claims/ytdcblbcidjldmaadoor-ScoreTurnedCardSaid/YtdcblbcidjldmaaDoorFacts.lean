/- Facts on the types and functions of the program, met by the kernel. -/
import Derived.Test.YtdcblbcidjldmaaDoorSyE
import Derived.Test.YtdcblbcidjldmaaDoorProg
namespace Go.Proofs.YtdcblbcidjldmaaDoor
open Go.Sy
theorem sl61 : slOf Tryd.prog 61 = some (2, 1) := by kernel_rfl
theorem ar22 : arOf Tryd.prog 22 = some (3, 2, 1) := by kernel_rfl
theorem sl56 : slOf Tryd.prog 56 = some (3, 1) := by kernel_rfl
theorem ag9 : aggOf Tryd.prog 9 = some false := by kernel_rfl
theorem sl53 : slOf Tryd.prog 53 = some (30, 1) := by kernel_rfl
theorem cal26 : callee Tryd.prog 26 = true := by kernel_rfl
theorem ce59 : Tryd.prog.cellsOf 59 = 2 := by kernel_rfl
theorem ce9 : Tryd.prog.cellsOf 9 = 1 := by kernel_rfl
theorem ce25 : Tryd.prog.cellsOf 25 = 9 := by kernel_rfl
theorem ce22 : Tryd.prog.cellsOf 22 = 3 := by kernel_rfl
theorem ce2 : Tryd.prog.cellsOf 2 = 1 := by kernel_rfl
theorem ce23 : Tryd.prog.cellsOf 23 = 1 := by kernel_rfl
theorem be59 : Tryd.prog.bytesOf 59 = 32 := by kernel_rfl
theorem ce3 : Tryd.prog.cellsOf 3 = 1 := by kernel_rfl
theorem ce27 : Tryd.prog.cellsOf 27 = 6 := by kernel_rfl
theorem ag2 : aggOf Tryd.prog 2 = some false := by kernel_rfl
theorem cal41 : callee Tryd.prog 41 = true := by kernel_rfl
theorem cal42 : callee Tryd.prog 42 = true := by kernel_rfl
theorem ag22 : aggOf Tryd.prog 22 = some true := by kernel_rfl
theorem sz22 : szOf Tryd.prog 22 = some 3 := by kernel_rfl
theorem cal43 : callee Tryd.prog 43 = true := by kernel_rfl
theorem cal32 : callee Tryd.prog 32 = true := by kernel_rfl
theorem cal40 : callee Tryd.prog 40 = true := by kernel_rfl
theorem ag3 : aggOf Tryd.prog 3 = some false := by kernel_rfl
theorem mixed : Tryd.prog.follows .mixedOrders = true := by kernel_rfl
theorem fo59_0 : fieldOff Tryd.prog 59 0 = some 0 := by kernel_rfl
theorem fo59_1 : fieldOff Tryd.prog 59 1 = some 1 := by kernel_rfl
theorem cal29 : callee Tryd.prog 29 = true := by kernel_rfl
theorem sz3 : szOf Tryd.prog 3 = some 1 := by kernel_rfl
theorem zv3 : zvOf Tryd.prog 3 = some (.int .i64 0) := by kernel_rfl
theorem cal27 : callee Tryd.prog 27 = true := by kernel_rfl
theorem sl23 : slOf Tryd.prog 23 = some (59, 2) := by kernel_rfl
theorem ag59 : aggOf Tryd.prog 59 = some true := by kernel_rfl
theorem sz59 : szOf Tryd.prog 59 = some 2 := by kernel_rfl
theorem zr59 : zrOf Tryd.prog 59 = some [.string ⟨#[]⟩, .string ⟨#[]⟩] := by kernel_rfl
theorem cal34 : callee Tryd.prog 34 = true := by kernel_rfl
theorem cal44 : callee Tryd.prog 44 = true := by kernel_rfl
theorem cal35 : callee Tryd.prog 35 = true := by kernel_rfl
theorem fo27_0 : fieldOff Tryd.prog 27 0 = some 0 := by kernel_rfl
theorem fo27_1 : fieldOff Tryd.prog 27 1 = some 1 := by kernel_rfl
theorem cal31 : callee Tryd.prog 31 = true := by kernel_rfl
theorem fo27_2 : fieldOff Tryd.prog 27 2 = some 4 := by kernel_rfl
theorem ag23 : aggOf Tryd.prog 23 = some false := by kernel_rfl
theorem cal33 : callee Tryd.prog 33 = true := by kernel_rfl
theorem fo27_3 : fieldOff Tryd.prog 27 3 = some 5 := by kernel_rfl
theorem fo25_0 : fieldOff Tryd.prog 25 0 = some 0 := by kernel_rfl
theorem fo25_1 : fieldOff Tryd.prog 25 1 = some 1 := by kernel_rfl
theorem fo25_6 : fieldOff Tryd.prog 25 6 = some 8 := by kernel_rfl
theorem fo25_2 : fieldOff Tryd.prog 25 2 = some 4 := by kernel_rfl
theorem fo25_3 : fieldOff Tryd.prog 25 3 = some 5 := by kernel_rfl
theorem fo25_4 : fieldOff Tryd.prog 25 4 = some 6 := by kernel_rfl
theorem fo25_5 : fieldOff Tryd.prog 25 5 = some 7 := by kernel_rfl
theorem cal36 : callee Tryd.prog 36 = true := by kernel_rfl
theorem cal37 : callee Tryd.prog 37 = true := by kernel_rfl
theorem cal30 : callee Tryd.prog 30 = true := by kernel_rfl
theorem cal38 : callee Tryd.prog 38 = true := by kernel_rfl
theorem fo29_0 : fieldOff Tryd.prog 29 0 = some 0 := by kernel_rfl
theorem ag27 : aggOf Tryd.prog 27 = some true := by kernel_rfl
theorem sz27 : szOf Tryd.prog 27 = some 6 := by kernel_rfl
theorem cal24 : callee Tryd.prog 24 = true := by kernel_rfl
theorem fo29_1 : fieldOff Tryd.prog 29 1 = some 6 := by kernel_rfl
theorem cal25 : callee Tryd.prog 25 = true := by kernel_rfl
theorem ag30 : aggOf Tryd.prog 30 = some false := by kernel_rfl
theorem cal39 : callee Tryd.prog 39 = true := by kernel_rfl
theorem ag25 : aggOf Tryd.prog 25 = some true := by kernel_rfl
theorem sz25 : szOf Tryd.prog 25 = some 9 := by kernel_rfl
theorem ag29 : aggOf Tryd.prog 29 = some true := by kernel_rfl
theorem sz29 : szOf Tryd.prog 29 = some 9 := by kernel_rfl
theorem cal19 : callee Tryd.prog 19 = true := by kernel_rfl
theorem cal12 : callee Tryd.prog 12 = true := by kernel_rfl
theorem sz30 : szOf Tryd.prog 30 = some 1 := by kernel_rfl
theorem zv30 : zvOf Tryd.prog 30 = some (.int .i64 0) := by kernel_rfl
theorem cal18 : callee Tryd.prog 18 = true := by kernel_rfl
theorem cal16 : callee Tryd.prog 16 = true := by kernel_rfl
theorem cal17 : callee Tryd.prog 17 = true := by kernel_rfl
theorem cal20 : callee Tryd.prog 20 = true := by kernel_rfl
theorem cal21 : callee Tryd.prog 21 = true := by kernel_rfl
theorem cal13 : callee Tryd.prog 13 = true := by kernel_rfl
theorem cal22 : callee Tryd.prog 22 = true := by kernel_rfl
theorem cal23 : callee Tryd.prog 23 = true := by kernel_rfl
theorem ag36 : aggOf Tryd.prog 36 = some false := by kernel_rfl
theorem sl36 : slOf Tryd.prog 36 = some (29, 9) := by kernel_rfl
theorem cal28 : callee Tryd.prog 28 = true := by kernel_rfl
theorem zr29 : zrOf Tryd.prog 29 = some [.string ⟨#[]⟩, .int .i64 0, .int .i64 0, .int .i64 0, .slice none 0 0, .slice none 0 0, .int .i64 0, .int .i64 0, .int .i64 0] := by kernel_rfl
theorem zr3 : zrOf Tryd.prog 3 = some [.int .i64 0] := by kernel_rfl
theorem zr2 : zrOf Tryd.prog 2 = some [.int .i64 0] := by kernel_rfl
theorem sz2 : szOf Tryd.prog 2 = some 1 := by kernel_rfl
theorem cal9 : callee Tryd.prog 9 = true := by kernel_rfl
theorem cal10 : callee Tryd.prog 10 = true := by kernel_rfl
theorem zv22 : zvOf Tryd.prog 22 = some (.agg ⟨[.int .i64 0, .int .i64 0, .int .i64 0]⟩) := by kernel_rfl
theorem bs25 : structAt Tryd.prog 25 = some [(0, 1), (1, 3), (4, 1), (5, 1), (6, 1), (7, 1), (8, 1)] := by kernel_rfl
theorem zv25 : zvOf Tryd.prog 25 = some (.agg ⟨[.string ⟨#[]⟩, .int .i64 0, .int .i64 0, .int .i64 0, .slice none 0 0, .slice none 0 0, .string ⟨#[]⟩, .string ⟨#[]⟩, .int .i64 0]⟩) := by kernel_rfl
theorem zr25 : zrOf Tryd.prog 25 = some [.string ⟨#[]⟩, .int .i64 0, .int .i64 0, .int .i64 0, .slice none 0 0, .slice none 0 0, .string ⟨#[]⟩, .string ⟨#[]⟩, .int .i64 0] := by kernel_rfl
theorem bs27 : structAt Tryd.prog 27 = some [(0, 1), (1, 3), (4, 1), (5, 1)] := by kernel_rfl
theorem zv27 : zvOf Tryd.prog 27 = some (.agg ⟨[.string ⟨#[]⟩, .int .i64 0, .int .i64 0, .int .i64 0, .slice none 0 0, .slice none 0 0]⟩) := by kernel_rfl
theorem bs29 : structAt Tryd.prog 29 = some [(0, 6), (6, 3)] := by kernel_rfl
theorem zv29 : zvOf Tryd.prog 29 = some (.agg ⟨[.string ⟨#[]⟩, .int .i64 0, .int .i64 0, .int .i64 0, .slice none 0 0, .slice none 0 0, .int .i64 0, .int .i64 0, .int .i64 0]⟩) := by kernel_rfl
theorem cal14 : callee Tryd.prog 14 = true := by kernel_rfl
theorem cal11 : callee Tryd.prog 11 = true := by kernel_rfl
theorem cal15 : callee Tryd.prog 15 = true := by kernel_rfl
theorem ce29 : Tryd.prog.cellsOf 29 = 9 := by kernel_rfl
theorem be29 : Tryd.prog.bytesOf 29 = 112 := by kernel_rfl
theorem by29 : byOf Tryd.prog 29 = some 112 := by kernel_rfl
end Go.Proofs.YtdcblbcidjldmaaDoor
