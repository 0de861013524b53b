/- Facts on the types and functions of the program, met by the kernel. -/
import Derived.Test.YtamgiiohaojelaaDoorSyE
import Derived.Test.YtamgiiohaojelaaDoorProg
namespace Go.Proofs.YtamgiiohaojelaaDoor
open Go.Sy
theorem sl45 : slOf Tryd.prog 45 = some (2, 1) := by kernel_rfl
theorem ar24 : arOf Tryd.prog 24 = some (3, 2, 1) := by kernel_rfl
theorem sl56 : slOf Tryd.prog 56 = some (3, 1) := by kernel_rfl
theorem ce47 : Tryd.prog.cellsOf 47 = 2 := by kernel_rfl
theorem ce9 : Tryd.prog.cellsOf 9 = 1 := by kernel_rfl
theorem ce29 : Tryd.prog.cellsOf 29 = 9 := by kernel_rfl
theorem ce24 : Tryd.prog.cellsOf 24 = 3 := by kernel_rfl
theorem ce2 : Tryd.prog.cellsOf 2 = 1 := by kernel_rfl
theorem ce25 : Tryd.prog.cellsOf 25 = 1 := by kernel_rfl
theorem be47 : Tryd.prog.bytesOf 47 = 32 := by kernel_rfl
theorem ce3 : Tryd.prog.cellsOf 3 = 1 := by kernel_rfl
theorem ce27 : Tryd.prog.cellsOf 27 = 6 := by kernel_rfl
theorem ag2 : aggOf Tryd.prog 2 = some false := by kernel_rfl
theorem cal25 : callee Tryd.prog 25 = true := by kernel_rfl
theorem cal26 : callee Tryd.prog 26 = true := by kernel_rfl
theorem ag24 : aggOf Tryd.prog 24 = some true := by kernel_rfl
theorem sz24 : szOf Tryd.prog 24 = some 3 := by kernel_rfl
theorem cal12 : callee Tryd.prog 12 = true := by kernel_rfl
theorem cal6 : callee Tryd.prog 6 = true := by kernel_rfl
theorem cal37 : callee Tryd.prog 37 = true := by kernel_rfl
theorem ag3 : aggOf Tryd.prog 3 = some false := by kernel_rfl
theorem mixed : Tryd.prog.follows .mixedOrders = true := by kernel_rfl
theorem fo47_0 : fieldOff Tryd.prog 47 0 = some 0 := by kernel_rfl
theorem ag9 : aggOf Tryd.prog 9 = some false := by kernel_rfl
theorem fo47_1 : fieldOff Tryd.prog 47 1 = some 1 := by kernel_rfl
theorem cal33 : callee Tryd.prog 33 = true := by kernel_rfl
theorem sz3 : szOf Tryd.prog 3 = some 1 := by kernel_rfl
theorem zv3 : zvOf Tryd.prog 3 = some (.int .i64 0) := by kernel_rfl
theorem cal32 : callee Tryd.prog 32 = true := by kernel_rfl
theorem sl25 : slOf Tryd.prog 25 = some (47, 2) := by kernel_rfl
theorem ag47 : aggOf Tryd.prog 47 = some true := by kernel_rfl
theorem sz47 : szOf Tryd.prog 47 = some 2 := by kernel_rfl
theorem zr47 : zrOf Tryd.prog 47 = some [.string ⟨#[]⟩, .string ⟨#[]⟩] := by kernel_rfl
theorem cal17 : callee Tryd.prog 17 = true := by kernel_rfl
theorem cal27 : callee Tryd.prog 27 = true := by kernel_rfl
theorem cal7 : callee Tryd.prog 7 = true := by kernel_rfl
theorem fo27_0 : fieldOff Tryd.prog 27 0 = some 0 := by kernel_rfl
theorem fo27_1 : fieldOff Tryd.prog 27 1 = some 1 := by kernel_rfl
theorem cal13 : callee Tryd.prog 13 = true := by kernel_rfl
theorem fo27_2 : fieldOff Tryd.prog 27 2 = some 4 := by kernel_rfl
theorem ag25 : aggOf Tryd.prog 25 = some false := by kernel_rfl
theorem cal14 : callee Tryd.prog 14 = true := by kernel_rfl
theorem fo27_3 : fieldOff Tryd.prog 27 3 = some 5 := by kernel_rfl
theorem fo29_0 : fieldOff Tryd.prog 29 0 = some 0 := by kernel_rfl
theorem fo29_1 : fieldOff Tryd.prog 29 1 = some 1 := by kernel_rfl
theorem fo29_6 : fieldOff Tryd.prog 29 6 = some 8 := by kernel_rfl
theorem fo29_2 : fieldOff Tryd.prog 29 2 = some 4 := by kernel_rfl
theorem fo29_3 : fieldOff Tryd.prog 29 3 = some 5 := by kernel_rfl
theorem fo29_4 : fieldOff Tryd.prog 29 4 = some 6 := by kernel_rfl
theorem fo29_5 : fieldOff Tryd.prog 29 5 = some 7 := by kernel_rfl
theorem cal15 : callee Tryd.prog 15 = true := by kernel_rfl
theorem cal16 : callee Tryd.prog 16 = true := by kernel_rfl
theorem cal5 : callee Tryd.prog 5 = true := by kernel_rfl
theorem bs27 : structAt Tryd.prog 27 = some [(0, 1), (1, 3), (4, 1), (5, 1)] := by kernel_rfl
theorem zv27 : zvOf Tryd.prog 27 = some (.agg ⟨[.string ⟨#[]⟩, .int .i64 0, .int .i64 0, .int .i64 0, .slice none 0 0, .slice none 0 0]⟩) := by kernel_rfl
theorem cal8 : callee Tryd.prog 8 = true := by kernel_rfl
theorem ag27 : aggOf Tryd.prog 27 = some true := by kernel_rfl
theorem sz27 : szOf Tryd.prog 27 = some 6 := by kernel_rfl
theorem cal9 : callee Tryd.prog 9 = true := by kernel_rfl
theorem ag29 : aggOf Tryd.prog 29 = some true := by kernel_rfl
theorem sz29 : szOf Tryd.prog 29 = some 9 := by kernel_rfl
theorem cal10 : callee Tryd.prog 10 = true := by kernel_rfl
theorem cal11 : callee Tryd.prog 11 = true := by kernel_rfl
end Go.Proofs.YtamgiiohaojelaaDoor
