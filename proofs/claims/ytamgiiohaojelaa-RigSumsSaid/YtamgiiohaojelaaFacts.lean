/- Facts on the types and functions of the program, met by the kernel. -/
import Derived.Test.YtamgiiohaojelaaSyE
import Derived.Test.YtamgiiohaojelaaProg
namespace Go.Proofs.Ytamgiiohaojelaa
open Go.Sy
theorem ag9 : aggOf Try.prog 9 = some false := by kernel_rfl
theorem sl48 : slOf Try.prog 48 = some (2, 1) := by kernel_rfl
theorem ar22 : arOf Try.prog 22 = some (3, 2, 1) := by kernel_rfl
theorem sl23 : slOf Try.prog 23 = some (34, 2) := by kernel_rfl
theorem cal26 : callee Try.prog 26 = true := by kernel_rfl
theorem sz2 : szOf Try.prog 2 = some 1 := by kernel_rfl
theorem ce34 : Try.prog.cellsOf 34 = 2 := by kernel_rfl
theorem ce9 : Try.prog.cellsOf 9 = 1 := by kernel_rfl
theorem ce25 : Try.prog.cellsOf 25 = 9 := by kernel_rfl
theorem ce22 : Try.prog.cellsOf 22 = 3 := by kernel_rfl
theorem ce2 : Try.prog.cellsOf 2 = 1 := by kernel_rfl
theorem ce23 : Try.prog.cellsOf 23 = 1 := by kernel_rfl
theorem be34 : Try.prog.bytesOf 34 = 32 := by kernel_rfl
theorem ce3 : Try.prog.cellsOf 3 = 1 := by kernel_rfl
theorem ce30 : Try.prog.cellsOf 30 = 6 := by kernel_rfl
theorem fo25_5 : fieldOff Try.prog 25 5 = some 7 := by kernel_rfl
theorem fo25_4 : fieldOff Try.prog 25 4 = some 6 := by kernel_rfl
theorem ag25 : aggOf Try.prog 25 = some true := by kernel_rfl
theorem sz25 : szOf Try.prog 25 = some 9 := by kernel_rfl
theorem cal21 : callee Try.prog 21 = true := by kernel_rfl
theorem bs25 : structAt Try.prog 25 = some [(0, 1), (1, 3), (4, 1), (5, 1), (6, 1), (7, 1), (8, 1)] := by kernel_rfl
theorem zv25 : zvOf Try.prog 25 = some (.agg ⟨[.string ⟨#[]⟩, .int .i64 0, .int .i64 0, .int .i64 0, .slice none 0 0, .slice none 0 0, .string ⟨#[]⟩, .string ⟨#[]⟩, .int .i64 0]⟩) := by kernel_rfl
theorem cal11 : callee Try.prog 11 = true := by kernel_rfl
theorem ag34 : aggOf Try.prog 34 = some true := by kernel_rfl
theorem sz34 : szOf Try.prog 34 = some 2 := by kernel_rfl
theorem zr34 : zrOf Try.prog 34 = some [.string ⟨#[]⟩, .string ⟨#[]⟩] := by kernel_rfl
theorem fo25_2 : fieldOff Try.prog 25 2 = some 4 := by kernel_rfl
theorem ag23 : aggOf Try.prog 23 = some false := by kernel_rfl
theorem fo30_2 : fieldOff Try.prog 30 2 = some 4 := by kernel_rfl
theorem cal22 : callee Try.prog 22 = true := by kernel_rfl
theorem fo30_3 : fieldOff Try.prog 30 3 = some 5 := by kernel_rfl
theorem fo25_3 : fieldOff Try.prog 25 3 = some 5 := by kernel_rfl
theorem cal23 : callee Try.prog 23 = true := by kernel_rfl
theorem bs34 : structAt Try.prog 34 = some [(0, 1), (1, 1)] := by kernel_rfl
theorem zv34 : zvOf Try.prog 34 = some (.agg ⟨[.string ⟨#[]⟩, .string ⟨#[]⟩]⟩) := by kernel_rfl
theorem bs30 : structAt Try.prog 30 = some [(0, 1), (1, 3), (4, 1), (5, 1)] := by kernel_rfl
theorem zv30 : zvOf Try.prog 30 = some (.agg ⟨[.string ⟨#[]⟩, .int .i64 0, .int .i64 0, .int .i64 0, .slice none 0 0, .slice none 0 0]⟩) := by kernel_rfl
theorem cal14 : callee Try.prog 14 = true := by kernel_rfl
theorem mixed : Try.prog.follows .mixedOrders = true := by kernel_rfl
theorem cal10 : callee Try.prog 10 = true := by kernel_rfl
theorem cal12 : callee Try.prog 12 = true := by kernel_rfl
theorem cal13 : callee Try.prog 13 = true := by kernel_rfl
theorem ag30 : aggOf Try.prog 30 = some true := by kernel_rfl
theorem sz30 : szOf Try.prog 30 = some 6 := by kernel_rfl
theorem cal15 : callee Try.prog 15 = true := by kernel_rfl
theorem sz9 : szOf Try.prog 9 = some 1 := by kernel_rfl
theorem ag2 : aggOf Try.prog 2 = some false := by kernel_rfl
theorem cal28 : callee Try.prog 28 = true := by kernel_rfl
theorem cal29 : callee Try.prog 29 = true := by kernel_rfl
theorem ag22 : aggOf Try.prog 22 = some true := by kernel_rfl
theorem sz22 : szOf Try.prog 22 = some 3 := by kernel_rfl
theorem fo30_1 : fieldOff Try.prog 30 1 = some 1 := by kernel_rfl
theorem cal24 : callee Try.prog 24 = true := by kernel_rfl
theorem cal27 : callee Try.prog 27 = true := by kernel_rfl
theorem zv22 : zvOf Try.prog 22 = some (.agg ⟨[.int .i64 0, .int .i64 0, .int .i64 0]⟩) := by kernel_rfl
theorem zr30 : zrOf Try.prog 30 = some [.string ⟨#[]⟩, .int .i64 0, .int .i64 0, .int .i64 0, .slice none 0 0, .slice none 0 0] := by kernel_rfl
theorem cal17 : callee Try.prog 17 = true := by kernel_rfl
theorem zr25 : zrOf Try.prog 25 = some [.string ⟨#[]⟩, .int .i64 0, .int .i64 0, .int .i64 0, .slice none 0 0, .slice none 0 0, .string ⟨#[]⟩, .string ⟨#[]⟩, .int .i64 0] := by kernel_rfl
theorem sz23 : szOf Try.prog 23 = some 1 := by kernel_rfl
theorem fo25_1 : fieldOff Try.prog 25 1 = some 1 := by kernel_rfl
theorem sl37 : slOf Try.prog 37 = some (25, 9) := by kernel_rfl
theorem cal30 : callee Try.prog 30 = true := by kernel_rfl
theorem zr22 : zrOf Try.prog 22 = some [.int .i64 0, .int .i64 0, .int .i64 0] := by kernel_rfl
theorem cal25 : callee Try.prog 25 = true := by kernel_rfl
theorem cal18 : callee Try.prog 18 = true := by kernel_rfl
theorem cal19 : callee Try.prog 19 = true := by kernel_rfl
theorem cal16 : callee Try.prog 16 = true := by kernel_rfl
theorem cal20 : callee Try.prog 20 = true := by kernel_rfl
theorem be25 : Try.prog.bytesOf 25 = 128 := by kernel_rfl
theorem by34 : byOf Try.prog 34 = some 32 := by kernel_rfl
theorem by25 : byOf Try.prog 25 = some 128 := by kernel_rfl
end Go.Proofs.Ytamgiiohaojelaa
