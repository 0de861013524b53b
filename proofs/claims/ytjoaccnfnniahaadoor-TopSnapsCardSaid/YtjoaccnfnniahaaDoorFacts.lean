/- Facts on the types and functions of the program, met by the kernel. -/
import Derived.Test.YtjoaccnfnniahaaDoorSyE
import Derived.Test.YtjoaccnfnniahaaDoorProg
namespace Go.Proofs.YtjoaccnfnniahaaDoor
open Go.Sy
theorem sl25 : slOf Tryd.prog 25 = some (51, 3) := by kernel_rfl
theorem sz51 : szOf Tryd.prog 51 = some 3 := by kernel_rfl
theorem by51 : byOf Tryd.prog 51 = some 40 := by kernel_rfl
theorem zv51 : zvOf Tryd.prog 51 = some (.agg ⟨[.string ⟨#[]⟩, .string ⟨#[]⟩, .int .i64 0]⟩) := by kernel_rfl
theorem cal49 : callee Tryd.prog 49 = true := by kernel_rfl
theorem ag9 : aggOf Tryd.prog 9 = some false := by kernel_rfl
theorem ag3 : aggOf Tryd.prog 3 = some false := by kernel_rfl
theorem ag94 : aggOf Tryd.prog 94 = some false := by kernel_rfl
theorem sz5 : szOf Tryd.prog 5 = some 1 := by kernel_rfl
theorem by5 : byOf Tryd.prog 5 = some 1 := by kernel_rfl
theorem zv5 : zvOf Tryd.prog 5 = some (.int .u8 0) := by kernel_rfl
theorem sz98 : szOf Tryd.prog 98 = some 2 := by kernel_rfl
theorem sz0 : szOf Tryd.prog 0 = some 1 := by kernel_rfl
theorem ag0 : aggOf Tryd.prog 0 = some false := by kernel_rfl
theorem sz1 : szOf Tryd.prog 1 = some 1 := by kernel_rfl
theorem ag1 : aggOf Tryd.prog 1 = some false := by kernel_rfl
theorem zr1 : zrOf Tryd.prog 1 = some [.nilFunc] := by kernel_rfl
theorem zv1 : zvOf Tryd.prog 1 = some (.nilFunc) := by kernel_rfl
theorem by1 : byOf Tryd.prog 1 = some 8 := by kernel_rfl
theorem sz2 : szOf Tryd.prog 2 = some 1 := by kernel_rfl
theorem ag2 : aggOf Tryd.prog 2 = some false := by kernel_rfl
theorem zr2 : zrOf Tryd.prog 2 = some [.int .i64 0] := by kernel_rfl
theorem zv2 : zvOf Tryd.prog 2 = some (.int .i64 0) := by kernel_rfl
theorem by2 : byOf Tryd.prog 2 = some 8 := by kernel_rfl
theorem sz3 : szOf Tryd.prog 3 = some 1 := by kernel_rfl
theorem zr3 : zrOf Tryd.prog 3 = some [.int .i64 0] := by kernel_rfl
theorem zv3 : zvOf Tryd.prog 3 = some (.int .i64 0) := by kernel_rfl
theorem by3 : byOf Tryd.prog 3 = some 8 := by kernel_rfl
theorem sz4 : szOf Tryd.prog 4 = some 1 := by kernel_rfl
theorem ag4 : aggOf Tryd.prog 4 = some false := by kernel_rfl
theorem zr4 : zrOf Tryd.prog 4 = some [.bool false] := by kernel_rfl
theorem zv4 : zvOf Tryd.prog 4 = some (.bool false) := by kernel_rfl
theorem by4 : byOf Tryd.prog 4 = some 1 := by kernel_rfl
theorem ag5 : aggOf Tryd.prog 5 = some false := by kernel_rfl
theorem zr5 : zrOf Tryd.prog 5 = some [.int .u8 0] := by kernel_rfl
theorem sz6 : szOf Tryd.prog 6 = some 1 := by kernel_rfl
theorem ag6 : aggOf Tryd.prog 6 = some false := by kernel_rfl
theorem zr6 : zrOf Tryd.prog 6 = some [.int .u8 0] := by kernel_rfl
theorem zv6 : zvOf Tryd.prog 6 = some (.int .u8 0) := by kernel_rfl
theorem by6 : byOf Tryd.prog 6 = some 1 := by kernel_rfl
theorem sz7 : szOf Tryd.prog 7 = some 4 := by kernel_rfl
theorem ag7 : aggOf Tryd.prog 7 = some true := by kernel_rfl
theorem zr7 : zrOf Tryd.prog 7 = some [.int .i64 0, .int .i64 0, .bool false, .int .u8 0] := by kernel_rfl
theorem zv7 : zvOf Tryd.prog 7 = some (.agg ⟨[.int .i64 0, .int .i64 0, .bool false, .int .u8 0]⟩) := by kernel_rfl
theorem by7 : byOf Tryd.prog 7 = some 24 := by kernel_rfl
theorem fo7_0 : fieldOff Tryd.prog 7 0 = some 0 := by kernel_rfl
theorem ft7_0 : fieldTy Tryd.prog 7 0 = some (2, 0) := by kernel_rfl
theorem fo7_1 : fieldOff Tryd.prog 7 1 = some 1 := by kernel_rfl
theorem ft7_1 : fieldTy Tryd.prog 7 1 = some (3, 1) := by kernel_rfl
theorem fo7_2 : fieldOff Tryd.prog 7 2 = some 2 := by kernel_rfl
theorem ft7_2 : fieldTy Tryd.prog 7 2 = some (4, 2) := by kernel_rfl
theorem fo7_3 : fieldOff Tryd.prog 7 3 = some 3 := by kernel_rfl
theorem ft7_3 : fieldTy Tryd.prog 7 3 = some (6, 3) := by kernel_rfl
theorem bs7 : structAt Tryd.prog 7 = some [(0, 1), (1, 1), (2, 1), (3, 1)] := by kernel_rfl
theorem sz8 : szOf Tryd.prog 8 = some 4 := by kernel_rfl
theorem ag8 : aggOf Tryd.prog 8 = some true := by kernel_rfl
theorem zr8 : zrOf Tryd.prog 8 = some [.int .i64 0, .int .i64 0, .bool false, .int .u8 0] := by kernel_rfl
theorem zv8 : zvOf Tryd.prog 8 = some (.agg ⟨[.int .i64 0, .int .i64 0, .bool false, .int .u8 0]⟩) := by kernel_rfl
theorem by8 : byOf Tryd.prog 8 = some 24 := by kernel_rfl
theorem fo8_0 : fieldOff Tryd.prog 8 0 = some 0 := by kernel_rfl
theorem ft8_0 : fieldTy Tryd.prog 8 0 = some (2, 0) := by kernel_rfl
theorem fo8_1 : fieldOff Tryd.prog 8 1 = some 1 := by kernel_rfl
theorem ft8_1 : fieldTy Tryd.prog 8 1 = some (3, 1) := by kernel_rfl
theorem fo8_2 : fieldOff Tryd.prog 8 2 = some 2 := by kernel_rfl
theorem ft8_2 : fieldTy Tryd.prog 8 2 = some (4, 2) := by kernel_rfl
theorem fo8_3 : fieldOff Tryd.prog 8 3 = some 3 := by kernel_rfl
theorem ft8_3 : fieldTy Tryd.prog 8 3 = some (6, 3) := by kernel_rfl
theorem bs8 : structAt Tryd.prog 8 = some [(0, 1), (1, 1), (2, 1), (3, 1)] := by kernel_rfl
theorem sz9 : szOf Tryd.prog 9 = some 1 := by kernel_rfl
theorem zr9 : zrOf Tryd.prog 9 = some [.string ⟨#[]⟩] := by kernel_rfl
theorem zv9 : zvOf Tryd.prog 9 = some (.string ⟨#[]⟩) := by kernel_rfl
theorem by9 : byOf Tryd.prog 9 = some 16 := by kernel_rfl
theorem sz10 : szOf Tryd.prog 10 = some 1 := by kernel_rfl
theorem ag10 : aggOf Tryd.prog 10 = some false := by kernel_rfl
theorem zr10 : zrOf Tryd.prog 10 = some [.string ⟨#[]⟩] := by kernel_rfl
theorem zv10 : zvOf Tryd.prog 10 = some (.string ⟨#[]⟩) := by kernel_rfl
theorem by10 : byOf Tryd.prog 10 = some 16 := by kernel_rfl
theorem sz11 : szOf Tryd.prog 11 = some 1 := by kernel_rfl
theorem ag11 : aggOf Tryd.prog 11 = some false := by kernel_rfl
theorem zr11 : zrOf Tryd.prog 11 = some [.string ⟨#[]⟩] := by kernel_rfl
theorem zv11 : zvOf Tryd.prog 11 = some (.string ⟨#[]⟩) := by kernel_rfl
theorem by11 : byOf Tryd.prog 11 = some 16 := by kernel_rfl
theorem sz12 : szOf Tryd.prog 12 = some 1 := by kernel_rfl
theorem ag12 : aggOf Tryd.prog 12 = some false := by kernel_rfl
theorem zr12 : zrOf Tryd.prog 12 = some [.int .u64 0] := by kernel_rfl
theorem zv12 : zvOf Tryd.prog 12 = some (.int .u64 0) := by kernel_rfl
theorem by12 : byOf Tryd.prog 12 = some 8 := by kernel_rfl
theorem sz13 : szOf Tryd.prog 13 = some 2 := by kernel_rfl
theorem ag13 : aggOf Tryd.prog 13 = some true := by kernel_rfl
theorem zr13 : zrOf Tryd.prog 13 = some [.string ⟨#[]⟩, .int .u64 0] := by kernel_rfl
theorem zv13 : zvOf Tryd.prog 13 = some (.agg ⟨[.string ⟨#[]⟩, .int .u64 0]⟩) := by kernel_rfl
theorem by13 : byOf Tryd.prog 13 = some 24 := by kernel_rfl
theorem fo13_0 : fieldOff Tryd.prog 13 0 = some 0 := by kernel_rfl
theorem ft13_0 : fieldTy Tryd.prog 13 0 = some (9, 0) := by kernel_rfl
theorem fo13_1 : fieldOff Tryd.prog 13 1 = some 1 := by kernel_rfl
theorem ft13_1 : fieldTy Tryd.prog 13 1 = some (12, 1) := by kernel_rfl
theorem bs13 : structAt Tryd.prog 13 = some [(0, 1), (1, 1)] := by kernel_rfl
theorem sz14 : szOf Tryd.prog 14 = some 2 := by kernel_rfl
theorem ag14 : aggOf Tryd.prog 14 = some true := by kernel_rfl
theorem zr14 : zrOf Tryd.prog 14 = some [.string ⟨#[]⟩, .int .u64 0] := by kernel_rfl
theorem zv14 : zvOf Tryd.prog 14 = some (.agg ⟨[.string ⟨#[]⟩, .int .u64 0]⟩) := by kernel_rfl
theorem by14 : byOf Tryd.prog 14 = some 24 := by kernel_rfl
theorem fo14_0 : fieldOff Tryd.prog 14 0 = some 0 := by kernel_rfl
theorem ft14_0 : fieldTy Tryd.prog 14 0 = some (9, 0) := by kernel_rfl
theorem fo14_1 : fieldOff Tryd.prog 14 1 = some 1 := by kernel_rfl
theorem ft14_1 : fieldTy Tryd.prog 14 1 = some (12, 1) := by kernel_rfl
theorem bs14 : structAt Tryd.prog 14 = some [(0, 1), (1, 1)] := by kernel_rfl
theorem sz15 : szOf Tryd.prog 15 = some 1 := by kernel_rfl
theorem ag15 : aggOf Tryd.prog 15 = some false := by kernel_rfl
theorem zr15 : zrOf Tryd.prog 15 = some [.pointer none] := by kernel_rfl
theorem zv15 : zvOf Tryd.prog 15 = some (.pointer none) := by kernel_rfl
theorem by15 : byOf Tryd.prog 15 = some 8 := by kernel_rfl
theorem sz16 : szOf Tryd.prog 16 = some 1 := by kernel_rfl
theorem ag16 : aggOf Tryd.prog 16 = some false := by kernel_rfl
theorem zr16 : zrOf Tryd.prog 16 = some [.pointer none] := by kernel_rfl
theorem zv16 : zvOf Tryd.prog 16 = some (.pointer none) := by kernel_rfl
theorem by16 : byOf Tryd.prog 16 = some 8 := by kernel_rfl
theorem sz17 : szOf Tryd.prog 17 = some 1 := by kernel_rfl
theorem ag17 : aggOf Tryd.prog 17 = some false := by kernel_rfl
theorem zr17 : zrOf Tryd.prog 17 = some [.pointer none] := by kernel_rfl
theorem zv17 : zvOf Tryd.prog 17 = some (.pointer none) := by kernel_rfl
theorem by17 : byOf Tryd.prog 17 = some 8 := by kernel_rfl
theorem sz18 : szOf Tryd.prog 18 = some 1 := by kernel_rfl
theorem ag18 : aggOf Tryd.prog 18 = some true := by kernel_rfl
theorem zr18 : zrOf Tryd.prog 18 = some [.pointer none] := by kernel_rfl
theorem zv18 : zvOf Tryd.prog 18 = some (.agg ⟨[.pointer none]⟩) := by kernel_rfl
theorem by18 : byOf Tryd.prog 18 = some 8 := by kernel_rfl
theorem fo18_0 : fieldOff Tryd.prog 18 0 = some 0 := by kernel_rfl
theorem ft18_0 : fieldTy Tryd.prog 18 0 = some (17, 0) := by kernel_rfl
theorem bs18 : structAt Tryd.prog 18 = some [(0, 1)] := by kernel_rfl
theorem sz19 : szOf Tryd.prog 19 = some 1 := by kernel_rfl
theorem ag19 : aggOf Tryd.prog 19 = some true := by kernel_rfl
theorem zr19 : zrOf Tryd.prog 19 = some [.pointer none] := by kernel_rfl
theorem zv19 : zvOf Tryd.prog 19 = some (.agg ⟨[.pointer none]⟩) := by kernel_rfl
theorem by19 : byOf Tryd.prog 19 = some 8 := by kernel_rfl
theorem fo19_0 : fieldOff Tryd.prog 19 0 = some 0 := by kernel_rfl
theorem ft19_0 : fieldTy Tryd.prog 19 0 = some (17, 0) := by kernel_rfl
theorem bs19 : structAt Tryd.prog 19 = some [(0, 1)] := by kernel_rfl
theorem sz20 : szOf Tryd.prog 20 = some 1 := by kernel_rfl
theorem ag20 : aggOf Tryd.prog 20 = some false := by kernel_rfl
theorem zr20 : zrOf Tryd.prog 20 = some [.nilIface] := by kernel_rfl
theorem zv20 : zvOf Tryd.prog 20 = some (.nilIface) := by kernel_rfl
theorem by20 : byOf Tryd.prog 20 = some 16 := by kernel_rfl
theorem sz21 : szOf Tryd.prog 21 = some 1 := by kernel_rfl
theorem ag21 : aggOf Tryd.prog 21 = some false := by kernel_rfl
theorem zr21 : zrOf Tryd.prog 21 = some [.int .i32 0] := by kernel_rfl
theorem zv21 : zvOf Tryd.prog 21 = some (.int .i32 0) := by kernel_rfl
theorem by21 : byOf Tryd.prog 21 = some 4 := by kernel_rfl
theorem sz22 : szOf Tryd.prog 22 = some 1 := by kernel_rfl
theorem ag22 : aggOf Tryd.prog 22 = some false := by kernel_rfl
theorem zr22 : zrOf Tryd.prog 22 = some [.slice none 0 0] := by kernel_rfl
theorem zv22 : zvOf Tryd.prog 22 = some (.slice none 0 0) := by kernel_rfl
theorem by22 : byOf Tryd.prog 22 = some 24 := by kernel_rfl
theorem sl22 : slOf Tryd.prog 22 = some (9, 1) := by kernel_rfl
theorem sz23 : szOf Tryd.prog 23 = some 1 := by kernel_rfl
theorem ag23 : aggOf Tryd.prog 23 = some false := by kernel_rfl
theorem zr23 : zrOf Tryd.prog 23 = some [.slice none 0 0] := by kernel_rfl
theorem zv23 : zvOf Tryd.prog 23 = some (.slice none 0 0) := by kernel_rfl
theorem by23 : byOf Tryd.prog 23 = some 24 := by kernel_rfl
theorem sl23 : slOf Tryd.prog 23 = some (3, 1) := by kernel_rfl
theorem sz24 : szOf Tryd.prog 24 = some 1 := by kernel_rfl
theorem ag24 : aggOf Tryd.prog 24 = some false := by kernel_rfl
theorem zr24 : zrOf Tryd.prog 24 = some [.nilFunc] := by kernel_rfl
theorem zv24 : zvOf Tryd.prog 24 = some (.nilFunc) := by kernel_rfl
theorem by24 : byOf Tryd.prog 24 = some 8 := by kernel_rfl
theorem sz25 : szOf Tryd.prog 25 = some 1 := by kernel_rfl
theorem ag25 : aggOf Tryd.prog 25 = some false := by kernel_rfl
theorem zr25 : zrOf Tryd.prog 25 = some [.slice none 0 0] := by kernel_rfl
theorem zv25 : zvOf Tryd.prog 25 = some (.slice none 0 0) := by kernel_rfl
theorem by25 : byOf Tryd.prog 25 = some 24 := by kernel_rfl
theorem sz26 : szOf Tryd.prog 26 = some 3 := by kernel_rfl
theorem ag26 : aggOf Tryd.prog 26 = some true := by kernel_rfl
theorem zr26 : zrOf Tryd.prog 26 = some [.slice none 0 0, .bool false, .int .i64 0] := by kernel_rfl
theorem zv26 : zvOf Tryd.prog 26 = some (.agg ⟨[.slice none 0 0, .bool false, .int .i64 0]⟩) := by kernel_rfl
theorem by26 : byOf Tryd.prog 26 = some 40 := by kernel_rfl
theorem fo26_0 : fieldOff Tryd.prog 26 0 = some 0 := by kernel_rfl
theorem ft26_0 : fieldTy Tryd.prog 26 0 = some (25, 0) := by kernel_rfl
theorem fo26_1 : fieldOff Tryd.prog 26 1 = some 1 := by kernel_rfl
theorem ft26_1 : fieldTy Tryd.prog 26 1 = some (4, 1) := by kernel_rfl
theorem fo26_2 : fieldOff Tryd.prog 26 2 = some 2 := by kernel_rfl
theorem ft26_2 : fieldTy Tryd.prog 26 2 = some (3, 2) := by kernel_rfl
theorem bs26 : structAt Tryd.prog 26 = some [(0, 1), (1, 1), (2, 1)] := by kernel_rfl
theorem sz27 : szOf Tryd.prog 27 = some 3 := by kernel_rfl
theorem ag27 : aggOf Tryd.prog 27 = some true := by kernel_rfl
theorem zr27 : zrOf Tryd.prog 27 = some [.slice none 0 0, .bool false, .int .i64 0] := by kernel_rfl
theorem zv27 : zvOf Tryd.prog 27 = some (.agg ⟨[.slice none 0 0, .bool false, .int .i64 0]⟩) := by kernel_rfl
theorem by27 : byOf Tryd.prog 27 = some 40 := by kernel_rfl
theorem fo27_0 : fieldOff Tryd.prog 27 0 = some 0 := by kernel_rfl
theorem ft27_0 : fieldTy Tryd.prog 27 0 = some (25, 0) := by kernel_rfl
theorem fo27_1 : fieldOff Tryd.prog 27 1 = some 1 := by kernel_rfl
theorem ft27_1 : fieldTy Tryd.prog 27 1 = some (4, 1) := by kernel_rfl
theorem fo27_2 : fieldOff Tryd.prog 27 2 = some 2 := by kernel_rfl
theorem ft27_2 : fieldTy Tryd.prog 27 2 = some (3, 2) := by kernel_rfl
theorem bs27 : structAt Tryd.prog 27 = some [(0, 1), (1, 1), (2, 1)] := by kernel_rfl
theorem sz28 : szOf Tryd.prog 28 = some 1 := by kernel_rfl
theorem ag28 : aggOf Tryd.prog 28 = some false := by kernel_rfl
theorem zr28 : zrOf Tryd.prog 28 = some [.int .u64 0] := by kernel_rfl
theorem zv28 : zvOf Tryd.prog 28 = some (.int .u64 0) := by kernel_rfl
theorem by28 : byOf Tryd.prog 28 = some 8 := by kernel_rfl
theorem sz29 : szOf Tryd.prog 29 = some 4 := by kernel_rfl
theorem ag29 : aggOf Tryd.prog 29 = some true := by kernel_rfl
theorem zr29 : zrOf Tryd.prog 29 = some [.int .u64 0, .int .u64 0, .slice none 0 0, .string ⟨#[]⟩] := by kernel_rfl
theorem zv29 : zvOf Tryd.prog 29 = some (.agg ⟨[.int .u64 0, .int .u64 0, .slice none 0 0, .string ⟨#[]⟩]⟩) := by kernel_rfl
theorem by29 : byOf Tryd.prog 29 = some 56 := by kernel_rfl
theorem fo29_0 : fieldOff Tryd.prog 29 0 = some 0 := by kernel_rfl
theorem ft29_0 : fieldTy Tryd.prog 29 0 = some (28, 0) := by kernel_rfl
theorem fo29_1 : fieldOff Tryd.prog 29 1 = some 1 := by kernel_rfl
theorem ft29_1 : fieldTy Tryd.prog 29 1 = some (28, 1) := by kernel_rfl
theorem fo29_2 : fieldOff Tryd.prog 29 2 = some 2 := by kernel_rfl
theorem ft29_2 : fieldTy Tryd.prog 29 2 = some (23, 2) := by kernel_rfl
theorem fo29_3 : fieldOff Tryd.prog 29 3 = some 3 := by kernel_rfl
theorem ft29_3 : fieldTy Tryd.prog 29 3 = some (9, 3) := by kernel_rfl
theorem bs29 : structAt Tryd.prog 29 = some [(0, 1), (1, 1), (2, 1), (3, 1)] := by kernel_rfl
theorem sz30 : szOf Tryd.prog 30 = some 4 := by kernel_rfl
theorem ag30 : aggOf Tryd.prog 30 = some true := by kernel_rfl
theorem zr30 : zrOf Tryd.prog 30 = some [.int .u64 0, .int .u64 0, .slice none 0 0, .string ⟨#[]⟩] := by kernel_rfl
theorem zv30 : zvOf Tryd.prog 30 = some (.agg ⟨[.int .u64 0, .int .u64 0, .slice none 0 0, .string ⟨#[]⟩]⟩) := by kernel_rfl
theorem by30 : byOf Tryd.prog 30 = some 56 := by kernel_rfl
theorem fo30_0 : fieldOff Tryd.prog 30 0 = some 0 := by kernel_rfl
theorem ft30_0 : fieldTy Tryd.prog 30 0 = some (28, 0) := by kernel_rfl
theorem fo30_1 : fieldOff Tryd.prog 30 1 = some 1 := by kernel_rfl
theorem ft30_1 : fieldTy Tryd.prog 30 1 = some (28, 1) := by kernel_rfl
theorem fo30_2 : fieldOff Tryd.prog 30 2 = some 2 := by kernel_rfl
theorem ft30_2 : fieldTy Tryd.prog 30 2 = some (23, 2) := by kernel_rfl
theorem fo30_3 : fieldOff Tryd.prog 30 3 = some 3 := by kernel_rfl
theorem ft30_3 : fieldTy Tryd.prog 30 3 = some (9, 3) := by kernel_rfl
theorem bs30 : structAt Tryd.prog 30 = some [(0, 1), (1, 1), (2, 1), (3, 1)] := by kernel_rfl
theorem sz31 : szOf Tryd.prog 31 = some 1 := by kernel_rfl
theorem ag31 : aggOf Tryd.prog 31 = some false := by kernel_rfl
theorem zr31 : zrOf Tryd.prog 31 = some [.nilFunc] := by kernel_rfl
theorem zv31 : zvOf Tryd.prog 31 = some (.nilFunc) := by kernel_rfl
theorem by31 : byOf Tryd.prog 31 = some 8 := by kernel_rfl
theorem sz32 : szOf Tryd.prog 32 = some 1 := by kernel_rfl
theorem ag32 : aggOf Tryd.prog 32 = some false := by kernel_rfl
theorem zr32 : zrOf Tryd.prog 32 = some [.int .i64 0] := by kernel_rfl
theorem zv32 : zvOf Tryd.prog 32 = some (.int .i64 0) := by kernel_rfl
theorem by32 : byOf Tryd.prog 32 = some 8 := by kernel_rfl
theorem sz33 : szOf Tryd.prog 33 = some 1 := by kernel_rfl
theorem ag33 : aggOf Tryd.prog 33 = some false := by kernel_rfl
theorem sz34 : szOf Tryd.prog 34 = some 1 := by kernel_rfl
theorem ag34 : aggOf Tryd.prog 34 = some false := by kernel_rfl
theorem zr34 : zrOf Tryd.prog 34 = some [.nilFunc] := by kernel_rfl
theorem zv34 : zvOf Tryd.prog 34 = some (.nilFunc) := by kernel_rfl
theorem by34 : byOf Tryd.prog 34 = some 8 := by kernel_rfl
theorem sz35 : szOf Tryd.prog 35 = some 1 := by kernel_rfl
theorem ag35 : aggOf Tryd.prog 35 = some false := by kernel_rfl
theorem zr35 : zrOf Tryd.prog 35 = some [.nilFunc] := by kernel_rfl
theorem zv35 : zvOf Tryd.prog 35 = some (.nilFunc) := by kernel_rfl
theorem by35 : byOf Tryd.prog 35 = some 8 := by kernel_rfl
theorem sz36 : szOf Tryd.prog 36 = some 1 := by kernel_rfl
theorem ag36 : aggOf Tryd.prog 36 = some false := by kernel_rfl
theorem sz37 : szOf Tryd.prog 37 = some 1 := by kernel_rfl
theorem ag37 : aggOf Tryd.prog 37 = some false := by kernel_rfl
theorem zr37 : zrOf Tryd.prog 37 = some [.nilFunc] := by kernel_rfl
theorem zv37 : zvOf Tryd.prog 37 = some (.nilFunc) := by kernel_rfl
theorem by37 : byOf Tryd.prog 37 = some 8 := by kernel_rfl
theorem sz38 : szOf Tryd.prog 38 = some 1 := by kernel_rfl
theorem ag38 : aggOf Tryd.prog 38 = some false := by kernel_rfl
theorem zr38 : zrOf Tryd.prog 38 = some [.nilFunc] := by kernel_rfl
theorem zv38 : zvOf Tryd.prog 38 = some (.nilFunc) := by kernel_rfl
theorem by38 : byOf Tryd.prog 38 = some 8 := by kernel_rfl
theorem sz39 : szOf Tryd.prog 39 = some 1 := by kernel_rfl
theorem ag39 : aggOf Tryd.prog 39 = some false := by kernel_rfl
theorem zr39 : zrOf Tryd.prog 39 = some [.nilFunc] := by kernel_rfl
theorem zv39 : zvOf Tryd.prog 39 = some (.nilFunc) := by kernel_rfl
theorem by39 : byOf Tryd.prog 39 = some 8 := by kernel_rfl
theorem sz40 : szOf Tryd.prog 40 = some 1 := by kernel_rfl
theorem ag40 : aggOf Tryd.prog 40 = some false := by kernel_rfl
theorem sz41 : szOf Tryd.prog 41 = some 1 := by kernel_rfl
theorem ag41 : aggOf Tryd.prog 41 = some false := by kernel_rfl
theorem zr41 : zrOf Tryd.prog 41 = some [.nilFunc] := by kernel_rfl
theorem zv41 : zvOf Tryd.prog 41 = some (.nilFunc) := by kernel_rfl
theorem by41 : byOf Tryd.prog 41 = some 8 := by kernel_rfl
theorem sz42 : szOf Tryd.prog 42 = some 1 := by kernel_rfl
theorem ag42 : aggOf Tryd.prog 42 = some false := by kernel_rfl
theorem zr42 : zrOf Tryd.prog 42 = some [.int .u16 0] := by kernel_rfl
theorem zv42 : zvOf Tryd.prog 42 = some (.int .u16 0) := by kernel_rfl
theorem by42 : byOf Tryd.prog 42 = some 2 := by kernel_rfl
theorem sz43 : szOf Tryd.prog 43 = some 1 := by kernel_rfl
theorem ag43 : aggOf Tryd.prog 43 = some false := by kernel_rfl
theorem zr43 : zrOf Tryd.prog 43 = some [.nilFunc] := by kernel_rfl
theorem zv43 : zvOf Tryd.prog 43 = some (.nilFunc) := by kernel_rfl
theorem by43 : byOf Tryd.prog 43 = some 8 := by kernel_rfl
theorem sz44 : szOf Tryd.prog 44 = some 1 := by kernel_rfl
theorem ag44 : aggOf Tryd.prog 44 = some false := by kernel_rfl
theorem zr44 : zrOf Tryd.prog 44 = some [.nilFunc] := by kernel_rfl
theorem zv44 : zvOf Tryd.prog 44 = some (.nilFunc) := by kernel_rfl
theorem by44 : byOf Tryd.prog 44 = some 8 := by kernel_rfl
theorem sz45 : szOf Tryd.prog 45 = some 1 := by kernel_rfl
theorem ag45 : aggOf Tryd.prog 45 = some false := by kernel_rfl
theorem zr45 : zrOf Tryd.prog 45 = some [.nilFunc] := by kernel_rfl
theorem zv45 : zvOf Tryd.prog 45 = some (.nilFunc) := by kernel_rfl
theorem by45 : byOf Tryd.prog 45 = some 8 := by kernel_rfl
theorem sz46 : szOf Tryd.prog 46 = some 1 := by kernel_rfl
theorem ag46 : aggOf Tryd.prog 46 = some false := by kernel_rfl
theorem zr46 : zrOf Tryd.prog 46 = some [.nilFunc] := by kernel_rfl
theorem zv46 : zvOf Tryd.prog 46 = some (.nilFunc) := by kernel_rfl
theorem by46 : byOf Tryd.prog 46 = some 8 := by kernel_rfl
theorem sz47 : szOf Tryd.prog 47 = some 1 := by kernel_rfl
theorem ag47 : aggOf Tryd.prog 47 = some false := by kernel_rfl
theorem zr47 : zrOf Tryd.prog 47 = some [.nilFunc] := by kernel_rfl
theorem zv47 : zvOf Tryd.prog 47 = some (.nilFunc) := by kernel_rfl
theorem by47 : byOf Tryd.prog 47 = some 8 := by kernel_rfl
theorem sz48 : szOf Tryd.prog 48 = some 1 := by kernel_rfl
theorem ag48 : aggOf Tryd.prog 48 = some false := by kernel_rfl
theorem zr48 : zrOf Tryd.prog 48 = some [.nilFunc] := by kernel_rfl
theorem zv48 : zvOf Tryd.prog 48 = some (.nilFunc) := by kernel_rfl
theorem by48 : byOf Tryd.prog 48 = some 8 := by kernel_rfl
theorem sz49 : szOf Tryd.prog 49 = some 1 := by kernel_rfl
theorem ag49 : aggOf Tryd.prog 49 = some false := by kernel_rfl
theorem zr49 : zrOf Tryd.prog 49 = some [.nilFunc] := by kernel_rfl
theorem zv49 : zvOf Tryd.prog 49 = some (.nilFunc) := by kernel_rfl
theorem by49 : byOf Tryd.prog 49 = some 8 := by kernel_rfl
theorem sz50 : szOf Tryd.prog 50 = some 3 := by kernel_rfl
theorem ag50 : aggOf Tryd.prog 50 = some true := by kernel_rfl
theorem zr50 : zrOf Tryd.prog 50 = some [.string ⟨#[]⟩, .string ⟨#[]⟩, .int .i64 0] := by kernel_rfl
theorem zv50 : zvOf Tryd.prog 50 = some (.agg ⟨[.string ⟨#[]⟩, .string ⟨#[]⟩, .int .i64 0]⟩) := by kernel_rfl
theorem by50 : byOf Tryd.prog 50 = some 40 := by kernel_rfl
theorem fo50_0 : fieldOff Tryd.prog 50 0 = some 0 := by kernel_rfl
theorem ft50_0 : fieldTy Tryd.prog 50 0 = some (9, 0) := by kernel_rfl
theorem fo50_1 : fieldOff Tryd.prog 50 1 = some 1 := by kernel_rfl
theorem ft50_1 : fieldTy Tryd.prog 50 1 = some (9, 1) := by kernel_rfl
theorem fo50_2 : fieldOff Tryd.prog 50 2 = some 2 := by kernel_rfl
theorem ft50_2 : fieldTy Tryd.prog 50 2 = some (3, 2) := by kernel_rfl
theorem bs50 : structAt Tryd.prog 50 = some [(0, 1), (1, 1), (2, 1)] := by kernel_rfl
theorem ag51 : aggOf Tryd.prog 51 = some true := by kernel_rfl
theorem zr51 : zrOf Tryd.prog 51 = some [.string ⟨#[]⟩, .string ⟨#[]⟩, .int .i64 0] := by kernel_rfl
theorem fo51_0 : fieldOff Tryd.prog 51 0 = some 0 := by kernel_rfl
theorem ft51_0 : fieldTy Tryd.prog 51 0 = some (9, 0) := by kernel_rfl
theorem fo51_1 : fieldOff Tryd.prog 51 1 = some 1 := by kernel_rfl
theorem ft51_1 : fieldTy Tryd.prog 51 1 = some (9, 1) := by kernel_rfl
theorem fo51_2 : fieldOff Tryd.prog 51 2 = some 2 := by kernel_rfl
theorem ft51_2 : fieldTy Tryd.prog 51 2 = some (3, 2) := by kernel_rfl
theorem bs51 : structAt Tryd.prog 51 = some [(0, 1), (1, 1), (2, 1)] := by kernel_rfl
theorem sz52 : szOf Tryd.prog 52 = some 1 := by kernel_rfl
theorem ag52 : aggOf Tryd.prog 52 = some false := by kernel_rfl
theorem zr52 : zrOf Tryd.prog 52 = some [.pointer none] := by kernel_rfl
theorem zv52 : zvOf Tryd.prog 52 = some (.pointer none) := by kernel_rfl
theorem by52 : byOf Tryd.prog 52 = some 8 := by kernel_rfl
theorem sz53 : szOf Tryd.prog 53 = some 1 := by kernel_rfl
theorem ag53 : aggOf Tryd.prog 53 = some false := by kernel_rfl
theorem sz54 : szOf Tryd.prog 54 = some 1 := by kernel_rfl
theorem ag54 : aggOf Tryd.prog 54 = some false := by kernel_rfl
theorem zr54 : zrOf Tryd.prog 54 = some [.nilFunc] := by kernel_rfl
theorem zv54 : zvOf Tryd.prog 54 = some (.nilFunc) := by kernel_rfl
theorem by54 : byOf Tryd.prog 54 = some 8 := by kernel_rfl
theorem sz55 : szOf Tryd.prog 55 = some 1 := by kernel_rfl
theorem ag55 : aggOf Tryd.prog 55 = some false := by kernel_rfl
theorem zr55 : zrOf Tryd.prog 55 = some [.nilFunc] := by kernel_rfl
theorem zv55 : zvOf Tryd.prog 55 = some (.nilFunc) := by kernel_rfl
theorem by55 : byOf Tryd.prog 55 = some 8 := by kernel_rfl
theorem sz56 : szOf Tryd.prog 56 = some 1 := by kernel_rfl
theorem ag56 : aggOf Tryd.prog 56 = some false := by kernel_rfl
theorem zr56 : zrOf Tryd.prog 56 = some [.nilFunc] := by kernel_rfl
theorem zv56 : zvOf Tryd.prog 56 = some (.nilFunc) := by kernel_rfl
theorem by56 : byOf Tryd.prog 56 = some 8 := by kernel_rfl
theorem sz57 : szOf Tryd.prog 57 = some 1 := by kernel_rfl
theorem ag57 : aggOf Tryd.prog 57 = some false := by kernel_rfl
theorem zr57 : zrOf Tryd.prog 57 = some [.int .u8 0] := by kernel_rfl
theorem zv57 : zvOf Tryd.prog 57 = some (.int .u8 0) := by kernel_rfl
theorem by57 : byOf Tryd.prog 57 = some 1 := by kernel_rfl
theorem sz58 : szOf Tryd.prog 58 = some 5 := by kernel_rfl
theorem ag58 : aggOf Tryd.prog 58 = some true := by kernel_rfl
theorem zr58 : zrOf Tryd.prog 58 = some [.int .u8 0, .string ⟨#[]⟩, .string ⟨#[]⟩, .string ⟨#[]⟩, .int .i64 0] := by kernel_rfl
theorem zv58 : zvOf Tryd.prog 58 = some (.agg ⟨[.int .u8 0, .string ⟨#[]⟩, .string ⟨#[]⟩, .string ⟨#[]⟩, .int .i64 0]⟩) := by kernel_rfl
theorem by58 : byOf Tryd.prog 58 = some 64 := by kernel_rfl
theorem fo58_0 : fieldOff Tryd.prog 58 0 = some 0 := by kernel_rfl
theorem ft58_0 : fieldTy Tryd.prog 58 0 = some (57, 0) := by kernel_rfl
theorem fo58_1 : fieldOff Tryd.prog 58 1 = some 1 := by kernel_rfl
theorem ft58_1 : fieldTy Tryd.prog 58 1 = some (9, 1) := by kernel_rfl
theorem fo58_2 : fieldOff Tryd.prog 58 2 = some 2 := by kernel_rfl
theorem ft58_2 : fieldTy Tryd.prog 58 2 = some (9, 2) := by kernel_rfl
theorem fo58_3 : fieldOff Tryd.prog 58 3 = some 3 := by kernel_rfl
theorem ft58_3 : fieldTy Tryd.prog 58 3 = some (9, 3) := by kernel_rfl
theorem fo58_4 : fieldOff Tryd.prog 58 4 = some 4 := by kernel_rfl
theorem ft58_4 : fieldTy Tryd.prog 58 4 = some (3, 4) := by kernel_rfl
theorem bs58 : structAt Tryd.prog 58 = some [(0, 1), (1, 1), (2, 1), (3, 1), (4, 1)] := by kernel_rfl
theorem sz59 : szOf Tryd.prog 59 = some 5 := by kernel_rfl
theorem ag59 : aggOf Tryd.prog 59 = some true := by kernel_rfl
theorem zr59 : zrOf Tryd.prog 59 = some [.int .u8 0, .string ⟨#[]⟩, .string ⟨#[]⟩, .string ⟨#[]⟩, .int .i64 0] := by kernel_rfl
theorem zv59 : zvOf Tryd.prog 59 = some (.agg ⟨[.int .u8 0, .string ⟨#[]⟩, .string ⟨#[]⟩, .string ⟨#[]⟩, .int .i64 0]⟩) := by kernel_rfl
theorem by59 : byOf Tryd.prog 59 = some 64 := by kernel_rfl
theorem fo59_0 : fieldOff Tryd.prog 59 0 = some 0 := by kernel_rfl
theorem ft59_0 : fieldTy Tryd.prog 59 0 = some (57, 0) := by kernel_rfl
theorem fo59_1 : fieldOff Tryd.prog 59 1 = some 1 := by kernel_rfl
theorem ft59_1 : fieldTy Tryd.prog 59 1 = some (9, 1) := by kernel_rfl
theorem fo59_2 : fieldOff Tryd.prog 59 2 = some 2 := by kernel_rfl
theorem ft59_2 : fieldTy Tryd.prog 59 2 = some (9, 2) := by kernel_rfl
theorem fo59_3 : fieldOff Tryd.prog 59 3 = some 3 := by kernel_rfl
theorem ft59_3 : fieldTy Tryd.prog 59 3 = some (9, 3) := by kernel_rfl
theorem fo59_4 : fieldOff Tryd.prog 59 4 = some 4 := by kernel_rfl
theorem ft59_4 : fieldTy Tryd.prog 59 4 = some (3, 4) := by kernel_rfl
theorem bs59 : structAt Tryd.prog 59 = some [(0, 1), (1, 1), (2, 1), (3, 1), (4, 1)] := by kernel_rfl
theorem sz60 : szOf Tryd.prog 60 = some 1 := by kernel_rfl
theorem ag60 : aggOf Tryd.prog 60 = some false := by kernel_rfl
theorem sz61 : szOf Tryd.prog 61 = some 1 := by kernel_rfl
theorem ag61 : aggOf Tryd.prog 61 = some false := by kernel_rfl
theorem zr61 : zrOf Tryd.prog 61 = some [.nilFunc] := by kernel_rfl
theorem zv61 : zvOf Tryd.prog 61 = some (.nilFunc) := by kernel_rfl
theorem by61 : byOf Tryd.prog 61 = some 8 := by kernel_rfl
theorem sz62 : szOf Tryd.prog 62 = some 1 := by kernel_rfl
theorem ag62 : aggOf Tryd.prog 62 = some false := by kernel_rfl
theorem zr62 : zrOf Tryd.prog 62 = some [.int .u64 0] := by kernel_rfl
theorem zv62 : zvOf Tryd.prog 62 = some (.int .u64 0) := by kernel_rfl
theorem by62 : byOf Tryd.prog 62 = some 8 := by kernel_rfl
theorem sz63 : szOf Tryd.prog 63 = some 1 := by kernel_rfl
theorem ag63 : aggOf Tryd.prog 63 = some false := by kernel_rfl
theorem zr63 : zrOf Tryd.prog 63 = some [.nilFunc] := by kernel_rfl
theorem zv63 : zvOf Tryd.prog 63 = some (.nilFunc) := by kernel_rfl
theorem by63 : byOf Tryd.prog 63 = some 8 := by kernel_rfl
theorem sz64 : szOf Tryd.prog 64 = some 256 := by kernel_rfl
theorem ag64 : aggOf Tryd.prog 64 = some true := by kernel_rfl
theorem zr64 : zrOf Tryd.prog 64 = some [.bool false, .bool false, .bool false, .bool false, .bool false, .bool false, .bool false, .bool false, .bool false, .bool false, .bool false, .bool false, .bool false, .bool false, .bool false, .bool false, .bool false, .bool false, .bool false, .bool false, .bool false, .bool false, .bool false, .bool false, .bool false, .bool false, .bool false, .bool false, .bool false, .bool false, .bool false, .bool false, .bool false, .bool false, .bool false, .bool false, .bool false, .bool false, .bool false, .bool false, .bool false, .bool false, .bool false, .bool false, .bool false, .bool false, .bool false, .bool false, .bool false, .bool false, .bool false, .bool false, .bool false, .bool false, .bool false, .bool false, .bool false, .bool false, .bool false, .bool false, .bool false, .bool false, .bool false, .bool false, .bool false, .bool false, .bool false, .bool false, .bool false, .bool false, .bool false, .bool false, .bool false, .bool false, .bool false, .bool false, .bool false, .bool false, .bool false, .bool false, .bool false, .bool false, .bool false, .bool false, .bool false, .bool false, .bool false, .bool false, .bool false, .bool false, .bool false, .bool false, .bool false, .bool false, .bool false, .bool false, .bool false, .bool false, .bool false, .bool false, .bool false, .bool false, .bool false, .bool false, .bool false, .bool false, .bool false, .bool false, .bool false, .bool false, .bool false, .bool false, .bool false, .bool false, .bool false, .bool false, .bool false, .bool false, .bool false, .bool false, .bool false, .bool false, .bool false, .bool false, .bool false, .bool false, .bool false, .bool false, .bool false, .bool false, .bool false, .bool false, .bool false, .bool false, .bool false, .bool false, .bool false, .bool false, .bool false, .bool false, .bool false, .bool false, .bool false, .bool false, .bool false, .bool false, .bool false, .bool false, .bool false, .bool false, .bool false, .bool false, .bool false, .bool false, .bool false, .bool false, .bool false, .bool false, .bool false, .bool false, .bool false, .bool false, .bool false, .bool false, .bool false, .bool false, .bool false, .bool false, .bool false, .bool false, .bool false, .bool false, .bool false, .bool false, .bool false, .bool false, .bool false, .bool false, .bool false, .bool false, .bool false, .bool false, .bool false, .bool false, .bool false, .bool false, .bool false, .bool false, .bool false, .bool false, .bool false, .bool false, .bool false, .bool false, .bool false, .bool false, .bool false, .bool false, .bool false, .bool false, .bool false, .bool false, .bool false, .bool false, .bool false, .bool false, .bool false, .bool false, .bool false, .bool false, .bool false, .bool false, .bool false, .bool false, .bool false, .bool false, .bool false, .bool false, .bool false, .bool false, .bool false, .bool false, .bool false, .bool false, .bool false, .bool false, .bool false, .bool false, .bool false, .bool false, .bool false, .bool false, .bool false, .bool false, .bool false, .bool false, .bool false, .bool false, .bool false, .bool false, .bool false, .bool false, .bool false, .bool false, .bool false, .bool false, .bool false, .bool false, .bool false, .bool false, .bool false, .bool false, .bool false, .bool false, .bool false, .bool false] := by kernel_rfl
theorem zv64 : zvOf Tryd.prog 64 = some (.agg ⟨[.bool false, .bool false, .bool false, .bool false, .bool false, .bool false, .bool false, .bool false, .bool false, .bool false, .bool false, .bool false, .bool false, .bool false, .bool false, .bool false, .bool false, .bool false, .bool false, .bool false, .bool false, .bool false, .bool false, .bool false, .bool false, .bool false, .bool false, .bool false, .bool false, .bool false, .bool false, .bool false, .bool false, .bool false, .bool false, .bool false, .bool false, .bool false, .bool false, .bool false, .bool false, .bool false, .bool false, .bool false, .bool false, .bool false, .bool false, .bool false, .bool false, .bool false, .bool false, .bool false, .bool false, .bool false, .bool false, .bool false, .bool false, .bool false, .bool false, .bool false, .bool false, .bool false, .bool false, .bool false, .bool false, .bool false, .bool false, .bool false, .bool false, .bool false, .bool false, .bool false, .bool false, .bool false, .bool false, .bool false, .bool false, .bool false, .bool false, .bool false, .bool false, .bool false, .bool false, .bool false, .bool false, .bool false, .bool false, .bool false, .bool false, .bool false, .bool false, .bool false, .bool false, .bool false, .bool false, .bool false, .bool false, .bool false, .bool false, .bool false, .bool false, .bool false, .bool false, .bool false, .bool false, .bool false, .bool false, .bool false, .bool false, .bool false, .bool false, .bool false, .bool false, .bool false, .bool false, .bool false, .bool false, .bool false, .bool false, .bool false, .bool false, .bool false, .bool false, .bool false, .bool false, .bool false, .bool false, .bool false, .bool false, .bool false, .bool false, .bool false, .bool false, .bool false, .bool false, .bool false, .bool false, .bool false, .bool false, .bool false, .bool false, .bool false, .bool false, .bool false, .bool false, .bool false, .bool false, .bool false, .bool false, .bool false, .bool false, .bool false, .bool false, .bool false, .bool false, .bool false, .bool false, .bool false, .bool false, .bool false, .bool false, .bool false, .bool false, .bool false, .bool false, .bool false, .bool false, .bool false, .bool false, .bool false, .bool false, .bool false, .bool false, .bool false, .bool false, .bool false, .bool false, .bool false, .bool false, .bool false, .bool false, .bool false, .bool false, .bool false, .bool false, .bool false, .bool false, .bool false, .bool false, .bool false, .bool false, .bool false, .bool false, .bool false, .bool false, .bool false, .bool false, .bool false, .bool false, .bool false, .bool false, .bool false, .bool false, .bool false, .bool false, .bool false, .bool false, .bool false, .bool false, .bool false, .bool false, .bool false, .bool false, .bool false, .bool false, .bool false, .bool false, .bool false, .bool false, .bool false, .bool false, .bool false, .bool false, .bool false, .bool false, .bool false, .bool false, .bool false, .bool false, .bool false, .bool false, .bool false, .bool false, .bool false, .bool false, .bool false, .bool false, .bool false, .bool false, .bool false, .bool false, .bool false, .bool false, .bool false, .bool false, .bool false, .bool false, .bool false, .bool false, .bool false, .bool false, .bool false, .bool false, .bool false, .bool false, .bool false]⟩) := by kernel_rfl
theorem by64 : byOf Tryd.prog 64 = some 256 := by kernel_rfl
theorem ar64 : arOf Tryd.prog 64 = some (256, 4, 1) := by kernel_rfl
theorem sz65 : szOf Tryd.prog 65 = some 256 := by kernel_rfl
theorem ag65 : aggOf Tryd.prog 65 = some true := by kernel_rfl
theorem zr65 : zrOf Tryd.prog 65 = some [.bool false, .bool false, .bool false, .bool false, .bool false, .bool false, .bool false, .bool false, .bool false, .bool false, .bool false, .bool false, .bool false, .bool false, .bool false, .bool false, .bool false, .bool false, .bool false, .bool false, .bool false, .bool false, .bool false, .bool false, .bool false, .bool false, .bool false, .bool false, .bool false, .bool false, .bool false, .bool false, .bool false, .bool false, .bool false, .bool false, .bool false, .bool false, .bool false, .bool false, .bool false, .bool false, .bool false, .bool false, .bool false, .bool false, .bool false, .bool false, .bool false, .bool false, .bool false, .bool false, .bool false, .bool false, .bool false, .bool false, .bool false, .bool false, .bool false, .bool false, .bool false, .bool false, .bool false, .bool false, .bool false, .bool false, .bool false, .bool false, .bool false, .bool false, .bool false, .bool false, .bool false, .bool false, .bool false, .bool false, .bool false, .bool false, .bool false, .bool false, .bool false, .bool false, .bool false, .bool false, .bool false, .bool false, .bool false, .bool false, .bool false, .bool false, .bool false, .bool false, .bool false, .bool false, .bool false, .bool false, .bool false, .bool false, .bool false, .bool false, .bool false, .bool false, .bool false, .bool false, .bool false, .bool false, .bool false, .bool false, .bool false, .bool false, .bool false, .bool false, .bool false, .bool false, .bool false, .bool false, .bool false, .bool false, .bool false, .bool false, .bool false, .bool false, .bool false, .bool false, .bool false, .bool false, .bool false, .bool false, .bool false, .bool false, .bool false, .bool false, .bool false, .bool false, .bool false, .bool false, .bool false, .bool false, .bool false, .bool false, .bool false, .bool false, .bool false, .bool false, .bool false, .bool false, .bool false, .bool false, .bool false, .bool false, .bool false, .bool false, .bool false, .bool false, .bool false, .bool false, .bool false, .bool false, .bool false, .bool false, .bool false, .bool false, .bool false, .bool false, .bool false, .bool false, .bool false, .bool false, .bool false, .bool false, .bool false, .bool false, .bool false, .bool false, .bool false, .bool false, .bool false, .bool false, .bool false, .bool false, .bool false, .bool false, .bool false, .bool false, .bool false, .bool false, .bool false, .bool false, .bool false, .bool false, .bool false, .bool false, .bool false, .bool false, .bool false, .bool false, .bool false, .bool false, .bool false, .bool false, .bool false, .bool false, .bool false, .bool false, .bool false, .bool false, .bool false, .bool false, .bool false, .bool false, .bool false, .bool false, .bool false, .bool false, .bool false, .bool false, .bool false, .bool false, .bool false, .bool false, .bool false, .bool false, .bool false, .bool false, .bool false, .bool false, .bool false, .bool false, .bool false, .bool false, .bool false, .bool false, .bool false, .bool false, .bool false, .bool false, .bool false, .bool false, .bool false, .bool false, .bool false, .bool false, .bool false, .bool false, .bool false, .bool false, .bool false, .bool false, .bool false, .bool false, .bool false, .bool false, .bool false, .bool false, .bool false, .bool false] := by kernel_rfl
theorem zv65 : zvOf Tryd.prog 65 = some (.agg ⟨[.bool false, .bool false, .bool false, .bool false, .bool false, .bool false, .bool false, .bool false, .bool false, .bool false, .bool false, .bool false, .bool false, .bool false, .bool false, .bool false, .bool false, .bool false, .bool false, .bool false, .bool false, .bool false, .bool false, .bool false, .bool false, .bool false, .bool false, .bool false, .bool false, .bool false, .bool false, .bool false, .bool false, .bool false, .bool false, .bool false, .bool false, .bool false, .bool false, .bool false, .bool false, .bool false, .bool false, .bool false, .bool false, .bool false, .bool false, .bool false, .bool false, .bool false, .bool false, .bool false, .bool false, .bool false, .bool false, .bool false, .bool false, .bool false, .bool false, .bool false, .bool false, .bool false, .bool false, .bool false, .bool false, .bool false, .bool false, .bool false, .bool false, .bool false, .bool false, .bool false, .bool false, .bool false, .bool false, .bool false, .bool false, .bool false, .bool false, .bool false, .bool false, .bool false, .bool false, .bool false, .bool false, .bool false, .bool false, .bool false, .bool false, .bool false, .bool false, .bool false, .bool false, .bool false, .bool false, .bool false, .bool false, .bool false, .bool false, .bool false, .bool false, .bool false, .bool false, .bool false, .bool false, .bool false, .bool false, .bool false, .bool false, .bool false, .bool false, .bool false, .bool false, .bool false, .bool false, .bool false, .bool false, .bool false, .bool false, .bool false, .bool false, .bool false, .bool false, .bool false, .bool false, .bool false, .bool false, .bool false, .bool false, .bool false, .bool false, .bool false, .bool false, .bool false, .bool false, .bool false, .bool false, .bool false, .bool false, .bool false, .bool false, .bool false, .bool false, .bool false, .bool false, .bool false, .bool false, .bool false, .bool false, .bool false, .bool false, .bool false, .bool false, .bool false, .bool false, .bool false, .bool false, .bool false, .bool false, .bool false, .bool false, .bool false, .bool false, .bool false, .bool false, .bool false, .bool false, .bool false, .bool false, .bool false, .bool false, .bool false, .bool false, .bool false, .bool false, .bool false, .bool false, .bool false, .bool false, .bool false, .bool false, .bool false, .bool false, .bool false, .bool false, .bool false, .bool false, .bool false, .bool false, .bool false, .bool false, .bool false, .bool false, .bool false, .bool false, .bool false, .bool false, .bool false, .bool false, .bool false, .bool false, .bool false, .bool false, .bool false, .bool false, .bool false, .bool false, .bool false, .bool false, .bool false, .bool false, .bool false, .bool false, .bool false, .bool false, .bool false, .bool false, .bool false, .bool false, .bool false, .bool false, .bool false, .bool false, .bool false, .bool false, .bool false, .bool false, .bool false, .bool false, .bool false, .bool false, .bool false, .bool false, .bool false, .bool false, .bool false, .bool false, .bool false, .bool false, .bool false, .bool false, .bool false, .bool false, .bool false, .bool false, .bool false, .bool false, .bool false, .bool false, .bool false, .bool false, .bool false, .bool false, .bool false, .bool false, .bool false]⟩) := by kernel_rfl
theorem by65 : byOf Tryd.prog 65 = some 256 := by kernel_rfl
theorem ar65 : arOf Tryd.prog 65 = some (256, 4, 1) := by kernel_rfl
theorem sz66 : szOf Tryd.prog 66 = some 1 := by kernel_rfl
theorem ag66 : aggOf Tryd.prog 66 = some false := by kernel_rfl
theorem sz67 : szOf Tryd.prog 67 = some 1 := by kernel_rfl
theorem ag67 : aggOf Tryd.prog 67 = some false := by kernel_rfl
theorem zr67 : zrOf Tryd.prog 67 = some [.nilFunc] := by kernel_rfl
theorem zv67 : zvOf Tryd.prog 67 = some (.nilFunc) := by kernel_rfl
theorem by67 : byOf Tryd.prog 67 = some 8 := by kernel_rfl
theorem sz68 : szOf Tryd.prog 68 = some 1 := by kernel_rfl
theorem ag68 : aggOf Tryd.prog 68 = some false := by kernel_rfl
theorem zr68 : zrOf Tryd.prog 68 = some [.nilFunc] := by kernel_rfl
theorem zv68 : zvOf Tryd.prog 68 = some (.nilFunc) := by kernel_rfl
theorem by68 : byOf Tryd.prog 68 = some 8 := by kernel_rfl
theorem sz69 : szOf Tryd.prog 69 = some 1 := by kernel_rfl
theorem ag69 : aggOf Tryd.prog 69 = some false := by kernel_rfl
theorem zr69 : zrOf Tryd.prog 69 = some [.pointer none] := by kernel_rfl
theorem zv69 : zvOf Tryd.prog 69 = some (.pointer none) := by kernel_rfl
theorem by69 : byOf Tryd.prog 69 = some 8 := by kernel_rfl
theorem sz70 : szOf Tryd.prog 70 = some 1 := by kernel_rfl
theorem ag70 : aggOf Tryd.prog 70 = some false := by kernel_rfl
theorem zr70 : zrOf Tryd.prog 70 = some [.nilFunc] := by kernel_rfl
theorem zv70 : zvOf Tryd.prog 70 = some (.nilFunc) := by kernel_rfl
theorem by70 : byOf Tryd.prog 70 = some 8 := by kernel_rfl
theorem sz71 : szOf Tryd.prog 71 = some 1 := by kernel_rfl
theorem ag71 : aggOf Tryd.prog 71 = some false := by kernel_rfl
theorem zr71 : zrOf Tryd.prog 71 = some [.nilFunc] := by kernel_rfl
theorem zv71 : zvOf Tryd.prog 71 = some (.nilFunc) := by kernel_rfl
theorem by71 : byOf Tryd.prog 71 = some 8 := by kernel_rfl
theorem sz72 : szOf Tryd.prog 72 = some 1 := by kernel_rfl
theorem ag72 : aggOf Tryd.prog 72 = some false := by kernel_rfl
theorem zr72 : zrOf Tryd.prog 72 = some [.nilFunc] := by kernel_rfl
theorem zv72 : zvOf Tryd.prog 72 = some (.nilFunc) := by kernel_rfl
theorem by72 : byOf Tryd.prog 72 = some 8 := by kernel_rfl
theorem sz73 : szOf Tryd.prog 73 = some 1 := by kernel_rfl
theorem ag73 : aggOf Tryd.prog 73 = some false := by kernel_rfl
theorem zr73 : zrOf Tryd.prog 73 = some [.nilFunc] := by kernel_rfl
theorem zv73 : zvOf Tryd.prog 73 = some (.nilFunc) := by kernel_rfl
theorem by73 : byOf Tryd.prog 73 = some 8 := by kernel_rfl
theorem sz74 : szOf Tryd.prog 74 = some 1 := by kernel_rfl
theorem ag74 : aggOf Tryd.prog 74 = some false := by kernel_rfl
theorem zr74 : zrOf Tryd.prog 74 = some [.nilFunc] := by kernel_rfl
theorem zv74 : zvOf Tryd.prog 74 = some (.nilFunc) := by kernel_rfl
theorem by74 : byOf Tryd.prog 74 = some 8 := by kernel_rfl
theorem sz75 : szOf Tryd.prog 75 = some 1 := by kernel_rfl
theorem ag75 : aggOf Tryd.prog 75 = some false := by kernel_rfl
theorem zr75 : zrOf Tryd.prog 75 = some [.nilFunc] := by kernel_rfl
theorem zv75 : zvOf Tryd.prog 75 = some (.nilFunc) := by kernel_rfl
theorem by75 : byOf Tryd.prog 75 = some 8 := by kernel_rfl
theorem sz76 : szOf Tryd.prog 76 = some 1 := by kernel_rfl
theorem ag76 : aggOf Tryd.prog 76 = some false := by kernel_rfl
theorem zr76 : zrOf Tryd.prog 76 = some [.nilFunc] := by kernel_rfl
theorem zv76 : zvOf Tryd.prog 76 = some (.nilFunc) := by kernel_rfl
theorem by76 : byOf Tryd.prog 76 = some 8 := by kernel_rfl
theorem sz77 : szOf Tryd.prog 77 = some 1 := by kernel_rfl
theorem ag77 : aggOf Tryd.prog 77 = some false := by kernel_rfl
theorem zr77 : zrOf Tryd.prog 77 = some [.nilFunc] := by kernel_rfl
theorem zv77 : zvOf Tryd.prog 77 = some (.nilFunc) := by kernel_rfl
theorem by77 : byOf Tryd.prog 77 = some 8 := by kernel_rfl
theorem sz78 : szOf Tryd.prog 78 = some 1 := by kernel_rfl
theorem ag78 : aggOf Tryd.prog 78 = some false := by kernel_rfl
theorem zr78 : zrOf Tryd.prog 78 = some [.nilFunc] := by kernel_rfl
theorem zv78 : zvOf Tryd.prog 78 = some (.nilFunc) := by kernel_rfl
theorem by78 : byOf Tryd.prog 78 = some 8 := by kernel_rfl
theorem sz79 : szOf Tryd.prog 79 = some 1 := by kernel_rfl
theorem ag79 : aggOf Tryd.prog 79 = some false := by kernel_rfl
theorem zr79 : zrOf Tryd.prog 79 = some [.pointer none] := by kernel_rfl
theorem zv79 : zvOf Tryd.prog 79 = some (.pointer none) := by kernel_rfl
theorem by79 : byOf Tryd.prog 79 = some 8 := by kernel_rfl
theorem sz80 : szOf Tryd.prog 80 = some 2 := by kernel_rfl
theorem ag80 : aggOf Tryd.prog 80 = some true := by kernel_rfl
theorem zr80 : zrOf Tryd.prog 80 = some [.string ⟨#[]⟩, .bool false] := by kernel_rfl
theorem zv80 : zvOf Tryd.prog 80 = some (.agg ⟨[.string ⟨#[]⟩, .bool false]⟩) := by kernel_rfl
theorem by80 : byOf Tryd.prog 80 = some 24 := by kernel_rfl
theorem fo80_0 : fieldOff Tryd.prog 80 0 = some 0 := by kernel_rfl
theorem ft80_0 : fieldTy Tryd.prog 80 0 = some (9, 0) := by kernel_rfl
theorem fo80_1 : fieldOff Tryd.prog 80 1 = some 1 := by kernel_rfl
theorem ft80_1 : fieldTy Tryd.prog 80 1 = some (4, 1) := by kernel_rfl
theorem bs80 : structAt Tryd.prog 80 = some [(0, 1), (1, 1)] := by kernel_rfl
theorem sz81 : szOf Tryd.prog 81 = some 2 := by kernel_rfl
theorem ag81 : aggOf Tryd.prog 81 = some true := by kernel_rfl
theorem zr81 : zrOf Tryd.prog 81 = some [.string ⟨#[]⟩, .bool false] := by kernel_rfl
theorem zv81 : zvOf Tryd.prog 81 = some (.agg ⟨[.string ⟨#[]⟩, .bool false]⟩) := by kernel_rfl
theorem by81 : byOf Tryd.prog 81 = some 24 := by kernel_rfl
theorem fo81_0 : fieldOff Tryd.prog 81 0 = some 0 := by kernel_rfl
theorem ft81_0 : fieldTy Tryd.prog 81 0 = some (9, 0) := by kernel_rfl
theorem fo81_1 : fieldOff Tryd.prog 81 1 = some 1 := by kernel_rfl
theorem ft81_1 : fieldTy Tryd.prog 81 1 = some (4, 1) := by kernel_rfl
theorem bs81 : structAt Tryd.prog 81 = some [(0, 1), (1, 1)] := by kernel_rfl
theorem sz82 : szOf Tryd.prog 82 = some 2 := by kernel_rfl
theorem ag82 : aggOf Tryd.prog 82 = some true := by kernel_rfl
theorem zr82 : zrOf Tryd.prog 82 = some [.string ⟨#[]⟩, .bool false] := by kernel_rfl
theorem zv82 : zvOf Tryd.prog 82 = some (.agg ⟨[.string ⟨#[]⟩, .bool false]⟩) := by kernel_rfl
theorem by82 : byOf Tryd.prog 82 = some 24 := by kernel_rfl
theorem fo82_0 : fieldOff Tryd.prog 82 0 = some 0 := by kernel_rfl
theorem ft82_0 : fieldTy Tryd.prog 82 0 = some (81, 0) := by kernel_rfl
theorem bs82 : structAt Tryd.prog 82 = some [(0, 2)] := by kernel_rfl
theorem sz83 : szOf Tryd.prog 83 = some 2 := by kernel_rfl
theorem ag83 : aggOf Tryd.prog 83 = some true := by kernel_rfl
theorem zr83 : zrOf Tryd.prog 83 = some [.string ⟨#[]⟩, .bool false] := by kernel_rfl
theorem zv83 : zvOf Tryd.prog 83 = some (.agg ⟨[.string ⟨#[]⟩, .bool false]⟩) := by kernel_rfl
theorem by83 : byOf Tryd.prog 83 = some 24 := by kernel_rfl
theorem fo83_0 : fieldOff Tryd.prog 83 0 = some 0 := by kernel_rfl
theorem ft83_0 : fieldTy Tryd.prog 83 0 = some (81, 0) := by kernel_rfl
theorem bs83 : structAt Tryd.prog 83 = some [(0, 2)] := by kernel_rfl
theorem sz84 : szOf Tryd.prog 84 = some 1 := by kernel_rfl
theorem ag84 : aggOf Tryd.prog 84 = some false := by kernel_rfl
theorem zr84 : zrOf Tryd.prog 84 = some [.nilFunc] := by kernel_rfl
theorem zv84 : zvOf Tryd.prog 84 = some (.nilFunc) := by kernel_rfl
theorem by84 : byOf Tryd.prog 84 = some 8 := by kernel_rfl
theorem sz85 : szOf Tryd.prog 85 = some 1 := by kernel_rfl
theorem ag85 : aggOf Tryd.prog 85 = some false := by kernel_rfl
theorem zr85 : zrOf Tryd.prog 85 = some [.nilFunc] := by kernel_rfl
theorem zv85 : zvOf Tryd.prog 85 = some (.nilFunc) := by kernel_rfl
theorem by85 : byOf Tryd.prog 85 = some 8 := by kernel_rfl
theorem sz86 : szOf Tryd.prog 86 = some 1 := by kernel_rfl
theorem ag86 : aggOf Tryd.prog 86 = some false := by kernel_rfl
theorem zr86 : zrOf Tryd.prog 86 = some [.nilFunc] := by kernel_rfl
theorem zv86 : zvOf Tryd.prog 86 = some (.nilFunc) := by kernel_rfl
theorem by86 : byOf Tryd.prog 86 = some 8 := by kernel_rfl
theorem sz87 : szOf Tryd.prog 87 = some 1 := by kernel_rfl
theorem ag87 : aggOf Tryd.prog 87 = some false := by kernel_rfl
theorem zr87 : zrOf Tryd.prog 87 = some [.nilFunc] := by kernel_rfl
theorem zv87 : zvOf Tryd.prog 87 = some (.nilFunc) := by kernel_rfl
theorem by87 : byOf Tryd.prog 87 = some 8 := by kernel_rfl
theorem sz88 : szOf Tryd.prog 88 = some 1 := by kernel_rfl
theorem ag88 : aggOf Tryd.prog 88 = some false := by kernel_rfl
theorem zr88 : zrOf Tryd.prog 88 = some [.nilFunc] := by kernel_rfl
theorem zv88 : zvOf Tryd.prog 88 = some (.nilFunc) := by kernel_rfl
theorem by88 : byOf Tryd.prog 88 = some 8 := by kernel_rfl
theorem sz89 : szOf Tryd.prog 89 = some 1 := by kernel_rfl
theorem ag89 : aggOf Tryd.prog 89 = some false := by kernel_rfl
theorem zr89 : zrOf Tryd.prog 89 = some [.nilFunc] := by kernel_rfl
theorem zv89 : zvOf Tryd.prog 89 = some (.nilFunc) := by kernel_rfl
theorem by89 : byOf Tryd.prog 89 = some 8 := by kernel_rfl
theorem sz90 : szOf Tryd.prog 90 = some 1 := by kernel_rfl
theorem ag90 : aggOf Tryd.prog 90 = some false := by kernel_rfl
theorem zr90 : zrOf Tryd.prog 90 = some [.nilFunc] := by kernel_rfl
theorem zv90 : zvOf Tryd.prog 90 = some (.nilFunc) := by kernel_rfl
theorem by90 : byOf Tryd.prog 90 = some 8 := by kernel_rfl
theorem sz91 : szOf Tryd.prog 91 = some 1 := by kernel_rfl
theorem ag91 : aggOf Tryd.prog 91 = some false := by kernel_rfl
theorem sz92 : szOf Tryd.prog 92 = some 1 := by kernel_rfl
theorem ag92 : aggOf Tryd.prog 92 = some false := by kernel_rfl
theorem zr92 : zrOf Tryd.prog 92 = some [.nilFunc] := by kernel_rfl
theorem zv92 : zvOf Tryd.prog 92 = some (.nilFunc) := by kernel_rfl
theorem by92 : byOf Tryd.prog 92 = some 8 := by kernel_rfl
theorem sz93 : szOf Tryd.prog 93 = some 1 := by kernel_rfl
theorem ag93 : aggOf Tryd.prog 93 = some false := by kernel_rfl
theorem zr93 : zrOf Tryd.prog 93 = some [.nilFunc] := by kernel_rfl
theorem zv93 : zvOf Tryd.prog 93 = some (.nilFunc) := by kernel_rfl
theorem by93 : byOf Tryd.prog 93 = some 8 := by kernel_rfl
theorem sz94 : szOf Tryd.prog 94 = some 1 := by kernel_rfl
theorem zr94 : zrOf Tryd.prog 94 = some [.slice none 0 0] := by kernel_rfl
theorem zv94 : zvOf Tryd.prog 94 = some (.slice none 0 0) := by kernel_rfl
theorem by94 : byOf Tryd.prog 94 = some 24 := by kernel_rfl
theorem sl94 : slOf Tryd.prog 94 = some (5, 1) := by kernel_rfl
theorem sz95 : szOf Tryd.prog 95 = some 1 := by kernel_rfl
theorem ag95 : aggOf Tryd.prog 95 = some false := by kernel_rfl
theorem zr95 : zrOf Tryd.prog 95 = some [.nilFunc] := by kernel_rfl
theorem zv95 : zvOf Tryd.prog 95 = some (.nilFunc) := by kernel_rfl
theorem by95 : byOf Tryd.prog 95 = some 8 := by kernel_rfl
theorem sz96 : szOf Tryd.prog 96 = some 1 := by kernel_rfl
theorem ag96 : aggOf Tryd.prog 96 = some false := by kernel_rfl
theorem zr96 : zrOf Tryd.prog 96 = some [.pointer none] := by kernel_rfl
theorem zv96 : zvOf Tryd.prog 96 = some (.pointer none) := by kernel_rfl
theorem by96 : byOf Tryd.prog 96 = some 8 := by kernel_rfl
theorem sz97 : szOf Tryd.prog 97 = some 2 := by kernel_rfl
theorem ag97 : aggOf Tryd.prog 97 = some true := by kernel_rfl
theorem zr97 : zrOf Tryd.prog 97 = some [.pointer none, .slice none 0 0] := by kernel_rfl
theorem zv97 : zvOf Tryd.prog 97 = some (.agg ⟨[.pointer none, .slice none 0 0]⟩) := by kernel_rfl
theorem by97 : byOf Tryd.prog 97 = some 32 := by kernel_rfl
theorem fo97_0 : fieldOff Tryd.prog 97 0 = some 0 := by kernel_rfl
theorem ft97_0 : fieldTy Tryd.prog 97 0 = some (96, 0) := by kernel_rfl
theorem fo97_1 : fieldOff Tryd.prog 97 1 = some 1 := by kernel_rfl
theorem ft97_1 : fieldTy Tryd.prog 97 1 = some (94, 1) := by kernel_rfl
theorem bs97 : structAt Tryd.prog 97 = some [(0, 1), (1, 1)] := by kernel_rfl
theorem ag98 : aggOf Tryd.prog 98 = some true := by kernel_rfl
theorem zr98 : zrOf Tryd.prog 98 = some [.pointer none, .slice none 0 0] := by kernel_rfl
theorem zv98 : zvOf Tryd.prog 98 = some (.agg ⟨[.pointer none, .slice none 0 0]⟩) := by kernel_rfl
theorem by98 : byOf Tryd.prog 98 = some 32 := by kernel_rfl
theorem fo98_0 : fieldOff Tryd.prog 98 0 = some 0 := by kernel_rfl
theorem ft98_0 : fieldTy Tryd.prog 98 0 = some (96, 0) := by kernel_rfl
theorem fo98_1 : fieldOff Tryd.prog 98 1 = some 1 := by kernel_rfl
theorem ft98_1 : fieldTy Tryd.prog 98 1 = some (94, 1) := by kernel_rfl
theorem bs98 : structAt Tryd.prog 98 = some [(0, 1), (1, 1)] := by kernel_rfl
theorem sz99 : szOf Tryd.prog 99 = some 1 := by kernel_rfl
theorem ag99 : aggOf Tryd.prog 99 = some false := by kernel_rfl
theorem zr99 : zrOf Tryd.prog 99 = some [.nilIface] := by kernel_rfl
theorem zv99 : zvOf Tryd.prog 99 = some (.nilIface) := by kernel_rfl
theorem by99 : byOf Tryd.prog 99 = some 16 := by kernel_rfl
theorem sz100 : szOf Tryd.prog 100 = some 1 := by kernel_rfl
theorem ag100 : aggOf Tryd.prog 100 = some false := by kernel_rfl
theorem zr100 : zrOf Tryd.prog 100 = some [.nilIface] := by kernel_rfl
theorem zv100 : zvOf Tryd.prog 100 = some (.nilIface) := by kernel_rfl
theorem by100 : byOf Tryd.prog 100 = some 16 := by kernel_rfl
theorem sz101 : szOf Tryd.prog 101 = some 1 := by kernel_rfl
theorem ag101 : aggOf Tryd.prog 101 = some false := by kernel_rfl
theorem sz102 : szOf Tryd.prog 102 = some 1 := by kernel_rfl
theorem ag102 : aggOf Tryd.prog 102 = some false := by kernel_rfl
theorem zr102 : zrOf Tryd.prog 102 = some [.nilFunc] := by kernel_rfl
theorem zv102 : zvOf Tryd.prog 102 = some (.nilFunc) := by kernel_rfl
theorem by102 : byOf Tryd.prog 102 = some 8 := by kernel_rfl
theorem sz103 : szOf Tryd.prog 103 = some 1 := by kernel_rfl
theorem ag103 : aggOf Tryd.prog 103 = some false := by kernel_rfl
theorem zr103 : zrOf Tryd.prog 103 = some [.nilFunc] := by kernel_rfl
theorem zv103 : zvOf Tryd.prog 103 = some (.nilFunc) := by kernel_rfl
theorem by103 : byOf Tryd.prog 103 = some 8 := by kernel_rfl
theorem sz104 : szOf Tryd.prog 104 = some 1 := by kernel_rfl
theorem ag104 : aggOf Tryd.prog 104 = some false := by kernel_rfl
theorem zr104 : zrOf Tryd.prog 104 = some [.slice none 0 0] := by kernel_rfl
theorem zv104 : zvOf Tryd.prog 104 = some (.slice none 0 0) := by kernel_rfl
theorem by104 : byOf Tryd.prog 104 = some 24 := by kernel_rfl
theorem sl104 : slOf Tryd.prog 104 = some (77, 1) := by kernel_rfl
theorem sz105 : szOf Tryd.prog 105 = some 1 := by kernel_rfl
theorem ag105 : aggOf Tryd.prog 105 = some false := by kernel_rfl
theorem zr105 : zrOf Tryd.prog 105 = some [.nilFunc] := by kernel_rfl
theorem zv105 : zvOf Tryd.prog 105 = some (.nilFunc) := by kernel_rfl
theorem by105 : byOf Tryd.prog 105 = some 8 := by kernel_rfl
theorem sz106 : szOf Tryd.prog 106 = some 1 := by kernel_rfl
theorem ag106 : aggOf Tryd.prog 106 = some false := by kernel_rfl
theorem zr106 : zrOf Tryd.prog 106 = some [.nilFunc] := by kernel_rfl
theorem zv106 : zvOf Tryd.prog 106 = some (.nilFunc) := by kernel_rfl
theorem by106 : byOf Tryd.prog 106 = some 8 := by kernel_rfl
theorem sz107 : szOf Tryd.prog 107 = some 1 := by kernel_rfl
theorem ag107 : aggOf Tryd.prog 107 = some false := by kernel_rfl
theorem zr107 : zrOf Tryd.prog 107 = some [.nilFunc] := by kernel_rfl
theorem zv107 : zvOf Tryd.prog 107 = some (.nilFunc) := by kernel_rfl
theorem by107 : byOf Tryd.prog 107 = some 8 := by kernel_rfl
theorem sz108 : szOf Tryd.prog 108 = some 1 := by kernel_rfl
theorem ag108 : aggOf Tryd.prog 108 = some false := by kernel_rfl
theorem zr108 : zrOf Tryd.prog 108 = some [.nilFunc] := by kernel_rfl
theorem zv108 : zvOf Tryd.prog 108 = some (.nilFunc) := by kernel_rfl
theorem by108 : byOf Tryd.prog 108 = some 8 := by kernel_rfl
theorem sz109 : szOf Tryd.prog 109 = some 1 := by kernel_rfl
theorem ag109 : aggOf Tryd.prog 109 = some false := by kernel_rfl
theorem zr109 : zrOf Tryd.prog 109 = some [.nilFunc] := by kernel_rfl
theorem zv109 : zvOf Tryd.prog 109 = some (.nilFunc) := by kernel_rfl
theorem by109 : byOf Tryd.prog 109 = some 8 := by kernel_rfl
theorem sz110 : szOf Tryd.prog 110 = some 1 := by kernel_rfl
theorem ag110 : aggOf Tryd.prog 110 = some false := by kernel_rfl
theorem zr110 : zrOf Tryd.prog 110 = some [.pointer none] := by kernel_rfl
theorem zv110 : zvOf Tryd.prog 110 = some (.pointer none) := by kernel_rfl
theorem by110 : byOf Tryd.prog 110 = some 8 := by kernel_rfl
theorem sz111 : szOf Tryd.prog 111 = some 1 := by kernel_rfl
theorem ag111 : aggOf Tryd.prog 111 = some false := by kernel_rfl
theorem zr111 : zrOf Tryd.prog 111 = some [.pointer none] := by kernel_rfl
theorem zv111 : zvOf Tryd.prog 111 = some (.pointer none) := by kernel_rfl
theorem by111 : byOf Tryd.prog 111 = some 8 := by kernel_rfl
theorem sz112 : szOf Tryd.prog 112 = some 1 := by kernel_rfl
theorem ag112 : aggOf Tryd.prog 112 = some false := by kernel_rfl
theorem sz113 : szOf Tryd.prog 113 = some 1 := by kernel_rfl
theorem ag113 : aggOf Tryd.prog 113 = some false := by kernel_rfl
theorem zr113 : zrOf Tryd.prog 113 = some [.nilFunc] := by kernel_rfl
theorem zv113 : zvOf Tryd.prog 113 = some (.nilFunc) := by kernel_rfl
theorem by113 : byOf Tryd.prog 113 = some 8 := by kernel_rfl
theorem sz114 : szOf Tryd.prog 114 = some 256 := by kernel_rfl
theorem ag114 : aggOf Tryd.prog 114 = some true := by kernel_rfl
theorem zr114 : zrOf Tryd.prog 114 = some [.int .u8 0, .int .u8 0, .int .u8 0, .int .u8 0, .int .u8 0, .int .u8 0, .int .u8 0, .int .u8 0, .int .u8 0, .int .u8 0, .int .u8 0, .int .u8 0, .int .u8 0, .int .u8 0, .int .u8 0, .int .u8 0, .int .u8 0, .int .u8 0, .int .u8 0, .int .u8 0, .int .u8 0, .int .u8 0, .int .u8 0, .int .u8 0, .int .u8 0, .int .u8 0, .int .u8 0, .int .u8 0, .int .u8 0, .int .u8 0, .int .u8 0, .int .u8 0, .int .u8 0, .int .u8 0, .int .u8 0, .int .u8 0, .int .u8 0, .int .u8 0, .int .u8 0, .int .u8 0, .int .u8 0, .int .u8 0, .int .u8 0, .int .u8 0, .int .u8 0, .int .u8 0, .int .u8 0, .int .u8 0, .int .u8 0, .int .u8 0, .int .u8 0, .int .u8 0, .int .u8 0, .int .u8 0, .int .u8 0, .int .u8 0, .int .u8 0, .int .u8 0, .int .u8 0, .int .u8 0, .int .u8 0, .int .u8 0, .int .u8 0, .int .u8 0, .int .u8 0, .int .u8 0, .int .u8 0, .int .u8 0, .int .u8 0, .int .u8 0, .int .u8 0, .int .u8 0, .int .u8 0, .int .u8 0, .int .u8 0, .int .u8 0, .int .u8 0, .int .u8 0, .int .u8 0, .int .u8 0, .int .u8 0, .int .u8 0, .int .u8 0, .int .u8 0, .int .u8 0, .int .u8 0, .int .u8 0, .int .u8 0, .int .u8 0, .int .u8 0, .int .u8 0, .int .u8 0, .int .u8 0, .int .u8 0, .int .u8 0, .int .u8 0, .int .u8 0, .int .u8 0, .int .u8 0, .int .u8 0, .int .u8 0, .int .u8 0, .int .u8 0, .int .u8 0, .int .u8 0, .int .u8 0, .int .u8 0, .int .u8 0, .int .u8 0, .int .u8 0, .int .u8 0, .int .u8 0, .int .u8 0, .int .u8 0, .int .u8 0, .int .u8 0, .int .u8 0, .int .u8 0, .int .u8 0, .int .u8 0, .int .u8 0, .int .u8 0, .int .u8 0, .int .u8 0, .int .u8 0, .int .u8 0, .int .u8 0, .int .u8 0, .int .u8 0, .int .u8 0, .int .u8 0, .int .u8 0, .int .u8 0, .int .u8 0, .int .u8 0, .int .u8 0, .int .u8 0, .int .u8 0, .int .u8 0, .int .u8 0, .int .u8 0, .int .u8 0, .int .u8 0, .int .u8 0, .int .u8 0, .int .u8 0, .int .u8 0, .int .u8 0, .int .u8 0, .int .u8 0, .int .u8 0, .int .u8 0, .int .u8 0, .int .u8 0, .int .u8 0, .int .u8 0, .int .u8 0, .int .u8 0, .int .u8 0, .int .u8 0, .int .u8 0, .int .u8 0, .int .u8 0, .int .u8 0, .int .u8 0, .int .u8 0, .int .u8 0, .int .u8 0, .int .u8 0, .int .u8 0, .int .u8 0, .int .u8 0, .int .u8 0, .int .u8 0, .int .u8 0, .int .u8 0, .int .u8 0, .int .u8 0, .int .u8 0, .int .u8 0, .int .u8 0, .int .u8 0, .int .u8 0, .int .u8 0, .int .u8 0, .int .u8 0, .int .u8 0, .int .u8 0, .int .u8 0, .int .u8 0, .int .u8 0, .int .u8 0, .int .u8 0, .int .u8 0, .int .u8 0, .int .u8 0, .int .u8 0, .int .u8 0, .int .u8 0, .int .u8 0, .int .u8 0, .int .u8 0, .int .u8 0, .int .u8 0, .int .u8 0, .int .u8 0, .int .u8 0, .int .u8 0, .int .u8 0, .int .u8 0, .int .u8 0, .int .u8 0, .int .u8 0, .int .u8 0, .int .u8 0, .int .u8 0, .int .u8 0, .int .u8 0, .int .u8 0, .int .u8 0, .int .u8 0, .int .u8 0, .int .u8 0, .int .u8 0, .int .u8 0, .int .u8 0, .int .u8 0, .int .u8 0, .int .u8 0, .int .u8 0, .int .u8 0, .int .u8 0, .int .u8 0, .int .u8 0, .int .u8 0, .int .u8 0, .int .u8 0, .int .u8 0, .int .u8 0, .int .u8 0, .int .u8 0, .int .u8 0, .int .u8 0, .int .u8 0, .int .u8 0, .int .u8 0, .int .u8 0, .int .u8 0, .int .u8 0, .int .u8 0, .int .u8 0, .int .u8 0, .int .u8 0, .int .u8 0, .int .u8 0, .int .u8 0] := by kernel_rfl
theorem zv114 : zvOf Tryd.prog 114 = some (.agg ⟨[.int .u8 0, .int .u8 0, .int .u8 0, .int .u8 0, .int .u8 0, .int .u8 0, .int .u8 0, .int .u8 0, .int .u8 0, .int .u8 0, .int .u8 0, .int .u8 0, .int .u8 0, .int .u8 0, .int .u8 0, .int .u8 0, .int .u8 0, .int .u8 0, .int .u8 0, .int .u8 0, .int .u8 0, .int .u8 0, .int .u8 0, .int .u8 0, .int .u8 0, .int .u8 0, .int .u8 0, .int .u8 0, .int .u8 0, .int .u8 0, .int .u8 0, .int .u8 0, .int .u8 0, .int .u8 0, .int .u8 0, .int .u8 0, .int .u8 0, .int .u8 0, .int .u8 0, .int .u8 0, .int .u8 0, .int .u8 0, .int .u8 0, .int .u8 0, .int .u8 0, .int .u8 0, .int .u8 0, .int .u8 0, .int .u8 0, .int .u8 0, .int .u8 0, .int .u8 0, .int .u8 0, .int .u8 0, .int .u8 0, .int .u8 0, .int .u8 0, .int .u8 0, .int .u8 0, .int .u8 0, .int .u8 0, .int .u8 0, .int .u8 0, .int .u8 0, .int .u8 0, .int .u8 0, .int .u8 0, .int .u8 0, .int .u8 0, .int .u8 0, .int .u8 0, .int .u8 0, .int .u8 0, .int .u8 0, .int .u8 0, .int .u8 0, .int .u8 0, .int .u8 0, .int .u8 0, .int .u8 0, .int .u8 0, .int .u8 0, .int .u8 0, .int .u8 0, .int .u8 0, .int .u8 0, .int .u8 0, .int .u8 0, .int .u8 0, .int .u8 0, .int .u8 0, .int .u8 0, .int .u8 0, .int .u8 0, .int .u8 0, .int .u8 0, .int .u8 0, .int .u8 0, .int .u8 0, .int .u8 0, .int .u8 0, .int .u8 0, .int .u8 0, .int .u8 0, .int .u8 0, .int .u8 0, .int .u8 0, .int .u8 0, .int .u8 0, .int .u8 0, .int .u8 0, .int .u8 0, .int .u8 0, .int .u8 0, .int .u8 0, .int .u8 0, .int .u8 0, .int .u8 0, .int .u8 0, .int .u8 0, .int .u8 0, .int .u8 0, .int .u8 0, .int .u8 0, .int .u8 0, .int .u8 0, .int .u8 0, .int .u8 0, .int .u8 0, .int .u8 0, .int .u8 0, .int .u8 0, .int .u8 0, .int .u8 0, .int .u8 0, .int .u8 0, .int .u8 0, .int .u8 0, .int .u8 0, .int .u8 0, .int .u8 0, .int .u8 0, .int .u8 0, .int .u8 0, .int .u8 0, .int .u8 0, .int .u8 0, .int .u8 0, .int .u8 0, .int .u8 0, .int .u8 0, .int .u8 0, .int .u8 0, .int .u8 0, .int .u8 0, .int .u8 0, .int .u8 0, .int .u8 0, .int .u8 0, .int .u8 0, .int .u8 0, .int .u8 0, .int .u8 0, .int .u8 0, .int .u8 0, .int .u8 0, .int .u8 0, .int .u8 0, .int .u8 0, .int .u8 0, .int .u8 0, .int .u8 0, .int .u8 0, .int .u8 0, .int .u8 0, .int .u8 0, .int .u8 0, .int .u8 0, .int .u8 0, .int .u8 0, .int .u8 0, .int .u8 0, .int .u8 0, .int .u8 0, .int .u8 0, .int .u8 0, .int .u8 0, .int .u8 0, .int .u8 0, .int .u8 0, .int .u8 0, .int .u8 0, .int .u8 0, .int .u8 0, .int .u8 0, .int .u8 0, .int .u8 0, .int .u8 0, .int .u8 0, .int .u8 0, .int .u8 0, .int .u8 0, .int .u8 0, .int .u8 0, .int .u8 0, .int .u8 0, .int .u8 0, .int .u8 0, .int .u8 0, .int .u8 0, .int .u8 0, .int .u8 0, .int .u8 0, .int .u8 0, .int .u8 0, .int .u8 0, .int .u8 0, .int .u8 0, .int .u8 0, .int .u8 0, .int .u8 0, .int .u8 0, .int .u8 0, .int .u8 0, .int .u8 0, .int .u8 0, .int .u8 0, .int .u8 0, .int .u8 0, .int .u8 0, .int .u8 0, .int .u8 0, .int .u8 0, .int .u8 0, .int .u8 0, .int .u8 0, .int .u8 0, .int .u8 0, .int .u8 0, .int .u8 0, .int .u8 0, .int .u8 0, .int .u8 0, .int .u8 0, .int .u8 0, .int .u8 0, .int .u8 0, .int .u8 0, .int .u8 0, .int .u8 0, .int .u8 0, .int .u8 0, .int .u8 0, .int .u8 0, .int .u8 0, .int .u8 0]⟩) := by kernel_rfl
theorem by114 : byOf Tryd.prog 114 = some 256 := by kernel_rfl
theorem ar114 : arOf Tryd.prog 114 = some (256, 5, 1) := by kernel_rfl
theorem sz115 : szOf Tryd.prog 115 = some 2 := by kernel_rfl
theorem ag115 : aggOf Tryd.prog 115 = some true := by kernel_rfl
theorem zr115 : zrOf Tryd.prog 115 = some [.int .u8 0, .int .u8 0] := by kernel_rfl
theorem zv115 : zvOf Tryd.prog 115 = some (.agg ⟨[.int .u8 0, .int .u8 0]⟩) := by kernel_rfl
theorem by115 : byOf Tryd.prog 115 = some 2 := by kernel_rfl
theorem fo115_0 : fieldOff Tryd.prog 115 0 = some 0 := by kernel_rfl
theorem ft115_0 : fieldTy Tryd.prog 115 0 = some (5, 0) := by kernel_rfl
theorem fo115_1 : fieldOff Tryd.prog 115 1 = some 1 := by kernel_rfl
theorem ft115_1 : fieldTy Tryd.prog 115 1 = some (5, 1) := by kernel_rfl
theorem bs115 : structAt Tryd.prog 115 = some [(0, 1), (1, 1)] := by kernel_rfl
theorem sz116 : szOf Tryd.prog 116 = some 2 := by kernel_rfl
theorem ag116 : aggOf Tryd.prog 116 = some true := by kernel_rfl
theorem zr116 : zrOf Tryd.prog 116 = some [.int .u8 0, .int .u8 0] := by kernel_rfl
theorem zv116 : zvOf Tryd.prog 116 = some (.agg ⟨[.int .u8 0, .int .u8 0]⟩) := by kernel_rfl
theorem by116 : byOf Tryd.prog 116 = some 2 := by kernel_rfl
theorem fo116_0 : fieldOff Tryd.prog 116 0 = some 0 := by kernel_rfl
theorem ft116_0 : fieldTy Tryd.prog 116 0 = some (5, 0) := by kernel_rfl
theorem fo116_1 : fieldOff Tryd.prog 116 1 = some 1 := by kernel_rfl
theorem ft116_1 : fieldTy Tryd.prog 116 1 = some (5, 1) := by kernel_rfl
theorem bs116 : structAt Tryd.prog 116 = some [(0, 1), (1, 1)] := by kernel_rfl
theorem sz117 : szOf Tryd.prog 117 = some 32 := by kernel_rfl
theorem ag117 : aggOf Tryd.prog 117 = some true := by kernel_rfl
theorem zr117 : zrOf Tryd.prog 117 = some [.int .u8 0, .int .u8 0, .int .u8 0, .int .u8 0, .int .u8 0, .int .u8 0, .int .u8 0, .int .u8 0, .int .u8 0, .int .u8 0, .int .u8 0, .int .u8 0, .int .u8 0, .int .u8 0, .int .u8 0, .int .u8 0, .int .u8 0, .int .u8 0, .int .u8 0, .int .u8 0, .int .u8 0, .int .u8 0, .int .u8 0, .int .u8 0, .int .u8 0, .int .u8 0, .int .u8 0, .int .u8 0, .int .u8 0, .int .u8 0, .int .u8 0, .int .u8 0] := by kernel_rfl
theorem zv117 : zvOf Tryd.prog 117 = some (.agg ⟨[.int .u8 0, .int .u8 0, .int .u8 0, .int .u8 0, .int .u8 0, .int .u8 0, .int .u8 0, .int .u8 0, .int .u8 0, .int .u8 0, .int .u8 0, .int .u8 0, .int .u8 0, .int .u8 0, .int .u8 0, .int .u8 0, .int .u8 0, .int .u8 0, .int .u8 0, .int .u8 0, .int .u8 0, .int .u8 0, .int .u8 0, .int .u8 0, .int .u8 0, .int .u8 0, .int .u8 0, .int .u8 0, .int .u8 0, .int .u8 0, .int .u8 0, .int .u8 0]⟩) := by kernel_rfl
theorem by117 : byOf Tryd.prog 117 = some 32 := by kernel_rfl
theorem ar117 : arOf Tryd.prog 117 = some (16, 116, 2) := by kernel_rfl
theorem sz118 : szOf Tryd.prog 118 = some 1 := by kernel_rfl
theorem ag118 : aggOf Tryd.prog 118 = some false := by kernel_rfl
theorem zr118 : zrOf Tryd.prog 118 = some [.nilFunc] := by kernel_rfl
theorem zv118 : zvOf Tryd.prog 118 = some (.nilFunc) := by kernel_rfl
theorem by118 : byOf Tryd.prog 118 = some 8 := by kernel_rfl
theorem sz119 : szOf Tryd.prog 119 = some 1 := by kernel_rfl
theorem ag119 : aggOf Tryd.prog 119 = some false := by kernel_rfl
theorem zr119 : zrOf Tryd.prog 119 = some [.nilFunc] := by kernel_rfl
theorem zv119 : zvOf Tryd.prog 119 = some (.nilFunc) := by kernel_rfl
theorem by119 : byOf Tryd.prog 119 = some 8 := by kernel_rfl
theorem sz120 : szOf Tryd.prog 120 = some 1 := by kernel_rfl
theorem ag120 : aggOf Tryd.prog 120 = some false := by kernel_rfl
theorem zr120 : zrOf Tryd.prog 120 = some [.nilFunc] := by kernel_rfl
theorem zv120 : zvOf Tryd.prog 120 = some (.nilFunc) := by kernel_rfl
theorem by120 : byOf Tryd.prog 120 = some 8 := by kernel_rfl
theorem sz121 : szOf Tryd.prog 121 = some 1 := by kernel_rfl
theorem ag121 : aggOf Tryd.prog 121 = some false := by kernel_rfl
theorem sz122 : szOf Tryd.prog 122 = some 1 := by kernel_rfl
theorem ag122 : aggOf Tryd.prog 122 = some false := by kernel_rfl
theorem zr122 : zrOf Tryd.prog 122 = some [.nilFunc] := by kernel_rfl
theorem zv122 : zvOf Tryd.prog 122 = some (.nilFunc) := by kernel_rfl
theorem by122 : byOf Tryd.prog 122 = some 8 := by kernel_rfl
theorem sz123 : szOf Tryd.prog 123 = some 1 := by kernel_rfl
theorem ag123 : aggOf Tryd.prog 123 = some false := by kernel_rfl
theorem zr123 : zrOf Tryd.prog 123 = some [.nilFunc] := by kernel_rfl
theorem zv123 : zvOf Tryd.prog 123 = some (.nilFunc) := by kernel_rfl
theorem by123 : byOf Tryd.prog 123 = some 8 := by kernel_rfl
theorem sz124 : szOf Tryd.prog 124 = some 4 := by kernel_rfl
theorem ag124 : aggOf Tryd.prog 124 = some true := by kernel_rfl
theorem zr124 : zrOf Tryd.prog 124 = some [.pointer none, .pointer none, .pointer none, .string ⟨#[]⟩] := by kernel_rfl
theorem zv124 : zvOf Tryd.prog 124 = some (.agg ⟨[.pointer none, .pointer none, .pointer none, .string ⟨#[]⟩]⟩) := by kernel_rfl
theorem by124 : byOf Tryd.prog 124 = some 40 := by kernel_rfl
theorem fo124_0 : fieldOff Tryd.prog 124 0 = some 0 := by kernel_rfl
theorem ft124_0 : fieldTy Tryd.prog 124 0 = some (17, 0) := by kernel_rfl
theorem fo124_1 : fieldOff Tryd.prog 124 1 = some 1 := by kernel_rfl
theorem ft124_1 : fieldTy Tryd.prog 124 1 = some (17, 1) := by kernel_rfl
theorem fo124_2 : fieldOff Tryd.prog 124 2 = some 2 := by kernel_rfl
theorem ft124_2 : fieldTy Tryd.prog 124 2 = some (17, 2) := by kernel_rfl
theorem fo124_3 : fieldOff Tryd.prog 124 3 = some 3 := by kernel_rfl
theorem ft124_3 : fieldTy Tryd.prog 124 3 = some (9, 3) := by kernel_rfl
theorem bs124 : structAt Tryd.prog 124 = some [(0, 1), (1, 1), (2, 1), (3, 1)] := by kernel_rfl
theorem sz125 : szOf Tryd.prog 125 = some 4 := by kernel_rfl
theorem ag125 : aggOf Tryd.prog 125 = some true := by kernel_rfl
theorem zr125 : zrOf Tryd.prog 125 = some [.pointer none, .pointer none, .pointer none, .string ⟨#[]⟩] := by kernel_rfl
theorem zv125 : zvOf Tryd.prog 125 = some (.agg ⟨[.pointer none, .pointer none, .pointer none, .string ⟨#[]⟩]⟩) := by kernel_rfl
theorem by125 : byOf Tryd.prog 125 = some 40 := by kernel_rfl
theorem fo125_0 : fieldOff Tryd.prog 125 0 = some 0 := by kernel_rfl
theorem ft125_0 : fieldTy Tryd.prog 125 0 = some (17, 0) := by kernel_rfl
theorem fo125_1 : fieldOff Tryd.prog 125 1 = some 1 := by kernel_rfl
theorem ft125_1 : fieldTy Tryd.prog 125 1 = some (17, 1) := by kernel_rfl
theorem fo125_2 : fieldOff Tryd.prog 125 2 = some 2 := by kernel_rfl
theorem ft125_2 : fieldTy Tryd.prog 125 2 = some (17, 2) := by kernel_rfl
theorem fo125_3 : fieldOff Tryd.prog 125 3 = some 3 := by kernel_rfl
theorem ft125_3 : fieldTy Tryd.prog 125 3 = some (9, 3) := by kernel_rfl
theorem bs125 : structAt Tryd.prog 125 = some [(0, 1), (1, 1), (2, 1), (3, 1)] := by kernel_rfl
theorem sz126 : szOf Tryd.prog 126 = some 0 := by kernel_rfl
theorem ag126 : aggOf Tryd.prog 126 = some true := by kernel_rfl
theorem zr126 : zrOf Tryd.prog 126 = some [] := by kernel_rfl
theorem zv126 : zvOf Tryd.prog 126 = some (.agg ⟨[]⟩) := by kernel_rfl
theorem by126 : byOf Tryd.prog 126 = some 0 := by kernel_rfl
theorem ar126 : arOf Tryd.prog 126 = some (0, 16, 1) := by kernel_rfl
theorem cal3 : callee Tryd.prog 3 = true := by kernel_rfl
theorem cal4 : callee Tryd.prog 4 = true := by kernel_rfl
theorem cal5 : callee Tryd.prog 5 = true := by kernel_rfl
theorem cal6 : callee Tryd.prog 6 = true := by kernel_rfl
theorem cal7 : callee Tryd.prog 7 = true := by kernel_rfl
theorem cal8 : callee Tryd.prog 8 = true := by kernel_rfl
theorem cal9 : callee Tryd.prog 9 = true := by kernel_rfl
theorem cal10 : callee Tryd.prog 10 = true := by kernel_rfl
theorem cal11 : callee Tryd.prog 11 = true := by kernel_rfl
theorem cal12 : callee Tryd.prog 12 = true := by kernel_rfl
theorem cal13 : callee Tryd.prog 13 = true := by kernel_rfl
theorem cal14 : callee Tryd.prog 14 = true := by kernel_rfl
theorem cal15 : callee Tryd.prog 15 = true := by kernel_rfl
theorem cal16 : callee Tryd.prog 16 = true := by kernel_rfl
theorem cal17 : callee Tryd.prog 17 = true := by kernel_rfl
theorem cal18 : callee Tryd.prog 18 = true := by kernel_rfl
theorem cal19 : callee Tryd.prog 19 = true := by kernel_rfl
theorem cal20 : callee Tryd.prog 20 = true := by kernel_rfl
theorem cal21 : callee Tryd.prog 21 = true := by kernel_rfl
theorem cal22 : callee Tryd.prog 22 = true := by kernel_rfl
theorem cal23 : callee Tryd.prog 23 = true := by kernel_rfl
theorem cal24 : callee Tryd.prog 24 = true := by kernel_rfl
theorem cal25 : callee Tryd.prog 25 = true := by kernel_rfl
theorem cal26 : callee Tryd.prog 26 = true := by kernel_rfl
theorem cal27 : callee Tryd.prog 27 = true := by kernel_rfl
theorem cal28 : callee Tryd.prog 28 = true := by kernel_rfl
theorem cal29 : callee Tryd.prog 29 = true := by kernel_rfl
theorem cal30 : callee Tryd.prog 30 = true := by kernel_rfl
theorem cal31 : callee Tryd.prog 31 = true := by kernel_rfl
theorem cal32 : callee Tryd.prog 32 = true := by kernel_rfl
theorem cal33 : callee Tryd.prog 33 = true := by kernel_rfl
theorem cal34 : callee Tryd.prog 34 = true := by kernel_rfl
theorem cal35 : callee Tryd.prog 35 = true := by kernel_rfl
theorem cal36 : callee Tryd.prog 36 = true := by kernel_rfl
theorem cal37 : callee Tryd.prog 37 = true := by kernel_rfl
theorem cal38 : callee Tryd.prog 38 = true := by kernel_rfl
theorem cal39 : callee Tryd.prog 39 = true := by kernel_rfl
theorem cal40 : callee Tryd.prog 40 = true := by kernel_rfl
theorem cal41 : callee Tryd.prog 41 = true := by kernel_rfl
theorem cal42 : callee Tryd.prog 42 = true := by kernel_rfl
theorem cal43 : callee Tryd.prog 43 = true := by kernel_rfl
theorem cal44 : callee Tryd.prog 44 = true := by kernel_rfl
theorem cal45 : callee Tryd.prog 45 = true := by kernel_rfl
theorem cal46 : callee Tryd.prog 46 = true := by kernel_rfl
theorem cal47 : callee Tryd.prog 47 = true := by kernel_rfl
theorem cal48 : callee Tryd.prog 48 = true := by kernel_rfl
theorem cal50 : callee Tryd.prog 50 = true := by kernel_rfl
theorem cal51 : callee Tryd.prog 51 = true := by kernel_rfl
theorem cal53 : callee Tryd.prog 53 = true := by kernel_rfl
theorem cal56 : callee Tryd.prog 56 = true := by kernel_rfl
theorem cal57 : callee Tryd.prog 57 = true := by kernel_rfl
theorem cal58 : callee Tryd.prog 58 = true := by kernel_rfl
theorem cal59 : callee Tryd.prog 59 = true := by kernel_rfl
theorem cal60 : callee Tryd.prog 60 = true := by kernel_rfl
theorem cal61 : callee Tryd.prog 61 = true := by kernel_rfl
theorem cal63 : callee Tryd.prog 63 = true := by kernel_rfl
theorem cal64 : callee Tryd.prog 64 = true := by kernel_rfl
theorem cal66 : callee Tryd.prog 66 = true := by kernel_rfl
theorem cal68 : callee Tryd.prog 68 = true := by kernel_rfl
theorem cal69 : callee Tryd.prog 69 = true := by kernel_rfl
theorem cal70 : callee Tryd.prog 70 = true := by kernel_rfl
theorem cal71 : callee Tryd.prog 71 = true := by kernel_rfl
theorem cal72 : callee Tryd.prog 72 = true := by kernel_rfl
theorem cal77 : callee Tryd.prog 77 = true := by kernel_rfl
theorem mixed : Tryd.prog.follows .mixedOrders = true := by kernel_rfl
theorem cal55 : callee Tryd.prog 55 = true := by kernel_rfl
end Go.Proofs.YtjoaccnfnniahaaDoor
