/- Facts on the types and functions of the program, met by the kernel. -/
import Derived.Test.YtajpakifkinadaaGreatDoorSyE
import Derived.Test.YtajpakifkinadaaGreatDoorProg
namespace Go.Proofs.YtajpakifkinadaaGreatDoor
open Go.Sy
theorem sl151 : slOf Tryz.prog 151 = some (2, 1) := by kernel_rfl
theorem ar29 : arOf Tryz.prog 29 = some (3, 2, 1) := by kernel_rfl
theorem sl147 : slOf Tryz.prog 147 = some (3, 1) := by kernel_rfl
theorem ag9 : aggOf Tryz.prog 9 = some false := by kernel_rfl
theorem sz2 : szOf Tryz.prog 2 = some 1 := by kernel_rfl
theorem cal111 : callee Tryz.prog 111 = true := by kernel_rfl
theorem cal82 : callee Tryz.prog 82 = true := by kernel_rfl
theorem cal84 : callee Tryz.prog 84 = true := by kernel_rfl
theorem cal95 : callee Tryz.prog 95 = true := by kernel_rfl
theorem cal32 : callee Tryz.prog 32 = true := by kernel_rfl
theorem cal34 : callee Tryz.prog 34 = true := by kernel_rfl
theorem cal36 : callee Tryz.prog 36 = true := by kernel_rfl
theorem sl23 : slOf Tryz.prog 23 = some (34, 9) := by kernel_rfl
theorem cal38 : callee Tryz.prog 38 = true := by kernel_rfl
theorem cal41 : callee Tryz.prog 41 = true := by kernel_rfl
theorem sl30 : slOf Tryz.prog 30 = some (45, 2) := by kernel_rfl
theorem sz45 : szOf Tryz.prog 45 = some 2 := by kernel_rfl
theorem by45 : byOf Tryz.prog 45 = some 32 := by kernel_rfl
theorem zv45 : zvOf Tryz.prog 45 = some (.agg ⟨[.string ⟨#[]⟩, .string ⟨#[]⟩]⟩) := by kernel_rfl
theorem sl22 : slOf Tryz.prog 22 = some (32, 6) := by kernel_rfl
theorem sz32 : szOf Tryz.prog 32 = some 6 := by kernel_rfl
theorem by32 : byOf Tryz.prog 32 = some 88 := by kernel_rfl
theorem zv32 : zvOf Tryz.prog 32 = some (.agg ⟨[.string ⟨#[]⟩, .int .i64 0, .int .i64 0, .int .i64 0, .slice none 0 0, .slice none 0 0]⟩) := by kernel_rfl
theorem sz34 : szOf Tryz.prog 34 = some 9 := by kernel_rfl
theorem by34 : byOf Tryz.prog 34 = some 128 := by kernel_rfl
theorem zv34 : zvOf Tryz.prog 34 = some (.agg ⟨[.string ⟨#[]⟩, .int .i64 0, .int .i64 0, .int .i64 0, .slice none 0 0, .slice none 0 0, .string ⟨#[]⟩, .string ⟨#[]⟩, .int .i64 0]⟩) := by kernel_rfl
theorem sl24 : slOf Tryz.prog 24 = some (47, 2) := by kernel_rfl
theorem sz47 : szOf Tryz.prog 47 = some 2 := by kernel_rfl
theorem by47 : byOf Tryz.prog 47 = some 32 := by kernel_rfl
theorem zv47 : zvOf Tryz.prog 47 = some (.agg ⟨[.string ⟨#[]⟩, .string ⟨#[]⟩]⟩) := by kernel_rfl
theorem ag34 : aggOf Tryz.prog 34 = some true := by kernel_rfl
theorem cal29 : callee Tryz.prog 29 = true := by kernel_rfl
theorem sl58 : slOf Tryz.prog 58 = some (36, 19) := by kernel_rfl
theorem sz0 : szOf Tryz.prog 0 = some 1 := by kernel_rfl
theorem ag0 : aggOf Tryz.prog 0 = some false := by kernel_rfl
theorem sz1 : szOf Tryz.prog 1 = some 1 := by kernel_rfl
theorem ag1 : aggOf Tryz.prog 1 = some false := by kernel_rfl
theorem zr1 : zrOf Tryz.prog 1 = some [.nilFunc] := by kernel_rfl
theorem zv1 : zvOf Tryz.prog 1 = some (.nilFunc) := by kernel_rfl
theorem by1 : byOf Tryz.prog 1 = some 8 := by kernel_rfl
theorem ag2 : aggOf Tryz.prog 2 = some false := by kernel_rfl
theorem zr2 : zrOf Tryz.prog 2 = some [.int .i64 0] := by kernel_rfl
theorem zv2 : zvOf Tryz.prog 2 = some (.int .i64 0) := by kernel_rfl
theorem by2 : byOf Tryz.prog 2 = some 8 := by kernel_rfl
theorem sz3 : szOf Tryz.prog 3 = some 1 := by kernel_rfl
theorem ag3 : aggOf Tryz.prog 3 = some false := by kernel_rfl
theorem zr3 : zrOf Tryz.prog 3 = some [.int .i64 0] := by kernel_rfl
theorem zv3 : zvOf Tryz.prog 3 = some (.int .i64 0) := by kernel_rfl
theorem by3 : byOf Tryz.prog 3 = some 8 := by kernel_rfl
theorem sz4 : szOf Tryz.prog 4 = some 1 := by kernel_rfl
theorem ag4 : aggOf Tryz.prog 4 = some false := by kernel_rfl
theorem zr4 : zrOf Tryz.prog 4 = some [.bool false] := by kernel_rfl
theorem zv4 : zvOf Tryz.prog 4 = some (.bool false) := by kernel_rfl
theorem by4 : byOf Tryz.prog 4 = some 1 := by kernel_rfl
theorem sz5 : szOf Tryz.prog 5 = some 1 := by kernel_rfl
theorem ag5 : aggOf Tryz.prog 5 = some false := by kernel_rfl
theorem zr5 : zrOf Tryz.prog 5 = some [.int .u8 0] := by kernel_rfl
theorem zv5 : zvOf Tryz.prog 5 = some (.int .u8 0) := by kernel_rfl
theorem by5 : byOf Tryz.prog 5 = some 1 := by kernel_rfl
theorem sz6 : szOf Tryz.prog 6 = some 1 := by kernel_rfl
theorem ag6 : aggOf Tryz.prog 6 = some false := by kernel_rfl
theorem zr6 : zrOf Tryz.prog 6 = some [.int .u8 0] := by kernel_rfl
theorem zv6 : zvOf Tryz.prog 6 = some (.int .u8 0) := by kernel_rfl
theorem by6 : byOf Tryz.prog 6 = some 1 := by kernel_rfl
theorem sz7 : szOf Tryz.prog 7 = some 4 := by kernel_rfl
theorem ag7 : aggOf Tryz.prog 7 = some true := by kernel_rfl
theorem zr7 : zrOf Tryz.prog 7 = some [.int .i64 0, .int .i64 0, .bool false, .int .u8 0] := by kernel_rfl
theorem zv7 : zvOf Tryz.prog 7 = some (.agg ⟨[.int .i64 0, .int .i64 0, .bool false, .int .u8 0]⟩) := by kernel_rfl
theorem by7 : byOf Tryz.prog 7 = some 24 := by kernel_rfl
theorem fo7_0 : fieldOff Tryz.prog 7 0 = some 0 := by kernel_rfl
theorem ft7_0 : fieldTy Tryz.prog 7 0 = some (2, 0) := by kernel_rfl
theorem fo7_1 : fieldOff Tryz.prog 7 1 = some 1 := by kernel_rfl
theorem ft7_1 : fieldTy Tryz.prog 7 1 = some (3, 1) := by kernel_rfl
theorem fo7_2 : fieldOff Tryz.prog 7 2 = some 2 := by kernel_rfl
theorem ft7_2 : fieldTy Tryz.prog 7 2 = some (4, 2) := by kernel_rfl
theorem fo7_3 : fieldOff Tryz.prog 7 3 = some 3 := by kernel_rfl
theorem ft7_3 : fieldTy Tryz.prog 7 3 = some (6, 3) := by kernel_rfl
theorem bs7 : structAt Tryz.prog 7 = some [(0, 1), (1, 1), (2, 1), (3, 1)] := by kernel_rfl
theorem sz8 : szOf Tryz.prog 8 = some 4 := by kernel_rfl
theorem ag8 : aggOf Tryz.prog 8 = some true := by kernel_rfl
theorem zr8 : zrOf Tryz.prog 8 = some [.int .i64 0, .int .i64 0, .bool false, .int .u8 0] := by kernel_rfl
theorem zv8 : zvOf Tryz.prog 8 = some (.agg ⟨[.int .i64 0, .int .i64 0, .bool false, .int .u8 0]⟩) := by kernel_rfl
theorem by8 : byOf Tryz.prog 8 = some 24 := by kernel_rfl
theorem fo8_0 : fieldOff Tryz.prog 8 0 = some 0 := by kernel_rfl
theorem ft8_0 : fieldTy Tryz.prog 8 0 = some (2, 0) := by kernel_rfl
theorem fo8_1 : fieldOff Tryz.prog 8 1 = some 1 := by kernel_rfl
theorem ft8_1 : fieldTy Tryz.prog 8 1 = some (3, 1) := by kernel_rfl
theorem fo8_2 : fieldOff Tryz.prog 8 2 = some 2 := by kernel_rfl
theorem ft8_2 : fieldTy Tryz.prog 8 2 = some (4, 2) := by kernel_rfl
theorem fo8_3 : fieldOff Tryz.prog 8 3 = some 3 := by kernel_rfl
theorem ft8_3 : fieldTy Tryz.prog 8 3 = some (6, 3) := by kernel_rfl
theorem bs8 : structAt Tryz.prog 8 = some [(0, 1), (1, 1), (2, 1), (3, 1)] := by kernel_rfl
theorem sz9 : szOf Tryz.prog 9 = some 1 := by kernel_rfl
theorem zr9 : zrOf Tryz.prog 9 = some [.string ⟨#[]⟩] := by kernel_rfl
theorem zv9 : zvOf Tryz.prog 9 = some (.string ⟨#[]⟩) := by kernel_rfl
theorem by9 : byOf Tryz.prog 9 = some 16 := by kernel_rfl
theorem sz10 : szOf Tryz.prog 10 = some 1 := by kernel_rfl
theorem ag10 : aggOf Tryz.prog 10 = some false := by kernel_rfl
theorem zr10 : zrOf Tryz.prog 10 = some [.string ⟨#[]⟩] := by kernel_rfl
theorem zv10 : zvOf Tryz.prog 10 = some (.string ⟨#[]⟩) := by kernel_rfl
theorem by10 : byOf Tryz.prog 10 = some 16 := by kernel_rfl
theorem sz11 : szOf Tryz.prog 11 = some 1 := by kernel_rfl
theorem ag11 : aggOf Tryz.prog 11 = some false := by kernel_rfl
theorem zr11 : zrOf Tryz.prog 11 = some [.string ⟨#[]⟩] := by kernel_rfl
theorem zv11 : zvOf Tryz.prog 11 = some (.string ⟨#[]⟩) := by kernel_rfl
theorem by11 : byOf Tryz.prog 11 = some 16 := by kernel_rfl
theorem sz12 : szOf Tryz.prog 12 = some 1 := by kernel_rfl
theorem ag12 : aggOf Tryz.prog 12 = some false := by kernel_rfl
theorem zr12 : zrOf Tryz.prog 12 = some [.int .u64 0] := by kernel_rfl
theorem zv12 : zvOf Tryz.prog 12 = some (.int .u64 0) := by kernel_rfl
theorem by12 : byOf Tryz.prog 12 = some 8 := by kernel_rfl
theorem sz13 : szOf Tryz.prog 13 = some 2 := by kernel_rfl
theorem ag13 : aggOf Tryz.prog 13 = some true := by kernel_rfl
theorem zr13 : zrOf Tryz.prog 13 = some [.string ⟨#[]⟩, .int .u64 0] := by kernel_rfl
theorem zv13 : zvOf Tryz.prog 13 = some (.agg ⟨[.string ⟨#[]⟩, .int .u64 0]⟩) := by kernel_rfl
theorem by13 : byOf Tryz.prog 13 = some 24 := by kernel_rfl
theorem fo13_0 : fieldOff Tryz.prog 13 0 = some 0 := by kernel_rfl
theorem ft13_0 : fieldTy Tryz.prog 13 0 = some (9, 0) := by kernel_rfl
theorem fo13_1 : fieldOff Tryz.prog 13 1 = some 1 := by kernel_rfl
theorem ft13_1 : fieldTy Tryz.prog 13 1 = some (12, 1) := by kernel_rfl
theorem bs13 : structAt Tryz.prog 13 = some [(0, 1), (1, 1)] := by kernel_rfl
theorem sz14 : szOf Tryz.prog 14 = some 2 := by kernel_rfl
theorem ag14 : aggOf Tryz.prog 14 = some true := by kernel_rfl
theorem zr14 : zrOf Tryz.prog 14 = some [.string ⟨#[]⟩, .int .u64 0] := by kernel_rfl
theorem zv14 : zvOf Tryz.prog 14 = some (.agg ⟨[.string ⟨#[]⟩, .int .u64 0]⟩) := by kernel_rfl
theorem by14 : byOf Tryz.prog 14 = some 24 := by kernel_rfl
theorem fo14_0 : fieldOff Tryz.prog 14 0 = some 0 := by kernel_rfl
theorem ft14_0 : fieldTy Tryz.prog 14 0 = some (9, 0) := by kernel_rfl
theorem fo14_1 : fieldOff Tryz.prog 14 1 = some 1 := by kernel_rfl
theorem ft14_1 : fieldTy Tryz.prog 14 1 = some (12, 1) := by kernel_rfl
theorem bs14 : structAt Tryz.prog 14 = some [(0, 1), (1, 1)] := by kernel_rfl
theorem sz15 : szOf Tryz.prog 15 = some 1 := by kernel_rfl
theorem ag15 : aggOf Tryz.prog 15 = some false := by kernel_rfl
theorem zr15 : zrOf Tryz.prog 15 = some [.pointer none] := by kernel_rfl
theorem zv15 : zvOf Tryz.prog 15 = some (.pointer none) := by kernel_rfl
theorem by15 : byOf Tryz.prog 15 = some 8 := by kernel_rfl
theorem sz16 : szOf Tryz.prog 16 = some 1 := by kernel_rfl
theorem ag16 : aggOf Tryz.prog 16 = some false := by kernel_rfl
theorem zr16 : zrOf Tryz.prog 16 = some [.pointer none] := by kernel_rfl
theorem zv16 : zvOf Tryz.prog 16 = some (.pointer none) := by kernel_rfl
theorem by16 : byOf Tryz.prog 16 = some 8 := by kernel_rfl
theorem sz17 : szOf Tryz.prog 17 = some 1 := by kernel_rfl
theorem ag17 : aggOf Tryz.prog 17 = some false := by kernel_rfl
theorem zr17 : zrOf Tryz.prog 17 = some [.pointer none] := by kernel_rfl
theorem zv17 : zvOf Tryz.prog 17 = some (.pointer none) := by kernel_rfl
theorem by17 : byOf Tryz.prog 17 = some 8 := by kernel_rfl
theorem sz18 : szOf Tryz.prog 18 = some 1 := by kernel_rfl
theorem ag18 : aggOf Tryz.prog 18 = some true := by kernel_rfl
theorem zr18 : zrOf Tryz.prog 18 = some [.pointer none] := by kernel_rfl
theorem zv18 : zvOf Tryz.prog 18 = some (.agg ⟨[.pointer none]⟩) := by kernel_rfl
theorem by18 : byOf Tryz.prog 18 = some 8 := by kernel_rfl
theorem fo18_0 : fieldOff Tryz.prog 18 0 = some 0 := by kernel_rfl
theorem ft18_0 : fieldTy Tryz.prog 18 0 = some (17, 0) := by kernel_rfl
theorem bs18 : structAt Tryz.prog 18 = some [(0, 1)] := by kernel_rfl
theorem sz19 : szOf Tryz.prog 19 = some 1 := by kernel_rfl
theorem ag19 : aggOf Tryz.prog 19 = some true := by kernel_rfl
theorem zr19 : zrOf Tryz.prog 19 = some [.pointer none] := by kernel_rfl
theorem zv19 : zvOf Tryz.prog 19 = some (.agg ⟨[.pointer none]⟩) := by kernel_rfl
theorem by19 : byOf Tryz.prog 19 = some 8 := by kernel_rfl
theorem fo19_0 : fieldOff Tryz.prog 19 0 = some 0 := by kernel_rfl
theorem ft19_0 : fieldTy Tryz.prog 19 0 = some (17, 0) := by kernel_rfl
theorem bs19 : structAt Tryz.prog 19 = some [(0, 1)] := by kernel_rfl
theorem sz20 : szOf Tryz.prog 20 = some 1 := by kernel_rfl
theorem ag20 : aggOf Tryz.prog 20 = some false := by kernel_rfl
theorem zr20 : zrOf Tryz.prog 20 = some [.nilIface] := by kernel_rfl
theorem zv20 : zvOf Tryz.prog 20 = some (.nilIface) := by kernel_rfl
theorem by20 : byOf Tryz.prog 20 = some 16 := by kernel_rfl
theorem sz21 : szOf Tryz.prog 21 = some 1 := by kernel_rfl
theorem ag21 : aggOf Tryz.prog 21 = some false := by kernel_rfl
theorem zr21 : zrOf Tryz.prog 21 = some [.int .i32 0] := by kernel_rfl
theorem zv21 : zvOf Tryz.prog 21 = some (.int .i32 0) := by kernel_rfl
theorem by21 : byOf Tryz.prog 21 = some 4 := by kernel_rfl
theorem sz22 : szOf Tryz.prog 22 = some 1 := by kernel_rfl
theorem ag22 : aggOf Tryz.prog 22 = some false := by kernel_rfl
theorem zr22 : zrOf Tryz.prog 22 = some [.slice none 0 0] := by kernel_rfl
theorem zv22 : zvOf Tryz.prog 22 = some (.slice none 0 0) := by kernel_rfl
theorem by22 : byOf Tryz.prog 22 = some 24 := by kernel_rfl
theorem sz23 : szOf Tryz.prog 23 = some 1 := by kernel_rfl
theorem ag23 : aggOf Tryz.prog 23 = some false := by kernel_rfl
theorem zr23 : zrOf Tryz.prog 23 = some [.slice none 0 0] := by kernel_rfl
theorem zv23 : zvOf Tryz.prog 23 = some (.slice none 0 0) := by kernel_rfl
theorem by23 : byOf Tryz.prog 23 = some 24 := by kernel_rfl
theorem sz24 : szOf Tryz.prog 24 = some 1 := by kernel_rfl
theorem ag24 : aggOf Tryz.prog 24 = some false := by kernel_rfl
theorem zr24 : zrOf Tryz.prog 24 = some [.slice none 0 0] := by kernel_rfl
theorem zv24 : zvOf Tryz.prog 24 = some (.slice none 0 0) := by kernel_rfl
theorem by24 : byOf Tryz.prog 24 = some 24 := by kernel_rfl
theorem sz25 : szOf Tryz.prog 25 = some 1 := by kernel_rfl
theorem ag25 : aggOf Tryz.prog 25 = some false := by kernel_rfl
theorem zr25 : zrOf Tryz.prog 25 = some [.int .u64 0] := by kernel_rfl
theorem zv25 : zvOf Tryz.prog 25 = some (.int .u64 0) := by kernel_rfl
theorem by25 : byOf Tryz.prog 25 = some 8 := by kernel_rfl
theorem sz26 : szOf Tryz.prog 26 = some 4 := by kernel_rfl
theorem ag26 : aggOf Tryz.prog 26 = some true := by kernel_rfl
theorem zr26 : zrOf Tryz.prog 26 = some [.slice none 0 0, .slice none 0 0, .slice none 0 0, .int .u64 0] := by kernel_rfl
theorem zv26 : zvOf Tryz.prog 26 = some (.agg ⟨[.slice none 0 0, .slice none 0 0, .slice none 0 0, .int .u64 0]⟩) := by kernel_rfl
theorem by26 : byOf Tryz.prog 26 = some 80 := by kernel_rfl
theorem fo26_0 : fieldOff Tryz.prog 26 0 = some 0 := by kernel_rfl
theorem ft26_0 : fieldTy Tryz.prog 26 0 = some (22, 0) := by kernel_rfl
theorem fo26_1 : fieldOff Tryz.prog 26 1 = some 1 := by kernel_rfl
theorem ft26_1 : fieldTy Tryz.prog 26 1 = some (23, 1) := by kernel_rfl
theorem fo26_2 : fieldOff Tryz.prog 26 2 = some 2 := by kernel_rfl
theorem ft26_2 : fieldTy Tryz.prog 26 2 = some (24, 2) := by kernel_rfl
theorem fo26_3 : fieldOff Tryz.prog 26 3 = some 3 := by kernel_rfl
theorem ft26_3 : fieldTy Tryz.prog 26 3 = some (25, 3) := by kernel_rfl
theorem bs26 : structAt Tryz.prog 26 = some [(0, 1), (1, 1), (2, 1), (3, 1)] := by kernel_rfl
theorem sz27 : szOf Tryz.prog 27 = some 4 := by kernel_rfl
theorem ag27 : aggOf Tryz.prog 27 = some true := by kernel_rfl
theorem zr27 : zrOf Tryz.prog 27 = some [.slice none 0 0, .slice none 0 0, .slice none 0 0, .int .u64 0] := by kernel_rfl
theorem zv27 : zvOf Tryz.prog 27 = some (.agg ⟨[.slice none 0 0, .slice none 0 0, .slice none 0 0, .int .u64 0]⟩) := by kernel_rfl
theorem by27 : byOf Tryz.prog 27 = some 80 := by kernel_rfl
theorem fo27_0 : fieldOff Tryz.prog 27 0 = some 0 := by kernel_rfl
theorem ft27_0 : fieldTy Tryz.prog 27 0 = some (22, 0) := by kernel_rfl
theorem fo27_1 : fieldOff Tryz.prog 27 1 = some 1 := by kernel_rfl
theorem ft27_1 : fieldTy Tryz.prog 27 1 = some (23, 1) := by kernel_rfl
theorem fo27_2 : fieldOff Tryz.prog 27 2 = some 2 := by kernel_rfl
theorem ft27_2 : fieldTy Tryz.prog 27 2 = some (24, 2) := by kernel_rfl
theorem fo27_3 : fieldOff Tryz.prog 27 3 = some 3 := by kernel_rfl
theorem ft27_3 : fieldTy Tryz.prog 27 3 = some (25, 3) := by kernel_rfl
theorem bs27 : structAt Tryz.prog 27 = some [(0, 1), (1, 1), (2, 1), (3, 1)] := by kernel_rfl
theorem sz28 : szOf Tryz.prog 28 = some 1 := by kernel_rfl
theorem ag28 : aggOf Tryz.prog 28 = some false := by kernel_rfl
theorem zr28 : zrOf Tryz.prog 28 = some [.int .u8 0] := by kernel_rfl
theorem zv28 : zvOf Tryz.prog 28 = some (.int .u8 0) := by kernel_rfl
theorem by28 : byOf Tryz.prog 28 = some 1 := by kernel_rfl
theorem sz29 : szOf Tryz.prog 29 = some 3 := by kernel_rfl
theorem ag29 : aggOf Tryz.prog 29 = some true := by kernel_rfl
theorem zr29 : zrOf Tryz.prog 29 = some [.int .i64 0, .int .i64 0, .int .i64 0] := by kernel_rfl
theorem zv29 : zvOf Tryz.prog 29 = some (.agg ⟨[.int .i64 0, .int .i64 0, .int .i64 0]⟩) := by kernel_rfl
theorem by29 : byOf Tryz.prog 29 = some 24 := by kernel_rfl
theorem sz30 : szOf Tryz.prog 30 = some 1 := by kernel_rfl
theorem ag30 : aggOf Tryz.prog 30 = some false := by kernel_rfl
theorem zr30 : zrOf Tryz.prog 30 = some [.slice none 0 0] := by kernel_rfl
theorem zv30 : zvOf Tryz.prog 30 = some (.slice none 0 0) := by kernel_rfl
theorem by30 : byOf Tryz.prog 30 = some 24 := by kernel_rfl
theorem sz31 : szOf Tryz.prog 31 = some 6 := by kernel_rfl
theorem ag31 : aggOf Tryz.prog 31 = some true := by kernel_rfl
theorem zr31 : zrOf Tryz.prog 31 = some [.string ⟨#[]⟩, .int .i64 0, .int .i64 0, .int .i64 0, .slice none 0 0, .slice none 0 0] := by kernel_rfl
theorem zv31 : zvOf Tryz.prog 31 = some (.agg ⟨[.string ⟨#[]⟩, .int .i64 0, .int .i64 0, .int .i64 0, .slice none 0 0, .slice none 0 0]⟩) := by kernel_rfl
theorem by31 : byOf Tryz.prog 31 = some 88 := by kernel_rfl
theorem fo31_0 : fieldOff Tryz.prog 31 0 = some 0 := by kernel_rfl
theorem ft31_0 : fieldTy Tryz.prog 31 0 = some (9, 0) := by kernel_rfl
theorem fo31_1 : fieldOff Tryz.prog 31 1 = some 1 := by kernel_rfl
theorem ft31_1 : fieldTy Tryz.prog 31 1 = some (29, 1) := by kernel_rfl
theorem fo31_2 : fieldOff Tryz.prog 31 2 = some 4 := by kernel_rfl
theorem ft31_2 : fieldTy Tryz.prog 31 2 = some (30, 4) := by kernel_rfl
theorem fo31_3 : fieldOff Tryz.prog 31 3 = some 5 := by kernel_rfl
theorem ft31_3 : fieldTy Tryz.prog 31 3 = some (30, 5) := by kernel_rfl
theorem bs31 : structAt Tryz.prog 31 = some [(0, 1), (1, 3), (4, 1), (5, 1)] := by kernel_rfl
theorem ag32 : aggOf Tryz.prog 32 = some true := by kernel_rfl
theorem zr32 : zrOf Tryz.prog 32 = some [.string ⟨#[]⟩, .int .i64 0, .int .i64 0, .int .i64 0, .slice none 0 0, .slice none 0 0] := by kernel_rfl
theorem fo32_0 : fieldOff Tryz.prog 32 0 = some 0 := by kernel_rfl
theorem ft32_0 : fieldTy Tryz.prog 32 0 = some (9, 0) := by kernel_rfl
theorem fo32_1 : fieldOff Tryz.prog 32 1 = some 1 := by kernel_rfl
theorem ft32_1 : fieldTy Tryz.prog 32 1 = some (29, 1) := by kernel_rfl
theorem fo32_2 : fieldOff Tryz.prog 32 2 = some 4 := by kernel_rfl
theorem ft32_2 : fieldTy Tryz.prog 32 2 = some (30, 4) := by kernel_rfl
theorem fo32_3 : fieldOff Tryz.prog 32 3 = some 5 := by kernel_rfl
theorem ft32_3 : fieldTy Tryz.prog 32 3 = some (30, 5) := by kernel_rfl
theorem bs32 : structAt Tryz.prog 32 = some [(0, 1), (1, 3), (4, 1), (5, 1)] := by kernel_rfl
theorem sz33 : szOf Tryz.prog 33 = some 9 := by kernel_rfl
theorem ag33 : aggOf Tryz.prog 33 = some true := by kernel_rfl
theorem zr33 : zrOf Tryz.prog 33 = some [.string ⟨#[]⟩, .int .i64 0, .int .i64 0, .int .i64 0, .slice none 0 0, .slice none 0 0, .string ⟨#[]⟩, .string ⟨#[]⟩, .int .i64 0] := by kernel_rfl
theorem zv33 : zvOf Tryz.prog 33 = some (.agg ⟨[.string ⟨#[]⟩, .int .i64 0, .int .i64 0, .int .i64 0, .slice none 0 0, .slice none 0 0, .string ⟨#[]⟩, .string ⟨#[]⟩, .int .i64 0]⟩) := by kernel_rfl
theorem by33 : byOf Tryz.prog 33 = some 128 := by kernel_rfl
theorem fo33_0 : fieldOff Tryz.prog 33 0 = some 0 := by kernel_rfl
theorem ft33_0 : fieldTy Tryz.prog 33 0 = some (9, 0) := by kernel_rfl
theorem fo33_1 : fieldOff Tryz.prog 33 1 = some 1 := by kernel_rfl
theorem ft33_1 : fieldTy Tryz.prog 33 1 = some (29, 1) := by kernel_rfl
theorem fo33_2 : fieldOff Tryz.prog 33 2 = some 4 := by kernel_rfl
theorem ft33_2 : fieldTy Tryz.prog 33 2 = some (30, 4) := by kernel_rfl
theorem fo33_3 : fieldOff Tryz.prog 33 3 = some 5 := by kernel_rfl
theorem ft33_3 : fieldTy Tryz.prog 33 3 = some (30, 5) := by kernel_rfl
theorem fo33_4 : fieldOff Tryz.prog 33 4 = some 6 := by kernel_rfl
theorem ft33_4 : fieldTy Tryz.prog 33 4 = some (9, 6) := by kernel_rfl
theorem fo33_5 : fieldOff Tryz.prog 33 5 = some 7 := by kernel_rfl
theorem ft33_5 : fieldTy Tryz.prog 33 5 = some (9, 7) := by kernel_rfl
theorem fo33_6 : fieldOff Tryz.prog 33 6 = some 8 := by kernel_rfl
theorem ft33_6 : fieldTy Tryz.prog 33 6 = some (3, 8) := by kernel_rfl
theorem bs33 : structAt Tryz.prog 33 = some [(0, 1), (1, 3), (4, 1), (5, 1), (6, 1), (7, 1), (8, 1)] := by kernel_rfl
theorem zr34 : zrOf Tryz.prog 34 = some [.string ⟨#[]⟩, .int .i64 0, .int .i64 0, .int .i64 0, .slice none 0 0, .slice none 0 0, .string ⟨#[]⟩, .string ⟨#[]⟩, .int .i64 0] := by kernel_rfl
theorem fo34_0 : fieldOff Tryz.prog 34 0 = some 0 := by kernel_rfl
theorem ft34_0 : fieldTy Tryz.prog 34 0 = some (9, 0) := by kernel_rfl
theorem fo34_1 : fieldOff Tryz.prog 34 1 = some 1 := by kernel_rfl
theorem ft34_1 : fieldTy Tryz.prog 34 1 = some (29, 1) := by kernel_rfl
theorem fo34_2 : fieldOff Tryz.prog 34 2 = some 4 := by kernel_rfl
theorem ft34_2 : fieldTy Tryz.prog 34 2 = some (30, 4) := by kernel_rfl
theorem fo34_3 : fieldOff Tryz.prog 34 3 = some 5 := by kernel_rfl
theorem ft34_3 : fieldTy Tryz.prog 34 3 = some (30, 5) := by kernel_rfl
theorem fo34_4 : fieldOff Tryz.prog 34 4 = some 6 := by kernel_rfl
theorem ft34_4 : fieldTy Tryz.prog 34 4 = some (9, 6) := by kernel_rfl
theorem fo34_5 : fieldOff Tryz.prog 34 5 = some 7 := by kernel_rfl
theorem ft34_5 : fieldTy Tryz.prog 34 5 = some (9, 7) := by kernel_rfl
theorem fo34_6 : fieldOff Tryz.prog 34 6 = some 8 := by kernel_rfl
theorem ft34_6 : fieldTy Tryz.prog 34 6 = some (3, 8) := by kernel_rfl
theorem bs34 : structAt Tryz.prog 34 = some [(0, 1), (1, 3), (4, 1), (5, 1), (6, 1), (7, 1), (8, 1)] := by kernel_rfl
theorem sz35 : szOf Tryz.prog 35 = some 19 := by kernel_rfl
theorem ag35 : aggOf Tryz.prog 35 = some true := by kernel_rfl
theorem zr35 : zrOf Tryz.prog 35 = some [.int .u8 0, .string ⟨#[]⟩, .int .i64 0, .int .i64 0, .int .i64 0, .slice none 0 0, .slice none 0 0, .string ⟨#[]⟩, .int .i64 0, .int .i64 0, .int .i64 0, .slice none 0 0, .slice none 0 0, .string ⟨#[]⟩, .string ⟨#[]⟩, .int .i64 0, .string ⟨#[]⟩, .string ⟨#[]⟩, .int .u64 0] := by kernel_rfl
theorem zv35 : zvOf Tryz.prog 35 = some (.agg ⟨[.int .u8 0, .string ⟨#[]⟩, .int .i64 0, .int .i64 0, .int .i64 0, .slice none 0 0, .slice none 0 0, .string ⟨#[]⟩, .int .i64 0, .int .i64 0, .int .i64 0, .slice none 0 0, .slice none 0 0, .string ⟨#[]⟩, .string ⟨#[]⟩, .int .i64 0, .string ⟨#[]⟩, .string ⟨#[]⟩, .int .u64 0]⟩) := by kernel_rfl
theorem by35 : byOf Tryz.prog 35 = some 264 := by kernel_rfl
theorem fo35_0 : fieldOff Tryz.prog 35 0 = some 0 := by kernel_rfl
theorem ft35_0 : fieldTy Tryz.prog 35 0 = some (28, 0) := by kernel_rfl
theorem fo35_1 : fieldOff Tryz.prog 35 1 = some 1 := by kernel_rfl
theorem ft35_1 : fieldTy Tryz.prog 35 1 = some (32, 1) := by kernel_rfl
theorem fo35_2 : fieldOff Tryz.prog 35 2 = some 7 := by kernel_rfl
theorem ft35_2 : fieldTy Tryz.prog 35 2 = some (34, 7) := by kernel_rfl
theorem fo35_3 : fieldOff Tryz.prog 35 3 = some 16 := by kernel_rfl
theorem ft35_3 : fieldTy Tryz.prog 35 3 = some (9, 16) := by kernel_rfl
theorem fo35_4 : fieldOff Tryz.prog 35 4 = some 17 := by kernel_rfl
theorem ft35_4 : fieldTy Tryz.prog 35 4 = some (9, 17) := by kernel_rfl
theorem fo35_5 : fieldOff Tryz.prog 35 5 = some 18 := by kernel_rfl
theorem ft35_5 : fieldTy Tryz.prog 35 5 = some (25, 18) := by kernel_rfl
theorem bs35 : structAt Tryz.prog 35 = some [(0, 1), (1, 6), (7, 9), (16, 1), (17, 1), (18, 1)] := by kernel_rfl
theorem sz36 : szOf Tryz.prog 36 = some 19 := by kernel_rfl
theorem ag36 : aggOf Tryz.prog 36 = some true := by kernel_rfl
theorem zr36 : zrOf Tryz.prog 36 = some [.int .u8 0, .string ⟨#[]⟩, .int .i64 0, .int .i64 0, .int .i64 0, .slice none 0 0, .slice none 0 0, .string ⟨#[]⟩, .int .i64 0, .int .i64 0, .int .i64 0, .slice none 0 0, .slice none 0 0, .string ⟨#[]⟩, .string ⟨#[]⟩, .int .i64 0, .string ⟨#[]⟩, .string ⟨#[]⟩, .int .u64 0] := by kernel_rfl
theorem zv36 : zvOf Tryz.prog 36 = some (.agg ⟨[.int .u8 0, .string ⟨#[]⟩, .int .i64 0, .int .i64 0, .int .i64 0, .slice none 0 0, .slice none 0 0, .string ⟨#[]⟩, .int .i64 0, .int .i64 0, .int .i64 0, .slice none 0 0, .slice none 0 0, .string ⟨#[]⟩, .string ⟨#[]⟩, .int .i64 0, .string ⟨#[]⟩, .string ⟨#[]⟩, .int .u64 0]⟩) := by kernel_rfl
theorem by36 : byOf Tryz.prog 36 = some 264 := by kernel_rfl
theorem fo36_0 : fieldOff Tryz.prog 36 0 = some 0 := by kernel_rfl
theorem ft36_0 : fieldTy Tryz.prog 36 0 = some (28, 0) := by kernel_rfl
theorem fo36_1 : fieldOff Tryz.prog 36 1 = some 1 := by kernel_rfl
theorem ft36_1 : fieldTy Tryz.prog 36 1 = some (32, 1) := by kernel_rfl
theorem fo36_2 : fieldOff Tryz.prog 36 2 = some 7 := by kernel_rfl
theorem ft36_2 : fieldTy Tryz.prog 36 2 = some (34, 7) := by kernel_rfl
theorem fo36_3 : fieldOff Tryz.prog 36 3 = some 16 := by kernel_rfl
theorem ft36_3 : fieldTy Tryz.prog 36 3 = some (9, 16) := by kernel_rfl
theorem fo36_4 : fieldOff Tryz.prog 36 4 = some 17 := by kernel_rfl
theorem ft36_4 : fieldTy Tryz.prog 36 4 = some (9, 17) := by kernel_rfl
theorem fo36_5 : fieldOff Tryz.prog 36 5 = some 18 := by kernel_rfl
theorem ft36_5 : fieldTy Tryz.prog 36 5 = some (25, 18) := by kernel_rfl
theorem bs36 : structAt Tryz.prog 36 = some [(0, 1), (1, 6), (7, 9), (16, 1), (17, 1), (18, 1)] := by kernel_rfl
theorem sz37 : szOf Tryz.prog 37 = some 1 := by kernel_rfl
theorem ag37 : aggOf Tryz.prog 37 = some false := by kernel_rfl
theorem zr37 : zrOf Tryz.prog 37 = some [.nilFunc] := by kernel_rfl
theorem zv37 : zvOf Tryz.prog 37 = some (.nilFunc) := by kernel_rfl
theorem by37 : byOf Tryz.prog 37 = some 8 := by kernel_rfl
theorem sz38 : szOf Tryz.prog 38 = some 1 := by kernel_rfl
theorem ag38 : aggOf Tryz.prog 38 = some false := by kernel_rfl
theorem zr38 : zrOf Tryz.prog 38 = some [.nilFunc] := by kernel_rfl
theorem zv38 : zvOf Tryz.prog 38 = some (.nilFunc) := by kernel_rfl
theorem by38 : byOf Tryz.prog 38 = some 8 := by kernel_rfl
theorem sz39 : szOf Tryz.prog 39 = some 1 := by kernel_rfl
theorem ag39 : aggOf Tryz.prog 39 = some false := by kernel_rfl
theorem zr39 : zrOf Tryz.prog 39 = some [.int .i64 0] := by kernel_rfl
theorem zv39 : zvOf Tryz.prog 39 = some (.int .i64 0) := by kernel_rfl
theorem by39 : byOf Tryz.prog 39 = some 8 := by kernel_rfl
theorem sz40 : szOf Tryz.prog 40 = some 2 := by kernel_rfl
theorem ag40 : aggOf Tryz.prog 40 = some true := by kernel_rfl
theorem zr40 : zrOf Tryz.prog 40 = some [.int .i64 0, .string ⟨#[]⟩] := by kernel_rfl
theorem zv40 : zvOf Tryz.prog 40 = some (.agg ⟨[.int .i64 0, .string ⟨#[]⟩]⟩) := by kernel_rfl
theorem by40 : byOf Tryz.prog 40 = some 24 := by kernel_rfl
theorem fo40_0 : fieldOff Tryz.prog 40 0 = some 0 := by kernel_rfl
theorem ft40_0 : fieldTy Tryz.prog 40 0 = some (39, 0) := by kernel_rfl
theorem fo40_1 : fieldOff Tryz.prog 40 1 = some 1 := by kernel_rfl
theorem ft40_1 : fieldTy Tryz.prog 40 1 = some (9, 1) := by kernel_rfl
theorem bs40 : structAt Tryz.prog 40 = some [(0, 1), (1, 1)] := by kernel_rfl
theorem sz41 : szOf Tryz.prog 41 = some 2 := by kernel_rfl
theorem ag41 : aggOf Tryz.prog 41 = some true := by kernel_rfl
theorem zr41 : zrOf Tryz.prog 41 = some [.int .i64 0, .string ⟨#[]⟩] := by kernel_rfl
theorem zv41 : zvOf Tryz.prog 41 = some (.agg ⟨[.int .i64 0, .string ⟨#[]⟩]⟩) := by kernel_rfl
theorem by41 : byOf Tryz.prog 41 = some 24 := by kernel_rfl
theorem fo41_0 : fieldOff Tryz.prog 41 0 = some 0 := by kernel_rfl
theorem ft41_0 : fieldTy Tryz.prog 41 0 = some (39, 0) := by kernel_rfl
theorem fo41_1 : fieldOff Tryz.prog 41 1 = some 1 := by kernel_rfl
theorem ft41_1 : fieldTy Tryz.prog 41 1 = some (9, 1) := by kernel_rfl
theorem bs41 : structAt Tryz.prog 41 = some [(0, 1), (1, 1)] := by kernel_rfl
theorem sz42 : szOf Tryz.prog 42 = some 1 := by kernel_rfl
theorem ag42 : aggOf Tryz.prog 42 = some false := by kernel_rfl
theorem sz43 : szOf Tryz.prog 43 = some 1 := by kernel_rfl
theorem ag43 : aggOf Tryz.prog 43 = some false := by kernel_rfl
theorem zr43 : zrOf Tryz.prog 43 = some [.nilFunc] := by kernel_rfl
theorem zv43 : zvOf Tryz.prog 43 = some (.nilFunc) := by kernel_rfl
theorem by43 : byOf Tryz.prog 43 = some 8 := by kernel_rfl
theorem sz44 : szOf Tryz.prog 44 = some 2 := by kernel_rfl
theorem ag44 : aggOf Tryz.prog 44 = some true := by kernel_rfl
theorem zr44 : zrOf Tryz.prog 44 = some [.string ⟨#[]⟩, .string ⟨#[]⟩] := by kernel_rfl
theorem zv44 : zvOf Tryz.prog 44 = some (.agg ⟨[.string ⟨#[]⟩, .string ⟨#[]⟩]⟩) := by kernel_rfl
theorem by44 : byOf Tryz.prog 44 = some 32 := by kernel_rfl
theorem fo44_0 : fieldOff Tryz.prog 44 0 = some 0 := by kernel_rfl
theorem ft44_0 : fieldTy Tryz.prog 44 0 = some (9, 0) := by kernel_rfl
theorem fo44_1 : fieldOff Tryz.prog 44 1 = some 1 := by kernel_rfl
theorem ft44_1 : fieldTy Tryz.prog 44 1 = some (9, 1) := by kernel_rfl
theorem bs44 : structAt Tryz.prog 44 = some [(0, 1), (1, 1)] := by kernel_rfl
theorem ag45 : aggOf Tryz.prog 45 = some true := by kernel_rfl
theorem zr45 : zrOf Tryz.prog 45 = some [.string ⟨#[]⟩, .string ⟨#[]⟩] := by kernel_rfl
theorem fo45_0 : fieldOff Tryz.prog 45 0 = some 0 := by kernel_rfl
theorem ft45_0 : fieldTy Tryz.prog 45 0 = some (9, 0) := by kernel_rfl
theorem fo45_1 : fieldOff Tryz.prog 45 1 = some 1 := by kernel_rfl
theorem ft45_1 : fieldTy Tryz.prog 45 1 = some (9, 1) := by kernel_rfl
theorem bs45 : structAt Tryz.prog 45 = some [(0, 1), (1, 1)] := by kernel_rfl
theorem sz46 : szOf Tryz.prog 46 = some 2 := by kernel_rfl
theorem ag46 : aggOf Tryz.prog 46 = some true := by kernel_rfl
theorem zr46 : zrOf Tryz.prog 46 = some [.string ⟨#[]⟩, .string ⟨#[]⟩] := by kernel_rfl
theorem zv46 : zvOf Tryz.prog 46 = some (.agg ⟨[.string ⟨#[]⟩, .string ⟨#[]⟩]⟩) := by kernel_rfl
theorem by46 : byOf Tryz.prog 46 = some 32 := by kernel_rfl
theorem fo46_0 : fieldOff Tryz.prog 46 0 = some 0 := by kernel_rfl
theorem ft46_0 : fieldTy Tryz.prog 46 0 = some (9, 0) := by kernel_rfl
theorem fo46_1 : fieldOff Tryz.prog 46 1 = some 1 := by kernel_rfl
theorem ft46_1 : fieldTy Tryz.prog 46 1 = some (9, 1) := by kernel_rfl
theorem bs46 : structAt Tryz.prog 46 = some [(0, 1), (1, 1)] := by kernel_rfl
theorem ag47 : aggOf Tryz.prog 47 = some true := by kernel_rfl
theorem zr47 : zrOf Tryz.prog 47 = some [.string ⟨#[]⟩, .string ⟨#[]⟩] := by kernel_rfl
theorem fo47_0 : fieldOff Tryz.prog 47 0 = some 0 := by kernel_rfl
theorem ft47_0 : fieldTy Tryz.prog 47 0 = some (9, 0) := by kernel_rfl
theorem fo47_1 : fieldOff Tryz.prog 47 1 = some 1 := by kernel_rfl
theorem ft47_1 : fieldTy Tryz.prog 47 1 = some (9, 1) := by kernel_rfl
theorem bs47 : structAt Tryz.prog 47 = some [(0, 1), (1, 1)] := by kernel_rfl
theorem sz48 : szOf Tryz.prog 48 = some 1 := by kernel_rfl
theorem ag48 : aggOf Tryz.prog 48 = some false := by kernel_rfl
theorem zr48 : zrOf Tryz.prog 48 = some [.nilFunc] := by kernel_rfl
theorem zv48 : zvOf Tryz.prog 48 = some (.nilFunc) := by kernel_rfl
theorem by48 : byOf Tryz.prog 48 = some 8 := by kernel_rfl
theorem sz49 : szOf Tryz.prog 49 = some 1 := by kernel_rfl
theorem ag49 : aggOf Tryz.prog 49 = some false := by kernel_rfl
theorem zr49 : zrOf Tryz.prog 49 = some [.nilFunc] := by kernel_rfl
theorem zv49 : zvOf Tryz.prog 49 = some (.nilFunc) := by kernel_rfl
theorem by49 : byOf Tryz.prog 49 = some 8 := by kernel_rfl
theorem sz50 : szOf Tryz.prog 50 = some 1 := by kernel_rfl
theorem ag50 : aggOf Tryz.prog 50 = some false := by kernel_rfl
theorem sz51 : szOf Tryz.prog 51 = some 1 := by kernel_rfl
theorem ag51 : aggOf Tryz.prog 51 = some false := by kernel_rfl
theorem zr51 : zrOf Tryz.prog 51 = some [.nilFunc] := by kernel_rfl
theorem zv51 : zvOf Tryz.prog 51 = some (.nilFunc) := by kernel_rfl
theorem by51 : byOf Tryz.prog 51 = some 8 := by kernel_rfl
theorem sz52 : szOf Tryz.prog 52 = some 1 := by kernel_rfl
theorem ag52 : aggOf Tryz.prog 52 = some false := by kernel_rfl
theorem zr52 : zrOf Tryz.prog 52 = some [.slice none 0 0] := by kernel_rfl
theorem zv52 : zvOf Tryz.prog 52 = some (.slice none 0 0) := by kernel_rfl
theorem by52 : byOf Tryz.prog 52 = some 24 := by kernel_rfl
theorem sl52 : slOf Tryz.prog 52 = some (56, 9) := by kernel_rfl
theorem sz53 : szOf Tryz.prog 53 = some 1 := by kernel_rfl
theorem ag53 : aggOf Tryz.prog 53 = some false := by kernel_rfl
theorem sz54 : szOf Tryz.prog 54 = some 1 := by kernel_rfl
theorem ag54 : aggOf Tryz.prog 54 = some false := by kernel_rfl
theorem zr54 : zrOf Tryz.prog 54 = some [.nilFunc] := by kernel_rfl
theorem zv54 : zvOf Tryz.prog 54 = some (.nilFunc) := by kernel_rfl
theorem by54 : byOf Tryz.prog 54 = some 8 := by kernel_rfl
theorem sz55 : szOf Tryz.prog 55 = some 9 := by kernel_rfl
theorem ag55 : aggOf Tryz.prog 55 = some true := by kernel_rfl
theorem zr55 : zrOf Tryz.prog 55 = some [.string ⟨#[]⟩, .int .i64 0, .int .i64 0, .int .i64 0, .slice none 0 0, .slice none 0 0, .int .i64 0, .int .i64 0, .int .i64 0] := by kernel_rfl
theorem zv55 : zvOf Tryz.prog 55 = some (.agg ⟨[.string ⟨#[]⟩, .int .i64 0, .int .i64 0, .int .i64 0, .slice none 0 0, .slice none 0 0, .int .i64 0, .int .i64 0, .int .i64 0]⟩) := by kernel_rfl
theorem by55 : byOf Tryz.prog 55 = some 112 := by kernel_rfl
theorem fo55_0 : fieldOff Tryz.prog 55 0 = some 0 := by kernel_rfl
theorem ft55_0 : fieldTy Tryz.prog 55 0 = some (32, 0) := by kernel_rfl
theorem fo55_1 : fieldOff Tryz.prog 55 1 = some 6 := by kernel_rfl
theorem ft55_1 : fieldTy Tryz.prog 55 1 = some (29, 6) := by kernel_rfl
theorem bs55 : structAt Tryz.prog 55 = some [(0, 6), (6, 3)] := by kernel_rfl
theorem sz56 : szOf Tryz.prog 56 = some 9 := by kernel_rfl
theorem ag56 : aggOf Tryz.prog 56 = some true := by kernel_rfl
theorem zr56 : zrOf Tryz.prog 56 = some [.string ⟨#[]⟩, .int .i64 0, .int .i64 0, .int .i64 0, .slice none 0 0, .slice none 0 0, .int .i64 0, .int .i64 0, .int .i64 0] := by kernel_rfl
theorem zv56 : zvOf Tryz.prog 56 = some (.agg ⟨[.string ⟨#[]⟩, .int .i64 0, .int .i64 0, .int .i64 0, .slice none 0 0, .slice none 0 0, .int .i64 0, .int .i64 0, .int .i64 0]⟩) := by kernel_rfl
theorem by56 : byOf Tryz.prog 56 = some 112 := by kernel_rfl
theorem fo56_0 : fieldOff Tryz.prog 56 0 = some 0 := by kernel_rfl
theorem ft56_0 : fieldTy Tryz.prog 56 0 = some (32, 0) := by kernel_rfl
theorem fo56_1 : fieldOff Tryz.prog 56 1 = some 6 := by kernel_rfl
theorem ft56_1 : fieldTy Tryz.prog 56 1 = some (29, 6) := by kernel_rfl
theorem bs56 : structAt Tryz.prog 56 = some [(0, 6), (6, 3)] := by kernel_rfl
theorem sz57 : szOf Tryz.prog 57 = some 1 := by kernel_rfl
theorem ag57 : aggOf Tryz.prog 57 = some false := by kernel_rfl
theorem zr57 : zrOf Tryz.prog 57 = some [.nilFunc] := by kernel_rfl
theorem zv57 : zvOf Tryz.prog 57 = some (.nilFunc) := by kernel_rfl
theorem by57 : byOf Tryz.prog 57 = some 8 := by kernel_rfl
theorem sz58 : szOf Tryz.prog 58 = some 1 := by kernel_rfl
theorem ag58 : aggOf Tryz.prog 58 = some false := by kernel_rfl
theorem zr58 : zrOf Tryz.prog 58 = some [.slice none 0 0] := by kernel_rfl
theorem zv58 : zvOf Tryz.prog 58 = some (.slice none 0 0) := by kernel_rfl
theorem by58 : byOf Tryz.prog 58 = some 24 := by kernel_rfl
theorem sz59 : szOf Tryz.prog 59 = some 1 := by kernel_rfl
theorem ag59 : aggOf Tryz.prog 59 = some false := by kernel_rfl
theorem sz60 : szOf Tryz.prog 60 = some 1 := by kernel_rfl
theorem ag60 : aggOf Tryz.prog 60 = some false := by kernel_rfl
theorem zr60 : zrOf Tryz.prog 60 = some [.nilFunc] := by kernel_rfl
theorem zv60 : zvOf Tryz.prog 60 = some (.nilFunc) := by kernel_rfl
theorem by60 : byOf Tryz.prog 60 = some 8 := by kernel_rfl
theorem sz61 : szOf Tryz.prog 61 = some 1 := by kernel_rfl
theorem ag61 : aggOf Tryz.prog 61 = some false := by kernel_rfl
theorem zr61 : zrOf Tryz.prog 61 = some [.nilFunc] := by kernel_rfl
theorem zv61 : zvOf Tryz.prog 61 = some (.nilFunc) := by kernel_rfl
theorem by61 : byOf Tryz.prog 61 = some 8 := by kernel_rfl
theorem sz62 : szOf Tryz.prog 62 = some 1 := by kernel_rfl
theorem ag62 : aggOf Tryz.prog 62 = some false := by kernel_rfl
theorem zr62 : zrOf Tryz.prog 62 = some [.nilFunc] := by kernel_rfl
theorem zv62 : zvOf Tryz.prog 62 = some (.nilFunc) := by kernel_rfl
theorem by62 : byOf Tryz.prog 62 = some 8 := by kernel_rfl
theorem sz63 : szOf Tryz.prog 63 = some 1 := by kernel_rfl
theorem ag63 : aggOf Tryz.prog 63 = some false := by kernel_rfl
theorem zr63 : zrOf Tryz.prog 63 = some [.nilFunc] := by kernel_rfl
theorem zv63 : zvOf Tryz.prog 63 = some (.nilFunc) := by kernel_rfl
theorem by63 : byOf Tryz.prog 63 = some 8 := by kernel_rfl
theorem sz64 : szOf Tryz.prog 64 = some 1 := by kernel_rfl
theorem ag64 : aggOf Tryz.prog 64 = some false := by kernel_rfl
theorem zr64 : zrOf Tryz.prog 64 = some [.pointer none] := by kernel_rfl
theorem zv64 : zvOf Tryz.prog 64 = some (.pointer none) := by kernel_rfl
theorem by64 : byOf Tryz.prog 64 = some 8 := by kernel_rfl
theorem sz65 : szOf Tryz.prog 65 = some 4 := by kernel_rfl
theorem ag65 : aggOf Tryz.prog 65 = some true := by kernel_rfl
theorem zr65 : zrOf Tryz.prog 65 = some [.slice none 0 0, .slice none 0 0, .slice none 0 0, .int .u64 0] := by kernel_rfl
theorem zv65 : zvOf Tryz.prog 65 = some (.agg ⟨[.slice none 0 0, .slice none 0 0, .slice none 0 0, .int .u64 0]⟩) := by kernel_rfl
theorem by65 : byOf Tryz.prog 65 = some 80 := by kernel_rfl
theorem fo65_0 : fieldOff Tryz.prog 65 0 = some 0 := by kernel_rfl
theorem ft65_0 : fieldTy Tryz.prog 65 0 = some (27, 0) := by kernel_rfl
theorem bs65 : structAt Tryz.prog 65 = some [(0, 4)] := by kernel_rfl
theorem sz66 : szOf Tryz.prog 66 = some 4 := by kernel_rfl
theorem ag66 : aggOf Tryz.prog 66 = some true := by kernel_rfl
theorem zr66 : zrOf Tryz.prog 66 = some [.slice none 0 0, .slice none 0 0, .slice none 0 0, .int .u64 0] := by kernel_rfl
theorem zv66 : zvOf Tryz.prog 66 = some (.agg ⟨[.slice none 0 0, .slice none 0 0, .slice none 0 0, .int .u64 0]⟩) := by kernel_rfl
theorem by66 : byOf Tryz.prog 66 = some 80 := by kernel_rfl
theorem fo66_0 : fieldOff Tryz.prog 66 0 = some 0 := by kernel_rfl
theorem ft66_0 : fieldTy Tryz.prog 66 0 = some (27, 0) := by kernel_rfl
theorem bs66 : structAt Tryz.prog 66 = some [(0, 4)] := by kernel_rfl
theorem sz67 : szOf Tryz.prog 67 = some 1 := by kernel_rfl
theorem ag67 : aggOf Tryz.prog 67 = some false := by kernel_rfl
theorem zr67 : zrOf Tryz.prog 67 = some [.nilFunc] := by kernel_rfl
theorem zv67 : zvOf Tryz.prog 67 = some (.nilFunc) := by kernel_rfl
theorem by67 : byOf Tryz.prog 67 = some 8 := by kernel_rfl
theorem sz68 : szOf Tryz.prog 68 = some 1 := by kernel_rfl
theorem ag68 : aggOf Tryz.prog 68 = some false := by kernel_rfl
theorem zr68 : zrOf Tryz.prog 68 = some [.nilFunc] := by kernel_rfl
theorem zv68 : zvOf Tryz.prog 68 = some (.nilFunc) := by kernel_rfl
theorem by68 : byOf Tryz.prog 68 = some 8 := by kernel_rfl
theorem sz69 : szOf Tryz.prog 69 = some 1 := by kernel_rfl
theorem ag69 : aggOf Tryz.prog 69 = some false := by kernel_rfl
theorem zr69 : zrOf Tryz.prog 69 = some [.nilFunc] := by kernel_rfl
theorem zv69 : zvOf Tryz.prog 69 = some (.nilFunc) := by kernel_rfl
theorem by69 : byOf Tryz.prog 69 = some 8 := by kernel_rfl
theorem sz70 : szOf Tryz.prog 70 = some 1 := by kernel_rfl
theorem ag70 : aggOf Tryz.prog 70 = some false := by kernel_rfl
theorem zr70 : zrOf Tryz.prog 70 = some [.nilFunc] := by kernel_rfl
theorem zv70 : zvOf Tryz.prog 70 = some (.nilFunc) := by kernel_rfl
theorem by70 : byOf Tryz.prog 70 = some 8 := by kernel_rfl
theorem sz71 : szOf Tryz.prog 71 = some 1 := by kernel_rfl
theorem ag71 : aggOf Tryz.prog 71 = some false := by kernel_rfl
theorem zr71 : zrOf Tryz.prog 71 = some [.nilFunc] := by kernel_rfl
theorem zv71 : zvOf Tryz.prog 71 = some (.nilFunc) := by kernel_rfl
theorem by71 : byOf Tryz.prog 71 = some 8 := by kernel_rfl
theorem sz72 : szOf Tryz.prog 72 = some 1 := by kernel_rfl
theorem ag72 : aggOf Tryz.prog 72 = some false := by kernel_rfl
theorem zr72 : zrOf Tryz.prog 72 = some [.nilFunc] := by kernel_rfl
theorem zv72 : zvOf Tryz.prog 72 = some (.nilFunc) := by kernel_rfl
theorem by72 : byOf Tryz.prog 72 = some 8 := by kernel_rfl
theorem sz73 : szOf Tryz.prog 73 = some 1 := by kernel_rfl
theorem ag73 : aggOf Tryz.prog 73 = some false := by kernel_rfl
theorem zr73 : zrOf Tryz.prog 73 = some [.nilFunc] := by kernel_rfl
theorem zv73 : zvOf Tryz.prog 73 = some (.nilFunc) := by kernel_rfl
theorem by73 : byOf Tryz.prog 73 = some 8 := by kernel_rfl
theorem sz74 : szOf Tryz.prog 74 = some 1 := by kernel_rfl
theorem ag74 : aggOf Tryz.prog 74 = some false := by kernel_rfl
theorem zr74 : zrOf Tryz.prog 74 = some [.slice none 0 0] := by kernel_rfl
theorem zv74 : zvOf Tryz.prog 74 = some (.slice none 0 0) := by kernel_rfl
theorem by74 : byOf Tryz.prog 74 = some 24 := by kernel_rfl
theorem sl74 : slOf Tryz.prog 74 = some (9, 1) := by kernel_rfl
theorem sz75 : szOf Tryz.prog 75 = some 1 := by kernel_rfl
theorem ag75 : aggOf Tryz.prog 75 = some false := by kernel_rfl
theorem sz76 : szOf Tryz.prog 76 = some 1 := by kernel_rfl
theorem ag76 : aggOf Tryz.prog 76 = some false := by kernel_rfl
theorem zr76 : zrOf Tryz.prog 76 = some [.nilFunc] := by kernel_rfl
theorem zv76 : zvOf Tryz.prog 76 = some (.nilFunc) := by kernel_rfl
theorem by76 : byOf Tryz.prog 76 = some 8 := by kernel_rfl
theorem sz77 : szOf Tryz.prog 77 = some 1 := by kernel_rfl
theorem ag77 : aggOf Tryz.prog 77 = some false := by kernel_rfl
theorem zr77 : zrOf Tryz.prog 77 = some [.chan none] := by kernel_rfl
theorem zv77 : zvOf Tryz.prog 77 = some (.chan none) := by kernel_rfl
theorem by77 : byOf Tryz.prog 77 = some 8 := by kernel_rfl
theorem sz78 : szOf Tryz.prog 78 = some 1 := by kernel_rfl
theorem ag78 : aggOf Tryz.prog 78 = some false := by kernel_rfl
theorem zr78 : zrOf Tryz.prog 78 = some [.nilFunc] := by kernel_rfl
theorem zv78 : zvOf Tryz.prog 78 = some (.nilFunc) := by kernel_rfl
theorem by78 : byOf Tryz.prog 78 = some 8 := by kernel_rfl
theorem sz79 : szOf Tryz.prog 79 = some 1 := by kernel_rfl
theorem ag79 : aggOf Tryz.prog 79 = some false := by kernel_rfl
theorem zr79 : zrOf Tryz.prog 79 = some [.nilFunc] := by kernel_rfl
theorem zv79 : zvOf Tryz.prog 79 = some (.nilFunc) := by kernel_rfl
theorem by79 : byOf Tryz.prog 79 = some 8 := by kernel_rfl
theorem sz80 : szOf Tryz.prog 80 = some 1 := by kernel_rfl
theorem ag80 : aggOf Tryz.prog 80 = some false := by kernel_rfl
theorem zr80 : zrOf Tryz.prog 80 = some [.nilFunc] := by kernel_rfl
theorem zv80 : zvOf Tryz.prog 80 = some (.nilFunc) := by kernel_rfl
theorem by80 : byOf Tryz.prog 80 = some 8 := by kernel_rfl
theorem sz81 : szOf Tryz.prog 81 = some 1 := by kernel_rfl
theorem ag81 : aggOf Tryz.prog 81 = some false := by kernel_rfl
theorem zr81 : zrOf Tryz.prog 81 = some [.nilFunc] := by kernel_rfl
theorem zv81 : zvOf Tryz.prog 81 = some (.nilFunc) := by kernel_rfl
theorem by81 : byOf Tryz.prog 81 = some 8 := by kernel_rfl
theorem sz82 : szOf Tryz.prog 82 = some 1 := by kernel_rfl
theorem ag82 : aggOf Tryz.prog 82 = some false := by kernel_rfl
theorem sz83 : szOf Tryz.prog 83 = some 1 := by kernel_rfl
theorem ag83 : aggOf Tryz.prog 83 = some false := by kernel_rfl
theorem zr83 : zrOf Tryz.prog 83 = some [.nilFunc] := by kernel_rfl
theorem zv83 : zvOf Tryz.prog 83 = some (.nilFunc) := by kernel_rfl
theorem by83 : byOf Tryz.prog 83 = some 8 := by kernel_rfl
theorem sz84 : szOf Tryz.prog 84 = some 1 := by kernel_rfl
theorem ag84 : aggOf Tryz.prog 84 = some false := by kernel_rfl
theorem zr84 : zrOf Tryz.prog 84 = some [.nilFunc] := by kernel_rfl
theorem zv84 : zvOf Tryz.prog 84 = some (.nilFunc) := by kernel_rfl
theorem by84 : byOf Tryz.prog 84 = some 8 := by kernel_rfl
theorem sz85 : szOf Tryz.prog 85 = some 1 := by kernel_rfl
theorem ag85 : aggOf Tryz.prog 85 = some false := by kernel_rfl
theorem zr85 : zrOf Tryz.prog 85 = some [.nilFunc] := by kernel_rfl
theorem zv85 : zvOf Tryz.prog 85 = some (.nilFunc) := by kernel_rfl
theorem by85 : byOf Tryz.prog 85 = some 8 := by kernel_rfl
theorem sz86 : szOf Tryz.prog 86 = some 1 := by kernel_rfl
theorem ag86 : aggOf Tryz.prog 86 = some false := by kernel_rfl
theorem zr86 : zrOf Tryz.prog 86 = some [.nilFunc] := by kernel_rfl
theorem zv86 : zvOf Tryz.prog 86 = some (.nilFunc) := by kernel_rfl
theorem by86 : byOf Tryz.prog 86 = some 8 := by kernel_rfl
theorem sz87 : szOf Tryz.prog 87 = some 1 := by kernel_rfl
theorem ag87 : aggOf Tryz.prog 87 = some false := by kernel_rfl
theorem zr87 : zrOf Tryz.prog 87 = some [.nilFunc] := by kernel_rfl
theorem zv87 : zvOf Tryz.prog 87 = some (.nilFunc) := by kernel_rfl
theorem by87 : byOf Tryz.prog 87 = some 8 := by kernel_rfl
theorem sz88 : szOf Tryz.prog 88 = some 1 := by kernel_rfl
theorem ag88 : aggOf Tryz.prog 88 = some false := by kernel_rfl
theorem zr88 : zrOf Tryz.prog 88 = some [.nilFunc] := by kernel_rfl
theorem zv88 : zvOf Tryz.prog 88 = some (.nilFunc) := by kernel_rfl
theorem by88 : byOf Tryz.prog 88 = some 8 := by kernel_rfl
theorem sz89 : szOf Tryz.prog 89 = some 1 := by kernel_rfl
theorem ag89 : aggOf Tryz.prog 89 = some false := by kernel_rfl
theorem zr89 : zrOf Tryz.prog 89 = some [.nilFunc] := by kernel_rfl
theorem zv89 : zvOf Tryz.prog 89 = some (.nilFunc) := by kernel_rfl
theorem by89 : byOf Tryz.prog 89 = some 8 := by kernel_rfl
theorem sz90 : szOf Tryz.prog 90 = some 1 := by kernel_rfl
theorem ag90 : aggOf Tryz.prog 90 = some false := by kernel_rfl
theorem zr90 : zrOf Tryz.prog 90 = some [.nilFunc] := by kernel_rfl
theorem zv90 : zvOf Tryz.prog 90 = some (.nilFunc) := by kernel_rfl
theorem by90 : byOf Tryz.prog 90 = some 8 := by kernel_rfl
theorem sz91 : szOf Tryz.prog 91 = some 1 := by kernel_rfl
theorem ag91 : aggOf Tryz.prog 91 = some false := by kernel_rfl
theorem zr91 : zrOf Tryz.prog 91 = some [.nilFunc] := by kernel_rfl
theorem zv91 : zvOf Tryz.prog 91 = some (.nilFunc) := by kernel_rfl
theorem by91 : byOf Tryz.prog 91 = some 8 := by kernel_rfl
theorem sz92 : szOf Tryz.prog 92 = some 1 := by kernel_rfl
theorem ag92 : aggOf Tryz.prog 92 = some false := by kernel_rfl
theorem zr92 : zrOf Tryz.prog 92 = some [.nilFunc] := by kernel_rfl
theorem zv92 : zvOf Tryz.prog 92 = some (.nilFunc) := by kernel_rfl
theorem by92 : byOf Tryz.prog 92 = some 8 := by kernel_rfl
theorem sz93 : szOf Tryz.prog 93 = some 1 := by kernel_rfl
theorem ag93 : aggOf Tryz.prog 93 = some false := by kernel_rfl
theorem zr93 : zrOf Tryz.prog 93 = some [.nilFunc] := by kernel_rfl
theorem zv93 : zvOf Tryz.prog 93 = some (.nilFunc) := by kernel_rfl
theorem by93 : byOf Tryz.prog 93 = some 8 := by kernel_rfl
theorem sz94 : szOf Tryz.prog 94 = some 1 := by kernel_rfl
theorem ag94 : aggOf Tryz.prog 94 = some false := by kernel_rfl
theorem sz95 : szOf Tryz.prog 95 = some 1 := by kernel_rfl
theorem ag95 : aggOf Tryz.prog 95 = some false := by kernel_rfl
theorem zr95 : zrOf Tryz.prog 95 = some [.nilFunc] := by kernel_rfl
theorem zv95 : zvOf Tryz.prog 95 = some (.nilFunc) := by kernel_rfl
theorem by95 : byOf Tryz.prog 95 = some 8 := by kernel_rfl
theorem sz96 : szOf Tryz.prog 96 = some 1 := by kernel_rfl
theorem ag96 : aggOf Tryz.prog 96 = some false := by kernel_rfl
theorem zr96 : zrOf Tryz.prog 96 = some [.nilFunc] := by kernel_rfl
theorem zv96 : zvOf Tryz.prog 96 = some (.nilFunc) := by kernel_rfl
theorem by96 : byOf Tryz.prog 96 = some 8 := by kernel_rfl
theorem sz97 : szOf Tryz.prog 97 = some 1 := by kernel_rfl
theorem ag97 : aggOf Tryz.prog 97 = some false := by kernel_rfl
theorem zr97 : zrOf Tryz.prog 97 = some [.nilFunc] := by kernel_rfl
theorem zv97 : zvOf Tryz.prog 97 = some (.nilFunc) := by kernel_rfl
theorem by97 : byOf Tryz.prog 97 = some 8 := by kernel_rfl
theorem sz98 : szOf Tryz.prog 98 = some 1 := by kernel_rfl
theorem ag98 : aggOf Tryz.prog 98 = some false := by kernel_rfl
theorem zr98 : zrOf Tryz.prog 98 = some [.nilFunc] := by kernel_rfl
theorem zv98 : zvOf Tryz.prog 98 = some (.nilFunc) := by kernel_rfl
theorem by98 : byOf Tryz.prog 98 = some 8 := by kernel_rfl
theorem sz99 : szOf Tryz.prog 99 = some 1 := by kernel_rfl
theorem ag99 : aggOf Tryz.prog 99 = some false := by kernel_rfl
theorem zr99 : zrOf Tryz.prog 99 = some [.nilFunc] := by kernel_rfl
theorem zv99 : zvOf Tryz.prog 99 = some (.nilFunc) := by kernel_rfl
theorem by99 : byOf Tryz.prog 99 = some 8 := by kernel_rfl
theorem sz100 : szOf Tryz.prog 100 = some 1 := by kernel_rfl
theorem ag100 : aggOf Tryz.prog 100 = some false := by kernel_rfl
theorem zr100 : zrOf Tryz.prog 100 = some [.nilFunc] := by kernel_rfl
theorem zv100 : zvOf Tryz.prog 100 = some (.nilFunc) := by kernel_rfl
theorem by100 : byOf Tryz.prog 100 = some 8 := by kernel_rfl
theorem sz101 : szOf Tryz.prog 101 = some 1 := by kernel_rfl
theorem ag101 : aggOf Tryz.prog 101 = some false := by kernel_rfl
theorem zr101 : zrOf Tryz.prog 101 = some [.nilFunc] := by kernel_rfl
theorem zv101 : zvOf Tryz.prog 101 = some (.nilFunc) := by kernel_rfl
theorem by101 : byOf Tryz.prog 101 = some 8 := by kernel_rfl
theorem sz102 : szOf Tryz.prog 102 = some 1 := by kernel_rfl
theorem ag102 : aggOf Tryz.prog 102 = some false := by kernel_rfl
theorem zr102 : zrOf Tryz.prog 102 = some [.nilFunc] := by kernel_rfl
theorem zv102 : zvOf Tryz.prog 102 = some (.nilFunc) := by kernel_rfl
theorem by102 : byOf Tryz.prog 102 = some 8 := by kernel_rfl
theorem sz103 : szOf Tryz.prog 103 = some 1 := by kernel_rfl
theorem ag103 : aggOf Tryz.prog 103 = some false := by kernel_rfl
theorem zr103 : zrOf Tryz.prog 103 = some [.nilFunc] := by kernel_rfl
theorem zv103 : zvOf Tryz.prog 103 = some (.nilFunc) := by kernel_rfl
theorem by103 : byOf Tryz.prog 103 = some 8 := by kernel_rfl
theorem sz104 : szOf Tryz.prog 104 = some 1 := by kernel_rfl
theorem ag104 : aggOf Tryz.prog 104 = some false := by kernel_rfl
theorem zr104 : zrOf Tryz.prog 104 = some [.nilFunc] := by kernel_rfl
theorem zv104 : zvOf Tryz.prog 104 = some (.nilFunc) := by kernel_rfl
theorem by104 : byOf Tryz.prog 104 = some 8 := by kernel_rfl
theorem sz105 : szOf Tryz.prog 105 = some 1 := by kernel_rfl
theorem ag105 : aggOf Tryz.prog 105 = some false := by kernel_rfl
theorem zr105 : zrOf Tryz.prog 105 = some [.nilFunc] := by kernel_rfl
theorem zv105 : zvOf Tryz.prog 105 = some (.nilFunc) := by kernel_rfl
theorem by105 : byOf Tryz.prog 105 = some 8 := by kernel_rfl
theorem sz106 : szOf Tryz.prog 106 = some 1 := by kernel_rfl
theorem ag106 : aggOf Tryz.prog 106 = some false := by kernel_rfl
theorem zr106 : zrOf Tryz.prog 106 = some [.nilFunc] := by kernel_rfl
theorem zv106 : zvOf Tryz.prog 106 = some (.nilFunc) := by kernel_rfl
theorem by106 : byOf Tryz.prog 106 = some 8 := by kernel_rfl
theorem sz107 : szOf Tryz.prog 107 = some 1 := by kernel_rfl
theorem ag107 : aggOf Tryz.prog 107 = some false := by kernel_rfl
theorem zr107 : zrOf Tryz.prog 107 = some [.nilFunc] := by kernel_rfl
theorem zv107 : zvOf Tryz.prog 107 = some (.nilFunc) := by kernel_rfl
theorem by107 : byOf Tryz.prog 107 = some 8 := by kernel_rfl
theorem sz108 : szOf Tryz.prog 108 = some 1 := by kernel_rfl
theorem ag108 : aggOf Tryz.prog 108 = some false := by kernel_rfl
theorem zr108 : zrOf Tryz.prog 108 = some [.nilFunc] := by kernel_rfl
theorem zv108 : zvOf Tryz.prog 108 = some (.nilFunc) := by kernel_rfl
theorem by108 : byOf Tryz.prog 108 = some 8 := by kernel_rfl
theorem sz109 : szOf Tryz.prog 109 = some 1 := by kernel_rfl
theorem ag109 : aggOf Tryz.prog 109 = some false := by kernel_rfl
theorem zr109 : zrOf Tryz.prog 109 = some [.nilFunc] := by kernel_rfl
theorem zv109 : zvOf Tryz.prog 109 = some (.nilFunc) := by kernel_rfl
theorem by109 : byOf Tryz.prog 109 = some 8 := by kernel_rfl
theorem sz110 : szOf Tryz.prog 110 = some 1 := by kernel_rfl
theorem ag110 : aggOf Tryz.prog 110 = some false := by kernel_rfl
theorem zr110 : zrOf Tryz.prog 110 = some [.nilFunc] := by kernel_rfl
theorem zv110 : zvOf Tryz.prog 110 = some (.nilFunc) := by kernel_rfl
theorem by110 : byOf Tryz.prog 110 = some 8 := by kernel_rfl
theorem sz111 : szOf Tryz.prog 111 = some 1 := by kernel_rfl
theorem ag111 : aggOf Tryz.prog 111 = some false := by kernel_rfl
theorem zr111 : zrOf Tryz.prog 111 = some [.nilFunc] := by kernel_rfl
theorem zv111 : zvOf Tryz.prog 111 = some (.nilFunc) := by kernel_rfl
theorem by111 : byOf Tryz.prog 111 = some 8 := by kernel_rfl
theorem sz112 : szOf Tryz.prog 112 = some 1 := by kernel_rfl
theorem ag112 : aggOf Tryz.prog 112 = some false := by kernel_rfl
theorem zr112 : zrOf Tryz.prog 112 = some [.nilFunc] := by kernel_rfl
theorem zv112 : zvOf Tryz.prog 112 = some (.nilFunc) := by kernel_rfl
theorem by112 : byOf Tryz.prog 112 = some 8 := by kernel_rfl
theorem sz113 : szOf Tryz.prog 113 = some 1 := by kernel_rfl
theorem ag113 : aggOf Tryz.prog 113 = some false := by kernel_rfl
theorem zr113 : zrOf Tryz.prog 113 = some [.int .u64 0] := by kernel_rfl
theorem zv113 : zvOf Tryz.prog 113 = some (.int .u64 0) := by kernel_rfl
theorem by113 : byOf Tryz.prog 113 = some 8 := by kernel_rfl
theorem sz114 : szOf Tryz.prog 114 = some 1 := by kernel_rfl
theorem ag114 : aggOf Tryz.prog 114 = some false := by kernel_rfl
theorem zr114 : zrOf Tryz.prog 114 = some [.nilFunc] := by kernel_rfl
theorem zv114 : zvOf Tryz.prog 114 = some (.nilFunc) := by kernel_rfl
theorem by114 : byOf Tryz.prog 114 = some 8 := by kernel_rfl
theorem sz115 : szOf Tryz.prog 115 = some 1 := by kernel_rfl
theorem ag115 : aggOf Tryz.prog 115 = some false := by kernel_rfl
theorem zr115 : zrOf Tryz.prog 115 = some [.nilFunc] := by kernel_rfl
theorem zv115 : zvOf Tryz.prog 115 = some (.nilFunc) := by kernel_rfl
theorem by115 : byOf Tryz.prog 115 = some 8 := by kernel_rfl
theorem sz116 : szOf Tryz.prog 116 = some 1 := by kernel_rfl
theorem ag116 : aggOf Tryz.prog 116 = some false := by kernel_rfl
theorem zr116 : zrOf Tryz.prog 116 = some [.nilFunc] := by kernel_rfl
theorem zv116 : zvOf Tryz.prog 116 = some (.nilFunc) := by kernel_rfl
theorem by116 : byOf Tryz.prog 116 = some 8 := by kernel_rfl
theorem sz117 : szOf Tryz.prog 117 = some 1 := by kernel_rfl
theorem ag117 : aggOf Tryz.prog 117 = some false := by kernel_rfl
theorem zr117 : zrOf Tryz.prog 117 = some [.nilFunc] := by kernel_rfl
theorem zv117 : zvOf Tryz.prog 117 = some (.nilFunc) := by kernel_rfl
theorem by117 : byOf Tryz.prog 117 = some 8 := by kernel_rfl
theorem sz118 : szOf Tryz.prog 118 = some 1 := by kernel_rfl
theorem ag118 : aggOf Tryz.prog 118 = some false := by kernel_rfl
theorem zr118 : zrOf Tryz.prog 118 = some [.nilFunc] := by kernel_rfl
theorem zv118 : zvOf Tryz.prog 118 = some (.nilFunc) := by kernel_rfl
theorem by118 : byOf Tryz.prog 118 = some 8 := by kernel_rfl
theorem sz119 : szOf Tryz.prog 119 = some 1 := by kernel_rfl
theorem ag119 : aggOf Tryz.prog 119 = some false := by kernel_rfl
theorem zr119 : zrOf Tryz.prog 119 = some [.nilFunc] := by kernel_rfl
theorem zv119 : zvOf Tryz.prog 119 = some (.nilFunc) := by kernel_rfl
theorem by119 : byOf Tryz.prog 119 = some 8 := by kernel_rfl
theorem sz120 : szOf Tryz.prog 120 = some 1 := by kernel_rfl
theorem ag120 : aggOf Tryz.prog 120 = some false := by kernel_rfl
theorem zr120 : zrOf Tryz.prog 120 = some [.nilFunc] := by kernel_rfl
theorem zv120 : zvOf Tryz.prog 120 = some (.nilFunc) := by kernel_rfl
theorem by120 : byOf Tryz.prog 120 = some 8 := by kernel_rfl
theorem sz121 : szOf Tryz.prog 121 = some 1 := by kernel_rfl
theorem ag121 : aggOf Tryz.prog 121 = some false := by kernel_rfl
theorem zr121 : zrOf Tryz.prog 121 = some [.nilFunc] := by kernel_rfl
theorem zv121 : zvOf Tryz.prog 121 = some (.nilFunc) := by kernel_rfl
theorem by121 : byOf Tryz.prog 121 = some 8 := by kernel_rfl
theorem sz122 : szOf Tryz.prog 122 = some 1 := by kernel_rfl
theorem ag122 : aggOf Tryz.prog 122 = some false := by kernel_rfl
theorem zr122 : zrOf Tryz.prog 122 = some [.nilFunc] := by kernel_rfl
theorem zv122 : zvOf Tryz.prog 122 = some (.nilFunc) := by kernel_rfl
theorem by122 : byOf Tryz.prog 122 = some 8 := by kernel_rfl
theorem sz123 : szOf Tryz.prog 123 = some 1 := by kernel_rfl
theorem ag123 : aggOf Tryz.prog 123 = some false := by kernel_rfl
theorem zr123 : zrOf Tryz.prog 123 = some [.nilFunc] := by kernel_rfl
theorem zv123 : zvOf Tryz.prog 123 = some (.nilFunc) := by kernel_rfl
theorem by123 : byOf Tryz.prog 123 = some 8 := by kernel_rfl
theorem sz124 : szOf Tryz.prog 124 = some 1 := by kernel_rfl
theorem ag124 : aggOf Tryz.prog 124 = some false := by kernel_rfl
theorem zr124 : zrOf Tryz.prog 124 = some [.nilFunc] := by kernel_rfl
theorem zv124 : zvOf Tryz.prog 124 = some (.nilFunc) := by kernel_rfl
theorem by124 : byOf Tryz.prog 124 = some 8 := by kernel_rfl
theorem sz125 : szOf Tryz.prog 125 = some 1 := by kernel_rfl
theorem ag125 : aggOf Tryz.prog 125 = some false := by kernel_rfl
theorem zr125 : zrOf Tryz.prog 125 = some [.nilFunc] := by kernel_rfl
theorem zv125 : zvOf Tryz.prog 125 = some (.nilFunc) := by kernel_rfl
theorem by125 : byOf Tryz.prog 125 = some 8 := by kernel_rfl
theorem sz126 : szOf Tryz.prog 126 = some 1 := by kernel_rfl
theorem ag126 : aggOf Tryz.prog 126 = some false := by kernel_rfl
theorem zr126 : zrOf Tryz.prog 126 = some [.nilFunc] := by kernel_rfl
theorem zv126 : zvOf Tryz.prog 126 = some (.nilFunc) := by kernel_rfl
theorem by126 : byOf Tryz.prog 126 = some 8 := by kernel_rfl
theorem sz127 : szOf Tryz.prog 127 = some 1 := by kernel_rfl
theorem ag127 : aggOf Tryz.prog 127 = some false := by kernel_rfl
theorem zr127 : zrOf Tryz.prog 127 = some [.nilFunc] := by kernel_rfl
theorem zv127 : zvOf Tryz.prog 127 = some (.nilFunc) := by kernel_rfl
theorem by127 : byOf Tryz.prog 127 = some 8 := by kernel_rfl
theorem sz128 : szOf Tryz.prog 128 = some 1 := by kernel_rfl
theorem ag128 : aggOf Tryz.prog 128 = some false := by kernel_rfl
theorem zr128 : zrOf Tryz.prog 128 = some [.nilFunc] := by kernel_rfl
theorem zv128 : zvOf Tryz.prog 128 = some (.nilFunc) := by kernel_rfl
theorem by128 : byOf Tryz.prog 128 = some 8 := by kernel_rfl
theorem sz129 : szOf Tryz.prog 129 = some 1 := by kernel_rfl
theorem ag129 : aggOf Tryz.prog 129 = some false := by kernel_rfl
theorem zr129 : zrOf Tryz.prog 129 = some [.nilFunc] := by kernel_rfl
theorem zv129 : zvOf Tryz.prog 129 = some (.nilFunc) := by kernel_rfl
theorem by129 : byOf Tryz.prog 129 = some 8 := by kernel_rfl
theorem cal3 : callee Tryz.prog 3 = true := by kernel_rfl
theorem cal4 : callee Tryz.prog 4 = true := by kernel_rfl
theorem cal5 : callee Tryz.prog 5 = true := by kernel_rfl
theorem cal6 : callee Tryz.prog 6 = true := by kernel_rfl
theorem cal7 : callee Tryz.prog 7 = true := by kernel_rfl
theorem cal8 : callee Tryz.prog 8 = true := by kernel_rfl
theorem cal9 : callee Tryz.prog 9 = true := by kernel_rfl
theorem cal10 : callee Tryz.prog 10 = true := by kernel_rfl
theorem cal11 : callee Tryz.prog 11 = true := by kernel_rfl
theorem cal12 : callee Tryz.prog 12 = true := by kernel_rfl
theorem cal13 : callee Tryz.prog 13 = true := by kernel_rfl
theorem cal14 : callee Tryz.prog 14 = true := by kernel_rfl
theorem cal15 : callee Tryz.prog 15 = true := by kernel_rfl
theorem cal16 : callee Tryz.prog 16 = true := by kernel_rfl
theorem cal17 : callee Tryz.prog 17 = true := by kernel_rfl
theorem cal18 : callee Tryz.prog 18 = true := by kernel_rfl
theorem cal19 : callee Tryz.prog 19 = true := by kernel_rfl
theorem cal20 : callee Tryz.prog 20 = true := by kernel_rfl
theorem cal21 : callee Tryz.prog 21 = true := by kernel_rfl
theorem cal22 : callee Tryz.prog 22 = true := by kernel_rfl
theorem cal23 : callee Tryz.prog 23 = true := by kernel_rfl
theorem cal24 : callee Tryz.prog 24 = true := by kernel_rfl
theorem cal25 : callee Tryz.prog 25 = true := by kernel_rfl
theorem cal26 : callee Tryz.prog 26 = true := by kernel_rfl
theorem cal27 : callee Tryz.prog 27 = true := by kernel_rfl
theorem cal28 : callee Tryz.prog 28 = true := by kernel_rfl
theorem cal30 : callee Tryz.prog 30 = true := by kernel_rfl
theorem cal31 : callee Tryz.prog 31 = true := by kernel_rfl
theorem cal33 : callee Tryz.prog 33 = true := by kernel_rfl
theorem cal35 : callee Tryz.prog 35 = true := by kernel_rfl
theorem cal37 : callee Tryz.prog 37 = true := by kernel_rfl
theorem cal39 : callee Tryz.prog 39 = true := by kernel_rfl
theorem cal40 : callee Tryz.prog 40 = true := by kernel_rfl
theorem cal42 : callee Tryz.prog 42 = true := by kernel_rfl
theorem cal43 : callee Tryz.prog 43 = true := by kernel_rfl
theorem cal44 : callee Tryz.prog 44 = true := by kernel_rfl
theorem cal45 : callee Tryz.prog 45 = true := by kernel_rfl
theorem cal46 : callee Tryz.prog 46 = true := by kernel_rfl
theorem cal47 : callee Tryz.prog 47 = true := by kernel_rfl
theorem cal48 : callee Tryz.prog 48 = true := by kernel_rfl
theorem cal49 : callee Tryz.prog 49 = true := by kernel_rfl
theorem cal50 : callee Tryz.prog 50 = true := by kernel_rfl
theorem cal51 : callee Tryz.prog 51 = true := by kernel_rfl
theorem cal52 : callee Tryz.prog 52 = true := by kernel_rfl
theorem cal53 : callee Tryz.prog 53 = true := by kernel_rfl
theorem cal54 : callee Tryz.prog 54 = true := by kernel_rfl
theorem cal55 : callee Tryz.prog 55 = true := by kernel_rfl
theorem cal56 : callee Tryz.prog 56 = true := by kernel_rfl
theorem cal57 : callee Tryz.prog 57 = true := by kernel_rfl
theorem cal58 : callee Tryz.prog 58 = true := by kernel_rfl
theorem cal59 : callee Tryz.prog 59 = true := by kernel_rfl
theorem cal60 : callee Tryz.prog 60 = true := by kernel_rfl
theorem cal61 : callee Tryz.prog 61 = true := by kernel_rfl
theorem cal62 : callee Tryz.prog 62 = true := by kernel_rfl
theorem cal63 : callee Tryz.prog 63 = true := by kernel_rfl
theorem cal64 : callee Tryz.prog 64 = true := by kernel_rfl
theorem cal65 : callee Tryz.prog 65 = true := by kernel_rfl
theorem cal66 : callee Tryz.prog 66 = true := by kernel_rfl
theorem cal67 : callee Tryz.prog 67 = true := by kernel_rfl
theorem cal68 : callee Tryz.prog 68 = true := by kernel_rfl
theorem cal69 : callee Tryz.prog 69 = true := by kernel_rfl
theorem cal70 : callee Tryz.prog 70 = true := by kernel_rfl
theorem cal72 : callee Tryz.prog 72 = true := by kernel_rfl
theorem cal73 : callee Tryz.prog 73 = true := by kernel_rfl
theorem cal74 : callee Tryz.prog 74 = true := by kernel_rfl
theorem cal75 : callee Tryz.prog 75 = true := by kernel_rfl
theorem cal76 : callee Tryz.prog 76 = true := by kernel_rfl
theorem cal77 : callee Tryz.prog 77 = true := by kernel_rfl
theorem cal78 : callee Tryz.prog 78 = true := by kernel_rfl
theorem cal79 : callee Tryz.prog 79 = true := by kernel_rfl
theorem cal80 : callee Tryz.prog 80 = true := by kernel_rfl
theorem cal81 : callee Tryz.prog 81 = true := by kernel_rfl
theorem cal83 : callee Tryz.prog 83 = true := by kernel_rfl
theorem cal85 : callee Tryz.prog 85 = true := by kernel_rfl
theorem cal86 : callee Tryz.prog 86 = true := by kernel_rfl
theorem cal87 : callee Tryz.prog 87 = true := by kernel_rfl
theorem cal88 : callee Tryz.prog 88 = true := by kernel_rfl
theorem cal89 : callee Tryz.prog 89 = true := by kernel_rfl
theorem cal91 : callee Tryz.prog 91 = true := by kernel_rfl
theorem cal93 : callee Tryz.prog 93 = true := by kernel_rfl
theorem cal94 : callee Tryz.prog 94 = true := by kernel_rfl
theorem cal97 : callee Tryz.prog 97 = true := by kernel_rfl
theorem cal98 : callee Tryz.prog 98 = true := by kernel_rfl
theorem cal99 : callee Tryz.prog 99 = true := by kernel_rfl
theorem cal100 : callee Tryz.prog 100 = true := by kernel_rfl
theorem cal101 : callee Tryz.prog 101 = true := by kernel_rfl
theorem cal102 : callee Tryz.prog 102 = true := by kernel_rfl
theorem cal103 : callee Tryz.prog 103 = true := by kernel_rfl
theorem cal104 : callee Tryz.prog 104 = true := by kernel_rfl
theorem cal105 : callee Tryz.prog 105 = true := by kernel_rfl
theorem cal106 : callee Tryz.prog 106 = true := by kernel_rfl
theorem cal109 : callee Tryz.prog 109 = true := by kernel_rfl
theorem cal110 : callee Tryz.prog 110 = true := by kernel_rfl
theorem cal112 : callee Tryz.prog 112 = true := by kernel_rfl
theorem cal113 : callee Tryz.prog 113 = true := by kernel_rfl
theorem cal114 : callee Tryz.prog 114 = true := by kernel_rfl
theorem cal115 : callee Tryz.prog 115 = true := by kernel_rfl
theorem cal116 : callee Tryz.prog 116 = true := by kernel_rfl
theorem cal117 : callee Tryz.prog 117 = true := by kernel_rfl
theorem cal118 : callee Tryz.prog 118 = true := by kernel_rfl
theorem cal119 : callee Tryz.prog 119 = true := by kernel_rfl
theorem cal120 : callee Tryz.prog 120 = true := by kernel_rfl
theorem cal121 : callee Tryz.prog 121 = true := by kernel_rfl
theorem cal122 : callee Tryz.prog 122 = true := by kernel_rfl
theorem cal123 : callee Tryz.prog 123 = true := by kernel_rfl
theorem cal124 : callee Tryz.prog 124 = true := by kernel_rfl
theorem cal125 : callee Tryz.prog 125 = true := by kernel_rfl
theorem cal126 : callee Tryz.prog 126 = true := by kernel_rfl
theorem cal127 : callee Tryz.prog 127 = true := by kernel_rfl
theorem cal128 : callee Tryz.prog 128 = true := by kernel_rfl
theorem cal129 : callee Tryz.prog 129 = true := by kernel_rfl
theorem cal130 : callee Tryz.prog 130 = true := by kernel_rfl
theorem cal131 : callee Tryz.prog 131 = true := by kernel_rfl
theorem cal132 : callee Tryz.prog 132 = true := by kernel_rfl
theorem cal133 : callee Tryz.prog 133 = true := by kernel_rfl
theorem cal134 : callee Tryz.prog 134 = true := by kernel_rfl
theorem cal135 : callee Tryz.prog 135 = true := by kernel_rfl
theorem cal136 : callee Tryz.prog 136 = true := by kernel_rfl
theorem cal137 : callee Tryz.prog 137 = true := by kernel_rfl
theorem cal139 : callee Tryz.prog 139 = true := by kernel_rfl
theorem cal142 : callee Tryz.prog 142 = true := by kernel_rfl
theorem cal144 : callee Tryz.prog 144 = true := by kernel_rfl
theorem mixed : Tryz.prog.follows .mixedOrders = true := by kernel_rfl
theorem ce45 : Tryz.prog.cellsOf 45 = 2 := by kernel_rfl
theorem ce9 : Tryz.prog.cellsOf 9 = 1 := by kernel_rfl
theorem ce34 : Tryz.prog.cellsOf 34 = 9 := by kernel_rfl
theorem ce29 : Tryz.prog.cellsOf 29 = 3 := by kernel_rfl
theorem ce2 : Tryz.prog.cellsOf 2 = 1 := by kernel_rfl
theorem ce30 : Tryz.prog.cellsOf 30 = 1 := by kernel_rfl
theorem be45 : Tryz.prog.bytesOf 45 = 32 := by kernel_rfl
theorem ce3 : Tryz.prog.cellsOf 3 = 1 := by kernel_rfl
theorem ce32 : Tryz.prog.cellsOf 32 = 6 := by kernel_rfl
theorem ce47 : Tryz.prog.cellsOf 47 = 2 := by kernel_rfl
theorem ce27 : Tryz.prog.cellsOf 27 = 4 := by kernel_rfl
theorem ce22 : Tryz.prog.cellsOf 22 = 1 := by kernel_rfl
theorem be32 : Tryz.prog.bytesOf 32 = 88 := by kernel_rfl
theorem ce23 : Tryz.prog.cellsOf 23 = 1 := by kernel_rfl
theorem be34 : Tryz.prog.bytesOf 34 = 128 := by kernel_rfl
theorem ce24 : Tryz.prog.cellsOf 24 = 1 := by kernel_rfl
theorem be47 : Tryz.prog.bytesOf 47 = 32 := by kernel_rfl
theorem ce25 : Tryz.prog.cellsOf 25 = 1 := by kernel_rfl
theorem ce36 : Tryz.prog.cellsOf 36 = 19 := by kernel_rfl
theorem ce28 : Tryz.prog.cellsOf 28 = 1 := by kernel_rfl
end Go.Proofs.YtajpakifkinadaaGreatDoor
