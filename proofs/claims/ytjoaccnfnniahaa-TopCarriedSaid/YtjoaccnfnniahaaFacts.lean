/- Facts on the types and functions of the program, met by the kernel. -/
import Derived.Test.YtjoaccnfnniahaaSyE
import Derived.Test.YtjoaccnfnniahaaProg
namespace Go.Proofs.Ytjoaccnfnniahaa
open Go.Sy
theorem sl26 : slOf Try.prog 26 = some (70, 3) := by kernel_rfl
theorem sz70 : szOf Try.prog 70 = some 3 := by kernel_rfl
theorem by70 : byOf Try.prog 70 = some 40 := by kernel_rfl
theorem zv70 : zvOf Try.prog 70 = some (.agg ⟨[.string ⟨#[]⟩, .string ⟨#[]⟩, .int .i64 0]⟩) := by kernel_rfl
theorem cal41 : callee Try.prog 41 = true := by kernel_rfl
theorem ag9 : aggOf Try.prog 9 = some false := by kernel_rfl
theorem ag3 : aggOf Try.prog 3 = some false := by kernel_rfl
theorem ag92 : aggOf Try.prog 92 = some false := by kernel_rfl
theorem sz5 : szOf Try.prog 5 = some 1 := by kernel_rfl
theorem by5 : byOf Try.prog 5 = some 1 := by kernel_rfl
theorem zv5 : zvOf Try.prog 5 = some (.int .u8 0) := by kernel_rfl
theorem sz105 : szOf Try.prog 105 = some 2 := by kernel_rfl
theorem sl41 : slOf Try.prog 41 = some (77, 5) := by kernel_rfl
theorem ag24 : aggOf Try.prog 24 = some false := by kernel_rfl
theorem ag43 : aggOf Try.prog 43 = some true := by kernel_rfl
theorem sz43 : szOf Try.prog 43 = some 3 := by kernel_rfl
theorem sl24 : slOf Try.prog 24 = some (3, 1) := by kernel_rfl
theorem sl130 : slOf Try.prog 130 = some (40, 1) := by kernel_rfl
theorem sl22 : slOf Try.prog 22 = some (9, 1) := by kernel_rfl
theorem sz0 : szOf Try.prog 0 = some 1 := by kernel_rfl
theorem ag0 : aggOf Try.prog 0 = some false := by kernel_rfl
theorem sz1 : szOf Try.prog 1 = some 1 := by kernel_rfl
theorem ag1 : aggOf Try.prog 1 = some false := by kernel_rfl
theorem zr1 : zrOf Try.prog 1 = some [.nilFunc] := by kernel_rfl
theorem zv1 : zvOf Try.prog 1 = some (.nilFunc) := by kernel_rfl
theorem by1 : byOf Try.prog 1 = some 8 := by kernel_rfl
theorem sz2 : szOf Try.prog 2 = some 1 := by kernel_rfl
theorem ag2 : aggOf Try.prog 2 = some false := by kernel_rfl
theorem zr2 : zrOf Try.prog 2 = some [.int .i64 0] := by kernel_rfl
theorem zv2 : zvOf Try.prog 2 = some (.int .i64 0) := by kernel_rfl
theorem by2 : byOf Try.prog 2 = some 8 := by kernel_rfl
theorem sz3 : szOf Try.prog 3 = some 1 := by kernel_rfl
theorem zr3 : zrOf Try.prog 3 = some [.int .i64 0] := by kernel_rfl
theorem zv3 : zvOf Try.prog 3 = some (.int .i64 0) := by kernel_rfl
theorem by3 : byOf Try.prog 3 = some 8 := by kernel_rfl
theorem sz4 : szOf Try.prog 4 = some 1 := by kernel_rfl
theorem ag4 : aggOf Try.prog 4 = some false := by kernel_rfl
theorem zr4 : zrOf Try.prog 4 = some [.bool false] := by kernel_rfl
theorem zv4 : zvOf Try.prog 4 = some (.bool false) := by kernel_rfl
theorem by4 : byOf Try.prog 4 = some 1 := by kernel_rfl
theorem ag5 : aggOf Try.prog 5 = some false := by kernel_rfl
theorem zr5 : zrOf Try.prog 5 = some [.int .u8 0] := by kernel_rfl
theorem sz6 : szOf Try.prog 6 = some 1 := by kernel_rfl
theorem ag6 : aggOf Try.prog 6 = some false := by kernel_rfl
theorem zr6 : zrOf Try.prog 6 = some [.int .u8 0] := by kernel_rfl
theorem zv6 : zvOf Try.prog 6 = some (.int .u8 0) := by kernel_rfl
theorem by6 : byOf Try.prog 6 = some 1 := by kernel_rfl
theorem sz7 : szOf Try.prog 7 = some 4 := by kernel_rfl
theorem ag7 : aggOf Try.prog 7 = some true := by kernel_rfl
theorem zr7 : zrOf Try.prog 7 = some [.int .i64 0, .int .i64 0, .bool false, .int .u8 0] := by kernel_rfl
theorem zv7 : zvOf Try.prog 7 = some (.agg ⟨[.int .i64 0, .int .i64 0, .bool false, .int .u8 0]⟩) := by kernel_rfl
theorem by7 : byOf Try.prog 7 = some 24 := by kernel_rfl
theorem fo7_0 : fieldOff Try.prog 7 0 = some 0 := by kernel_rfl
theorem ft7_0 : fieldTy Try.prog 7 0 = some (2, 0) := by kernel_rfl
theorem fo7_1 : fieldOff Try.prog 7 1 = some 1 := by kernel_rfl
theorem ft7_1 : fieldTy Try.prog 7 1 = some (3, 1) := by kernel_rfl
theorem fo7_2 : fieldOff Try.prog 7 2 = some 2 := by kernel_rfl
theorem ft7_2 : fieldTy Try.prog 7 2 = some (4, 2) := by kernel_rfl
theorem fo7_3 : fieldOff Try.prog 7 3 = some 3 := by kernel_rfl
theorem ft7_3 : fieldTy Try.prog 7 3 = some (6, 3) := by kernel_rfl
theorem bs7 : structAt Try.prog 7 = some [(0, 1), (1, 1), (2, 1), (3, 1)] := by kernel_rfl
theorem sz8 : szOf Try.prog 8 = some 4 := by kernel_rfl
theorem ag8 : aggOf Try.prog 8 = some true := by kernel_rfl
theorem zr8 : zrOf Try.prog 8 = some [.int .i64 0, .int .i64 0, .bool false, .int .u8 0] := by kernel_rfl
theorem zv8 : zvOf Try.prog 8 = some (.agg ⟨[.int .i64 0, .int .i64 0, .bool false, .int .u8 0]⟩) := by kernel_rfl
theorem by8 : byOf Try.prog 8 = some 24 := by kernel_rfl
theorem fo8_0 : fieldOff Try.prog 8 0 = some 0 := by kernel_rfl
theorem ft8_0 : fieldTy Try.prog 8 0 = some (2, 0) := by kernel_rfl
theorem fo8_1 : fieldOff Try.prog 8 1 = some 1 := by kernel_rfl
theorem ft8_1 : fieldTy Try.prog 8 1 = some (3, 1) := by kernel_rfl
theorem fo8_2 : fieldOff Try.prog 8 2 = some 2 := by kernel_rfl
theorem ft8_2 : fieldTy Try.prog 8 2 = some (4, 2) := by kernel_rfl
theorem fo8_3 : fieldOff Try.prog 8 3 = some 3 := by kernel_rfl
theorem ft8_3 : fieldTy Try.prog 8 3 = some (6, 3) := by kernel_rfl
theorem bs8 : structAt Try.prog 8 = some [(0, 1), (1, 1), (2, 1), (3, 1)] := by kernel_rfl
theorem sz9 : szOf Try.prog 9 = some 1 := by kernel_rfl
theorem zr9 : zrOf Try.prog 9 = some [.string ⟨#[]⟩] := by kernel_rfl
theorem zv9 : zvOf Try.prog 9 = some (.string ⟨#[]⟩) := by kernel_rfl
theorem by9 : byOf Try.prog 9 = some 16 := by kernel_rfl
theorem sz10 : szOf Try.prog 10 = some 1 := by kernel_rfl
theorem ag10 : aggOf Try.prog 10 = some false := by kernel_rfl
theorem zr10 : zrOf Try.prog 10 = some [.string ⟨#[]⟩] := by kernel_rfl
theorem zv10 : zvOf Try.prog 10 = some (.string ⟨#[]⟩) := by kernel_rfl
theorem by10 : byOf Try.prog 10 = some 16 := by kernel_rfl
theorem sz11 : szOf Try.prog 11 = some 1 := by kernel_rfl
theorem ag11 : aggOf Try.prog 11 = some false := by kernel_rfl
theorem zr11 : zrOf Try.prog 11 = some [.string ⟨#[]⟩] := by kernel_rfl
theorem zv11 : zvOf Try.prog 11 = some (.string ⟨#[]⟩) := by kernel_rfl
theorem by11 : byOf Try.prog 11 = some 16 := by kernel_rfl
theorem sz12 : szOf Try.prog 12 = some 1 := by kernel_rfl
theorem ag12 : aggOf Try.prog 12 = some false := by kernel_rfl
theorem zr12 : zrOf Try.prog 12 = some [.int .u64 0] := by kernel_rfl
theorem zv12 : zvOf Try.prog 12 = some (.int .u64 0) := by kernel_rfl
theorem by12 : byOf Try.prog 12 = some 8 := by kernel_rfl
theorem sz13 : szOf Try.prog 13 = some 2 := by kernel_rfl
theorem ag13 : aggOf Try.prog 13 = some true := by kernel_rfl
theorem zr13 : zrOf Try.prog 13 = some [.string ⟨#[]⟩, .int .u64 0] := by kernel_rfl
theorem zv13 : zvOf Try.prog 13 = some (.agg ⟨[.string ⟨#[]⟩, .int .u64 0]⟩) := by kernel_rfl
theorem by13 : byOf Try.prog 13 = some 24 := by kernel_rfl
theorem fo13_0 : fieldOff Try.prog 13 0 = some 0 := by kernel_rfl
theorem ft13_0 : fieldTy Try.prog 13 0 = some (9, 0) := by kernel_rfl
theorem fo13_1 : fieldOff Try.prog 13 1 = some 1 := by kernel_rfl
theorem ft13_1 : fieldTy Try.prog 13 1 = some (12, 1) := by kernel_rfl
theorem bs13 : structAt Try.prog 13 = some [(0, 1), (1, 1)] := by kernel_rfl
theorem sz14 : szOf Try.prog 14 = some 2 := by kernel_rfl
theorem ag14 : aggOf Try.prog 14 = some true := by kernel_rfl
theorem zr14 : zrOf Try.prog 14 = some [.string ⟨#[]⟩, .int .u64 0] := by kernel_rfl
theorem zv14 : zvOf Try.prog 14 = some (.agg ⟨[.string ⟨#[]⟩, .int .u64 0]⟩) := by kernel_rfl
theorem by14 : byOf Try.prog 14 = some 24 := by kernel_rfl
theorem fo14_0 : fieldOff Try.prog 14 0 = some 0 := by kernel_rfl
theorem ft14_0 : fieldTy Try.prog 14 0 = some (9, 0) := by kernel_rfl
theorem fo14_1 : fieldOff Try.prog 14 1 = some 1 := by kernel_rfl
theorem ft14_1 : fieldTy Try.prog 14 1 = some (12, 1) := by kernel_rfl
theorem bs14 : structAt Try.prog 14 = some [(0, 1), (1, 1)] := by kernel_rfl
theorem sz15 : szOf Try.prog 15 = some 1 := by kernel_rfl
theorem ag15 : aggOf Try.prog 15 = some false := by kernel_rfl
theorem zr15 : zrOf Try.prog 15 = some [.pointer none] := by kernel_rfl
theorem zv15 : zvOf Try.prog 15 = some (.pointer none) := by kernel_rfl
theorem by15 : byOf Try.prog 15 = some 8 := by kernel_rfl
theorem sz16 : szOf Try.prog 16 = some 1 := by kernel_rfl
theorem ag16 : aggOf Try.prog 16 = some false := by kernel_rfl
theorem zr16 : zrOf Try.prog 16 = some [.pointer none] := by kernel_rfl
theorem zv16 : zvOf Try.prog 16 = some (.pointer none) := by kernel_rfl
theorem by16 : byOf Try.prog 16 = some 8 := by kernel_rfl
theorem sz17 : szOf Try.prog 17 = some 1 := by kernel_rfl
theorem ag17 : aggOf Try.prog 17 = some false := by kernel_rfl
theorem zr17 : zrOf Try.prog 17 = some [.pointer none] := by kernel_rfl
theorem zv17 : zvOf Try.prog 17 = some (.pointer none) := by kernel_rfl
theorem by17 : byOf Try.prog 17 = some 8 := by kernel_rfl
theorem sz18 : szOf Try.prog 18 = some 1 := by kernel_rfl
theorem ag18 : aggOf Try.prog 18 = some true := by kernel_rfl
theorem zr18 : zrOf Try.prog 18 = some [.pointer none] := by kernel_rfl
theorem zv18 : zvOf Try.prog 18 = some (.agg ⟨[.pointer none]⟩) := by kernel_rfl
theorem by18 : byOf Try.prog 18 = some 8 := by kernel_rfl
theorem fo18_0 : fieldOff Try.prog 18 0 = some 0 := by kernel_rfl
theorem ft18_0 : fieldTy Try.prog 18 0 = some (17, 0) := by kernel_rfl
theorem bs18 : structAt Try.prog 18 = some [(0, 1)] := by kernel_rfl
theorem sz19 : szOf Try.prog 19 = some 1 := by kernel_rfl
theorem ag19 : aggOf Try.prog 19 = some true := by kernel_rfl
theorem zr19 : zrOf Try.prog 19 = some [.pointer none] := by kernel_rfl
theorem zv19 : zvOf Try.prog 19 = some (.agg ⟨[.pointer none]⟩) := by kernel_rfl
theorem by19 : byOf Try.prog 19 = some 8 := by kernel_rfl
theorem fo19_0 : fieldOff Try.prog 19 0 = some 0 := by kernel_rfl
theorem ft19_0 : fieldTy Try.prog 19 0 = some (17, 0) := by kernel_rfl
theorem bs19 : structAt Try.prog 19 = some [(0, 1)] := by kernel_rfl
theorem sz20 : szOf Try.prog 20 = some 1 := by kernel_rfl
theorem ag20 : aggOf Try.prog 20 = some false := by kernel_rfl
theorem zr20 : zrOf Try.prog 20 = some [.nilIface] := by kernel_rfl
theorem zv20 : zvOf Try.prog 20 = some (.nilIface) := by kernel_rfl
theorem by20 : byOf Try.prog 20 = some 16 := by kernel_rfl
theorem sz21 : szOf Try.prog 21 = some 1 := by kernel_rfl
theorem ag21 : aggOf Try.prog 21 = some false := by kernel_rfl
theorem zr21 : zrOf Try.prog 21 = some [.int .i32 0] := by kernel_rfl
theorem zv21 : zvOf Try.prog 21 = some (.int .i32 0) := by kernel_rfl
theorem by21 : byOf Try.prog 21 = some 4 := by kernel_rfl
theorem sz22 : szOf Try.prog 22 = some 1 := by kernel_rfl
theorem ag22 : aggOf Try.prog 22 = some false := by kernel_rfl
theorem zr22 : zrOf Try.prog 22 = some [.slice none 0 0] := by kernel_rfl
theorem zv22 : zvOf Try.prog 22 = some (.slice none 0 0) := by kernel_rfl
theorem by22 : byOf Try.prog 22 = some 24 := by kernel_rfl
theorem sz23 : szOf Try.prog 23 = some 1 := by kernel_rfl
theorem ag23 : aggOf Try.prog 23 = some false := by kernel_rfl
theorem zr23 : zrOf Try.prog 23 = some [.slice none 0 0] := by kernel_rfl
theorem zv23 : zvOf Try.prog 23 = some (.slice none 0 0) := by kernel_rfl
theorem by23 : byOf Try.prog 23 = some 24 := by kernel_rfl
theorem sl23 : slOf Try.prog 23 = some (4, 1) := by kernel_rfl
theorem sz24 : szOf Try.prog 24 = some 1 := by kernel_rfl
theorem zr24 : zrOf Try.prog 24 = some [.slice none 0 0] := by kernel_rfl
theorem zv24 : zvOf Try.prog 24 = some (.slice none 0 0) := by kernel_rfl
theorem by24 : byOf Try.prog 24 = some 24 := by kernel_rfl
theorem sz25 : szOf Try.prog 25 = some 1 := by kernel_rfl
theorem ag25 : aggOf Try.prog 25 = some false := by kernel_rfl
theorem zr25 : zrOf Try.prog 25 = some [.nilFunc] := by kernel_rfl
theorem zv25 : zvOf Try.prog 25 = some (.nilFunc) := by kernel_rfl
theorem by25 : byOf Try.prog 25 = some 8 := by kernel_rfl
theorem sz26 : szOf Try.prog 26 = some 1 := by kernel_rfl
theorem ag26 : aggOf Try.prog 26 = some false := by kernel_rfl
theorem zr26 : zrOf Try.prog 26 = some [.slice none 0 0] := by kernel_rfl
theorem zv26 : zvOf Try.prog 26 = some (.slice none 0 0) := by kernel_rfl
theorem by26 : byOf Try.prog 26 = some 24 := by kernel_rfl
theorem sz27 : szOf Try.prog 27 = some 3 := by kernel_rfl
theorem ag27 : aggOf Try.prog 27 = some true := by kernel_rfl
theorem zr27 : zrOf Try.prog 27 = some [.slice none 0 0, .bool false, .int .i64 0] := by kernel_rfl
theorem zv27 : zvOf Try.prog 27 = some (.agg ⟨[.slice none 0 0, .bool false, .int .i64 0]⟩) := by kernel_rfl
theorem by27 : byOf Try.prog 27 = some 40 := by kernel_rfl
theorem fo27_0 : fieldOff Try.prog 27 0 = some 0 := by kernel_rfl
theorem ft27_0 : fieldTy Try.prog 27 0 = some (26, 0) := by kernel_rfl
theorem fo27_1 : fieldOff Try.prog 27 1 = some 1 := by kernel_rfl
theorem ft27_1 : fieldTy Try.prog 27 1 = some (4, 1) := by kernel_rfl
theorem fo27_2 : fieldOff Try.prog 27 2 = some 2 := by kernel_rfl
theorem ft27_2 : fieldTy Try.prog 27 2 = some (3, 2) := by kernel_rfl
theorem bs27 : structAt Try.prog 27 = some [(0, 1), (1, 1), (2, 1)] := by kernel_rfl
theorem sz28 : szOf Try.prog 28 = some 3 := by kernel_rfl
theorem ag28 : aggOf Try.prog 28 = some true := by kernel_rfl
theorem zr28 : zrOf Try.prog 28 = some [.slice none 0 0, .bool false, .int .i64 0] := by kernel_rfl
theorem zv28 : zvOf Try.prog 28 = some (.agg ⟨[.slice none 0 0, .bool false, .int .i64 0]⟩) := by kernel_rfl
theorem by28 : byOf Try.prog 28 = some 40 := by kernel_rfl
theorem fo28_0 : fieldOff Try.prog 28 0 = some 0 := by kernel_rfl
theorem ft28_0 : fieldTy Try.prog 28 0 = some (26, 0) := by kernel_rfl
theorem fo28_1 : fieldOff Try.prog 28 1 = some 1 := by kernel_rfl
theorem ft28_1 : fieldTy Try.prog 28 1 = some (4, 1) := by kernel_rfl
theorem fo28_2 : fieldOff Try.prog 28 2 = some 2 := by kernel_rfl
theorem ft28_2 : fieldTy Try.prog 28 2 = some (3, 2) := by kernel_rfl
theorem bs28 : structAt Try.prog 28 = some [(0, 1), (1, 1), (2, 1)] := by kernel_rfl
theorem sz29 : szOf Try.prog 29 = some 1 := by kernel_rfl
theorem ag29 : aggOf Try.prog 29 = some false := by kernel_rfl
theorem zr29 : zrOf Try.prog 29 = some [.int .i64 0] := by kernel_rfl
theorem zv29 : zvOf Try.prog 29 = some (.int .i64 0) := by kernel_rfl
theorem by29 : byOf Try.prog 29 = some 8 := by kernel_rfl
theorem sz30 : szOf Try.prog 30 = some 1 := by kernel_rfl
theorem ag30 : aggOf Try.prog 30 = some false := by kernel_rfl
theorem sz31 : szOf Try.prog 31 = some 1 := by kernel_rfl
theorem ag31 : aggOf Try.prog 31 = some false := by kernel_rfl
theorem zr31 : zrOf Try.prog 31 = some [.nilFunc] := by kernel_rfl
theorem zv31 : zvOf Try.prog 31 = some (.nilFunc) := by kernel_rfl
theorem by31 : byOf Try.prog 31 = some 8 := by kernel_rfl
theorem sz32 : szOf Try.prog 32 = some 1 := by kernel_rfl
theorem ag32 : aggOf Try.prog 32 = some false := by kernel_rfl
theorem sz33 : szOf Try.prog 33 = some 1 := by kernel_rfl
theorem ag33 : aggOf Try.prog 33 = some false := by kernel_rfl
theorem zr33 : zrOf Try.prog 33 = some [.nilFunc] := by kernel_rfl
theorem zv33 : zvOf Try.prog 33 = some (.nilFunc) := by kernel_rfl
theorem by33 : byOf Try.prog 33 = some 8 := by kernel_rfl
theorem sz34 : szOf Try.prog 34 = some 1 := by kernel_rfl
theorem ag34 : aggOf Try.prog 34 = some false := by kernel_rfl
theorem zr34 : zrOf Try.prog 34 = some [.nilFunc] := by kernel_rfl
theorem zv34 : zvOf Try.prog 34 = some (.nilFunc) := by kernel_rfl
theorem by34 : byOf Try.prog 34 = some 8 := by kernel_rfl
theorem sz35 : szOf Try.prog 35 = some 1 := by kernel_rfl
theorem ag35 : aggOf Try.prog 35 = some false := by kernel_rfl
theorem zr35 : zrOf Try.prog 35 = some [.nilFunc] := by kernel_rfl
theorem zv35 : zvOf Try.prog 35 = some (.nilFunc) := by kernel_rfl
theorem by35 : byOf Try.prog 35 = some 8 := by kernel_rfl
theorem sz36 : szOf Try.prog 36 = some 1 := by kernel_rfl
theorem ag36 : aggOf Try.prog 36 = some false := by kernel_rfl
theorem zr36 : zrOf Try.prog 36 = some [.nilFunc] := by kernel_rfl
theorem zv36 : zvOf Try.prog 36 = some (.nilFunc) := by kernel_rfl
theorem by36 : byOf Try.prog 36 = some 8 := by kernel_rfl
theorem sz37 : szOf Try.prog 37 = some 1 := by kernel_rfl
theorem ag37 : aggOf Try.prog 37 = some false := by kernel_rfl
theorem sz38 : szOf Try.prog 38 = some 1 := by kernel_rfl
theorem ag38 : aggOf Try.prog 38 = some false := by kernel_rfl
theorem zr38 : zrOf Try.prog 38 = some [.nilFunc] := by kernel_rfl
theorem zv38 : zvOf Try.prog 38 = some (.nilFunc) := by kernel_rfl
theorem by38 : byOf Try.prog 38 = some 8 := by kernel_rfl
theorem sz39 : szOf Try.prog 39 = some 1 := by kernel_rfl
theorem ag39 : aggOf Try.prog 39 = some false := by kernel_rfl
theorem zr39 : zrOf Try.prog 39 = some [.nilFunc] := by kernel_rfl
theorem zv39 : zvOf Try.prog 39 = some (.nilFunc) := by kernel_rfl
theorem by39 : byOf Try.prog 39 = some 8 := by kernel_rfl
theorem sz40 : szOf Try.prog 40 = some 1 := by kernel_rfl
theorem ag40 : aggOf Try.prog 40 = some false := by kernel_rfl
theorem zr40 : zrOf Try.prog 40 = some [.int .u64 0] := by kernel_rfl
theorem zv40 : zvOf Try.prog 40 = some (.int .u64 0) := by kernel_rfl
theorem by40 : byOf Try.prog 40 = some 8 := by kernel_rfl
theorem sz41 : szOf Try.prog 41 = some 1 := by kernel_rfl
theorem ag41 : aggOf Try.prog 41 = some false := by kernel_rfl
theorem zr41 : zrOf Try.prog 41 = some [.slice none 0 0] := by kernel_rfl
theorem zv41 : zvOf Try.prog 41 = some (.slice none 0 0) := by kernel_rfl
theorem by41 : byOf Try.prog 41 = some 24 := by kernel_rfl
theorem sz42 : szOf Try.prog 42 = some 3 := by kernel_rfl
theorem ag42 : aggOf Try.prog 42 = some true := by kernel_rfl
theorem zr42 : zrOf Try.prog 42 = some [.int .u64 0, .int .u64 0, .slice none 0 0] := by kernel_rfl
theorem zv42 : zvOf Try.prog 42 = some (.agg ⟨[.int .u64 0, .int .u64 0, .slice none 0 0]⟩) := by kernel_rfl
theorem by42 : byOf Try.prog 42 = some 40 := by kernel_rfl
theorem fo42_0 : fieldOff Try.prog 42 0 = some 0 := by kernel_rfl
theorem ft42_0 : fieldTy Try.prog 42 0 = some (40, 0) := by kernel_rfl
theorem fo42_1 : fieldOff Try.prog 42 1 = some 1 := by kernel_rfl
theorem ft42_1 : fieldTy Try.prog 42 1 = some (40, 1) := by kernel_rfl
theorem fo42_2 : fieldOff Try.prog 42 2 = some 2 := by kernel_rfl
theorem ft42_2 : fieldTy Try.prog 42 2 = some (41, 2) := by kernel_rfl
theorem bs42 : structAt Try.prog 42 = some [(0, 1), (1, 1), (2, 1)] := by kernel_rfl
theorem zr43 : zrOf Try.prog 43 = some [.int .u64 0, .int .u64 0, .slice none 0 0] := by kernel_rfl
theorem zv43 : zvOf Try.prog 43 = some (.agg ⟨[.int .u64 0, .int .u64 0, .slice none 0 0]⟩) := by kernel_rfl
theorem by43 : byOf Try.prog 43 = some 40 := by kernel_rfl
theorem fo43_0 : fieldOff Try.prog 43 0 = some 0 := by kernel_rfl
theorem ft43_0 : fieldTy Try.prog 43 0 = some (40, 0) := by kernel_rfl
theorem fo43_1 : fieldOff Try.prog 43 1 = some 1 := by kernel_rfl
theorem ft43_1 : fieldTy Try.prog 43 1 = some (40, 1) := by kernel_rfl
theorem fo43_2 : fieldOff Try.prog 43 2 = some 2 := by kernel_rfl
theorem ft43_2 : fieldTy Try.prog 43 2 = some (41, 2) := by kernel_rfl
theorem bs43 : structAt Try.prog 43 = some [(0, 1), (1, 1), (2, 1)] := by kernel_rfl
theorem sz44 : szOf Try.prog 44 = some 1 := by kernel_rfl
theorem ag44 : aggOf Try.prog 44 = some false := by kernel_rfl
theorem zr44 : zrOf Try.prog 44 = some [.nilFunc] := by kernel_rfl
theorem zv44 : zvOf Try.prog 44 = some (.nilFunc) := by kernel_rfl
theorem by44 : byOf Try.prog 44 = some 8 := by kernel_rfl
theorem sz45 : szOf Try.prog 45 = some 1 := by kernel_rfl
theorem ag45 : aggOf Try.prog 45 = some false := by kernel_rfl
theorem sz46 : szOf Try.prog 46 = some 1 := by kernel_rfl
theorem ag46 : aggOf Try.prog 46 = some false := by kernel_rfl
theorem zr46 : zrOf Try.prog 46 = some [.nilFunc] := by kernel_rfl
theorem zv46 : zvOf Try.prog 46 = some (.nilFunc) := by kernel_rfl
theorem by46 : byOf Try.prog 46 = some 8 := by kernel_rfl
theorem sz47 : szOf Try.prog 47 = some 1 := by kernel_rfl
theorem ag47 : aggOf Try.prog 47 = some false := by kernel_rfl
theorem sz48 : szOf Try.prog 48 = some 1 := by kernel_rfl
theorem ag48 : aggOf Try.prog 48 = some false := by kernel_rfl
theorem zr48 : zrOf Try.prog 48 = some [.nilFunc] := by kernel_rfl
theorem zv48 : zvOf Try.prog 48 = some (.nilFunc) := by kernel_rfl
theorem by48 : byOf Try.prog 48 = some 8 := by kernel_rfl
theorem sz49 : szOf Try.prog 49 = some 1 := by kernel_rfl
theorem ag49 : aggOf Try.prog 49 = some false := by kernel_rfl
theorem zr49 : zrOf Try.prog 49 = some [.nilFunc] := by kernel_rfl
theorem zv49 : zvOf Try.prog 49 = some (.nilFunc) := by kernel_rfl
theorem by49 : byOf Try.prog 49 = some 8 := by kernel_rfl
theorem sz50 : szOf Try.prog 50 = some 1 := by kernel_rfl
theorem ag50 : aggOf Try.prog 50 = some false := by kernel_rfl
theorem zr50 : zrOf Try.prog 50 = some [.int .u8 0] := by kernel_rfl
theorem zv50 : zvOf Try.prog 50 = some (.int .u8 0) := by kernel_rfl
theorem by50 : byOf Try.prog 50 = some 1 := by kernel_rfl
theorem sz51 : szOf Try.prog 51 = some 4 := by kernel_rfl
theorem ag51 : aggOf Try.prog 51 = some true := by kernel_rfl
theorem zr51 : zrOf Try.prog 51 = some [.int .u64 0, .int .u64 0, .slice none 0 0, .string ⟨#[]⟩] := by kernel_rfl
theorem zv51 : zvOf Try.prog 51 = some (.agg ⟨[.int .u64 0, .int .u64 0, .slice none 0 0, .string ⟨#[]⟩]⟩) := by kernel_rfl
theorem by51 : byOf Try.prog 51 = some 56 := by kernel_rfl
theorem fo51_0 : fieldOff Try.prog 51 0 = some 0 := by kernel_rfl
theorem ft51_0 : fieldTy Try.prog 51 0 = some (40, 0) := by kernel_rfl
theorem fo51_1 : fieldOff Try.prog 51 1 = some 1 := by kernel_rfl
theorem ft51_1 : fieldTy Try.prog 51 1 = some (40, 1) := by kernel_rfl
theorem fo51_2 : fieldOff Try.prog 51 2 = some 2 := by kernel_rfl
theorem ft51_2 : fieldTy Try.prog 51 2 = some (24, 2) := by kernel_rfl
theorem fo51_3 : fieldOff Try.prog 51 3 = some 3 := by kernel_rfl
theorem ft51_3 : fieldTy Try.prog 51 3 = some (9, 3) := by kernel_rfl
theorem bs51 : structAt Try.prog 51 = some [(0, 1), (1, 1), (2, 1), (3, 1)] := by kernel_rfl
theorem sz52 : szOf Try.prog 52 = some 4 := by kernel_rfl
theorem ag52 : aggOf Try.prog 52 = some true := by kernel_rfl
theorem zr52 : zrOf Try.prog 52 = some [.int .u64 0, .int .u64 0, .slice none 0 0, .string ⟨#[]⟩] := by kernel_rfl
theorem zv52 : zvOf Try.prog 52 = some (.agg ⟨[.int .u64 0, .int .u64 0, .slice none 0 0, .string ⟨#[]⟩]⟩) := by kernel_rfl
theorem by52 : byOf Try.prog 52 = some 56 := by kernel_rfl
theorem fo52_0 : fieldOff Try.prog 52 0 = some 0 := by kernel_rfl
theorem ft52_0 : fieldTy Try.prog 52 0 = some (40, 0) := by kernel_rfl
theorem fo52_1 : fieldOff Try.prog 52 1 = some 1 := by kernel_rfl
theorem ft52_1 : fieldTy Try.prog 52 1 = some (40, 1) := by kernel_rfl
theorem fo52_2 : fieldOff Try.prog 52 2 = some 2 := by kernel_rfl
theorem ft52_2 : fieldTy Try.prog 52 2 = some (24, 2) := by kernel_rfl
theorem fo52_3 : fieldOff Try.prog 52 3 = some 3 := by kernel_rfl
theorem ft52_3 : fieldTy Try.prog 52 3 = some (9, 3) := by kernel_rfl
theorem bs52 : structAt Try.prog 52 = some [(0, 1), (1, 1), (2, 1), (3, 1)] := by kernel_rfl
theorem sz53 : szOf Try.prog 53 = some 11 := by kernel_rfl
theorem ag53 : aggOf Try.prog 53 = some true := by kernel_rfl
theorem zr53 : zrOf Try.prog 53 = some [.int .u8 0, .int .u64 0, .int .u64 0, .int .u64 0, .int .u64 0, .bool false, .slice none 0 0, .int .u64 0, .int .u64 0, .slice none 0 0, .string ⟨#[]⟩] := by kernel_rfl
theorem zv53 : zvOf Try.prog 53 = some (.agg ⟨[.int .u8 0, .int .u64 0, .int .u64 0, .int .u64 0, .int .u64 0, .bool false, .slice none 0 0, .int .u64 0, .int .u64 0, .slice none 0 0, .string ⟨#[]⟩]⟩) := by kernel_rfl
theorem by53 : byOf Try.prog 53 = some 128 := by kernel_rfl
theorem fo53_0 : fieldOff Try.prog 53 0 = some 0 := by kernel_rfl
theorem ft53_0 : fieldTy Try.prog 53 0 = some (50, 0) := by kernel_rfl
theorem fo53_1 : fieldOff Try.prog 53 1 = some 1 := by kernel_rfl
theorem ft53_1 : fieldTy Try.prog 53 1 = some (40, 1) := by kernel_rfl
theorem fo53_2 : fieldOff Try.prog 53 2 = some 2 := by kernel_rfl
theorem ft53_2 : fieldTy Try.prog 53 2 = some (40, 2) := by kernel_rfl
theorem fo53_3 : fieldOff Try.prog 53 3 = some 3 := by kernel_rfl
theorem ft53_3 : fieldTy Try.prog 53 3 = some (40, 3) := by kernel_rfl
theorem fo53_4 : fieldOff Try.prog 53 4 = some 4 := by kernel_rfl
theorem ft53_4 : fieldTy Try.prog 53 4 = some (40, 4) := by kernel_rfl
theorem fo53_5 : fieldOff Try.prog 53 5 = some 5 := by kernel_rfl
theorem ft53_5 : fieldTy Try.prog 53 5 = some (4, 5) := by kernel_rfl
theorem fo53_6 : fieldOff Try.prog 53 6 = some 6 := by kernel_rfl
theorem ft53_6 : fieldTy Try.prog 53 6 = some (41, 6) := by kernel_rfl
theorem fo53_7 : fieldOff Try.prog 53 7 = some 7 := by kernel_rfl
theorem ft53_7 : fieldTy Try.prog 53 7 = some (52, 7) := by kernel_rfl
theorem bs53 : structAt Try.prog 53 = some [(0, 1), (1, 1), (2, 1), (3, 1), (4, 1), (5, 1), (6, 1), (7, 4)] := by kernel_rfl
theorem sz54 : szOf Try.prog 54 = some 11 := by kernel_rfl
theorem ag54 : aggOf Try.prog 54 = some true := by kernel_rfl
theorem zr54 : zrOf Try.prog 54 = some [.int .u8 0, .int .u64 0, .int .u64 0, .int .u64 0, .int .u64 0, .bool false, .slice none 0 0, .int .u64 0, .int .u64 0, .slice none 0 0, .string ⟨#[]⟩] := by kernel_rfl
theorem zv54 : zvOf Try.prog 54 = some (.agg ⟨[.int .u8 0, .int .u64 0, .int .u64 0, .int .u64 0, .int .u64 0, .bool false, .slice none 0 0, .int .u64 0, .int .u64 0, .slice none 0 0, .string ⟨#[]⟩]⟩) := by kernel_rfl
theorem by54 : byOf Try.prog 54 = some 128 := by kernel_rfl
theorem fo54_0 : fieldOff Try.prog 54 0 = some 0 := by kernel_rfl
theorem ft54_0 : fieldTy Try.prog 54 0 = some (50, 0) := by kernel_rfl
theorem fo54_1 : fieldOff Try.prog 54 1 = some 1 := by kernel_rfl
theorem ft54_1 : fieldTy Try.prog 54 1 = some (40, 1) := by kernel_rfl
theorem fo54_2 : fieldOff Try.prog 54 2 = some 2 := by kernel_rfl
theorem ft54_2 : fieldTy Try.prog 54 2 = some (40, 2) := by kernel_rfl
theorem fo54_3 : fieldOff Try.prog 54 3 = some 3 := by kernel_rfl
theorem ft54_3 : fieldTy Try.prog 54 3 = some (40, 3) := by kernel_rfl
theorem fo54_4 : fieldOff Try.prog 54 4 = some 4 := by kernel_rfl
theorem ft54_4 : fieldTy Try.prog 54 4 = some (40, 4) := by kernel_rfl
theorem fo54_5 : fieldOff Try.prog 54 5 = some 5 := by kernel_rfl
theorem ft54_5 : fieldTy Try.prog 54 5 = some (4, 5) := by kernel_rfl
theorem fo54_6 : fieldOff Try.prog 54 6 = some 6 := by kernel_rfl
theorem ft54_6 : fieldTy Try.prog 54 6 = some (41, 6) := by kernel_rfl
theorem fo54_7 : fieldOff Try.prog 54 7 = some 7 := by kernel_rfl
theorem ft54_7 : fieldTy Try.prog 54 7 = some (52, 7) := by kernel_rfl
theorem bs54 : structAt Try.prog 54 = some [(0, 1), (1, 1), (2, 1), (3, 1), (4, 1), (5, 1), (6, 1), (7, 4)] := by kernel_rfl
theorem sz55 : szOf Try.prog 55 = some 1 := by kernel_rfl
theorem ag55 : aggOf Try.prog 55 = some false := by kernel_rfl
theorem sz56 : szOf Try.prog 56 = some 1 := by kernel_rfl
theorem ag56 : aggOf Try.prog 56 = some false := by kernel_rfl
theorem zr56 : zrOf Try.prog 56 = some [.nilFunc] := by kernel_rfl
theorem zv56 : zvOf Try.prog 56 = some (.nilFunc) := by kernel_rfl
theorem by56 : byOf Try.prog 56 = some 8 := by kernel_rfl
theorem sz57 : szOf Try.prog 57 = some 1 := by kernel_rfl
theorem ag57 : aggOf Try.prog 57 = some false := by kernel_rfl
theorem sz58 : szOf Try.prog 58 = some 1 := by kernel_rfl
theorem ag58 : aggOf Try.prog 58 = some false := by kernel_rfl
theorem zr58 : zrOf Try.prog 58 = some [.nilFunc] := by kernel_rfl
theorem zv58 : zvOf Try.prog 58 = some (.nilFunc) := by kernel_rfl
theorem by58 : byOf Try.prog 58 = some 8 := by kernel_rfl
theorem sz59 : szOf Try.prog 59 = some 1 := by kernel_rfl
theorem ag59 : aggOf Try.prog 59 = some false := by kernel_rfl
theorem zr59 : zrOf Try.prog 59 = some [.nilFunc] := by kernel_rfl
theorem zv59 : zvOf Try.prog 59 = some (.nilFunc) := by kernel_rfl
theorem by59 : byOf Try.prog 59 = some 8 := by kernel_rfl
theorem sz60 : szOf Try.prog 60 = some 1 := by kernel_rfl
theorem ag60 : aggOf Try.prog 60 = some false := by kernel_rfl
theorem zr60 : zrOf Try.prog 60 = some [.int .u16 0] := by kernel_rfl
theorem zv60 : zvOf Try.prog 60 = some (.int .u16 0) := by kernel_rfl
theorem by60 : byOf Try.prog 60 = some 2 := by kernel_rfl
theorem sz61 : szOf Try.prog 61 = some 1 := by kernel_rfl
theorem ag61 : aggOf Try.prog 61 = some false := by kernel_rfl
theorem zr61 : zrOf Try.prog 61 = some [.nilFunc] := by kernel_rfl
theorem zv61 : zvOf Try.prog 61 = some (.nilFunc) := by kernel_rfl
theorem by61 : byOf Try.prog 61 = some 8 := by kernel_rfl
theorem sz62 : szOf Try.prog 62 = some 1 := by kernel_rfl
theorem ag62 : aggOf Try.prog 62 = some false := by kernel_rfl
theorem zr62 : zrOf Try.prog 62 = some [.nilFunc] := by kernel_rfl
theorem zv62 : zvOf Try.prog 62 = some (.nilFunc) := by kernel_rfl
theorem by62 : byOf Try.prog 62 = some 8 := by kernel_rfl
theorem sz63 : szOf Try.prog 63 = some 1 := by kernel_rfl
theorem ag63 : aggOf Try.prog 63 = some false := by kernel_rfl
theorem zr63 : zrOf Try.prog 63 = some [.nilFunc] := by kernel_rfl
theorem zv63 : zvOf Try.prog 63 = some (.nilFunc) := by kernel_rfl
theorem by63 : byOf Try.prog 63 = some 8 := by kernel_rfl
theorem sz64 : szOf Try.prog 64 = some 1 := by kernel_rfl
theorem ag64 : aggOf Try.prog 64 = some false := by kernel_rfl
theorem zr64 : zrOf Try.prog 64 = some [.int .u8 0] := by kernel_rfl
theorem zv64 : zvOf Try.prog 64 = some (.int .u8 0) := by kernel_rfl
theorem by64 : byOf Try.prog 64 = some 1 := by kernel_rfl
theorem sz65 : szOf Try.prog 65 = some 5 := by kernel_rfl
theorem ag65 : aggOf Try.prog 65 = some true := by kernel_rfl
theorem zr65 : zrOf Try.prog 65 = some [.int .u8 0, .string ⟨#[]⟩, .string ⟨#[]⟩, .string ⟨#[]⟩, .int .i64 0] := by kernel_rfl
theorem zv65 : zvOf Try.prog 65 = some (.agg ⟨[.int .u8 0, .string ⟨#[]⟩, .string ⟨#[]⟩, .string ⟨#[]⟩, .int .i64 0]⟩) := by kernel_rfl
theorem by65 : byOf Try.prog 65 = some 64 := by kernel_rfl
theorem fo65_0 : fieldOff Try.prog 65 0 = some 0 := by kernel_rfl
theorem ft65_0 : fieldTy Try.prog 65 0 = some (64, 0) := by kernel_rfl
theorem fo65_1 : fieldOff Try.prog 65 1 = some 1 := by kernel_rfl
theorem ft65_1 : fieldTy Try.prog 65 1 = some (9, 1) := by kernel_rfl
theorem fo65_2 : fieldOff Try.prog 65 2 = some 2 := by kernel_rfl
theorem ft65_2 : fieldTy Try.prog 65 2 = some (9, 2) := by kernel_rfl
theorem fo65_3 : fieldOff Try.prog 65 3 = some 3 := by kernel_rfl
theorem ft65_3 : fieldTy Try.prog 65 3 = some (9, 3) := by kernel_rfl
theorem fo65_4 : fieldOff Try.prog 65 4 = some 4 := by kernel_rfl
theorem ft65_4 : fieldTy Try.prog 65 4 = some (3, 4) := by kernel_rfl
theorem bs65 : structAt Try.prog 65 = some [(0, 1), (1, 1), (2, 1), (3, 1), (4, 1)] := by kernel_rfl
theorem sz66 : szOf Try.prog 66 = some 5 := by kernel_rfl
theorem ag66 : aggOf Try.prog 66 = some true := by kernel_rfl
theorem zr66 : zrOf Try.prog 66 = some [.int .u8 0, .string ⟨#[]⟩, .string ⟨#[]⟩, .string ⟨#[]⟩, .int .i64 0] := by kernel_rfl
theorem zv66 : zvOf Try.prog 66 = some (.agg ⟨[.int .u8 0, .string ⟨#[]⟩, .string ⟨#[]⟩, .string ⟨#[]⟩, .int .i64 0]⟩) := by kernel_rfl
theorem by66 : byOf Try.prog 66 = some 64 := by kernel_rfl
theorem fo66_0 : fieldOff Try.prog 66 0 = some 0 := by kernel_rfl
theorem ft66_0 : fieldTy Try.prog 66 0 = some (64, 0) := by kernel_rfl
theorem fo66_1 : fieldOff Try.prog 66 1 = some 1 := by kernel_rfl
theorem ft66_1 : fieldTy Try.prog 66 1 = some (9, 1) := by kernel_rfl
theorem fo66_2 : fieldOff Try.prog 66 2 = some 2 := by kernel_rfl
theorem ft66_2 : fieldTy Try.prog 66 2 = some (9, 2) := by kernel_rfl
theorem fo66_3 : fieldOff Try.prog 66 3 = some 3 := by kernel_rfl
theorem ft66_3 : fieldTy Try.prog 66 3 = some (9, 3) := by kernel_rfl
theorem fo66_4 : fieldOff Try.prog 66 4 = some 4 := by kernel_rfl
theorem ft66_4 : fieldTy Try.prog 66 4 = some (3, 4) := by kernel_rfl
theorem bs66 : structAt Try.prog 66 = some [(0, 1), (1, 1), (2, 1), (3, 1), (4, 1)] := by kernel_rfl
theorem sz67 : szOf Try.prog 67 = some 1 := by kernel_rfl
theorem ag67 : aggOf Try.prog 67 = some false := by kernel_rfl
theorem zr67 : zrOf Try.prog 67 = some [.nilFunc] := by kernel_rfl
theorem zv67 : zvOf Try.prog 67 = some (.nilFunc) := by kernel_rfl
theorem by67 : byOf Try.prog 67 = some 8 := by kernel_rfl
theorem sz68 : szOf Try.prog 68 = some 1 := by kernel_rfl
theorem ag68 : aggOf Try.prog 68 = some false := by kernel_rfl
theorem zr68 : zrOf Try.prog 68 = some [.nilFunc] := by kernel_rfl
theorem zv68 : zvOf Try.prog 68 = some (.nilFunc) := by kernel_rfl
theorem by68 : byOf Try.prog 68 = some 8 := by kernel_rfl
theorem sz69 : szOf Try.prog 69 = some 3 := by kernel_rfl
theorem ag69 : aggOf Try.prog 69 = some true := by kernel_rfl
theorem zr69 : zrOf Try.prog 69 = some [.string ⟨#[]⟩, .string ⟨#[]⟩, .int .i64 0] := by kernel_rfl
theorem zv69 : zvOf Try.prog 69 = some (.agg ⟨[.string ⟨#[]⟩, .string ⟨#[]⟩, .int .i64 0]⟩) := by kernel_rfl
theorem by69 : byOf Try.prog 69 = some 40 := by kernel_rfl
theorem fo69_0 : fieldOff Try.prog 69 0 = some 0 := by kernel_rfl
theorem ft69_0 : fieldTy Try.prog 69 0 = some (9, 0) := by kernel_rfl
theorem fo69_1 : fieldOff Try.prog 69 1 = some 1 := by kernel_rfl
theorem ft69_1 : fieldTy Try.prog 69 1 = some (9, 1) := by kernel_rfl
theorem fo69_2 : fieldOff Try.prog 69 2 = some 2 := by kernel_rfl
theorem ft69_2 : fieldTy Try.prog 69 2 = some (3, 2) := by kernel_rfl
theorem bs69 : structAt Try.prog 69 = some [(0, 1), (1, 1), (2, 1)] := by kernel_rfl
theorem ag70 : aggOf Try.prog 70 = some true := by kernel_rfl
theorem zr70 : zrOf Try.prog 70 = some [.string ⟨#[]⟩, .string ⟨#[]⟩, .int .i64 0] := by kernel_rfl
theorem fo70_0 : fieldOff Try.prog 70 0 = some 0 := by kernel_rfl
theorem ft70_0 : fieldTy Try.prog 70 0 = some (9, 0) := by kernel_rfl
theorem fo70_1 : fieldOff Try.prog 70 1 = some 1 := by kernel_rfl
theorem ft70_1 : fieldTy Try.prog 70 1 = some (9, 1) := by kernel_rfl
theorem fo70_2 : fieldOff Try.prog 70 2 = some 2 := by kernel_rfl
theorem ft70_2 : fieldTy Try.prog 70 2 = some (3, 2) := by kernel_rfl
theorem bs70 : structAt Try.prog 70 = some [(0, 1), (1, 1), (2, 1)] := by kernel_rfl
theorem sz71 : szOf Try.prog 71 = some 1 := by kernel_rfl
theorem ag71 : aggOf Try.prog 71 = some false := by kernel_rfl
theorem zr71 : zrOf Try.prog 71 = some [.pointer none] := by kernel_rfl
theorem zv71 : zvOf Try.prog 71 = some (.pointer none) := by kernel_rfl
theorem by71 : byOf Try.prog 71 = some 8 := by kernel_rfl
theorem sz72 : szOf Try.prog 72 = some 1 := by kernel_rfl
theorem ag72 : aggOf Try.prog 72 = some false := by kernel_rfl
theorem sz73 : szOf Try.prog 73 = some 1 := by kernel_rfl
theorem ag73 : aggOf Try.prog 73 = some false := by kernel_rfl
theorem zr73 : zrOf Try.prog 73 = some [.nilFunc] := by kernel_rfl
theorem zv73 : zvOf Try.prog 73 = some (.nilFunc) := by kernel_rfl
theorem by73 : byOf Try.prog 73 = some 8 := by kernel_rfl
theorem sz74 : szOf Try.prog 74 = some 1 := by kernel_rfl
theorem ag74 : aggOf Try.prog 74 = some false := by kernel_rfl
theorem zr74 : zrOf Try.prog 74 = some [.nilFunc] := by kernel_rfl
theorem zv74 : zvOf Try.prog 74 = some (.nilFunc) := by kernel_rfl
theorem by74 : byOf Try.prog 74 = some 8 := by kernel_rfl
theorem sz75 : szOf Try.prog 75 = some 1 := by kernel_rfl
theorem ag75 : aggOf Try.prog 75 = some false := by kernel_rfl
theorem zr75 : zrOf Try.prog 75 = some [.int .u8 0] := by kernel_rfl
theorem zv75 : zvOf Try.prog 75 = some (.int .u8 0) := by kernel_rfl
theorem by75 : byOf Try.prog 75 = some 1 := by kernel_rfl
theorem sz76 : szOf Try.prog 76 = some 5 := by kernel_rfl
theorem ag76 : aggOf Try.prog 76 = some true := by kernel_rfl
theorem zr76 : zrOf Try.prog 76 = some [.int .u64 0, .int .u64 0, .int .u8 0, .string ⟨#[]⟩, .slice none 0 0] := by kernel_rfl
theorem zv76 : zvOf Try.prog 76 = some (.agg ⟨[.int .u64 0, .int .u64 0, .int .u8 0, .string ⟨#[]⟩, .slice none 0 0]⟩) := by kernel_rfl
theorem by76 : byOf Try.prog 76 = some 64 := by kernel_rfl
theorem fo76_0 : fieldOff Try.prog 76 0 = some 0 := by kernel_rfl
theorem ft76_0 : fieldTy Try.prog 76 0 = some (40, 0) := by kernel_rfl
theorem fo76_1 : fieldOff Try.prog 76 1 = some 1 := by kernel_rfl
theorem ft76_1 : fieldTy Try.prog 76 1 = some (40, 1) := by kernel_rfl
theorem fo76_2 : fieldOff Try.prog 76 2 = some 2 := by kernel_rfl
theorem ft76_2 : fieldTy Try.prog 76 2 = some (75, 2) := by kernel_rfl
theorem fo76_3 : fieldOff Try.prog 76 3 = some 3 := by kernel_rfl
theorem ft76_3 : fieldTy Try.prog 76 3 = some (9, 3) := by kernel_rfl
theorem fo76_4 : fieldOff Try.prog 76 4 = some 4 := by kernel_rfl
theorem ft76_4 : fieldTy Try.prog 76 4 = some (24, 4) := by kernel_rfl
theorem bs76 : structAt Try.prog 76 = some [(0, 1), (1, 1), (2, 1), (3, 1), (4, 1)] := by kernel_rfl
theorem sz77 : szOf Try.prog 77 = some 5 := by kernel_rfl
theorem ag77 : aggOf Try.prog 77 = some true := by kernel_rfl
theorem zr77 : zrOf Try.prog 77 = some [.int .u64 0, .int .u64 0, .int .u8 0, .string ⟨#[]⟩, .slice none 0 0] := by kernel_rfl
theorem zv77 : zvOf Try.prog 77 = some (.agg ⟨[.int .u64 0, .int .u64 0, .int .u8 0, .string ⟨#[]⟩, .slice none 0 0]⟩) := by kernel_rfl
theorem by77 : byOf Try.prog 77 = some 64 := by kernel_rfl
theorem fo77_0 : fieldOff Try.prog 77 0 = some 0 := by kernel_rfl
theorem ft77_0 : fieldTy Try.prog 77 0 = some (40, 0) := by kernel_rfl
theorem fo77_1 : fieldOff Try.prog 77 1 = some 1 := by kernel_rfl
theorem ft77_1 : fieldTy Try.prog 77 1 = some (40, 1) := by kernel_rfl
theorem fo77_2 : fieldOff Try.prog 77 2 = some 2 := by kernel_rfl
theorem ft77_2 : fieldTy Try.prog 77 2 = some (75, 2) := by kernel_rfl
theorem fo77_3 : fieldOff Try.prog 77 3 = some 3 := by kernel_rfl
theorem ft77_3 : fieldTy Try.prog 77 3 = some (9, 3) := by kernel_rfl
theorem fo77_4 : fieldOff Try.prog 77 4 = some 4 := by kernel_rfl
theorem ft77_4 : fieldTy Try.prog 77 4 = some (24, 4) := by kernel_rfl
theorem bs77 : structAt Try.prog 77 = some [(0, 1), (1, 1), (2, 1), (3, 1), (4, 1)] := by kernel_rfl
theorem sz78 : szOf Try.prog 78 = some 1 := by kernel_rfl
theorem ag78 : aggOf Try.prog 78 = some false := by kernel_rfl
theorem zr78 : zrOf Try.prog 78 = some [.nilFunc] := by kernel_rfl
theorem zv78 : zvOf Try.prog 78 = some (.nilFunc) := by kernel_rfl
theorem by78 : byOf Try.prog 78 = some 8 := by kernel_rfl
theorem sz79 : szOf Try.prog 79 = some 1 := by kernel_rfl
theorem ag79 : aggOf Try.prog 79 = some false := by kernel_rfl
theorem zr79 : zrOf Try.prog 79 = some [.nilFunc] := by kernel_rfl
theorem zv79 : zvOf Try.prog 79 = some (.nilFunc) := by kernel_rfl
theorem by79 : byOf Try.prog 79 = some 8 := by kernel_rfl
theorem sz80 : szOf Try.prog 80 = some 1 := by kernel_rfl
theorem ag80 : aggOf Try.prog 80 = some false := by kernel_rfl
theorem zr80 : zrOf Try.prog 80 = some [.nilFunc] := by kernel_rfl
theorem zv80 : zvOf Try.prog 80 = some (.nilFunc) := by kernel_rfl
theorem by80 : byOf Try.prog 80 = some 8 := by kernel_rfl
theorem sz81 : szOf Try.prog 81 = some 1 := by kernel_rfl
theorem ag81 : aggOf Try.prog 81 = some false := by kernel_rfl
theorem zr81 : zrOf Try.prog 81 = some [.nilFunc] := by kernel_rfl
theorem zv81 : zvOf Try.prog 81 = some (.nilFunc) := by kernel_rfl
theorem by81 : byOf Try.prog 81 = some 8 := by kernel_rfl
theorem sz82 : szOf Try.prog 82 = some 1 := by kernel_rfl
theorem ag82 : aggOf Try.prog 82 = some false := by kernel_rfl
theorem zr82 : zrOf Try.prog 82 = some [.nilFunc] := by kernel_rfl
theorem zv82 : zvOf Try.prog 82 = some (.nilFunc) := by kernel_rfl
theorem by82 : byOf Try.prog 82 = some 8 := by kernel_rfl
theorem sz83 : szOf Try.prog 83 = some 1 := by kernel_rfl
theorem ag83 : aggOf Try.prog 83 = some false := by kernel_rfl
theorem zr83 : zrOf Try.prog 83 = some [.nilFunc] := by kernel_rfl
theorem zv83 : zvOf Try.prog 83 = some (.nilFunc) := by kernel_rfl
theorem by83 : byOf Try.prog 83 = some 8 := by kernel_rfl
theorem sz84 : szOf Try.prog 84 = some 1 := by kernel_rfl
theorem ag84 : aggOf Try.prog 84 = some false := by kernel_rfl
theorem zr84 : zrOf Try.prog 84 = some [.pointer none] := by kernel_rfl
theorem zv84 : zvOf Try.prog 84 = some (.pointer none) := by kernel_rfl
theorem by84 : byOf Try.prog 84 = some 8 := by kernel_rfl
theorem sz85 : szOf Try.prog 85 = some 1 := by kernel_rfl
theorem ag85 : aggOf Try.prog 85 = some false := by kernel_rfl
theorem zr85 : zrOf Try.prog 85 = some [.nilFunc] := by kernel_rfl
theorem zv85 : zvOf Try.prog 85 = some (.nilFunc) := by kernel_rfl
theorem by85 : byOf Try.prog 85 = some 8 := by kernel_rfl
theorem sz86 : szOf Try.prog 86 = some 1 := by kernel_rfl
theorem ag86 : aggOf Try.prog 86 = some true := by kernel_rfl
theorem zr86 : zrOf Try.prog 86 = some [.pointer none] := by kernel_rfl
theorem zv86 : zvOf Try.prog 86 = some (.agg ⟨[.pointer none]⟩) := by kernel_rfl
theorem by86 : byOf Try.prog 86 = some 8 := by kernel_rfl
theorem fo86_0 : fieldOff Try.prog 86 0 = some 0 := by kernel_rfl
theorem ft86_0 : fieldTy Try.prog 86 0 = some (84, 0) := by kernel_rfl
theorem bs86 : structAt Try.prog 86 = some [(0, 1)] := by kernel_rfl
theorem sz87 : szOf Try.prog 87 = some 1 := by kernel_rfl
theorem ag87 : aggOf Try.prog 87 = some true := by kernel_rfl
theorem zr87 : zrOf Try.prog 87 = some [.pointer none] := by kernel_rfl
theorem zv87 : zvOf Try.prog 87 = some (.agg ⟨[.pointer none]⟩) := by kernel_rfl
theorem by87 : byOf Try.prog 87 = some 8 := by kernel_rfl
theorem fo87_0 : fieldOff Try.prog 87 0 = some 0 := by kernel_rfl
theorem ft87_0 : fieldTy Try.prog 87 0 = some (84, 0) := by kernel_rfl
theorem bs87 : structAt Try.prog 87 = some [(0, 1)] := by kernel_rfl
theorem sz88 : szOf Try.prog 88 = some 1 := by kernel_rfl
theorem ag88 : aggOf Try.prog 88 = some false := by kernel_rfl
theorem zr88 : zrOf Try.prog 88 = some [.nilFunc] := by kernel_rfl
theorem zv88 : zvOf Try.prog 88 = some (.nilFunc) := by kernel_rfl
theorem by88 : byOf Try.prog 88 = some 8 := by kernel_rfl
theorem sz89 : szOf Try.prog 89 = some 1 := by kernel_rfl
theorem ag89 : aggOf Try.prog 89 = some false := by kernel_rfl
theorem zr89 : zrOf Try.prog 89 = some [.nilFunc] := by kernel_rfl
theorem zv89 : zvOf Try.prog 89 = some (.nilFunc) := by kernel_rfl
theorem by89 : byOf Try.prog 89 = some 8 := by kernel_rfl
theorem sz90 : szOf Try.prog 90 = some 1 := by kernel_rfl
theorem ag90 : aggOf Try.prog 90 = some false := by kernel_rfl
theorem zr90 : zrOf Try.prog 90 = some [.nilFunc] := by kernel_rfl
theorem zv90 : zvOf Try.prog 90 = some (.nilFunc) := by kernel_rfl
theorem by90 : byOf Try.prog 90 = some 8 := by kernel_rfl
theorem sz91 : szOf Try.prog 91 = some 1 := by kernel_rfl
theorem ag91 : aggOf Try.prog 91 = some false := by kernel_rfl
theorem zr91 : zrOf Try.prog 91 = some [.int .u64 0] := by kernel_rfl
theorem zv91 : zvOf Try.prog 91 = some (.int .u64 0) := by kernel_rfl
theorem by91 : byOf Try.prog 91 = some 8 := by kernel_rfl
theorem sz92 : szOf Try.prog 92 = some 1 := by kernel_rfl
theorem zr92 : zrOf Try.prog 92 = some [.slice none 0 0] := by kernel_rfl
theorem zv92 : zvOf Try.prog 92 = some (.slice none 0 0) := by kernel_rfl
theorem by92 : byOf Try.prog 92 = some 24 := by kernel_rfl
theorem sl92 : slOf Try.prog 92 = some (5, 1) := by kernel_rfl
theorem sz93 : szOf Try.prog 93 = some 1 := by kernel_rfl
theorem ag93 : aggOf Try.prog 93 = some false := by kernel_rfl
theorem zr93 : zrOf Try.prog 93 = some [.nilFunc] := by kernel_rfl
theorem zv93 : zvOf Try.prog 93 = some (.nilFunc) := by kernel_rfl
theorem by93 : byOf Try.prog 93 = some 8 := by kernel_rfl
theorem sz94 : szOf Try.prog 94 = some 1 := by kernel_rfl
theorem ag94 : aggOf Try.prog 94 = some false := by kernel_rfl
theorem zr94 : zrOf Try.prog 94 = some [.nilFunc] := by kernel_rfl
theorem zv94 : zvOf Try.prog 94 = some (.nilFunc) := by kernel_rfl
theorem by94 : byOf Try.prog 94 = some 8 := by kernel_rfl
theorem sz95 : szOf Try.prog 95 = some 1 := by kernel_rfl
theorem ag95 : aggOf Try.prog 95 = some false := by kernel_rfl
theorem zr95 : zrOf Try.prog 95 = some [.nilFunc] := by kernel_rfl
theorem zv95 : zvOf Try.prog 95 = some (.nilFunc) := by kernel_rfl
theorem by95 : byOf Try.prog 95 = some 8 := by kernel_rfl
theorem sz96 : szOf Try.prog 96 = some 1 := by kernel_rfl
theorem ag96 : aggOf Try.prog 96 = some false := by kernel_rfl
theorem zr96 : zrOf Try.prog 96 = some [.nilFunc] := by kernel_rfl
theorem zv96 : zvOf Try.prog 96 = some (.nilFunc) := by kernel_rfl
theorem by96 : byOf Try.prog 96 = some 8 := by kernel_rfl
theorem sz97 : szOf Try.prog 97 = some 1 := by kernel_rfl
theorem ag97 : aggOf Try.prog 97 = some false := by kernel_rfl
theorem zr97 : zrOf Try.prog 97 = some [.nilFunc] := by kernel_rfl
theorem zv97 : zvOf Try.prog 97 = some (.nilFunc) := by kernel_rfl
theorem by97 : byOf Try.prog 97 = some 8 := by kernel_rfl
theorem sz98 : szOf Try.prog 98 = some 1 := by kernel_rfl
theorem ag98 : aggOf Try.prog 98 = some false := by kernel_rfl
theorem zr98 : zrOf Try.prog 98 = some [.nilFunc] := by kernel_rfl
theorem zv98 : zvOf Try.prog 98 = some (.nilFunc) := by kernel_rfl
theorem by98 : byOf Try.prog 98 = some 8 := by kernel_rfl
theorem sz99 : szOf Try.prog 99 = some 1 := by kernel_rfl
theorem ag99 : aggOf Try.prog 99 = some false := by kernel_rfl
theorem zr99 : zrOf Try.prog 99 = some [.nilFunc] := by kernel_rfl
theorem zv99 : zvOf Try.prog 99 = some (.nilFunc) := by kernel_rfl
theorem by99 : byOf Try.prog 99 = some 8 := by kernel_rfl
theorem sz100 : szOf Try.prog 100 = some 1 := by kernel_rfl
theorem ag100 : aggOf Try.prog 100 = some false := by kernel_rfl
theorem zr100 : zrOf Try.prog 100 = some [.nilFunc] := by kernel_rfl
theorem zv100 : zvOf Try.prog 100 = some (.nilFunc) := by kernel_rfl
theorem by100 : byOf Try.prog 100 = some 8 := by kernel_rfl
theorem sz101 : szOf Try.prog 101 = some 1 := by kernel_rfl
theorem ag101 : aggOf Try.prog 101 = some false := by kernel_rfl
theorem zr101 : zrOf Try.prog 101 = some [.nilFunc] := by kernel_rfl
theorem zv101 : zvOf Try.prog 101 = some (.nilFunc) := by kernel_rfl
theorem by101 : byOf Try.prog 101 = some 8 := by kernel_rfl
theorem sz102 : szOf Try.prog 102 = some 1 := by kernel_rfl
theorem ag102 : aggOf Try.prog 102 = some false := by kernel_rfl
theorem zr102 : zrOf Try.prog 102 = some [.pointer none] := by kernel_rfl
theorem zv102 : zvOf Try.prog 102 = some (.pointer none) := by kernel_rfl
theorem by102 : byOf Try.prog 102 = some 8 := by kernel_rfl
theorem sz103 : szOf Try.prog 103 = some 1 := by kernel_rfl
theorem ag103 : aggOf Try.prog 103 = some false := by kernel_rfl
theorem zr103 : zrOf Try.prog 103 = some [.pointer none] := by kernel_rfl
theorem zv103 : zvOf Try.prog 103 = some (.pointer none) := by kernel_rfl
theorem by103 : byOf Try.prog 103 = some 8 := by kernel_rfl
theorem sz104 : szOf Try.prog 104 = some 2 := by kernel_rfl
theorem ag104 : aggOf Try.prog 104 = some true := by kernel_rfl
theorem zr104 : zrOf Try.prog 104 = some [.pointer none, .slice none 0 0] := by kernel_rfl
theorem zv104 : zvOf Try.prog 104 = some (.agg ⟨[.pointer none, .slice none 0 0]⟩) := by kernel_rfl
theorem by104 : byOf Try.prog 104 = some 32 := by kernel_rfl
theorem fo104_0 : fieldOff Try.prog 104 0 = some 0 := by kernel_rfl
theorem ft104_0 : fieldTy Try.prog 104 0 = some (103, 0) := by kernel_rfl
theorem fo104_1 : fieldOff Try.prog 104 1 = some 1 := by kernel_rfl
theorem ft104_1 : fieldTy Try.prog 104 1 = some (92, 1) := by kernel_rfl
theorem bs104 : structAt Try.prog 104 = some [(0, 1), (1, 1)] := by kernel_rfl
theorem ag105 : aggOf Try.prog 105 = some true := by kernel_rfl
theorem zr105 : zrOf Try.prog 105 = some [.pointer none, .slice none 0 0] := by kernel_rfl
theorem zv105 : zvOf Try.prog 105 = some (.agg ⟨[.pointer none, .slice none 0 0]⟩) := by kernel_rfl
theorem by105 : byOf Try.prog 105 = some 32 := by kernel_rfl
theorem fo105_0 : fieldOff Try.prog 105 0 = some 0 := by kernel_rfl
theorem ft105_0 : fieldTy Try.prog 105 0 = some (103, 0) := by kernel_rfl
theorem fo105_1 : fieldOff Try.prog 105 1 = some 1 := by kernel_rfl
theorem ft105_1 : fieldTy Try.prog 105 1 = some (92, 1) := by kernel_rfl
theorem bs105 : structAt Try.prog 105 = some [(0, 1), (1, 1)] := by kernel_rfl
theorem sz106 : szOf Try.prog 106 = some 2 := by kernel_rfl
theorem ag106 : aggOf Try.prog 106 = some true := by kernel_rfl
theorem zr106 : zrOf Try.prog 106 = some [.pointer none, .slice none 0 0] := by kernel_rfl
theorem zv106 : zvOf Try.prog 106 = some (.agg ⟨[.pointer none, .slice none 0 0]⟩) := by kernel_rfl
theorem by106 : byOf Try.prog 106 = some 32 := by kernel_rfl
theorem fo106_0 : fieldOff Try.prog 106 0 = some 0 := by kernel_rfl
theorem ft106_0 : fieldTy Try.prog 106 0 = some (105, 0) := by kernel_rfl
theorem bs106 : structAt Try.prog 106 = some [(0, 2)] := by kernel_rfl
theorem sz107 : szOf Try.prog 107 = some 2 := by kernel_rfl
theorem ag107 : aggOf Try.prog 107 = some true := by kernel_rfl
theorem zr107 : zrOf Try.prog 107 = some [.pointer none, .slice none 0 0] := by kernel_rfl
theorem zv107 : zvOf Try.prog 107 = some (.agg ⟨[.pointer none, .slice none 0 0]⟩) := by kernel_rfl
theorem by107 : byOf Try.prog 107 = some 32 := by kernel_rfl
theorem fo107_0 : fieldOff Try.prog 107 0 = some 0 := by kernel_rfl
theorem ft107_0 : fieldTy Try.prog 107 0 = some (105, 0) := by kernel_rfl
theorem bs107 : structAt Try.prog 107 = some [(0, 2)] := by kernel_rfl
theorem sz108 : szOf Try.prog 108 = some 1 := by kernel_rfl
theorem ag108 : aggOf Try.prog 108 = some false := by kernel_rfl
theorem zr108 : zrOf Try.prog 108 = some [.nilFunc] := by kernel_rfl
theorem zv108 : zvOf Try.prog 108 = some (.nilFunc) := by kernel_rfl
theorem by108 : byOf Try.prog 108 = some 8 := by kernel_rfl
theorem sz109 : szOf Try.prog 109 = some 1 := by kernel_rfl
theorem ag109 : aggOf Try.prog 109 = some false := by kernel_rfl
theorem zr109 : zrOf Try.prog 109 = some [.nilFunc] := by kernel_rfl
theorem zv109 : zvOf Try.prog 109 = some (.nilFunc) := by kernel_rfl
theorem by109 : byOf Try.prog 109 = some 8 := by kernel_rfl
theorem sz110 : szOf Try.prog 110 = some 1 := by kernel_rfl
theorem ag110 : aggOf Try.prog 110 = some false := by kernel_rfl
theorem zr110 : zrOf Try.prog 110 = some [.nilFunc] := by kernel_rfl
theorem zv110 : zvOf Try.prog 110 = some (.nilFunc) := by kernel_rfl
theorem by110 : byOf Try.prog 110 = some 8 := by kernel_rfl
theorem sz111 : szOf Try.prog 111 = some 1 := by kernel_rfl
theorem ag111 : aggOf Try.prog 111 = some false := by kernel_rfl
theorem zr111 : zrOf Try.prog 111 = some [.nilFunc] := by kernel_rfl
theorem zv111 : zvOf Try.prog 111 = some (.nilFunc) := by kernel_rfl
theorem by111 : byOf Try.prog 111 = some 8 := by kernel_rfl
theorem sz112 : szOf Try.prog 112 = some 1 := by kernel_rfl
theorem ag112 : aggOf Try.prog 112 = some false := by kernel_rfl
theorem zr112 : zrOf Try.prog 112 = some [.nilFunc] := by kernel_rfl
theorem zv112 : zvOf Try.prog 112 = some (.nilFunc) := by kernel_rfl
theorem by112 : byOf Try.prog 112 = some 8 := by kernel_rfl
theorem sz113 : szOf Try.prog 113 = some 1 := by kernel_rfl
theorem ag113 : aggOf Try.prog 113 = some false := by kernel_rfl
theorem zr113 : zrOf Try.prog 113 = some [.nilFunc] := by kernel_rfl
theorem zv113 : zvOf Try.prog 113 = some (.nilFunc) := by kernel_rfl
theorem by113 : byOf Try.prog 113 = some 8 := by kernel_rfl
theorem sz114 : szOf Try.prog 114 = some 2 := by kernel_rfl
theorem ag114 : aggOf Try.prog 114 = some true := by kernel_rfl
theorem zr114 : zrOf Try.prog 114 = some [.string ⟨#[]⟩, .bool false] := by kernel_rfl
theorem zv114 : zvOf Try.prog 114 = some (.agg ⟨[.string ⟨#[]⟩, .bool false]⟩) := by kernel_rfl
theorem by114 : byOf Try.prog 114 = some 24 := by kernel_rfl
theorem fo114_0 : fieldOff Try.prog 114 0 = some 0 := by kernel_rfl
theorem ft114_0 : fieldTy Try.prog 114 0 = some (9, 0) := by kernel_rfl
theorem fo114_1 : fieldOff Try.prog 114 1 = some 1 := by kernel_rfl
theorem ft114_1 : fieldTy Try.prog 114 1 = some (4, 1) := by kernel_rfl
theorem bs114 : structAt Try.prog 114 = some [(0, 1), (1, 1)] := by kernel_rfl
theorem sz115 : szOf Try.prog 115 = some 2 := by kernel_rfl
theorem ag115 : aggOf Try.prog 115 = some true := by kernel_rfl
theorem zr115 : zrOf Try.prog 115 = some [.string ⟨#[]⟩, .bool false] := by kernel_rfl
theorem zv115 : zvOf Try.prog 115 = some (.agg ⟨[.string ⟨#[]⟩, .bool false]⟩) := by kernel_rfl
theorem by115 : byOf Try.prog 115 = some 24 := by kernel_rfl
theorem fo115_0 : fieldOff Try.prog 115 0 = some 0 := by kernel_rfl
theorem ft115_0 : fieldTy Try.prog 115 0 = some (9, 0) := by kernel_rfl
theorem fo115_1 : fieldOff Try.prog 115 1 = some 1 := by kernel_rfl
theorem ft115_1 : fieldTy Try.prog 115 1 = some (4, 1) := by kernel_rfl
theorem bs115 : structAt Try.prog 115 = some [(0, 1), (1, 1)] := by kernel_rfl
theorem sz116 : szOf Try.prog 116 = some 2 := by kernel_rfl
theorem ag116 : aggOf Try.prog 116 = some true := by kernel_rfl
theorem zr116 : zrOf Try.prog 116 = some [.string ⟨#[]⟩, .bool false] := by kernel_rfl
theorem zv116 : zvOf Try.prog 116 = some (.agg ⟨[.string ⟨#[]⟩, .bool false]⟩) := by kernel_rfl
theorem by116 : byOf Try.prog 116 = some 24 := by kernel_rfl
theorem fo116_0 : fieldOff Try.prog 116 0 = some 0 := by kernel_rfl
theorem ft116_0 : fieldTy Try.prog 116 0 = some (115, 0) := by kernel_rfl
theorem bs116 : structAt Try.prog 116 = some [(0, 2)] := by kernel_rfl
theorem sz117 : szOf Try.prog 117 = some 2 := by kernel_rfl
theorem ag117 : aggOf Try.prog 117 = some true := by kernel_rfl
theorem zr117 : zrOf Try.prog 117 = some [.string ⟨#[]⟩, .bool false] := by kernel_rfl
theorem zv117 : zvOf Try.prog 117 = some (.agg ⟨[.string ⟨#[]⟩, .bool false]⟩) := by kernel_rfl
theorem by117 : byOf Try.prog 117 = some 24 := by kernel_rfl
theorem fo117_0 : fieldOff Try.prog 117 0 = some 0 := by kernel_rfl
theorem ft117_0 : fieldTy Try.prog 117 0 = some (115, 0) := by kernel_rfl
theorem bs117 : structAt Try.prog 117 = some [(0, 2)] := by kernel_rfl
theorem sz118 : szOf Try.prog 118 = some 2 := by kernel_rfl
theorem ag118 : aggOf Try.prog 118 = some true := by kernel_rfl
theorem zr118 : zrOf Try.prog 118 = some [.string ⟨#[]⟩, .bool false] := by kernel_rfl
theorem zv118 : zvOf Try.prog 118 = some (.agg ⟨[.string ⟨#[]⟩, .bool false]⟩) := by kernel_rfl
theorem by118 : byOf Try.prog 118 = some 24 := by kernel_rfl
theorem fo118_0 : fieldOff Try.prog 118 0 = some 0 := by kernel_rfl
theorem ft118_0 : fieldTy Try.prog 118 0 = some (117, 0) := by kernel_rfl
theorem bs118 : structAt Try.prog 118 = some [(0, 2)] := by kernel_rfl
theorem sz119 : szOf Try.prog 119 = some 2 := by kernel_rfl
theorem ag119 : aggOf Try.prog 119 = some true := by kernel_rfl
theorem zr119 : zrOf Try.prog 119 = some [.string ⟨#[]⟩, .bool false] := by kernel_rfl
theorem zv119 : zvOf Try.prog 119 = some (.agg ⟨[.string ⟨#[]⟩, .bool false]⟩) := by kernel_rfl
theorem by119 : byOf Try.prog 119 = some 24 := by kernel_rfl
theorem fo119_0 : fieldOff Try.prog 119 0 = some 0 := by kernel_rfl
theorem ft119_0 : fieldTy Try.prog 119 0 = some (117, 0) := by kernel_rfl
theorem bs119 : structAt Try.prog 119 = some [(0, 2)] := by kernel_rfl
theorem sz120 : szOf Try.prog 120 = some 1 := by kernel_rfl
theorem ag120 : aggOf Try.prog 120 = some false := by kernel_rfl
theorem zr120 : zrOf Try.prog 120 = some [.nilFunc] := by kernel_rfl
theorem zv120 : zvOf Try.prog 120 = some (.nilFunc) := by kernel_rfl
theorem by120 : byOf Try.prog 120 = some 8 := by kernel_rfl
theorem sz121 : szOf Try.prog 121 = some 1 := by kernel_rfl
theorem ag121 : aggOf Try.prog 121 = some false := by kernel_rfl
theorem zr121 : zrOf Try.prog 121 = some [.nilFunc] := by kernel_rfl
theorem zv121 : zvOf Try.prog 121 = some (.nilFunc) := by kernel_rfl
theorem by121 : byOf Try.prog 121 = some 8 := by kernel_rfl
theorem sz122 : szOf Try.prog 122 = some 1 := by kernel_rfl
theorem ag122 : aggOf Try.prog 122 = some false := by kernel_rfl
theorem zr122 : zrOf Try.prog 122 = some [.nilFunc] := by kernel_rfl
theorem zv122 : zvOf Try.prog 122 = some (.nilFunc) := by kernel_rfl
theorem by122 : byOf Try.prog 122 = some 8 := by kernel_rfl
theorem sz123 : szOf Try.prog 123 = some 1 := by kernel_rfl
theorem ag123 : aggOf Try.prog 123 = some false := by kernel_rfl
theorem sz124 : szOf Try.prog 124 = some 1 := by kernel_rfl
theorem ag124 : aggOf Try.prog 124 = some false := by kernel_rfl
theorem zr124 : zrOf Try.prog 124 = some [.nilFunc] := by kernel_rfl
theorem zv124 : zvOf Try.prog 124 = some (.nilFunc) := by kernel_rfl
theorem by124 : byOf Try.prog 124 = some 8 := by kernel_rfl
theorem sz125 : szOf Try.prog 125 = some 1 := by kernel_rfl
theorem ag125 : aggOf Try.prog 125 = some false := by kernel_rfl
theorem zr125 : zrOf Try.prog 125 = some [.nilFunc] := by kernel_rfl
theorem zv125 : zvOf Try.prog 125 = some (.nilFunc) := by kernel_rfl
theorem by125 : byOf Try.prog 125 = some 8 := by kernel_rfl
theorem sz126 : szOf Try.prog 126 = some 1 := by kernel_rfl
theorem ag126 : aggOf Try.prog 126 = some false := by kernel_rfl
theorem zr126 : zrOf Try.prog 126 = some [.nilFunc] := by kernel_rfl
theorem zv126 : zvOf Try.prog 126 = some (.nilFunc) := by kernel_rfl
theorem by126 : byOf Try.prog 126 = some 8 := by kernel_rfl
theorem sz127 : szOf Try.prog 127 = some 1 := by kernel_rfl
theorem ag127 : aggOf Try.prog 127 = some false := by kernel_rfl
theorem zr127 : zrOf Try.prog 127 = some [.nilFunc] := by kernel_rfl
theorem zv127 : zvOf Try.prog 127 = some (.nilFunc) := by kernel_rfl
theorem by127 : byOf Try.prog 127 = some 8 := by kernel_rfl
theorem sz128 : szOf Try.prog 128 = some 1 := by kernel_rfl
theorem ag128 : aggOf Try.prog 128 = some false := by kernel_rfl
theorem zr128 : zrOf Try.prog 128 = some [.nilFunc] := by kernel_rfl
theorem zv128 : zvOf Try.prog 128 = some (.nilFunc) := by kernel_rfl
theorem by128 : byOf Try.prog 128 = some 8 := by kernel_rfl
theorem sz129 : szOf Try.prog 129 = some 1 := by kernel_rfl
theorem ag129 : aggOf Try.prog 129 = some false := by kernel_rfl
theorem zr129 : zrOf Try.prog 129 = some [.nilFunc] := by kernel_rfl
theorem zv129 : zvOf Try.prog 129 = some (.nilFunc) := by kernel_rfl
theorem by129 : byOf Try.prog 129 = some 8 := by kernel_rfl
theorem cal3 : callee Try.prog 3 = true := by kernel_rfl
theorem cal4 : callee Try.prog 4 = true := by kernel_rfl
theorem cal5 : callee Try.prog 5 = true := by kernel_rfl
theorem cal6 : callee Try.prog 6 = true := by kernel_rfl
theorem cal7 : callee Try.prog 7 = true := by kernel_rfl
theorem cal8 : callee Try.prog 8 = true := by kernel_rfl
theorem cal9 : callee Try.prog 9 = true := by kernel_rfl
theorem cal10 : callee Try.prog 10 = true := by kernel_rfl
theorem cal11 : callee Try.prog 11 = true := by kernel_rfl
theorem cal12 : callee Try.prog 12 = true := by kernel_rfl
theorem cal13 : callee Try.prog 13 = true := by kernel_rfl
theorem cal14 : callee Try.prog 14 = true := by kernel_rfl
theorem cal15 : callee Try.prog 15 = true := by kernel_rfl
theorem cal16 : callee Try.prog 16 = true := by kernel_rfl
theorem cal17 : callee Try.prog 17 = true := by kernel_rfl
theorem cal18 : callee Try.prog 18 = true := by kernel_rfl
theorem cal19 : callee Try.prog 19 = true := by kernel_rfl
theorem cal20 : callee Try.prog 20 = true := by kernel_rfl
theorem cal21 : callee Try.prog 21 = true := by kernel_rfl
theorem cal22 : callee Try.prog 22 = true := by kernel_rfl
theorem cal23 : callee Try.prog 23 = true := by kernel_rfl
theorem cal24 : callee Try.prog 24 = true := by kernel_rfl
theorem cal25 : callee Try.prog 25 = true := by kernel_rfl
theorem cal26 : callee Try.prog 26 = true := by kernel_rfl
theorem cal27 : callee Try.prog 27 = true := by kernel_rfl
theorem cal28 : callee Try.prog 28 = true := by kernel_rfl
theorem cal29 : callee Try.prog 29 = true := by kernel_rfl
theorem cal30 : callee Try.prog 30 = true := by kernel_rfl
theorem cal31 : callee Try.prog 31 = true := by kernel_rfl
theorem cal32 : callee Try.prog 32 = true := by kernel_rfl
theorem cal33 : callee Try.prog 33 = true := by kernel_rfl
theorem cal34 : callee Try.prog 34 = true := by kernel_rfl
theorem cal35 : callee Try.prog 35 = true := by kernel_rfl
theorem cal36 : callee Try.prog 36 = true := by kernel_rfl
theorem cal37 : callee Try.prog 37 = true := by kernel_rfl
theorem cal38 : callee Try.prog 38 = true := by kernel_rfl
theorem cal39 : callee Try.prog 39 = true := by kernel_rfl
theorem cal40 : callee Try.prog 40 = true := by kernel_rfl
theorem cal42 : callee Try.prog 42 = true := by kernel_rfl
theorem cal43 : callee Try.prog 43 = true := by kernel_rfl
theorem cal44 : callee Try.prog 44 = true := by kernel_rfl
theorem cal45 : callee Try.prog 45 = true := by kernel_rfl
theorem cal46 : callee Try.prog 46 = true := by kernel_rfl
theorem cal47 : callee Try.prog 47 = true := by kernel_rfl
theorem cal48 : callee Try.prog 48 = true := by kernel_rfl
theorem cal49 : callee Try.prog 49 = true := by kernel_rfl
theorem cal50 : callee Try.prog 50 = true := by kernel_rfl
theorem cal51 : callee Try.prog 51 = true := by kernel_rfl
theorem cal52 : callee Try.prog 52 = true := by kernel_rfl
theorem cal53 : callee Try.prog 53 = true := by kernel_rfl
theorem cal54 : callee Try.prog 54 = true := by kernel_rfl
theorem cal55 : callee Try.prog 55 = true := by kernel_rfl
theorem cal56 : callee Try.prog 56 = true := by kernel_rfl
theorem cal57 : callee Try.prog 57 = true := by kernel_rfl
theorem cal58 : callee Try.prog 58 = true := by kernel_rfl
theorem cal59 : callee Try.prog 59 = true := by kernel_rfl
theorem cal60 : callee Try.prog 60 = true := by kernel_rfl
theorem cal61 : callee Try.prog 61 = true := by kernel_rfl
theorem cal63 : callee Try.prog 63 = true := by kernel_rfl
theorem cal64 : callee Try.prog 64 = true := by kernel_rfl
theorem cal65 : callee Try.prog 65 = true := by kernel_rfl
theorem cal66 : callee Try.prog 66 = true := by kernel_rfl
theorem cal67 : callee Try.prog 67 = true := by kernel_rfl
theorem cal68 : callee Try.prog 68 = true := by kernel_rfl
theorem cal69 : callee Try.prog 69 = true := by kernel_rfl
theorem cal70 : callee Try.prog 70 = true := by kernel_rfl
theorem cal71 : callee Try.prog 71 = true := by kernel_rfl
theorem cal72 : callee Try.prog 72 = true := by kernel_rfl
theorem cal73 : callee Try.prog 73 = true := by kernel_rfl
theorem cal74 : callee Try.prog 74 = true := by kernel_rfl
theorem cal75 : callee Try.prog 75 = true := by kernel_rfl
theorem cal76 : callee Try.prog 76 = true := by kernel_rfl
theorem cal78 : callee Try.prog 78 = true := by kernel_rfl
theorem cal79 : callee Try.prog 79 = true := by kernel_rfl
theorem cal80 : callee Try.prog 80 = true := by kernel_rfl
theorem mixed : Try.prog.follows .mixedOrders = true := by kernel_rfl
theorem ce9 : Try.prog.cellsOf 9 = 1 := by kernel_rfl
theorem be9 : Try.prog.bytesOf 9 = 16 := by kernel_rfl
theorem ce4 : Try.prog.cellsOf 4 = 1 := by kernel_rfl
theorem be4 : Try.prog.bytesOf 4 = 1 := by kernel_rfl
theorem ce3 : Try.prog.cellsOf 3 = 1 := by kernel_rfl
theorem be3 : Try.prog.bytesOf 3 = 8 := by kernel_rfl
theorem cal77 : callee Try.prog 77 = true := by kernel_rfl
theorem ar137 : arOf Try.prog 137 = some (3, 40, 1) := by kernel_rfl
theorem zv137 : zvOf Try.prog 137 = some (.agg ⟨[.int .u64 0, .int .u64 0, .int .u64 0]⟩) := by kernel_rfl
end Go.Proofs.Ytjoaccnfnniahaa
