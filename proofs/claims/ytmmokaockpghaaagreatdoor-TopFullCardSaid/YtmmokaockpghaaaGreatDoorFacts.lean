/- Facts on the types and functions of the program, met by the kernel. -/
import Derived.Test.YtmmokaockpghaaaGreatDoorSyE
import Derived.Test.YtmmokaockpghaaaGreatDoorProg
namespace Go.Proofs.YtmmokaockpghaaaGreatDoor
open Go.Sy
theorem sl152 : slOf Tryz.prog 152 = some (2, 1) := by kernel_rfl
theorem ar39 : arOf Tryz.prog 39 = some (3, 2, 1) := by kernel_rfl
theorem sl172 : slOf Tryz.prog 172 = some (3, 1) := by kernel_rfl
theorem ag9 : aggOf Tryz.prog 9 = some false := by kernel_rfl
theorem sz2 : szOf Tryz.prog 2 = some 1 := by kernel_rfl
theorem cal72 : callee Tryz.prog 72 = true := by kernel_rfl
theorem cal114 : callee Tryz.prog 114 = true := by kernel_rfl
theorem cal116 : callee Tryz.prog 116 = true := by kernel_rfl
theorem cal172 : callee Tryz.prog 172 = true := by kernel_rfl
theorem cal56 : callee Tryz.prog 56 = true := by kernel_rfl
theorem cal58 : callee Tryz.prog 58 = true := by kernel_rfl
theorem cal60 : callee Tryz.prog 60 = true := by kernel_rfl
theorem sl23 : slOf Tryz.prog 23 = some (42, 9) := by kernel_rfl
theorem cal62 : callee Tryz.prog 62 = true := by kernel_rfl
theorem cal65 : callee Tryz.prog 65 = true := by kernel_rfl
theorem sl40 : slOf Tryz.prog 40 = some (57, 2) := by kernel_rfl
theorem sz57 : szOf Tryz.prog 57 = some 2 := by kernel_rfl
theorem by57 : byOf Tryz.prog 57 = some 32 := by kernel_rfl
theorem zv57 : zvOf Tryz.prog 57 = some (.agg ⟨[.string ⟨#[]⟩, .string ⟨#[]⟩]⟩) := by kernel_rfl
theorem sl22 : slOf Tryz.prog 22 = some (45, 6) := by kernel_rfl
theorem sz45 : szOf Tryz.prog 45 = some 6 := by kernel_rfl
theorem by45 : byOf Tryz.prog 45 = some 88 := by kernel_rfl
theorem zv45 : zvOf Tryz.prog 45 = some (.agg ⟨[.string ⟨#[]⟩, .int .i64 0, .int .i64 0, .int .i64 0, .slice none 0 0, .slice none 0 0]⟩) := by kernel_rfl
theorem sz42 : szOf Tryz.prog 42 = some 9 := by kernel_rfl
theorem by42 : byOf Tryz.prog 42 = some 128 := by kernel_rfl
theorem zv42 : zvOf Tryz.prog 42 = some (.agg ⟨[.string ⟨#[]⟩, .int .i64 0, .int .i64 0, .int .i64 0, .slice none 0 0, .slice none 0 0, .string ⟨#[]⟩, .string ⟨#[]⟩, .int .i64 0]⟩) := by kernel_rfl
theorem sl24 : slOf Tryz.prog 24 = some (51, 2) := by kernel_rfl
theorem sz51 : szOf Tryz.prog 51 = some 2 := by kernel_rfl
theorem by51 : byOf Tryz.prog 51 = some 32 := by kernel_rfl
theorem zv51 : zvOf Tryz.prog 51 = some (.agg ⟨[.string ⟨#[]⟩, .string ⟨#[]⟩]⟩) := by kernel_rfl
theorem ag42 : aggOf Tryz.prog 42 = some true := by kernel_rfl
theorem cal42 : callee Tryz.prog 42 = true := by kernel_rfl
theorem sl66 : slOf Tryz.prog 66 = some (65, 19) := by kernel_rfl
theorem ag2 : aggOf Tryz.prog 2 = some false := by kernel_rfl
theorem zr2 : zrOf Tryz.prog 2 = some [.int .i64 0] := by kernel_rfl
theorem sz3 : szOf Tryz.prog 3 = some 1 := by kernel_rfl
theorem ag3 : aggOf Tryz.prog 3 = some false := by kernel_rfl
theorem zr3 : zrOf Tryz.prog 3 = some [.int .i64 0] := by kernel_rfl
theorem zv3 : zvOf Tryz.prog 3 = some (.int .i64 0) := by kernel_rfl
theorem ag4 : aggOf Tryz.prog 4 = some false := by kernel_rfl
theorem sz9 : szOf Tryz.prog 9 = some 1 := by kernel_rfl
theorem zv9 : zvOf Tryz.prog 9 = some (.string ⟨#[]⟩) := by kernel_rfl
theorem by9 : byOf Tryz.prog 9 = some 16 := by kernel_rfl
theorem sz22 : szOf Tryz.prog 22 = some 1 := by kernel_rfl
theorem ag22 : aggOf Tryz.prog 22 = some false := by kernel_rfl
theorem sz23 : szOf Tryz.prog 23 = some 1 := by kernel_rfl
theorem ag23 : aggOf Tryz.prog 23 = some false := by kernel_rfl
theorem sz24 : szOf Tryz.prog 24 = some 1 := by kernel_rfl
theorem ag24 : aggOf Tryz.prog 24 = some false := by kernel_rfl
theorem sz25 : szOf Tryz.prog 25 = some 1 := by kernel_rfl
theorem ag25 : aggOf Tryz.prog 25 = some false := by kernel_rfl
theorem sz27 : szOf Tryz.prog 27 = some 4 := by kernel_rfl
theorem ag27 : aggOf Tryz.prog 27 = some true := by kernel_rfl
theorem zr27 : zrOf Tryz.prog 27 = some [.slice none 0 0, .slice none 0 0, .slice none 0 0, .int .u64 0] := by kernel_rfl
theorem zv27 : zvOf Tryz.prog 27 = some (.agg ⟨[.slice none 0 0, .slice none 0 0, .slice none 0 0, .int .u64 0]⟩) := by kernel_rfl
theorem fo27_0 : fieldOff Tryz.prog 27 0 = some 0 := by kernel_rfl
theorem ft27_0 : fieldTy Tryz.prog 27 0 = some (22, 0) := by kernel_rfl
theorem fo27_1 : fieldOff Tryz.prog 27 1 = some 1 := by kernel_rfl
theorem fo27_2 : fieldOff Tryz.prog 27 2 = some 2 := by kernel_rfl
theorem fo27_3 : fieldOff Tryz.prog 27 3 = some 3 := by kernel_rfl
theorem bs27 : structAt Tryz.prog 27 = some [(0, 1), (1, 1), (2, 1), (3, 1)] := by kernel_rfl
theorem sz28 : szOf Tryz.prog 28 = some 1 := by kernel_rfl
theorem ag28 : aggOf Tryz.prog 28 = some false := by kernel_rfl
theorem zv28 : zvOf Tryz.prog 28 = some (.int .i64 0) := by kernel_rfl
theorem ag31 : aggOf Tryz.prog 31 = some false := by kernel_rfl
theorem sl31 : slOf Tryz.prog 31 = some (47, 9) := by kernel_rfl
theorem sz34 : szOf Tryz.prog 34 = some 1 := by kernel_rfl
theorem ag34 : aggOf Tryz.prog 34 = some false := by kernel_rfl
theorem zr34 : zrOf Tryz.prog 34 = some [.slice none 0 0] := by kernel_rfl
theorem sl34 : slOf Tryz.prog 34 = some (9, 1) := by kernel_rfl
theorem sz39 : szOf Tryz.prog 39 = some 3 := by kernel_rfl
theorem ag39 : aggOf Tryz.prog 39 = some true := by kernel_rfl
theorem zr39 : zrOf Tryz.prog 39 = some [.int .i64 0, .int .i64 0, .int .i64 0] := by kernel_rfl
theorem zv39 : zvOf Tryz.prog 39 = some (.agg ⟨[.int .i64 0, .int .i64 0, .int .i64 0]⟩) := by kernel_rfl
theorem sz40 : szOf Tryz.prog 40 = some 1 := by kernel_rfl
theorem ag40 : aggOf Tryz.prog 40 = some false := by kernel_rfl
theorem zr42 : zrOf Tryz.prog 42 = some [.string ⟨#[]⟩, .int .i64 0, .int .i64 0, .int .i64 0, .slice none 0 0, .slice none 0 0, .string ⟨#[]⟩, .string ⟨#[]⟩, .int .i64 0] := by kernel_rfl
theorem fo42_0 : fieldOff Tryz.prog 42 0 = some 0 := by kernel_rfl
theorem fo42_1 : fieldOff Tryz.prog 42 1 = some 1 := by kernel_rfl
theorem fo42_2 : fieldOff Tryz.prog 42 2 = some 4 := by kernel_rfl
theorem fo42_3 : fieldOff Tryz.prog 42 3 = some 5 := by kernel_rfl
theorem fo42_4 : fieldOff Tryz.prog 42 4 = some 6 := by kernel_rfl
theorem fo42_5 : fieldOff Tryz.prog 42 5 = some 7 := by kernel_rfl
theorem fo42_6 : fieldOff Tryz.prog 42 6 = some 8 := by kernel_rfl
theorem bs42 : structAt Tryz.prog 42 = some [(0, 1), (1, 3), (4, 1), (5, 1), (6, 1), (7, 1), (8, 1)] := by kernel_rfl
theorem ag45 : aggOf Tryz.prog 45 = some true := by kernel_rfl
theorem zr45 : zrOf Tryz.prog 45 = some [.string ⟨#[]⟩, .int .i64 0, .int .i64 0, .int .i64 0, .slice none 0 0, .slice none 0 0] := by kernel_rfl
theorem fo45_0 : fieldOff Tryz.prog 45 0 = some 0 := by kernel_rfl
theorem fo45_1 : fieldOff Tryz.prog 45 1 = some 1 := by kernel_rfl
theorem fo45_2 : fieldOff Tryz.prog 45 2 = some 4 := by kernel_rfl
theorem fo45_3 : fieldOff Tryz.prog 45 3 = some 5 := by kernel_rfl
theorem bs45 : structAt Tryz.prog 45 = some [(0, 1), (1, 3), (4, 1), (5, 1)] := by kernel_rfl
theorem sz47 : szOf Tryz.prog 47 = some 9 := by kernel_rfl
theorem ag47 : aggOf Tryz.prog 47 = some true := by kernel_rfl
theorem zr47 : zrOf Tryz.prog 47 = some [.string ⟨#[]⟩, .int .i64 0, .int .i64 0, .int .i64 0, .slice none 0 0, .slice none 0 0, .int .i64 0, .int .i64 0, .int .i64 0] := by kernel_rfl
theorem zv47 : zvOf Tryz.prog 47 = some (.agg ⟨[.string ⟨#[]⟩, .int .i64 0, .int .i64 0, .int .i64 0, .slice none 0 0, .slice none 0 0, .int .i64 0, .int .i64 0, .int .i64 0]⟩) := by kernel_rfl
theorem by47 : byOf Tryz.prog 47 = some 112 := by kernel_rfl
theorem fo47_0 : fieldOff Tryz.prog 47 0 = some 0 := by kernel_rfl
theorem fo47_1 : fieldOff Tryz.prog 47 1 = some 6 := by kernel_rfl
theorem bs47 : structAt Tryz.prog 47 = some [(0, 6), (6, 3)] := by kernel_rfl
theorem ag51 : aggOf Tryz.prog 51 = some true := by kernel_rfl
theorem zr51 : zrOf Tryz.prog 51 = some [.string ⟨#[]⟩, .string ⟨#[]⟩] := by kernel_rfl
theorem fo51_0 : fieldOff Tryz.prog 51 0 = some 0 := by kernel_rfl
theorem fo51_1 : fieldOff Tryz.prog 51 1 = some 1 := by kernel_rfl
theorem bs51 : structAt Tryz.prog 51 = some [(0, 1), (1, 1)] := by kernel_rfl
theorem ag57 : aggOf Tryz.prog 57 = some true := by kernel_rfl
theorem zr57 : zrOf Tryz.prog 57 = some [.string ⟨#[]⟩, .string ⟨#[]⟩] := by kernel_rfl
theorem fo57_0 : fieldOff Tryz.prog 57 0 = some 0 := by kernel_rfl
theorem fo57_1 : fieldOff Tryz.prog 57 1 = some 1 := by kernel_rfl
theorem bs57 : structAt Tryz.prog 57 = some [(0, 1), (1, 1)] := by kernel_rfl
theorem sz60 : szOf Tryz.prog 60 = some 2 := by kernel_rfl
theorem ag60 : aggOf Tryz.prog 60 = some true := by kernel_rfl
theorem zr60 : zrOf Tryz.prog 60 = some [.int .i64 0, .string ⟨#[]⟩] := by kernel_rfl
theorem zv60 : zvOf Tryz.prog 60 = some (.agg ⟨[.int .i64 0, .string ⟨#[]⟩]⟩) := by kernel_rfl
theorem fo60_0 : fieldOff Tryz.prog 60 0 = some 0 := by kernel_rfl
theorem fo60_1 : fieldOff Tryz.prog 60 1 = some 1 := by kernel_rfl
theorem bs60 : structAt Tryz.prog 60 = some [(0, 1), (1, 1)] := by kernel_rfl
theorem ag63 : aggOf Tryz.prog 63 = some false := by kernel_rfl
theorem sz65 : szOf Tryz.prog 65 = some 19 := by kernel_rfl
theorem ag65 : aggOf Tryz.prog 65 = some true := by kernel_rfl
theorem zr65 : zrOf Tryz.prog 65 = some [.int .u8 0, .string ⟨#[]⟩, .int .i64 0, .int .i64 0, .int .i64 0, .slice none 0 0, .slice none 0 0, .string ⟨#[]⟩, .int .i64 0, .int .i64 0, .int .i64 0, .slice none 0 0, .slice none 0 0, .string ⟨#[]⟩, .string ⟨#[]⟩, .int .i64 0, .string ⟨#[]⟩, .string ⟨#[]⟩, .int .u64 0] := by kernel_rfl
theorem zv65 : zvOf Tryz.prog 65 = some (.agg ⟨[.int .u8 0, .string ⟨#[]⟩, .int .i64 0, .int .i64 0, .int .i64 0, .slice none 0 0, .slice none 0 0, .string ⟨#[]⟩, .int .i64 0, .int .i64 0, .int .i64 0, .slice none 0 0, .slice none 0 0, .string ⟨#[]⟩, .string ⟨#[]⟩, .int .i64 0, .string ⟨#[]⟩, .string ⟨#[]⟩, .int .u64 0]⟩) := by kernel_rfl
theorem by65 : byOf Tryz.prog 65 = some 264 := by kernel_rfl
theorem fo65_0 : fieldOff Tryz.prog 65 0 = some 0 := by kernel_rfl
theorem fo65_1 : fieldOff Tryz.prog 65 1 = some 1 := by kernel_rfl
theorem fo65_2 : fieldOff Tryz.prog 65 2 = some 7 := by kernel_rfl
theorem fo65_3 : fieldOff Tryz.prog 65 3 = some 16 := by kernel_rfl
theorem fo65_4 : fieldOff Tryz.prog 65 4 = some 17 := by kernel_rfl
theorem fo65_5 : fieldOff Tryz.prog 65 5 = some 18 := by kernel_rfl
theorem bs65 : structAt Tryz.prog 65 = some [(0, 1), (1, 6), (7, 9), (16, 1), (17, 1), (18, 1)] := by kernel_rfl
theorem sz91 : szOf Tryz.prog 91 = some 1 := by kernel_rfl
theorem ag91 : aggOf Tryz.prog 91 = some false := by kernel_rfl
theorem zr91 : zrOf Tryz.prog 91 = some [.pointer none] := by kernel_rfl
theorem zv93 : zvOf Tryz.prog 93 = some (.agg ⟨[.slice none 0 0, .slice none 0 0, .slice none 0 0, .int .u64 0]⟩) := by kernel_rfl
theorem fo93_0 : fieldOff Tryz.prog 93 0 = some 0 := by kernel_rfl
theorem bs93 : structAt Tryz.prog 93 = some [(0, 4)] := by kernel_rfl
theorem sz113 : szOf Tryz.prog 113 = some 1 := by kernel_rfl
theorem ag113 : aggOf Tryz.prog 113 = some false := by kernel_rfl
theorem sl113 : slOf Tryz.prog 113 = some (170, 3) := by kernel_rfl
theorem sz115 : szOf Tryz.prog 115 = some 3 := by kernel_rfl
theorem ag115 : aggOf Tryz.prog 115 = some true := by kernel_rfl
theorem zr115 : zrOf Tryz.prog 115 = some [.slice none 0 0, .bool false, .int .i64 0] := by kernel_rfl
theorem zv115 : zvOf Tryz.prog 115 = some (.agg ⟨[.slice none 0 0, .bool false, .int .i64 0]⟩) := by kernel_rfl
theorem fo115_0 : fieldOff Tryz.prog 115 0 = some 0 := by kernel_rfl
theorem fo115_1 : fieldOff Tryz.prog 115 1 = some 1 := by kernel_rfl
theorem fo115_2 : fieldOff Tryz.prog 115 2 = some 2 := by kernel_rfl
theorem bs115 : structAt Tryz.prog 115 = some [(0, 1), (1, 1), (2, 1)] := by kernel_rfl
theorem cal14 : callee Tryz.prog 14 = true := by kernel_rfl
theorem cal16 : callee Tryz.prog 16 = true := by kernel_rfl
theorem cal18 : callee Tryz.prog 18 = true := by kernel_rfl
theorem cal21 : callee Tryz.prog 21 = true := by kernel_rfl
theorem cal22 : callee Tryz.prog 22 = true := by kernel_rfl
theorem cal23 : callee Tryz.prog 23 = true := by kernel_rfl
theorem cal24 : callee Tryz.prog 24 = true := by kernel_rfl
theorem cal27 : callee Tryz.prog 27 = true := by kernel_rfl
theorem cal28 : callee Tryz.prog 28 = true := by kernel_rfl
theorem cal30 : callee Tryz.prog 30 = true := by kernel_rfl
theorem cal34 : callee Tryz.prog 34 = true := by kernel_rfl
theorem cal35 : callee Tryz.prog 35 = true := by kernel_rfl
theorem cal36 : callee Tryz.prog 36 = true := by kernel_rfl
theorem cal37 : callee Tryz.prog 37 = true := by kernel_rfl
theorem cal38 : callee Tryz.prog 38 = true := by kernel_rfl
theorem cal39 : callee Tryz.prog 39 = true := by kernel_rfl
theorem cal40 : callee Tryz.prog 40 = true := by kernel_rfl
theorem cal41 : callee Tryz.prog 41 = true := by kernel_rfl
theorem cal49 : callee Tryz.prog 49 = true := by kernel_rfl
theorem cal50 : callee Tryz.prog 50 = true := by kernel_rfl
theorem cal51 : callee Tryz.prog 51 = true := by kernel_rfl
theorem cal54 : callee Tryz.prog 54 = true := by kernel_rfl
theorem cal55 : callee Tryz.prog 55 = true := by kernel_rfl
theorem cal57 : callee Tryz.prog 57 = true := by kernel_rfl
theorem cal59 : callee Tryz.prog 59 = true := by kernel_rfl
theorem cal61 : callee Tryz.prog 61 = true := by kernel_rfl
theorem cal63 : callee Tryz.prog 63 = true := by kernel_rfl
theorem cal64 : callee Tryz.prog 64 = true := by kernel_rfl
theorem cal66 : callee Tryz.prog 66 = true := by kernel_rfl
theorem cal67 : callee Tryz.prog 67 = true := by kernel_rfl
theorem cal68 : callee Tryz.prog 68 = true := by kernel_rfl
theorem cal69 : callee Tryz.prog 69 = true := by kernel_rfl
theorem cal70 : callee Tryz.prog 70 = true := by kernel_rfl
theorem cal71 : callee Tryz.prog 71 = true := by kernel_rfl
theorem cal73 : callee Tryz.prog 73 = true := by kernel_rfl
theorem cal74 : callee Tryz.prog 74 = true := by kernel_rfl
theorem cal75 : callee Tryz.prog 75 = true := by kernel_rfl
theorem cal76 : callee Tryz.prog 76 = true := by kernel_rfl
theorem cal77 : callee Tryz.prog 77 = true := by kernel_rfl
theorem cal78 : callee Tryz.prog 78 = true := by kernel_rfl
theorem cal79 : callee Tryz.prog 79 = true := by kernel_rfl
theorem cal80 : callee Tryz.prog 80 = true := by kernel_rfl
theorem cal83 : callee Tryz.prog 83 = true := by kernel_rfl
theorem cal84 : callee Tryz.prog 84 = true := by kernel_rfl
theorem cal85 : callee Tryz.prog 85 = true := by kernel_rfl
theorem cal86 : callee Tryz.prog 86 = true := by kernel_rfl
theorem cal87 : callee Tryz.prog 87 = true := by kernel_rfl
theorem cal88 : callee Tryz.prog 88 = true := by kernel_rfl
theorem cal89 : callee Tryz.prog 89 = true := by kernel_rfl
theorem cal90 : callee Tryz.prog 90 = true := by kernel_rfl
theorem cal91 : callee Tryz.prog 91 = true := by kernel_rfl
theorem cal92 : callee Tryz.prog 92 = true := by kernel_rfl
theorem cal93 : callee Tryz.prog 93 = true := by kernel_rfl
theorem cal94 : callee Tryz.prog 94 = true := by kernel_rfl
theorem cal95 : callee Tryz.prog 95 = true := by kernel_rfl
theorem cal96 : callee Tryz.prog 96 = true := by kernel_rfl
theorem cal97 : callee Tryz.prog 97 = true := by kernel_rfl
theorem cal98 : callee Tryz.prog 98 = true := by kernel_rfl
theorem cal99 : callee Tryz.prog 99 = true := by kernel_rfl
theorem cal100 : callee Tryz.prog 100 = true := by kernel_rfl
theorem cal109 : callee Tryz.prog 109 = true := by kernel_rfl
theorem cal110 : callee Tryz.prog 110 = true := by kernel_rfl
theorem cal111 : callee Tryz.prog 111 = true := by kernel_rfl
theorem cal112 : callee Tryz.prog 112 = true := by kernel_rfl
theorem cal113 : callee Tryz.prog 113 = true := by kernel_rfl
theorem cal115 : callee Tryz.prog 115 = true := by kernel_rfl
theorem cal117 : callee Tryz.prog 117 = true := by kernel_rfl
theorem cal118 : callee Tryz.prog 118 = true := by kernel_rfl
theorem cal119 : callee Tryz.prog 119 = true := by kernel_rfl
theorem cal120 : callee Tryz.prog 120 = true := by kernel_rfl
theorem cal121 : callee Tryz.prog 121 = true := by kernel_rfl
theorem cal122 : callee Tryz.prog 122 = true := by kernel_rfl
theorem cal123 : callee Tryz.prog 123 = true := by kernel_rfl
theorem cal124 : callee Tryz.prog 124 = true := by kernel_rfl
theorem cal125 : callee Tryz.prog 125 = true := by kernel_rfl
theorem cal126 : callee Tryz.prog 126 = true := by kernel_rfl
theorem cal127 : callee Tryz.prog 127 = true := by kernel_rfl
theorem cal128 : callee Tryz.prog 128 = true := by kernel_rfl
theorem cal129 : callee Tryz.prog 129 = true := by kernel_rfl
theorem cal130 : callee Tryz.prog 130 = true := by kernel_rfl
theorem cal131 : callee Tryz.prog 131 = true := by kernel_rfl
theorem cal132 : callee Tryz.prog 132 = true := by kernel_rfl
theorem cal138 : callee Tryz.prog 138 = true := by kernel_rfl
theorem cal139 : callee Tryz.prog 139 = true := by kernel_rfl
theorem cal140 : callee Tryz.prog 140 = true := by kernel_rfl
theorem cal141 : callee Tryz.prog 141 = true := by kernel_rfl
theorem cal142 : callee Tryz.prog 142 = true := by kernel_rfl
theorem cal143 : callee Tryz.prog 143 = true := by kernel_rfl
theorem cal144 : callee Tryz.prog 144 = true := by kernel_rfl
theorem cal156 : callee Tryz.prog 156 = true := by kernel_rfl
theorem cal157 : callee Tryz.prog 157 = true := by kernel_rfl
theorem cal160 : callee Tryz.prog 160 = true := by kernel_rfl
theorem cal162 : callee Tryz.prog 162 = true := by kernel_rfl
theorem cal163 : callee Tryz.prog 163 = true := by kernel_rfl
theorem cal164 : callee Tryz.prog 164 = true := by kernel_rfl
theorem cal165 : callee Tryz.prog 165 = true := by kernel_rfl
theorem cal166 : callee Tryz.prog 166 = true := by kernel_rfl
theorem cal171 : callee Tryz.prog 171 = true := by kernel_rfl
theorem cal175 : callee Tryz.prog 175 = true := by kernel_rfl
theorem cal176 : callee Tryz.prog 176 = true := by kernel_rfl
theorem cal177 : callee Tryz.prog 177 = true := by kernel_rfl
theorem cal178 : callee Tryz.prog 178 = true := by kernel_rfl
theorem cal179 : callee Tryz.prog 179 = true := by kernel_rfl
theorem cal186 : callee Tryz.prog 186 = true := by kernel_rfl
theorem cal187 : callee Tryz.prog 187 = true := by kernel_rfl
theorem cal188 : callee Tryz.prog 188 = true := by kernel_rfl
theorem cal189 : callee Tryz.prog 189 = true := by kernel_rfl
theorem cal191 : callee Tryz.prog 191 = true := by kernel_rfl
theorem cal192 : callee Tryz.prog 192 = true := by kernel_rfl
theorem cal198 : callee Tryz.prog 198 = true := by kernel_rfl
theorem cal199 : callee Tryz.prog 199 = true := by kernel_rfl
theorem cal200 : callee Tryz.prog 200 = true := by kernel_rfl
theorem cal201 : callee Tryz.prog 201 = true := by kernel_rfl
theorem cal212 : callee Tryz.prog 212 = true := by kernel_rfl
theorem cal213 : callee Tryz.prog 213 = true := by kernel_rfl
theorem cal215 : callee Tryz.prog 215 = true := by kernel_rfl
theorem mixed : Tryz.prog.follows .mixedOrders = true := by kernel_rfl
theorem ce57 : Tryz.prog.cellsOf 57 = 2 := by kernel_rfl
theorem ce9 : Tryz.prog.cellsOf 9 = 1 := by kernel_rfl
theorem ce42 : Tryz.prog.cellsOf 42 = 9 := by kernel_rfl
theorem ce39 : Tryz.prog.cellsOf 39 = 3 := by kernel_rfl
theorem ce2 : Tryz.prog.cellsOf 2 = 1 := by kernel_rfl
theorem ce40 : Tryz.prog.cellsOf 40 = 1 := by kernel_rfl
theorem be57 : Tryz.prog.bytesOf 57 = 32 := by kernel_rfl
theorem ce3 : Tryz.prog.cellsOf 3 = 1 := by kernel_rfl
theorem ce45 : Tryz.prog.cellsOf 45 = 6 := by kernel_rfl
end Go.Proofs.YtmmokaockpghaaaGreatDoor
