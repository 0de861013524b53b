/- More facts. -/
import Derived.Test.YtmmokaockpghaaaGreatDoorFact2
namespace Go.Proofs.YtmmokaockpghaaaGreatDoor
open Go.Sy
theorem sl171 : slOf Tryz.prog 171 = some (28, 1) := by kernel_rfl
theorem ag170 : aggOf Tryz.prog 170 = some true := by kernel_rfl
theorem sz170 : szOf Tryz.prog 170 = some 3 := by kernel_rfl
theorem zr170 : zrOf Tryz.prog 170 = some [.string ⟨#[]⟩, .string ⟨#[]⟩, .int .i64 0] := by kernel_rfl
theorem fo170_2 : fieldOff Tryz.prog 170 2 = some 2 := by kernel_rfl
theorem fo170_1 : fieldOff Tryz.prog 170 1 = some 1 := by kernel_rfl
theorem fo170_0 : fieldOff Tryz.prog 170 0 = some 0 := by kernel_rfl
theorem fo166_1 : fieldOff Tryz.prog 166 1 = some 1 := by kernel_rfl
theorem fo166_0 : fieldOff Tryz.prog 166 0 = some 0 := by kernel_rfl
theorem ag164 : aggOf Tryz.prog 164 = some false := by kernel_rfl
theorem by170 : byOf Tryz.prog 170 = some 40 := by kernel_rfl
theorem zv170 : zvOf Tryz.prog 170 = some (.agg ⟨[.string ⟨#[]⟩, .string ⟨#[]⟩, .int .i64 0]⟩) := by kernel_rfl
theorem ag166 : aggOf Tryz.prog 166 = some true := by kernel_rfl
theorem sz166 : szOf Tryz.prog 166 = some 5 := by kernel_rfl
theorem bs170 : structAt Tryz.prog 170 = some [(0, 1), (1, 1), (2, 1)] := by kernel_rfl
theorem fo166_3 : fieldOff Tryz.prog 166 3 = some 3 := by kernel_rfl
theorem bs166 : structAt Tryz.prog 166 = some [(0, 1), (1, 1), (2, 1), (3, 1), (4, 1)] := by kernel_rfl
theorem zv166 : zvOf Tryz.prog 166 = some (.agg ⟨[.int .u8 0, .string ⟨#[]⟩, .string ⟨#[]⟩, .string ⟨#[]⟩, .int .i64 0]⟩) := by kernel_rfl
end Go.Proofs.YtmmokaockpghaaaGreatDoor
