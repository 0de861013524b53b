/- Walks of functions over a symbolic memory, printed by a program of the session. -/
import Derived.Test.YtmmokaockpghaaaGreatDoorBp
namespace Go.Proofs.YtmmokaockpghaaaGreatDoor
open Go.Sy
set_option linter.unusedSimpArgs false
set_option linter.unusedVariables false

abbrev nilS : Value := .slice none 0 0
theorem nilPr {I : Imm} : PrsR I nilS [] := SlR.nil
theorem e1_ : StrOk ⟨#[]⟩ := by unfold StrOk; decide
theorem e2_ : A3.ok ⟨0, 0, 0⟩ := by unfold A3.ok I64; decide
theorem e3_ : I64 0 := by unfold I64; decide
theorem e4_ : U64 0 := by unfold U64; decide
theorem e5_ (k : Int) (h : 0 ≤ k ∧ k ≤ 255) : U8 k := h
theorem ordBR {I : Imm} {t n : ByteArray} {f : Int} (ht : StrOk t) (hn : StrOk n) (hf : U64 f) (hz : t.size + n.size ≤ 9223372036854775807) : OrdrR I ((ordB t n f).cells nilS nilS nilS nilS) (ordB t n f) ∧ OrdS (ordB t n f) := by
  refine ⟨⟨⟨_, _, _, _, rfl, ⟨⟨_, _, rfl, nilPr, nilPr⟩, ?_, ?_⟩, nilPr, nilPr, ⟨⟨_, _, rfl, nilPr, nilPr⟩, ?_, ?_, ?_, ?_, ?_⟩, nilPr, nilPr⟩, ?_, ht, hn, hf⟩, ?_⟩
  all_goals first | exact e1_ | exact e2_ | exact e3_ | exact e4_ | exact e5_ 5 (by decide) | skip
  exact ⟨show (⟨#[]⟩ : ByteArray).size + (⟨#[]⟩ : ByteArray).size + (⟨#[]⟩ : ByteArray).size ≤ 9223372036854775807 by decide, hz⟩
end Go.Proofs.YtmmokaockpghaaaGreatDoor
