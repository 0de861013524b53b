/- Walks of functions over a symbolic memory, printed by a program of the session. -/
import Derived.Test.YtmmokaockpghaaaGreatDoorBp
namespace Go.Proofs.YtmmokaockpghaaaGreatDoor
open Go.Sy
set_option linter.unusedSimpArgs false
set_option linter.unusedVariables false

abbrev nilS : Value := .slice none 0 0
theorem nilPr {I : Imm} : PrsR I nilS [] := SlR.nil
def flatO (o : Ordr) : Bool := decide (o.node.labels = [] ∧ o.node.taints = [] ∧ o.task.wants = [] ∧ o.task.bears = []) && (decide (0 ≤ o.kind ∧ o.kind ≤ 255) && (decide (o.name.size ≤ 1000) && (decide (o.on.size ≤ 1000) && (decide (0 ≤ o.fence ∧ o.fence ≤ 1000) && (decide (o.node.name.size ≤ 1000) && (decide (-1000 ≤ o.node.has.a ∧ o.node.has.a ≤ 1000 ∧ -1000 ≤ o.node.has.b ∧ o.node.has.b ≤ 1000 ∧ -1000 ≤ o.node.has.c ∧ o.node.has.c ≤ 1000) && (decide (o.task.name.size ≤ 1000) && (decide (-1000 ≤ o.task.needs.a ∧ o.task.needs.a ≤ 1000 ∧ -1000 ≤ o.task.needs.b ∧ o.task.needs.b ≤ 1000 ∧ -1000 ≤ o.task.needs.c ∧ o.task.needs.c ≤ 1000) && (decide (o.task.group.size ≤ 1000) && (decide (o.task.apart.size ≤ 1000) && decide (-1000 ≤ o.task.rank ∧ o.task.rank ≤ 1000)))))))))))
theorem ordFlat {I : Imm} {o : Ordr} (h : flatO o = true) : OrdrR I (o.cells nilS nilS nilS nilS) o ∧ OrdS o := by
  unfold flatO at h
  simp only [Bool.and_eq_true, decide_eq_true_eq] at h
  obtain ⟨⟨h1, h2, h3, h4⟩, g1, g2, g3, g4, g5, g6, g7, g8, g9, g10, g11⟩ := h
  have n1 : PrsR I nilS o.node.labels := by rw [h1]; exact nilPr
  have n2 : PrsR I nilS o.node.taints := by rw [h2]; exact nilPr
  have n3 : PrsR I nilS o.task.wants := by rw [h3]; exact nilPr
  have n4 : PrsR I nilS o.task.bears := by rw [h4]; exact nilPr
  refine ⟨⟨⟨_, _, _, _, rfl, ⟨⟨_, _, rfl, n1, n2⟩, ?_, ?_⟩, n1, n2, ⟨⟨_, _, rfl, n3, n4⟩, ?_, ?_, ?_, ?_, ?_⟩, n3, n4⟩, g1, ?_, ?_, ?_⟩, ?_⟩
  all_goals first | (unfold StrOk; omega) | (unfold A3.ok I64; omega) | (unfold I64; omega) | (unfold U64; omega) | (unfold OrdS TskS; omega)
theorem e1_ : StrOk ⟨#[]⟩ := by unfold StrOk; decide
theorem e2_ : A3.ok ⟨0, 0, 0⟩ := by unfold A3.ok I64; decide
theorem e3_ : I64 0 := by unfold I64; decide
theorem e4_ : U64 0 := by unfold U64; decide
theorem e5_ (k : Int) (h : 0 ≤ k ∧ k ≤ 255) : U8 k := h
theorem ordKR {I : Imm} {k : Int} {s : ByteArray} (hk : U8 k) (hs : StrOk s) : OrdrR I ((ordK k s).cells nilS nilS nilS nilS) (ordK k s) ∧ OrdS (ordK k s) := by
  refine ⟨⟨⟨_, _, _, _, rfl, ⟨⟨_, _, rfl, nilPr, nilPr⟩, ?_, ?_⟩, nilPr, nilPr, ⟨⟨_, _, rfl, nilPr, nilPr⟩, ?_, ?_, ?_, ?_, ?_⟩, nilPr, nilPr⟩, hk, hs, ?_, ?_⟩, ?_⟩
  all_goals first | exact e1_ | exact e2_ | exact e3_ | exact e4_ | exact e5_ 5 (by decide) | skip
  unfold StrOk at hs
  exact ⟨show (⟨#[]⟩ : ByteArray).size + (⟨#[]⟩ : ByteArray).size + (⟨#[]⟩ : ByteArray).size ≤ 9223372036854775807 by decide, show s.size + 0 ≤ _ by omega⟩
theorem ordBR {I : Imm} {t n : ByteArray} {f : Int} (ht : StrOk t) (hn : StrOk n) (hf : U64 f) (hz : t.size + n.size ≤ 9223372036854775807) : OrdrR I ((ordB t n f).cells nilS nilS nilS nilS) (ordB t n f) ∧ OrdS (ordB t n f) := by
  refine ⟨⟨⟨_, _, _, _, rfl, ⟨⟨_, _, rfl, nilPr, nilPr⟩, ?_, ?_⟩, nilPr, nilPr, ⟨⟨_, _, rfl, nilPr, nilPr⟩, ?_, ?_, ?_, ?_, ?_⟩, nilPr, nilPr⟩, ?_, ht, hn, hf⟩, ?_⟩
  all_goals first | exact e1_ | exact e2_ | exact e3_ | exact e4_ | exact e5_ 5 (by decide) | skip
  exact ⟨show (⟨#[]⟩ : ByteArray).size + (⟨#[]⟩ : ByteArray).size + (⟨#[]⟩ : ByteArray).size ≤ 9223372036854775807 by decide, hz⟩
theorem ordTR {I : Imm} {t : Tsk} {wv bv : Value} (ht : TskR I (t.cells wv bv) t) (hw : PrsR I wv t.wants) (hb : PrsR I bv t.bears) (hz : TskS t) : OrdrR I ((ordT t).cells nilS nilS wv bv) (ordT t) ∧ OrdS (ordT t) := by
  refine ⟨⟨⟨_, _, _, _, rfl, ⟨⟨_, _, rfl, nilPr, nilPr⟩, ?_, ?_⟩, nilPr, nilPr, ht, hw, hb⟩, ?_, ?_, ?_, ?_⟩, hz, show (⟨#[]⟩ : ByteArray).size + (⟨#[]⟩ : ByteArray).size ≤ 9223372036854775807 by decide⟩
  all_goals first | exact e1_ | exact e2_ | exact e3_ | exact e4_ | exact e5_ 3 (by decide)
def nA : Nod := ⟨⟨#[110]⟩, ⟨5, 0, 0⟩, [], []⟩
def tC (c : UInt8) : Tsk := ⟨⟨#[c]⟩, ⟨3, 0, 0⟩, [], [], ⟨#[]⟩, ⟨#[]⟩, 0⟩
def oA : Ordr := ⟨1, nA, task0', ⟨#[]⟩, ⟨#[]⟩, 0⟩
def oT (c : UInt8) : Ordr := ⟨3, nod0', tC c, ⟨#[]⟩, ⟨#[]⟩, 0⟩
def oX (c : UInt8) (f : Int) : Ordr := ⟨5, nod0', task0', ⟨#[c]⟩, ⟨#[110]⟩, f⟩
def lb1 : Bk := ⟨[nA], [], [], 0⟩
def lb2 : Bk := ⟨[nA], [tC 97], [], 0⟩
def lb3 : Bk := ⟨[nA], [tC 97, tC 98], [], 0⟩
def lb4 : Bk := ⟨[nA], [tC 97, tC 98], [⟨⟨#[97]⟩, ⟨#[110]⟩⟩], 0⟩
def lb5 : Bk := ⟨[nA], [tC 97, tC 98], [⟨⟨#[97]⟩, ⟨#[110]⟩⟩], 3⟩
theorem bl0 : doR bk0 oA = (lb1, 0, ⟨#[]⟩) := by decide +kernel
theorem bl1 : doR lb1 (oT 97) = (lb2, 0, ⟨#[]⟩) := by decide +kernel
theorem bl2 : doR lb2 (oT 98) = (lb3, 0, ⟨#[]⟩) := by decide +kernel
theorem bl3 : doR lb3 (oX 97 0) = (lb4, 0, ⟨#[]⟩) := by decide +kernel
theorem bl4 : doR lb4 (oX 98 0) = (lb4, 13, ⟨#[]⟩) := by decide +kernel
theorem bl5 : doR lb4 (ordK 7 ⟨#[97]⟩) = (lb4, 0, ⟨#[110]⟩) := by decide +kernel
theorem bl6 : leadR lb4 3 = (lb5, 0) := by decide +kernel
theorem bl7 : doR lb5 (oX 98 2) = (lb5, 14, ⟨#[]⟩) := by decide +kernel
theorem bk0B {I : Imm} : BkR I (bk0.cells nilS nilS nilS) bk0 := ⟨⟨_, _, _, rfl, SlR.nil, SlR.nil, SlR.nil⟩, by unfold U64 bk0; decide⟩

theorem ordS_flat {o : Ordr} (h : flatO o = true) : OrdS o := by
  unfold flatO at h
  simp only [Bool.and_eq_true, decide_eq_true_eq] at h
  obtain ⟨⟨h1, h2, h3, h4⟩, g1, g2, g3, g4, g5, g6, g7, g8, g9, g10, g11⟩ := h
  unfold OrdS TskS; omega

end Go.Proofs.YtmmokaockpghaaaGreatDoor
