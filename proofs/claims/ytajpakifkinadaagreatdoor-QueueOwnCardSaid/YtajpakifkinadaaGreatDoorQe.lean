/- Walks of functions over a symbolic memory, printed by a program of the session. -/
import Derived.Test.YtajpakifkinadaaGreatDoorQb
import Derived.Test.YtajpakifkinadaaGreatDoorBq
namespace Go.Proofs.YtajpakifkinadaaGreatDoor
open Go.Sy
set_option linter.unusedSimpArgs false
set_option linter.unusedVariables false

def qn : Nod := ⟨⟨#[110]⟩, ⟨0, 0, 0⟩, [], []⟩
def qo : Nod := ⟨⟨#[111]⟩, ⟨0, 0, 0⟩, [], [⟨⟨#[120]⟩, ⟨#[]⟩⟩]⟩
def qt (c : UInt8) (r : Int) : Tsk := ⟨⟨#[c]⟩, ⟨0, 0, 0⟩, [], [], ⟨#[]⟩, ⟨#[]⟩, r⟩
def lq : Bk := ⟨[qn, qo], [qt 97 5, qt 98 5, qt 99 1], [], 0⟩
theorem lq1 : waitQ lq = ([qt 97 5, qt 98 5, qt 99 1], 0) := by decide +kernel
theorem lq2 : loadsQ lq = ([loadOf lq qn, loadOf lq qo], 0) := by decide +kernel
theorem lq3 : freeQ lq ⟨#[97]⟩ = ([⟨#[110]⟩], 0) := by decide +kernel
theorem lq4 : freeQ lq ⟨#[122]⟩ = ([], 6) := by decide +kernel
abbrev nilQ : Value := .slice none 0 0
theorem qPr {J : Imm} {c : Nat} {T : TypeId} {fz : Nat × Nat} (h : J c = some (.cells ⟨[.string ⟨#[120]⟩, .string ⟨#[]⟩]⟩ T fz)) : PrsR J (.slice (some ⟨c, 0, none⟩) 1 1) [⟨⟨#[120]⟩, ⟨#[]⟩⟩] :=
  SlR.ofRow (R := PrR) h (DR.single rfl ⟨rfl, by unfold StrOk; decide, by unfold StrOk; decide⟩) rfl (Nat.le_refl 1) (by decide)
theorem qnR {J : Imm} : NodR J (qn.cells nilQ nilQ) qn := ⟨⟨_, _, rfl, SlR.nil, SlR.nil⟩, by unfold StrOk qn; decide, by unfold A3.ok I64 qn; decide⟩
theorem qoR {J : Imm} {v : Value} (h : PrsR J v [⟨⟨#[120]⟩, ⟨#[]⟩⟩]) : NodR J (qo.cells nilQ v) qo := ⟨⟨_, _, rfl, SlR.nil, h⟩, by unfold StrOk qo; decide, by unfold A3.ok I64 qo; decide⟩
theorem qtR {J : Imm} {c : UInt8} {r : Int} (hr : -100 ≤ r ∧ r ≤ 100) : TskR J ((qt c r).cells nilQ nilQ) (qt c r) := ⟨⟨_, _, rfl, SlR.nil, SlR.nil⟩, by unfold StrOk; show 1 ≤ _; decide, (show A3.ok ⟨0, 0, 0⟩ from e2_), (show StrOk ⟨#[]⟩ from e1_), (show StrOk ⟨#[]⟩ from e1_), by unfold I64 qt; dsimp only; omega⟩

set_option maxHeartbeats 16000000 in
set_option maxRecDepth 20000 in
theorem qlives_ok {I : Imm} {O : Own}  :
    Pure Tryz.prog 9 [] I O (.bool true) := by
  refine Go.Sy.Does.enter Tryz.func9 rfl Tryz.ntmps9 rfl ?_
  refine .seq <| .region <| .e (.assign rfl) rfl rfl <| .nil <| .go <| .seq ?_
  refine .region <| .e (.build bs32 zv32 rfl rfl) rfl rfl <| .e (.build bs45 zv45 rfl rfl) rfl rfl <| .on rfl <| .buildSlice Tryz.underlying30 sz45 (by decide) (by decide) zv45 rfl rfl rfl rfl rfl fun c1 _ _ => .e (.build bs32 zv32 rfl rfl) rfl rfl <| .on rfl <| .buildSlice Tryz.underlying22 sz32 (by decide) (by decide) zv32 rfl rfl rfl rfl rfl fun c2 _ _ => ?_
  refine .e (.build bs34 zv34 rfl rfl) rfl rfl <| .e (.build bs34 zv34 rfl rfl) rfl rfl <| .e (.build bs34 zv34 rfl rfl) rfl rfl <| .on rfl <| .buildSlice Tryz.underlying23 sz34 (by decide) (by decide) zv34 rfl rfl rfl rfl rfl fun c3 _ _ => .e (.build bs27 zv27 rfl rfl) rfl rfl <| .on rfl <| .alloc zr27 rfl fun c4 _ _ => ?_
  refine .on rfl <| .storeW sz27 rfl rfl rfl rfl rfl rfl .here <| .nil <| .go <| .seq <| .region <| .e (.loadW ag27 sz27 rfl .here rfl) rfl rfl ?_
  refine .front1 (.there <| .here) ?_
  refine .front1 (.there <| .there <| .here) ?_
  refine .front1 (.there <| .there <| .there <| .here) ?_
  refine .freeze fun J1 hJ1 hJ1b => ?_
  have hP1 := qPr hJ1b
  refine .freeze fun J2 hJ2 hJ2b => ?_
  have hN2 : NodsR J2 (.slice (some ⟨c2, 0, none⟩) 2 2) [qn, qo] := SlR.ofRow (R := NodR) hJ2b (show DR NodR 6 J2 (qn.cells nilQ nilQ ++ qo.cells nilQ _) ([qn] ++ [qo]) from (DR.single rfl qnR).append (DR.single rfl (qoR (hP1.mono hJ2)))) rfl (Nat.le_refl 2) (by decide)
  refine .freeze fun J3 hJ3 hJ3b => ?_
  have hT3 : TsksR J3 (.slice (some ⟨c3, 0, none⟩) 3 3) [qt 97 5, qt 98 5, qt 99 1] := SlR.ofRow (R := TskR) hJ3b (show DR TskR 9 J3 ((qt 97 5).cells nilQ nilQ ++ ((qt 98 5).cells nilQ nilQ ++ (qt 99 1).cells nilQ nilQ)) ([qt 97 5] ++ ([qt 98 5] ++ [qt 99 1])) from (DR.single rfl (qtR (by decide))).append ((DR.single rfl (qtR (by decide))).append (DR.single rfl (qtR (by decide))))) rfl (Nat.le_refl 3) (by decide)
  have hB3 : BkR J3 (lq.cells (.slice (some ⟨c2, 0, none⟩) 2 2) (.slice (some ⟨c3, 0, none⟩) 3 3) nilQ) lq := ⟨⟨_, _, _, rfl, hN2.mono hJ3, hT3, SlR.nil⟩, by unfold U64 lq; decide⟩
  refine .on rfl <| .call cal10 rfl rfl rfl (waitF hB3) fun v22 I22 O22 hI22 hK22 => ?_
  rw [lq1] at hK22
  dsimp only at hK22
  obtain ⟨rfl, u22, rfl, hl22⟩ := hK22
  have hl220 := hl22
  obtain ⟨la22, lc22, rfl, hl221, hl222, -⟩ := hl22
  refine .e (.move rfl) rfl rfl <| .e (.extract rfl rfl) rfl rfl <| .e (.extract rfl rfl) rfl rfl <| .e (.assign rfl) rfl rfl <| .e (.assign rfl) rfl rfl <| .nil ?_
  refine .go <| .seq <| .region <| .e (.loadW ag27 sz27 rfl .here rfl) rfl rfl <| .on rfl <| .call cal11 rfl rfl rfl (loadsF (hB3.mono hI22)) fun v27 I27 O27 hI27 hK27 => ?_
  rw [lq2] at hK27
  dsimp only at hK27
  obtain ⟨rfl, u27, rfl, hl27⟩ := hK27
  have hl270 := hl27
  obtain ⟨la27, lc27, rfl, hl271, hl272, -⟩ := hl27
  refine .e (.move rfl) rfl rfl <| .e (.extract rfl rfl) rfl rfl <| .e (.extract rfl rfl) rfl rfl <| .e (.assign rfl) rfl rfl <| .e (.assign rfl) rfl rfl <| .nil ?_
  refine .go <| .seq <| .region <| .e (.loadW ag27 sz27 rfl .here rfl) rfl rfl <| .on rfl <| .call cal25 rfl rfl rfl (freeF ((hB3.mono hI22).mono hI27)) fun v32 I32 O32 hI32 hK32 => ?_
  rw [lq3] at hK32
  dsimp only at hK32
  obtain ⟨rfl, u32, rfl, hl32⟩ := hK32
  have hl320 := hl32
  obtain ⟨la32, lc32, rfl, hl321, hl322, -⟩ := hl32
  refine .e (.move rfl) rfl rfl <| .e (.extract rfl rfl) rfl rfl <| .e (.extract rfl rfl) rfl rfl <| .e (.assign rfl) rfl rfl <| .e (.assign rfl) rfl rfl <| .nil ?_
  refine .go <| .seq <| .region <| .e (.loadW ag27 sz27 rfl .here rfl) rfl rfl <| .on rfl <| .call cal25 rfl rfl rfl (freeF (((hB3.mono hI22).mono hI27).mono hI32)) fun v37 I37 O37 hI37 hK37 => ?_
  rw [lq4] at hK37
  dsimp only at hK37
  obtain ⟨rfl, u37, rfl, hl37⟩ := hK37
  have hl370 := hl37
  obtain ⟨la37, lc37, rfl, hl371, hl372, -⟩ := hl37
  refine .e (.move rfl) rfl rfl <| .e (.extract rfl rfl) rfl rfl <| .e (.extract rfl rfl) rfl rfl <| .e (.assign rfl) rfl rfl <| .e (.assign rfl) rfl rfl <| .nil ?_
  refine .go <| .seq <| .region <| .e (.move rfl) rfl rfl <| .e (.len sl23 rfl rfl) rfl rfl <| .e ((EV.cast (u := .bool true) (.eql rfl rfl) (congrArg Value.bool (by decide)))) rfl rfl ?_
  refine .e (.move rfl) rfl rfl <| .e (.move rfl) rfl rfl ?_
  obtain ⟨eb45, eo45, cs45, hd45, hat45, hr45⟩ := SlR.at_ ((((hl220.mono hI27).mono hI32).mono hI37)) (k := 0) (by decide)
  cases hd45
  have ht45 := hr45
  obtain ⟨xw45, xb45, rfl, hxw45, hxb45⟩ := hr45.ex
  obtain ⟨xa45, xc45, rfl, -⟩ := hxw45
  obtain ⟨xd45, xe45, rfl, -⟩ := hxb45
  refine .e (.indexAddrL sl23 rfl rfl rfl (by decide)) rfl rfl <| .e (.fieldAddr fo34_0 rfl) rfl rfl <| .e (.loadI ag9 rfl (hat45.cell (j := 0) rfl)) rfl rfl <| .e ((EV.cast (u := .bool true) (.streq rfl rfl) (congrArg Value.bool (by decide)))) rfl rfl <| .e (.pickT rfl rfl) rfl rfl <| .e (.move rfl) rfl rfl ?_
  refine .e (.move rfl) rfl rfl ?_
  obtain ⟨eb52, eo52, cs52, hd52, hat52, hr52⟩ := SlR.at_ ((((hl220.mono hI27).mono hI32).mono hI37)) (k := 2) (by decide)
  cases hd52
  have ht52 := hr52
  obtain ⟨xw52, xb52, rfl, hxw52, hxb52⟩ := hr52.ex
  obtain ⟨xa52, xc52, rfl, -⟩ := hxw52
  obtain ⟨xd52, xe52, rfl, -⟩ := hxb52
  refine .e (.indexAddrL sl23 rfl rfl rfl (by decide)) rfl rfl <| .e (.fieldAddr fo34_0 rfl) rfl rfl <| .e (.loadI ag9 rfl (hat52.cell (j := 0) rfl)) rfl rfl <| .e ((EV.cast (u := .bool true) (.streq rfl rfl) (congrArg Value.bool (by decide)))) rfl rfl <| .e (.pickT rfl rfl) rfl rfl <| .e (.move rfl) rfl rfl ?_
  refine .e (.move rfl) rfl rfl <| .e ((EV.cast (u := .bool true) (.eql rfl rfl) (congrArg Value.bool (by decide)))) rfl rfl <| .e (.pickT rfl rfl) rfl rfl <| .e (.move rfl) rfl rfl <| .e (.move rfl) rfl rfl <| .e (.len sl52 rfl rfl) rfl rfl ?_
  refine .e ((EV.cast (u := .bool true) (.eql rfl rfl) (congrArg Value.bool (by decide)))) rfl rfl <| .e (.pickT rfl rfl) rfl rfl <| .e (.move rfl) rfl rfl <| .e (.move rfl) rfl rfl <| .e ((EV.cast (u := .bool true) (.eql rfl rfl) (congrArg Value.bool (by decide)))) rfl rfl <| .e (.pickT rfl rfl) rfl rfl ?_
  refine .e (.move rfl) rfl rfl <| .e (.move rfl) rfl rfl <| .e (.len sl74 rfl rfl) rfl rfl <| .e ((EV.cast (u := .bool true) (.eql rfl rfl) (congrArg Value.bool (by decide)))) rfl rfl <| .e (.pickT rfl rfl) rfl rfl <| .e (.move rfl) rfl rfl ?_
  refine .e (.move rfl) rfl rfl ?_
  obtain ⟨eb77, eo77, cs77, hd77, hat77, hr77⟩ := SlR.at_ (SlR.mono (R := StrR) (I := I32) (J := I37) (fun _ _ h => h) hI37 hl320) (k := 0) (by decide)
  cases hd77
  obtain ⟨rfl, -⟩ := hr77
  refine .e (.indexAddrL sl74 rfl rfl rfl (by decide)) rfl rfl <| .e (.loadI ag9 rfl (hat77.cell (j := 0) rfl)) rfl rfl <| .e ((EV.cast (u := .bool true) (.streq rfl rfl) (congrArg Value.bool (by decide)))) rfl rfl <| .e (.pickT rfl rfl) rfl rfl <| .e (.move rfl) rfl rfl <| .e (.move rfl) rfl rfl ?_
  refine .e ((EV.cast (u := .bool true) (.eql rfl rfl) (congrArg Value.bool (by decide)))) rfl rfl <| .e (.pickT rfl rfl) rfl rfl <| .e (.move rfl) rfl rfl <| .e (.move rfl) rfl rfl <| .e ((EV.cast (u := .bool true) (.eql rfl rfl) (congrArg Value.bool (by decide)))) rfl rfl <| .e (.pickT rfl rfl) rfl rfl ?_
  refine .e (.assign rfl) rfl rfl <| .nil <| .go <| .ret ?_
  refine .tail ?_
  refine .back (Imm.le_trans (Imm.le_trans (Imm.le_trans (Imm.le_trans (Imm.le_trans (Imm.le_trans hJ1 hJ2) hJ3) hI22) hI27) hI32) hI37) ?_
  refine Post.retE rfl rfl ?_
  rfl

end Go.Proofs.YtajpakifkinadaaGreatDoor
