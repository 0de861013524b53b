/- Walks of functions over a symbolic memory, printed by a program of the session. -/
import Derived.Test.YteajcmnbjpbnpaaLn
namespace Go.Proofs.Yteajcmnbjpbnpaa
open Go.Sy
set_option linter.unusedSimpArgs false
set_option linter.unusedVariables false

def eL (i t : Int) : Ent := ⟨i, t, 1, ⟨#[]⟩, []⟩
theorem eLR {I : Imm} {i t : Int} (hi : U64 i) (ht : U64 t) : EntR I ((eL i t).cells (.slice none 0 0)) (eL i t) := ⟨⟨_, rfl, SlR.nil⟩, hi, ht, by unfold U8 eL; dsimp only; omega, by unfold StrOk eL; dsimp only; decide⟩
def lL : Lg := ⟨0, 0, [eL 1 1, eL 2 1, eL 3 2]⟩
def mL : Lg := ⟨0, 0, [eL 1 1, eL 2 1, eL 3 3]⟩
def nL : Lg := ⟨2, 1, [eL 3 2]⟩
theorem ll1 : joinR lL 2 1 [eL 3 3] = (mL, 3, 0) := by decide +kernel
theorem ll2 : joinR lL 2 2 [] = (zLg, 0, 18) := by decide +kernel
theorem ll3 : endR mL = (3, 3, 0) := by decide +kernel
theorem ll4 : trimR lL 2 = (nL, 0) := by decide +kernel
theorem ll5 : termR nL 1 = (0, 15) := by decide +kernel
theorem ll6 : newR lL 3 2 = (true, 0) := by decide +kernel
theorem tripV_cast {I : Imm} {O : Own} {f : FuncId} {vs : List Value} {p q : Int × Int × Int} (h : Pure Try.prog f vs I O (tripV p)) (e : p = q) : Pure Try.prog f vs I O (tripV q) := e ▸ h
theorem twoV_cast {I : Imm} {O : Own} {f : FuncId} {vs : List Value} {p q : Int × Int} (h : Pure Try.prog f vs I O (twoV p)) (e : p = q) : Pure Try.prog f vs I O (twoV q) := e ▸ h
theorem btV_cast {I : Imm} {O : Own} {f : FuncId} {vs : List Value} {p q : Bool × Int} (h : Pure Try.prog f vs I O (btV p)) (e : p = q) : Pure Try.prog f vs I O (btV q) := e ▸ h
theorem u64_nat (n : Nat) (h : n ≤ 100) : U64 (n : Int) := by unfold U64; omega
theorem lL_R {J : Imm} {b : Nat} {T : TypeId} {fz : Nat × Nat} (hb : J b = some (.cells ⟨(eL 1 1).cells (.slice none 0 0) ++ ((eL 2 1).cells (.slice none 0 0) ++ (eL 3 2).cells (.slice none 0 0))⟩ T fz)) : LgR J (lL.cells (.slice (some ⟨b, 0, none⟩) 3 3)) lL :=
  ⟨⟨_, rfl, SlR.ofRow hb (show DR EntR 5 J _ ([eL 1 1] ++ ([eL 2 1] ++ [eL 3 2])) from (DR.single rfl (eLR (u64_nat 1 (by decide)) (u64_nat 1 (by decide)))).append ((DR.single rfl (eLR (u64_nat 2 (by decide)) (u64_nat 1 (by decide)))).append (DR.single rfl (eLR (u64_nat 3 (by decide)) (u64_nat 2 (by decide)))))) rfl (by decide) (by decide)⟩, u64_nat 0 (by decide), u64_nat 0 (by decide)⟩
theorem lL_hL : lL.ents.length * 64 ≤ 140737488351232 := by decide
theorem lL_hM : ∀ e ∈ lL.ents, e.members.length * 8 ≤ 140737488351232 := by decide

set_option maxHeartbeats 1000000 in
set_option maxRecDepth 20000 in
theorem entry_ok {I : Imm} {O : Own} {i t : Int} :
    Pure Try.prog 39 [.int .u64 i, .int .u64 t] I O (.agg ⟨(eL i t).cells (.slice none 0 0)⟩) := by
  refine Go.Sy.Does.enter Try.func39 rfl Try.ntmps39 rfl ?_
  refine .seq <| .region <| .on rfl <| .alloc zr41 rfl fun c1 _ _ => .nil <| .go <| .seq ?_
  refine .region <| .e (.move rfl) rfl rfl <| .e (.move rfl) rfl rfl <| .e (.build bs41 zv41 rfl rfl) rfl rfl <| .on rfl <| .storeW sz41 rfl rfl rfl rfl rfl rfl .here <| .nil ?_
  refine .go <| .ret ?_
  refine Post.retsE rfl (.agg rfl ag41 sz41 .here rfl .nil) rfl (fun w h => h.tail) ?_
  rfl

set_option maxHeartbeats 4000000 in
set_option maxRecDepth 20000 in
theorem lives_ok {I : Imm} {O : Own}  :
    Pure Try.prog 15 [] I O (.bool true) := by
  refine Go.Sy.Does.enter Try.func15 rfl Try.ntmps15 rfl ?_
  refine .seq <| .region <| .e (.assign rfl) rfl rfl <| .nil <| .go <| .seq ?_
  refine .region <| .on rfl <| .callP cal39 rfl rfl rfl (entry_ok) <| .on rfl <| .callP cal39 rfl rfl rfl (entry_ok) <| .on rfl <| .callP cal39 rfl rfl rfl (entry_ok) <| .on rfl <| .buildSlice Try.underlying23 sz41 (by decide) (by decide) zv41 rfl rfl rfl rfl rfl fun c1 _ _ => ?_
  refine .freeze fun J hJ hJb => ?_
  refine .e (.build bs25 zv25 rfl rfl) rfl rfl <| .on rfl <| .alloc zr25 rfl fun c2 _ _ => .on rfl <| .storeW sz25 rfl rfl rfl rfl rfl rfl .here <| .nil <| .go <| .seq ?_
  refine .draw [(c2, _)] mixed (.cons .here .nil) ?_
  refine .t 0 rfl (.loadW ag25 sz25 rfl .here rfl) rfl rfl (by kernel_rfl) ?_
  refine .all (rs := [1, 8]) (by kernel_rfl) (by simp) ⟨⟨_, rfl, .inl ⟨rfl, ?_⟩⟩, ⟨⟨_, rfl, .inl ⟨rfl, ?_⟩⟩, trivial⟩⟩
  · skip
    refine .callP cal39 rfl rfl rfl (entry_ok) ?_
    refine ⟨(.cons .here .nil), Imm.le_refl _, ?_⟩
    refine .all (rs := [2, 8]) (by kernel_rfl) (by simp) ⟨⟨_, rfl, .inl ⟨rfl, ?_⟩⟩, ⟨⟨_, rfl, .inl ⟨rfl, ?_⟩⟩, trivial⟩⟩
    · skip
      refine .buildSlice Try.underlying23 sz41 (by decide) (by decide) zv41 rfl rfl rfl rfl rfl fun c3 _ _ => ?_
      refine ⟨(.cons (.there <| .here) .nil), Imm.le_refl _, ?_⟩
      refine .all (rs := [3, 8]) (by kernel_rfl) (by simp) ⟨⟨_, rfl, .inl ⟨rfl, ?_⟩⟩, ⟨⟨_, rfl, .inl ⟨rfl, ?_⟩⟩, trivial⟩⟩
      · skip
        refine .freeze fun K hK hKb => ?_
        refine .call cal11 rfl rfl rfl (lJoin_ok (l := lL) (s := [eL 3 3]) (i := 2) (t := 1) ((lL_R hJb).mono hK) (SlR.ofRow hKb (DR.single rfl (eLR (u64_nat 3 (by decide)) (u64_nat 3 (by decide)))) rfl (by decide) (by decide)) (u64_nat 2 (by decide)) (u64_nat 1 (by decide)) lL_hL lL_hM (by decide) (by decide) (by decide)) fun v26 I26 O26 hI26 hK26 => ?_
        rw [ll1] at hK26
        obtain ⟨cs26, rfl, hm26, rfl⟩ := hK26
        have hm26' := hm26
        obtain ⟨ev26, rfl, he26⟩ := hm26.ex
        obtain ⟨a26, q26, rfl, -⟩ := he26
        refine ⟨(.cons .here .nil), (Imm.le_trans hK hI26), ?_⟩
        refine .t 4 rfl (.move rfl) rfl rfl (by kernel_rfl) <| .t 5 rfl (.extract rfl rfl) rfl rfl (by kernel_rfl) <| .t 6 rfl (.extract rfl rfl) rfl rfl (by kernel_rfl) <| .t 7 rfl (.extract rfl rfl) rfl rfl (by kernel_rfl) <| .one (i := 8) (by kernel_rfl) rfl rfl <| .alloc zr25 rfl fun c4 _ _ => ?_
        refine ⟨(.cons (.there <| .here) .nil), (Imm.le_trans hK hI26), ?_⟩
        refine .one (i := 9) (by kernel_rfl) rfl rfl <| .storeW sz25 rfl rfl rfl rfl rfl rfl .here ?_
        refine ⟨(.cons (.there <| .here) .nil), (Imm.le_trans hK hI26), ?_⟩
        refine .t 10 rfl (.assign rfl) rfl rfl (by kernel_rfl) <| .t 11 rfl (.assign rfl) rfl rfl (by kernel_rfl) <| .done (by kernel_rfl) <| .go <| .seq <| .region ?_
        refine .e (.loadW ag25 sz25 rfl (.there <| .here) rfl) rfl rfl <| .on rfl <| .call cal11 rfl rfl rfl (lJoin_ok (l := lL) (s := []) (i := 2) (t := 2) (((lL_R hJb).mono hK).mono hI26) SlR.nil (u64_nat 2 (by decide)) (u64_nat 2 (by decide)) lL_hL lL_hM (by decide) (by decide) (by decide)) fun v32 I32 O32 hI32 hK32 => ?_
        rw [ll2] at hK32
        obtain ⟨cs32, rfl, hm32, rfl⟩ := hK32
        have hm32' := hm32
        obtain ⟨ev32, rfl, he32⟩ := hm32.ex
        obtain ⟨a32, q32, rfl, -⟩ := he32
        refine .e (.move rfl) rfl rfl <| .e (.extract rfl rfl) rfl rfl <| .e (.extract rfl rfl) rfl rfl <| .e (.extract rfl rfl) rfl rfl <| .on rfl <| .alloc zr25 rfl fun c5 _ _ => .on rfl <| .storeW sz25 rfl rfl rfl rfl rfl rfl .here ?_
        refine .e (.assign rfl) rfl rfl <| .e (.assign rfl) rfl rfl <| .nil <| .go <| .seq <| .region ?_
        refine .e (.loadW ag25 sz25 rfl (.there <| .here) rfl) rfl rfl <| .on rfl <| .callP cal20 rfl rfl rfl (tripV_cast (lEnd_ok (hm26'.mono hI32)) ll3) <| .e (.move rfl) rfl rfl <| .e (.extract rfl rfl) rfl rfl <| .e (.extract rfl rfl) rfl rfl <| .e (.extract rfl rfl) rfl rfl ?_
        refine .e (.assign rfl) rfl rfl <| .e (.assign rfl) rfl rfl <| .e (.assign rfl) rfl rfl <| .nil <| .go <| .seq ?_
        refine .region <| .e (.loadW ag25 sz25 rfl (.there <| .there <| .here) rfl) rfl rfl <| .on rfl <| .call cal13 rfl rfl rfl (lTrim_ok (l := lL) (q := 2) ((((lL_R hJb).mono hK).mono hI26).mono hI32) (u64_nat 2 (by decide)) lL_hL lL_hM) fun v44 I44 O44 hI44 hK44 => ?_
        rw [ll4] at hK44
        obtain ⟨cs44, rfl, hm44, rfl⟩ := hK44
        have hm44' := hm44
        obtain ⟨ev44, rfl, he44⟩ := hm44.ex
        obtain ⟨a44, q44, rfl, -⟩ := he44
        refine .e (.move rfl) rfl rfl <| .e (.extract rfl rfl) rfl rfl <| .e (.extract rfl rfl) rfl rfl <| .on rfl <| .alloc zr25 rfl fun c6 _ _ => .on rfl <| .storeW sz25 rfl rfl rfl rfl rfl rfl .here <| .e (.assign rfl) rfl rfl ?_
        refine .nil <| .go <| .seq <| .region <| .e (.loadW ag25 sz25 rfl .here rfl) rfl rfl <| .on rfl <| .callP cal19 rfl rfl rfl (twoV_cast (lTerm_ok (i := 1) hm44' (u64_nat 1 (by decide))) ll5) ?_
        refine .e (.move rfl) rfl rfl <| .e (.extract rfl rfl) rfl rfl <| .e (.extract rfl rfl) rfl rfl <| .e (.assign rfl) rfl rfl <| .e (.assign rfl) rfl rfl <| .nil ?_
        refine .go <| .seq <| .region <| .e (.loadW ag25 sz25 rfl (.there <| .there <| .there <| .here) rfl) rfl rfl <| .on rfl <| .callP cal21 rfl rfl rfl (btV_cast (lNewer_ok (i := 3) (t := 2) (((((lL_R hJb).mono hK).mono hI26).mono hI32).mono hI44)) ll6) <| .e (.move rfl) rfl rfl ?_
        refine .e (.extract rfl rfl) rfl rfl <| .e (.extract rfl rfl) rfl rfl <| .e (.assign rfl) rfl rfl <| .e (.assign rfl) rfl rfl <| .nil <| .go ?_
        refine .seq <| .region <| .e (.move rfl) rfl rfl <| .e (.eql rfl rfl) rfl rfl <| .e (.move rfl) rfl rfl <| .e (.move rfl) rfl rfl ?_
        refine .e (.eql rfl rfl) rfl rfl <| .e (.pickT rfl rfl) rfl rfl <| .e (.move rfl) rfl rfl <| .e (.move rfl) rfl rfl <| .e (.eql rfl rfl) rfl rfl <| .e (.pickT rfl rfl) rfl rfl ?_
        refine .e (.move rfl) rfl rfl <| .e (.move rfl) rfl rfl <| .e (.eql rfl rfl) rfl rfl <| .e (.pickT rfl rfl) rfl rfl <| .e (.move rfl) rfl rfl <| .e (.move rfl) rfl rfl ?_
        refine .e (.eql rfl rfl) rfl rfl <| .e (.pickT rfl rfl) rfl rfl <| .e (.move rfl) rfl rfl <| .e (.move rfl) rfl rfl <| .e (.eql rfl rfl) rfl rfl <| .e (.pickT rfl rfl) rfl rfl ?_
        refine .e (.move rfl) rfl rfl <| .e (.fieldAddr fo25_0 rfl) rfl rfl <| .e (.load ag22 rfl .here rfl) rfl rfl <| .e (.eql rfl rfl) rfl rfl <| .e (.pickT rfl rfl) rfl rfl <| .e (.move rfl) rfl rfl ?_
        refine .e (.fieldAddr fo25_1 rfl) rfl rfl <| .e (.load ag22 rfl .here rfl) rfl rfl <| .e (.eql rfl rfl) rfl rfl <| .e (.pickT rfl rfl) rfl rfl <| .e (.move rfl) rfl rfl <| .e (.move rfl) rfl rfl ?_
        refine .e (.eql rfl rfl) rfl rfl <| .e (.pickT rfl rfl) rfl rfl <| .e (.move rfl) rfl rfl <| .e (.move rfl) rfl rfl <| .e (.eql rfl rfl) rfl rfl <| .e (.pickT rfl rfl) rfl rfl ?_
        refine .e (.move rfl) rfl rfl <| .e (.move rfl) rfl rfl <| .e (.pickT rfl rfl) rfl rfl <| .e (.move rfl) rfl rfl <| .e (.move rfl) rfl rfl <| .e (.eql rfl rfl) rfl rfl ?_
        refine .e (.pickT rfl rfl) rfl rfl <| .e (.assign rfl) rfl rfl <| .nil <| .go <| .ret ?_
        refine .tail <| .tail <| .tail <| .tail ?_
        refine .back (Imm.le_trans (Imm.le_trans (Imm.le_trans (Imm.le_trans hJ hK) hI26) hI32) hI44) ?_
        refine Post.retE rfl rfl ?_
        rfl
      · skip
        refine .alloc zr25 rfl fun c7 _ _ => ?_
        refine ⟨(.cons (.there <| .there <| .here) .nil), Imm.le_refl _, ?_⟩
        refine .front (.there <| .here) ?_
        refine .freeze fun K hK hKb => ?_
        refine .one (i := 3) (by kernel_rfl) rfl rfl <| .call cal11 rfl rfl rfl (lJoin_ok (l := lL) (s := [eL 3 3]) (i := 2) (t := 1) ((lL_R hJb).mono hK) (SlR.ofRow hKb (DR.single rfl (eLR (u64_nat 3 (by decide)) (u64_nat 3 (by decide)))) rfl (by decide) (by decide)) (u64_nat 2 (by decide)) (u64_nat 1 (by decide)) lL_hL lL_hM (by decide) (by decide) (by decide)) fun v26 I26 O26 hI26 hK26 => ?_
        rw [ll1] at hK26
        obtain ⟨cs26, rfl, hm26, rfl⟩ := hK26
        have hm26' := hm26
        obtain ⟨ev26, rfl, he26⟩ := hm26.ex
        obtain ⟨a26, q26, rfl, -⟩ := he26
        refine ⟨(.cons (.there <| .here) .nil), (Imm.le_trans hK hI26), ?_⟩
        refine .t 4 rfl (.move rfl) rfl rfl (by kernel_rfl) <| .t 5 rfl (.extract rfl rfl) rfl rfl (by kernel_rfl) <| .t 6 rfl (.extract rfl rfl) rfl rfl (by kernel_rfl) <| .t 7 rfl (.extract rfl rfl) rfl rfl (by kernel_rfl) <| .one (i := 9) (by kernel_rfl) rfl rfl <| .storeW sz25 rfl rfl rfl rfl rfl rfl .here ?_
        refine ⟨(.cons (.there <| .here) .nil), (Imm.le_trans hK hI26), ?_⟩
        refine .t 10 rfl (.assign rfl) rfl rfl (by kernel_rfl) <| .t 11 rfl (.assign rfl) rfl rfl (by kernel_rfl) <| .done (by kernel_rfl) <| .go <| .seq <| .region ?_
        refine .e (.loadW ag25 sz25 rfl (.there <| .here) rfl) rfl rfl <| .on rfl <| .call cal11 rfl rfl rfl (lJoin_ok (l := lL) (s := []) (i := 2) (t := 2) (((lL_R hJb).mono hK).mono hI26) SlR.nil (u64_nat 2 (by decide)) (u64_nat 2 (by decide)) lL_hL lL_hM (by decide) (by decide) (by decide)) fun v32 I32 O32 hI32 hK32 => ?_
        rw [ll2] at hK32
        obtain ⟨cs32, rfl, hm32, rfl⟩ := hK32
        have hm32' := hm32
        obtain ⟨ev32, rfl, he32⟩ := hm32.ex
        obtain ⟨a32, q32, rfl, -⟩ := he32
        refine .e (.move rfl) rfl rfl <| .e (.extract rfl rfl) rfl rfl <| .e (.extract rfl rfl) rfl rfl <| .e (.extract rfl rfl) rfl rfl <| .on rfl <| .alloc zr25 rfl fun c8 _ _ => .on rfl <| .storeW sz25 rfl rfl rfl rfl rfl rfl .here ?_
        refine .e (.assign rfl) rfl rfl <| .e (.assign rfl) rfl rfl <| .nil <| .go <| .seq <| .region ?_
        refine .e (.loadW ag25 sz25 rfl (.there <| .here) rfl) rfl rfl <| .on rfl <| .callP cal20 rfl rfl rfl (tripV_cast (lEnd_ok (hm26'.mono hI32)) ll3) <| .e (.move rfl) rfl rfl <| .e (.extract rfl rfl) rfl rfl <| .e (.extract rfl rfl) rfl rfl <| .e (.extract rfl rfl) rfl rfl ?_
        refine .e (.assign rfl) rfl rfl <| .e (.assign rfl) rfl rfl <| .e (.assign rfl) rfl rfl <| .nil <| .go <| .seq ?_
        refine .region <| .e (.loadW ag25 sz25 rfl (.there <| .there <| .here) rfl) rfl rfl <| .on rfl <| .call cal13 rfl rfl rfl (lTrim_ok (l := lL) (q := 2) ((((lL_R hJb).mono hK).mono hI26).mono hI32) (u64_nat 2 (by decide)) lL_hL lL_hM) fun v44 I44 O44 hI44 hK44 => ?_
        rw [ll4] at hK44
        obtain ⟨cs44, rfl, hm44, rfl⟩ := hK44
        have hm44' := hm44
        obtain ⟨ev44, rfl, he44⟩ := hm44.ex
        obtain ⟨a44, q44, rfl, -⟩ := he44
        refine .e (.move rfl) rfl rfl <| .e (.extract rfl rfl) rfl rfl <| .e (.extract rfl rfl) rfl rfl <| .on rfl <| .alloc zr25 rfl fun c9 _ _ => .on rfl <| .storeW sz25 rfl rfl rfl rfl rfl rfl .here <| .e (.assign rfl) rfl rfl ?_
        refine .nil <| .go <| .seq <| .region <| .e (.loadW ag25 sz25 rfl .here rfl) rfl rfl <| .on rfl <| .callP cal19 rfl rfl rfl (twoV_cast (lTerm_ok (i := 1) hm44' (u64_nat 1 (by decide))) ll5) ?_
        refine .e (.move rfl) rfl rfl <| .e (.extract rfl rfl) rfl rfl <| .e (.extract rfl rfl) rfl rfl <| .e (.assign rfl) rfl rfl <| .e (.assign rfl) rfl rfl <| .nil ?_
        refine .go <| .seq <| .region <| .e (.loadW ag25 sz25 rfl (.there <| .there <| .there <| .here) rfl) rfl rfl <| .on rfl <| .callP cal21 rfl rfl rfl (btV_cast (lNewer_ok (i := 3) (t := 2) (((((lL_R hJb).mono hK).mono hI26).mono hI32).mono hI44)) ll6) <| .e (.move rfl) rfl rfl ?_
        refine .e (.extract rfl rfl) rfl rfl <| .e (.extract rfl rfl) rfl rfl <| .e (.assign rfl) rfl rfl <| .e (.assign rfl) rfl rfl <| .nil <| .go ?_
        refine .seq <| .region <| .e (.move rfl) rfl rfl <| .e (.eql rfl rfl) rfl rfl <| .e (.move rfl) rfl rfl <| .e (.move rfl) rfl rfl ?_
        refine .e (.eql rfl rfl) rfl rfl <| .e (.pickT rfl rfl) rfl rfl <| .e (.move rfl) rfl rfl <| .e (.move rfl) rfl rfl <| .e (.eql rfl rfl) rfl rfl <| .e (.pickT rfl rfl) rfl rfl ?_
        refine .e (.move rfl) rfl rfl <| .e (.move rfl) rfl rfl <| .e (.eql rfl rfl) rfl rfl <| .e (.pickT rfl rfl) rfl rfl <| .e (.move rfl) rfl rfl <| .e (.move rfl) rfl rfl ?_
        refine .e (.eql rfl rfl) rfl rfl <| .e (.pickT rfl rfl) rfl rfl <| .e (.move rfl) rfl rfl <| .e (.move rfl) rfl rfl <| .e (.eql rfl rfl) rfl rfl <| .e (.pickT rfl rfl) rfl rfl ?_
        refine .e (.move rfl) rfl rfl <| .e (.fieldAddr fo25_0 rfl) rfl rfl <| .e (.load ag22 rfl .here rfl) rfl rfl <| .e (.eql rfl rfl) rfl rfl <| .e (.pickT rfl rfl) rfl rfl <| .e (.move rfl) rfl rfl ?_
        refine .e (.fieldAddr fo25_1 rfl) rfl rfl <| .e (.load ag22 rfl .here rfl) rfl rfl <| .e (.eql rfl rfl) rfl rfl <| .e (.pickT rfl rfl) rfl rfl <| .e (.move rfl) rfl rfl <| .e (.move rfl) rfl rfl ?_
        refine .e (.eql rfl rfl) rfl rfl <| .e (.pickT rfl rfl) rfl rfl <| .e (.move rfl) rfl rfl <| .e (.move rfl) rfl rfl <| .e (.eql rfl rfl) rfl rfl <| .e (.pickT rfl rfl) rfl rfl ?_
        refine .e (.move rfl) rfl rfl <| .e (.move rfl) rfl rfl <| .e (.pickT rfl rfl) rfl rfl <| .e (.move rfl) rfl rfl <| .e (.move rfl) rfl rfl <| .e (.eql rfl rfl) rfl rfl ?_
        refine .e (.pickT rfl rfl) rfl rfl <| .e (.assign rfl) rfl rfl <| .nil <| .go <| .ret ?_
        refine .tail <| .tail <| .tail <| .tail ?_
        refine .back (Imm.le_trans (Imm.le_trans (Imm.le_trans (Imm.le_trans hJ hK) hI26) hI32) hI44) ?_
        refine Post.retE rfl rfl ?_
        rfl
    · skip
      refine .alloc zr25 rfl fun c10 _ _ => ?_
      refine ⟨(.cons (.there <| .here) .nil), Imm.le_refl _, ?_⟩
      refine .one (i := 2) (by kernel_rfl) rfl rfl <| .buildSlice Try.underlying23 sz41 (by decide) (by decide) zv41 rfl rfl rfl rfl rfl fun c11 _ _ => ?_
      refine ⟨(.cons (.there <| .there <| .here) .nil), Imm.le_refl _, ?_⟩
      refine .freeze fun K hK hKb => ?_
      refine .one (i := 3) (by kernel_rfl) rfl rfl <| .call cal11 rfl rfl rfl (lJoin_ok (l := lL) (s := [eL 3 3]) (i := 2) (t := 1) ((lL_R hJb).mono hK) (SlR.ofRow hKb (DR.single rfl (eLR (u64_nat 3 (by decide)) (u64_nat 3 (by decide)))) rfl (by decide) (by decide)) (u64_nat 2 (by decide)) (u64_nat 1 (by decide)) lL_hL lL_hM (by decide) (by decide) (by decide)) fun v26 I26 O26 hI26 hK26 => ?_
      rw [ll1] at hK26
      obtain ⟨cs26, rfl, hm26, rfl⟩ := hK26
      have hm26' := hm26
      obtain ⟨ev26, rfl, he26⟩ := hm26.ex
      obtain ⟨a26, q26, rfl, -⟩ := he26
      refine ⟨(.cons (.there <| .here) .nil), (Imm.le_trans hK hI26), ?_⟩
      refine .t 4 rfl (.move rfl) rfl rfl (by kernel_rfl) <| .t 5 rfl (.extract rfl rfl) rfl rfl (by kernel_rfl) <| .t 6 rfl (.extract rfl rfl) rfl rfl (by kernel_rfl) <| .t 7 rfl (.extract rfl rfl) rfl rfl (by kernel_rfl) <| .one (i := 9) (by kernel_rfl) rfl rfl <| .storeW sz25 rfl rfl rfl rfl rfl rfl .here ?_
      refine ⟨(.cons (.there <| .here) .nil), (Imm.le_trans hK hI26), ?_⟩
      refine .t 10 rfl (.assign rfl) rfl rfl (by kernel_rfl) <| .t 11 rfl (.assign rfl) rfl rfl (by kernel_rfl) <| .done (by kernel_rfl) <| .go <| .seq <| .region ?_
      refine .e (.loadW ag25 sz25 rfl (.there <| .here) rfl) rfl rfl <| .on rfl <| .call cal11 rfl rfl rfl (lJoin_ok (l := lL) (s := []) (i := 2) (t := 2) (((lL_R hJb).mono hK).mono hI26) SlR.nil (u64_nat 2 (by decide)) (u64_nat 2 (by decide)) lL_hL lL_hM (by decide) (by decide) (by decide)) fun v32 I32 O32 hI32 hK32 => ?_
      rw [ll2] at hK32
      obtain ⟨cs32, rfl, hm32, rfl⟩ := hK32
      have hm32' := hm32
      obtain ⟨ev32, rfl, he32⟩ := hm32.ex
      obtain ⟨a32, q32, rfl, -⟩ := he32
      refine .e (.move rfl) rfl rfl <| .e (.extract rfl rfl) rfl rfl <| .e (.extract rfl rfl) rfl rfl <| .e (.extract rfl rfl) rfl rfl <| .on rfl <| .alloc zr25 rfl fun c12 _ _ => .on rfl <| .storeW sz25 rfl rfl rfl rfl rfl rfl .here ?_
      refine .e (.assign rfl) rfl rfl <| .e (.assign rfl) rfl rfl <| .nil <| .go <| .seq <| .region ?_
      refine .e (.loadW ag25 sz25 rfl (.there <| .here) rfl) rfl rfl <| .on rfl <| .callP cal20 rfl rfl rfl (tripV_cast (lEnd_ok (hm26'.mono hI32)) ll3) <| .e (.move rfl) rfl rfl <| .e (.extract rfl rfl) rfl rfl <| .e (.extract rfl rfl) rfl rfl <| .e (.extract rfl rfl) rfl rfl ?_
      refine .e (.assign rfl) rfl rfl <| .e (.assign rfl) rfl rfl <| .e (.assign rfl) rfl rfl <| .nil <| .go <| .seq ?_
      refine .region <| .e (.loadW ag25 sz25 rfl (.there <| .there <| .here) rfl) rfl rfl <| .on rfl <| .call cal13 rfl rfl rfl (lTrim_ok (l := lL) (q := 2) ((((lL_R hJb).mono hK).mono hI26).mono hI32) (u64_nat 2 (by decide)) lL_hL lL_hM) fun v44 I44 O44 hI44 hK44 => ?_
      rw [ll4] at hK44
      obtain ⟨cs44, rfl, hm44, rfl⟩ := hK44
      have hm44' := hm44
      obtain ⟨ev44, rfl, he44⟩ := hm44.ex
      obtain ⟨a44, q44, rfl, -⟩ := he44
      refine .e (.move rfl) rfl rfl <| .e (.extract rfl rfl) rfl rfl <| .e (.extract rfl rfl) rfl rfl <| .on rfl <| .alloc zr25 rfl fun c13 _ _ => .on rfl <| .storeW sz25 rfl rfl rfl rfl rfl rfl .here <| .e (.assign rfl) rfl rfl ?_
      refine .nil <| .go <| .seq <| .region <| .e (.loadW ag25 sz25 rfl .here rfl) rfl rfl <| .on rfl <| .callP cal19 rfl rfl rfl (twoV_cast (lTerm_ok (i := 1) hm44' (u64_nat 1 (by decide))) ll5) ?_
      refine .e (.move rfl) rfl rfl <| .e (.extract rfl rfl) rfl rfl <| .e (.extract rfl rfl) rfl rfl <| .e (.assign rfl) rfl rfl <| .e (.assign rfl) rfl rfl <| .nil ?_
      refine .go <| .seq <| .region <| .e (.loadW ag25 sz25 rfl (.there <| .there <| .there <| .here) rfl) rfl rfl <| .on rfl <| .callP cal21 rfl rfl rfl (btV_cast (lNewer_ok (i := 3) (t := 2) (((((lL_R hJb).mono hK).mono hI26).mono hI32).mono hI44)) ll6) <| .e (.move rfl) rfl rfl ?_
      refine .e (.extract rfl rfl) rfl rfl <| .e (.extract rfl rfl) rfl rfl <| .e (.assign rfl) rfl rfl <| .e (.assign rfl) rfl rfl <| .nil <| .go ?_
      refine .seq <| .region <| .e (.move rfl) rfl rfl <| .e (.eql rfl rfl) rfl rfl <| .e (.move rfl) rfl rfl <| .e (.move rfl) rfl rfl ?_
      refine .e (.eql rfl rfl) rfl rfl <| .e (.pickT rfl rfl) rfl rfl <| .e (.move rfl) rfl rfl <| .e (.move rfl) rfl rfl <| .e (.eql rfl rfl) rfl rfl <| .e (.pickT rfl rfl) rfl rfl ?_
      refine .e (.move rfl) rfl rfl <| .e (.move rfl) rfl rfl <| .e (.eql rfl rfl) rfl rfl <| .e (.pickT rfl rfl) rfl rfl <| .e (.move rfl) rfl rfl <| .e (.move rfl) rfl rfl ?_
      refine .e (.eql rfl rfl) rfl rfl <| .e (.pickT rfl rfl) rfl rfl <| .e (.move rfl) rfl rfl <| .e (.move rfl) rfl rfl <| .e (.eql rfl rfl) rfl rfl <| .e (.pickT rfl rfl) rfl rfl ?_
      refine .e (.move rfl) rfl rfl <| .e (.fieldAddr fo25_0 rfl) rfl rfl <| .e (.load ag22 rfl .here rfl) rfl rfl <| .e (.eql rfl rfl) rfl rfl <| .e (.pickT rfl rfl) rfl rfl <| .e (.move rfl) rfl rfl ?_
      refine .e (.fieldAddr fo25_1 rfl) rfl rfl <| .e (.load ag22 rfl .here rfl) rfl rfl <| .e (.eql rfl rfl) rfl rfl <| .e (.pickT rfl rfl) rfl rfl <| .e (.move rfl) rfl rfl <| .e (.move rfl) rfl rfl ?_
      refine .e (.eql rfl rfl) rfl rfl <| .e (.pickT rfl rfl) rfl rfl <| .e (.move rfl) rfl rfl <| .e (.move rfl) rfl rfl <| .e (.eql rfl rfl) rfl rfl <| .e (.pickT rfl rfl) rfl rfl ?_
      refine .e (.move rfl) rfl rfl <| .e (.move rfl) rfl rfl <| .e (.pickT rfl rfl) rfl rfl <| .e (.move rfl) rfl rfl <| .e (.move rfl) rfl rfl <| .e (.eql rfl rfl) rfl rfl ?_
      refine .e (.pickT rfl rfl) rfl rfl <| .e (.assign rfl) rfl rfl <| .nil <| .go <| .ret ?_
      refine .tail <| .tail <| .tail <| .tail ?_
      refine .back (Imm.le_trans (Imm.le_trans (Imm.le_trans (Imm.le_trans hJ hK) hI26) hI32) hI44) ?_
      refine Post.retE rfl rfl ?_
      rfl
  · skip
    refine .alloc zr25 rfl fun c14 _ _ => ?_
    refine ⟨(.cons (.there <| .here) .nil), Imm.le_refl _, ?_⟩
    refine .one (i := 1) (by kernel_rfl) rfl rfl <| .callP cal39 rfl rfl rfl (entry_ok) ?_
    refine ⟨(.cons (.there <| .here) .nil), Imm.le_refl _, ?_⟩
    refine .one (i := 2) (by kernel_rfl) rfl rfl <| .buildSlice Try.underlying23 sz41 (by decide) (by decide) zv41 rfl rfl rfl rfl rfl fun c15 _ _ => ?_
    refine ⟨(.cons (.there <| .there <| .here) .nil), Imm.le_refl _, ?_⟩
    refine .freeze fun K hK hKb => ?_
    refine .one (i := 3) (by kernel_rfl) rfl rfl <| .call cal11 rfl rfl rfl (lJoin_ok (l := lL) (s := [eL 3 3]) (i := 2) (t := 1) ((lL_R hJb).mono hK) (SlR.ofRow hKb (DR.single rfl (eLR (u64_nat 3 (by decide)) (u64_nat 3 (by decide)))) rfl (by decide) (by decide)) (u64_nat 2 (by decide)) (u64_nat 1 (by decide)) lL_hL lL_hM (by decide) (by decide) (by decide)) fun v26 I26 O26 hI26 hK26 => ?_
    rw [ll1] at hK26
    obtain ⟨cs26, rfl, hm26, rfl⟩ := hK26
    have hm26' := hm26
    obtain ⟨ev26, rfl, he26⟩ := hm26.ex
    obtain ⟨a26, q26, rfl, -⟩ := he26
    refine ⟨(.cons (.there <| .here) .nil), (Imm.le_trans hK hI26), ?_⟩
    refine .t 4 rfl (.move rfl) rfl rfl (by kernel_rfl) <| .t 5 rfl (.extract rfl rfl) rfl rfl (by kernel_rfl) <| .t 6 rfl (.extract rfl rfl) rfl rfl (by kernel_rfl) <| .t 7 rfl (.extract rfl rfl) rfl rfl (by kernel_rfl) <| .one (i := 9) (by kernel_rfl) rfl rfl <| .storeW sz25 rfl rfl rfl rfl rfl rfl .here ?_
    refine ⟨(.cons (.there <| .here) .nil), (Imm.le_trans hK hI26), ?_⟩
    refine .t 10 rfl (.assign rfl) rfl rfl (by kernel_rfl) <| .t 11 rfl (.assign rfl) rfl rfl (by kernel_rfl) <| .done (by kernel_rfl) <| .go <| .seq <| .region ?_
    refine .e (.loadW ag25 sz25 rfl (.there <| .here) rfl) rfl rfl <| .on rfl <| .call cal11 rfl rfl rfl (lJoin_ok (l := lL) (s := []) (i := 2) (t := 2) (((lL_R hJb).mono hK).mono hI26) SlR.nil (u64_nat 2 (by decide)) (u64_nat 2 (by decide)) lL_hL lL_hM (by decide) (by decide) (by decide)) fun v32 I32 O32 hI32 hK32 => ?_
    rw [ll2] at hK32
    obtain ⟨cs32, rfl, hm32, rfl⟩ := hK32
    have hm32' := hm32
    obtain ⟨ev32, rfl, he32⟩ := hm32.ex
    obtain ⟨a32, q32, rfl, -⟩ := he32
    refine .e (.move rfl) rfl rfl <| .e (.extract rfl rfl) rfl rfl <| .e (.extract rfl rfl) rfl rfl <| .e (.extract rfl rfl) rfl rfl <| .on rfl <| .alloc zr25 rfl fun c16 _ _ => .on rfl <| .storeW sz25 rfl rfl rfl rfl rfl rfl .here ?_
    refine .e (.assign rfl) rfl rfl <| .e (.assign rfl) rfl rfl <| .nil <| .go <| .seq <| .region ?_
    refine .e (.loadW ag25 sz25 rfl (.there <| .here) rfl) rfl rfl <| .on rfl <| .callP cal20 rfl rfl rfl (tripV_cast (lEnd_ok (hm26'.mono hI32)) ll3) <| .e (.move rfl) rfl rfl <| .e (.extract rfl rfl) rfl rfl <| .e (.extract rfl rfl) rfl rfl <| .e (.extract rfl rfl) rfl rfl ?_
    refine .e (.assign rfl) rfl rfl <| .e (.assign rfl) rfl rfl <| .e (.assign rfl) rfl rfl <| .nil <| .go <| .seq ?_
    refine .region <| .e (.loadW ag25 sz25 rfl (.there <| .there <| .here) rfl) rfl rfl <| .on rfl <| .call cal13 rfl rfl rfl (lTrim_ok (l := lL) (q := 2) ((((lL_R hJb).mono hK).mono hI26).mono hI32) (u64_nat 2 (by decide)) lL_hL lL_hM) fun v44 I44 O44 hI44 hK44 => ?_
    rw [ll4] at hK44
    obtain ⟨cs44, rfl, hm44, rfl⟩ := hK44
    have hm44' := hm44
    obtain ⟨ev44, rfl, he44⟩ := hm44.ex
    obtain ⟨a44, q44, rfl, -⟩ := he44
    refine .e (.move rfl) rfl rfl <| .e (.extract rfl rfl) rfl rfl <| .e (.extract rfl rfl) rfl rfl <| .on rfl <| .alloc zr25 rfl fun c17 _ _ => .on rfl <| .storeW sz25 rfl rfl rfl rfl rfl rfl .here <| .e (.assign rfl) rfl rfl ?_
    refine .nil <| .go <| .seq <| .region <| .e (.loadW ag25 sz25 rfl .here rfl) rfl rfl <| .on rfl <| .callP cal19 rfl rfl rfl (twoV_cast (lTerm_ok (i := 1) hm44' (u64_nat 1 (by decide))) ll5) ?_
    refine .e (.move rfl) rfl rfl <| .e (.extract rfl rfl) rfl rfl <| .e (.extract rfl rfl) rfl rfl <| .e (.assign rfl) rfl rfl <| .e (.assign rfl) rfl rfl <| .nil ?_
    refine .go <| .seq <| .region <| .e (.loadW ag25 sz25 rfl (.there <| .there <| .there <| .here) rfl) rfl rfl <| .on rfl <| .callP cal21 rfl rfl rfl (btV_cast (lNewer_ok (i := 3) (t := 2) (((((lL_R hJb).mono hK).mono hI26).mono hI32).mono hI44)) ll6) <| .e (.move rfl) rfl rfl ?_
    refine .e (.extract rfl rfl) rfl rfl <| .e (.extract rfl rfl) rfl rfl <| .e (.assign rfl) rfl rfl <| .e (.assign rfl) rfl rfl <| .nil <| .go ?_
    refine .seq <| .region <| .e (.move rfl) rfl rfl <| .e (.eql rfl rfl) rfl rfl <| .e (.move rfl) rfl rfl <| .e (.move rfl) rfl rfl ?_
    refine .e (.eql rfl rfl) rfl rfl <| .e (.pickT rfl rfl) rfl rfl <| .e (.move rfl) rfl rfl <| .e (.move rfl) rfl rfl <| .e (.eql rfl rfl) rfl rfl <| .e (.pickT rfl rfl) rfl rfl ?_
    refine .e (.move rfl) rfl rfl <| .e (.move rfl) rfl rfl <| .e (.eql rfl rfl) rfl rfl <| .e (.pickT rfl rfl) rfl rfl <| .e (.move rfl) rfl rfl <| .e (.move rfl) rfl rfl ?_
    refine .e (.eql rfl rfl) rfl rfl <| .e (.pickT rfl rfl) rfl rfl <| .e (.move rfl) rfl rfl <| .e (.move rfl) rfl rfl <| .e (.eql rfl rfl) rfl rfl <| .e (.pickT rfl rfl) rfl rfl ?_
    refine .e (.move rfl) rfl rfl <| .e (.fieldAddr fo25_0 rfl) rfl rfl <| .e (.load ag22 rfl .here rfl) rfl rfl <| .e (.eql rfl rfl) rfl rfl <| .e (.pickT rfl rfl) rfl rfl <| .e (.move rfl) rfl rfl ?_
    refine .e (.fieldAddr fo25_1 rfl) rfl rfl <| .e (.load ag22 rfl .here rfl) rfl rfl <| .e (.eql rfl rfl) rfl rfl <| .e (.pickT rfl rfl) rfl rfl <| .e (.move rfl) rfl rfl <| .e (.move rfl) rfl rfl ?_
    refine .e (.eql rfl rfl) rfl rfl <| .e (.pickT rfl rfl) rfl rfl <| .e (.move rfl) rfl rfl <| .e (.move rfl) rfl rfl <| .e (.eql rfl rfl) rfl rfl <| .e (.pickT rfl rfl) rfl rfl ?_
    refine .e (.move rfl) rfl rfl <| .e (.move rfl) rfl rfl <| .e (.pickT rfl rfl) rfl rfl <| .e (.move rfl) rfl rfl <| .e (.move rfl) rfl rfl <| .e (.eql rfl rfl) rfl rfl ?_
    refine .e (.pickT rfl rfl) rfl rfl <| .e (.assign rfl) rfl rfl <| .nil <| .go <| .ret ?_
    refine .tail <| .tail <| .tail <| .tail ?_
    refine .back (Imm.le_trans (Imm.le_trans (Imm.le_trans (Imm.le_trans hJ hK) hI26) hI32) hI44) ?_
    refine Post.retE rfl rfl ?_
    rfl

end Go.Proofs.Yteajcmnbjpbnpaa
