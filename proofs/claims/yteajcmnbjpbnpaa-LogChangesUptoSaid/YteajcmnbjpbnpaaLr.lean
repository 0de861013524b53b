/- Walks of functions over a symbolic memory, printed by a program of the session. -/
import Derived.Test.YteajcmnbjpbnpaaLq
namespace Go.Proofs.Yteajcmnbjpbnpaa
open Go.Sy
set_option linter.unusedSimpArgs false
set_option linter.unusedVariables false

set_option maxHeartbeats 4000000 in
set_option maxRecDepth 20000 in
theorem LogChanges_ok {I : Imm} {O : Own} {lc : List Value} {l : Lg} (hl : LgR I lc l) {v : Value} {s : List Ent} (hs : EntsR I v s) {i t q : Int} (hi : U64 i) (ht : U64 t) (hq : U64 q) (hL : l.ents.length * 64 ≤ 140737488351232) (hM : ∀ e ∈ l.ents, e.members.length * 8 ≤ 140737488351232) (hLs : s.length * 64 ≤ 140737488351232) (hMs : ∀ e ∈ s, e.members.length * 8 ≤ 140737488351232) (hLL : (l.ents.length + s.length) * 64 ≤ 140737488351232) :
    Pure Try.prog 3 [.agg ⟨lc⟩, .int .u64 i, .int .u64 t, v, .int .u64 q] I O (.bool true) := by
  have hl0 := hl
  obtain ⟨ev, rfl, hev⟩ := hl.ex
  have hev0 := hev
  obtain ⟨va, vcap, rfl, hv1, hv2, -⟩ := hev
  have hbase := hl0.base
  have hterm := hl0.term
  unfold U64 at hbase hterm
  have hs0 := hs
  obtain ⟨sa, scap, rfl, hs1, hs2, -⟩ := hs
  refine Does.enter Try.func3 rfl Try.ntmps3 rfl ?_
  refine .seq <| .region <| .on rfl <| .box rfl rfl rfl fun c1 _ _ => .e (.assign rfl) rfl rfl <| .nil <| .go ?_
  refine .seq <| .region <| .e (.loadW ag25 sz25 rfl .here rfl) rfl rfl <| .on rfl <| .call cal9 rfl rfl rfl (rCopy_ok hl0 hL hM) fun v24 I24 O24 hI24 hK24 => ?_
  obtain ⟨ev24, ws24, ob24, rfl, ho24, hd24, rfl⟩ := hK24
  obtain ⟨ad24, cap24, rfl⟩ := ho24.form
  refine .freezeS ho24 fun J hJ hJs => ?_
  have hgJ : LgR J (l.cells (.slice ad24 l.ents.length cap24)) l := ⟨⟨_, rfl, hJs (R := EntR) (hd24.mono fun _ _ h => h.mono hJ) rfl⟩, hl0.base, hl0.term⟩
  refine .e (.move rfl) rfl rfl <| .on rfl <| .call cal10 rfl rfl rfl (copy_ok (hs0.mono (Imm.le_trans hI24 hJ)) hLs hMs) fun v26 I26 O26 hI26 hK26 => ?_
  obtain ⟨ws26, ob26, ho26, hd26, rfl⟩ := hK26
  obtain ⟨ad26, cap26, rfl⟩ := ho26.form
  refine .on rfl <| .alloc zr25 rfl fun c2 _ _ => ?_
  refine .front (.there <| .front) ?_
  refine .freezeS ho26 fun K hK hKs => ?_
  have haK : EntsR K (.slice ad26 s.length cap26) s := hKs (R := EntR) (hd26.mono fun _ _ h => h.mono hK) rfl
  refine .on rfl <| .storeW sz25 rfl rfl rfl rfl rfl rfl .here <| .e (.assign rfl) rfl rfl <| .nil <| .go <| .seq <| .region ?_
  refine .e (.loadW ag25 sz25 rfl .here rfl) rfl rfl <| .e (.move rfl) rfl rfl <| .e (.move rfl) rfl rfl <| .e (.move rfl) rfl rfl <| .on rfl <| .call cal11 rfl rfl rfl (lJoin_ok (hgJ.mono (Imm.le_trans hI26 hK)) haK hi ht hL hM hLs hMs hLL) fun v32 I32 O32 hI32 hK32 => ?_
  obtain ⟨cs32, rfl, hm32, rfl⟩ := hK32
  have hm32' := hm32
  obtain ⟨ev32, rfl, he32⟩ := hm32.ex
  obtain ⟨a32, q32, rfl, -⟩ := he32
  refine .e (.move rfl) rfl rfl <| .e (.extract rfl rfl) rfl rfl <| .e (.extract rfl rfl) rfl rfl <| .e (.extract rfl rfl) rfl rfl <| .on rfl <| .alloc zr25 rfl fun c3 _ _ => .on rfl <| .storeW sz25 rfl rfl rfl rfl rfl rfl .here ?_
  refine .e (.assign rfl) rfl rfl <| .e (.assign rfl) rfl rfl <| .nil <| .go <| .seq <| .region ?_
  refine .e (.loadW ag25 sz25 rfl (.there <| .there <| .here) rfl) rfl rfl <| .e (.move rfl) rfl rfl <| .e (.move rfl) rfl rfl <| .e (.move rfl) rfl rfl <| .on rfl <| .call cal12 rfl rfl rfl (rJoin_ok (hl0.mono (Imm.le_trans (Imm.le_trans (Imm.le_trans (Imm.le_trans hI24 hJ) hI26) hK) hI32)) (hs0.mono (Imm.le_trans (Imm.le_trans (Imm.le_trans (Imm.le_trans hI24 hJ) hI26) hK) hI32)) hi ht hL hM hLs hMs hLL) fun v41 I41 O41 hI41 hK41 => ?_
  obtain ⟨cs41, rfl, hm41, rfl⟩ := hK41
  have hm41' := hm41
  obtain ⟨ev41, rfl, he41⟩ := hm41.ex
  obtain ⟨a41, q41, rfl, -⟩ := he41
  refine .e (.move rfl) rfl rfl <| .e (.extract rfl rfl) rfl rfl <| .e (.extract rfl rfl) rfl rfl <| .e (.extract rfl rfl) rfl rfl <| .on rfl <| .alloc zr25 rfl fun c4 _ _ => .on rfl <| .storeW sz25 rfl rfl rfl rfl rfl rfl .here ?_
  refine .e (.assign rfl) rfl rfl <| .e (.assign rfl) rfl rfl <| .nil <| .go <| .seq <| .region ?_
  refine .e (.loadW ag25 sz25 rfl (.there <| .there <| .here) rfl) rfl rfl <| .e (.move rfl) rfl rfl <| .on rfl <| .call cal13 rfl rfl rfl (lTrim_ok (hgJ.mono (Imm.le_trans (Imm.le_trans (Imm.le_trans hI26 hK) hI32) hI41)) hq hL hM) fun v48 I48 O48 hI48 hK48 => ?_
  obtain ⟨cs48, rfl, hm48, rfl⟩ := hK48
  have hm48' := hm48
  obtain ⟨ev48, rfl, he48⟩ := hm48.ex
  obtain ⟨a48, q48, rfl, -⟩ := he48
  refine .e (.move rfl) rfl rfl <| .e (.extract rfl rfl) rfl rfl <| .e (.extract rfl rfl) rfl rfl <| .on rfl <| .alloc zr25 rfl fun c5 _ _ => .on rfl <| .storeW sz25 rfl rfl rfl rfl rfl rfl .here <| .e (.assign rfl) rfl rfl ?_
  refine .nil <| .go <| .seq <| .region <| .e (.loadW ag25 sz25 rfl (.there <| .there <| .there <| .there <| .here) rfl) rfl rfl <| .e (.move rfl) rfl rfl ?_
  refine .on rfl <| .call cal14 rfl rfl rfl (rTrim_ok (hl0.mono (Imm.le_trans (Imm.le_trans (Imm.le_trans (Imm.le_trans (Imm.le_trans (Imm.le_trans hI24 hJ) hI26) hK) hI32) hI41) hI48)) hq hL hM) fun v54 I54 O54 hI54 hK54 => ?_
  obtain ⟨cs54, rfl, hm54, rfl⟩ := hK54
  have hm54' := hm54
  obtain ⟨ev54, rfl, he54⟩ := hm54.ex
  obtain ⟨a54, q54, rfl, -⟩ := he54
  refine .e (.move rfl) rfl rfl <| .e (.extract rfl rfl) rfl rfl <| .e (.extract rfl rfl) rfl rfl <| .on rfl <| .alloc zr25 rfl fun c6 _ _ => .on rfl <| .storeW sz25 rfl rfl rfl rfl rfl rfl .here <| .e (.assign rfl) rfl rfl ?_
  refine .nil <| .go <| .seq <| .region <| .on rfl <| .callP cal15 rfl rfl rfl (lives_ok) <| .e (.move rfl) rfl rfl ?_
  refine .e (.loadW ag25 sz25 rfl (.there <| .there <| .there <| .here) rfl) rfl rfl <| .e (.loadW ag25 sz25 rfl (.there <| .there <| .here) rfl) rfl rfl <| .on rfl <| .callP cal16 rfl rfl rfl ((sameLog_ok (hm32'.mono (Imm.le_trans (Imm.le_trans hI41 hI48) hI54)) (hm41'.mono (Imm.le_trans hI48 hI54))).cast (congrArg Value.bool (decide_eq_true rfl))) <| .e (.pickT rfl rfl) rfl rfl <| .e (.move rfl) rfl rfl <| .e (.move rfl) rfl rfl ?_
  refine .e (.move rfl) rfl rfl <| .e ((EV.cast (u := .bool true) (.eql rfl rfl) (by simp))) rfl rfl <| .e (.pickT rfl rfl) rfl rfl <| .e (.move rfl) rfl rfl <| .e (.move rfl) rfl rfl <| .e (.move rfl) rfl rfl ?_
  refine .e ((EV.cast (u := .bool true) (.eql rfl rfl) (by simp))) rfl rfl <| .e (.pickT rfl rfl) rfl rfl <| .e (.move rfl) rfl rfl <| .e (.loadW ag25 sz25 rfl (.there <| .here) rfl) rfl rfl <| .e (.loadW ag25 sz25 rfl .here rfl) rfl rfl <| .on rfl <| .callP cal16 rfl rfl rfl ((sameLog_ok (hm48'.mono hI54) hm54').cast (congrArg Value.bool (decide_eq_true rfl))) ?_
  refine .e (.pickT rfl rfl) rfl rfl <| .e (.move rfl) rfl rfl <| .e (.move rfl) rfl rfl <| .e (.move rfl) rfl rfl <| .e ((EV.cast (u := .bool true) (.eql rfl rfl) (by simp))) rfl rfl <| .e (.pickT rfl rfl) rfl rfl ?_
  refine .e (.move rfl) rfl rfl <| .e (.loadW ag25 sz25 rfl (.there <| .there <| .there <| .there <| .here) rfl) rfl rfl <| .e (.loadW ag25 sz25 rfl (.there <| .there <| .there <| .there <| .there <| .here) rfl) rfl rfl <| .on rfl <| .callP cal16 rfl rfl rfl ((sameLog_ok (hgJ.mono (Imm.le_trans (Imm.le_trans (Imm.le_trans (Imm.le_trans (Imm.le_trans hI26 hK) hI32) hI41) hI48) hI54)) (hl0.mono (Imm.le_trans (Imm.le_trans (Imm.le_trans (Imm.le_trans (Imm.le_trans (Imm.le_trans (Imm.le_trans hI24 hJ) hI26) hK) hI32) hI41) hI48) hI54))).cast (congrArg Value.bool (decide_eq_true rfl))) <| .e (.pickT rfl rfl) rfl rfl <| .e (.move rfl) rfl rfl ?_
  refine .e (.move rfl) rfl rfl <| .e (.move rfl) rfl rfl <| .on rfl <| .callP cal17 rfl rfl rfl ((sameEnts_ok (haK.mono (Imm.le_trans (Imm.le_trans (Imm.le_trans hI32 hI41) hI48) hI54)) (hs0.mono (Imm.le_trans (Imm.le_trans (Imm.le_trans (Imm.le_trans (Imm.le_trans (Imm.le_trans (Imm.le_trans hI24 hJ) hI26) hK) hI32) hI41) hI48) hI54))).cast (congrArg Value.bool (decide_eq_true rfl))) <| .e (.pickT rfl rfl) rfl rfl <| .e (.assign rfl) rfl rfl <| .nil ?_
  refine .go <| .ret ?_
  refine .tail <| .tail <| .tail <| .tail <| .tail <| .tail ?_
  refine .back (Imm.le_trans (Imm.le_trans (Imm.le_trans (Imm.le_trans (Imm.le_trans (Imm.le_trans (Imm.le_trans hI24 hJ) hI26) hK) hI32) hI41) hI48) hI54) ?_
  refine Post.retE rfl rfl ?_
  rfl

end Go.Proofs.Yteajcmnbjpbnpaa
