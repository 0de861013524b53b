/- Walks of functions over a symbolic memory, printed by a program of the session. -/
import Derived.Test.YteajcmnbjpbnpaaLw
import Derived.Test.YteajcmnbjpbnpaaMem
namespace Go.Proofs.Yteajcmnbjpbnpaa
open Go.Sy
set_option linter.unusedSimpArgs false
set_option linter.unusedVariables false

set_option maxHeartbeats 8000000 in
set_option maxRecDepth 20000 in
theorem LogAsks_ok {I : Imm} {O : Go.Sy.Own} {lc : List Value} {l : Lg} (hl : LgR I lc l) {i t mo : Int} (hi : U64 i) (ht : U64 t) (hmo : I64 mo) {v : Value} {b : List Int} (hb : IntsR I v b) (hB : b.length * 8 ≤ 140737488351232) (hL : l.ents.length * 64 ≤ 140737488351232) (hM : ∀ e ∈ l.ents, e.members.length * 8 ≤ 140737488351232) :
    Pure Try.prog 8 [.agg ⟨lc⟩, .int .u64 i, .int .u64 t, .int .i64 mo, v] I O (.bool true) := by
  have hl0 := hl
  obtain ⟨ev, rfl, hev⟩ := hl.ex
  have hev0 := hev
  obtain ⟨va, vcap, rfl, hv1, hv2, -⟩ := hev
  have hbase := hl0.base
  have hterm := hl0.term
  unfold U64 at hbase hterm
  have hb0 := hb
  obtain ⟨ba, bcap, rfl, hb1, hb2, -⟩ := hb
  refine Go.Sy.Does.enter Try.func8 rfl Try.ntmps8 rfl ?_
  refine .seq <| .region <| .on rfl <| .box rfl rfl rfl fun c1 _ _ => .e (.assign rfl) rfl rfl <| .nil <| .go ?_
  refine .seq <| .region <| .e (.loadW ag25 sz25 rfl .here rfl) rfl rfl <| .on rfl <| .callP cal20 rfl rfl rfl (lEnd_ok hl0) <| .e (.move rfl) rfl rfl <| .e (.extract rfl rfl) rfl rfl ?_
  refine .e (.extract rfl rfl) rfl rfl <| .e (.extract rfl rfl) rfl rfl <| .e (.assign rfl) rfl rfl <| .e (.assign rfl) rfl rfl <| .e (.assign rfl) rfl rfl <| .nil ?_
  refine .go <| .seq <| .region <| .e (.loadW ag25 sz25 rfl .here rfl) rfl rfl <| .on rfl <| .callP cal23 rfl rfl rfl (rEnd_ok hl0) <| .e (.move rfl) rfl rfl ?_
  refine .e (.extract rfl rfl) rfl rfl <| .e (.extract rfl rfl) rfl rfl <| .e (.extract rfl rfl) rfl rfl <| .e (.assign rfl) rfl rfl <| .e (.assign rfl) rfl rfl <| .e (.assign rfl) rfl rfl ?_
  refine .nil <| .go <| .seq <| .region <| .e (.loadW ag25 sz25 rfl .here rfl) rfl rfl <| .e (.move rfl) rfl rfl ?_
  refine .on rfl <| .callP cal19 rfl rfl rfl (lTerm_ok hl0 hi) <| .e (.move rfl) rfl rfl <| .e (.extract rfl rfl) rfl rfl <| .e (.extract rfl rfl) rfl rfl <| .e (.assign rfl) rfl rfl <| .e (.assign rfl) rfl rfl ?_
  refine .nil <| .go <| .seq <| .region <| .e (.loadW ag25 sz25 rfl .here rfl) rfl rfl <| .e (.move rfl) rfl rfl ?_
  refine .on rfl <| .callP cal24 rfl rfl rfl (rTerm_ok hl0 hi) <| .e (.move rfl) rfl rfl <| .e (.extract rfl rfl) rfl rfl <| .e (.extract rfl rfl) rfl rfl <| .e (.assign rfl) rfl rfl <| .e (.assign rfl) rfl rfl ?_
  refine .nil <| .go <| .seq <| .region <| .e (.loadW ag25 sz25 rfl .here rfl) rfl rfl <| .e (.move rfl) rfl rfl ?_
  refine .e (.move rfl) rfl rfl <| .on rfl <| .call cal22 rfl rfl rfl (lFrom_ok hl0 hi hmo hL hM) fun v61 I61 O61 hI61 hK61 => ?_
  obtain ⟨w61, ws61, ob61, rfl, ho61, hd61, rfl⟩ := hK61
  obtain ⟨ad61, cap61, rfl⟩ := ho61.form
  refine .e (.move rfl) rfl rfl <| .e (.extract rfl rfl) rfl rfl <| .e (.extract rfl rfl) rfl rfl <| .e (.assign rfl) rfl rfl <| .e (.assign rfl) rfl rfl <| .nil ?_
  refine .go <| .seq <| .region ?_
  refine .freezeS ho61 fun J hJ hJs => ?_
  have hgJ : EntsR J _ (fromR l i mo).1 := hJs (R := EntR) (hd61.mono fun _ _ h => h.mono hJ) rfl
  refine .e (.loadW ag25 sz25 rfl .here rfl) rfl rfl <| .e (.move rfl) rfl rfl <| .e (.move rfl) rfl rfl <| .on rfl <| .call cal25 rfl rfl rfl (rFrom_ok (hl0.mono (Imm.le_trans hI61 hJ)) hi hmo hL hM) fun v68 I68 O68 hI68 hK68 => ?_
  obtain ⟨w68, ws68, ob68, rfl, ho68, hd68, rfl⟩ := hK68
  obtain ⟨ad68, cap68, rfl⟩ := ho68.form
  refine .e (.move rfl) rfl rfl <| .e (.extract rfl rfl) rfl rfl <| .e (.extract rfl rfl) rfl rfl <| .e (.assign rfl) rfl rfl <| .e (.assign rfl) rfl rfl <| .nil ?_
  refine .go <| .seq <| .seq <| .region ?_
  refine .freezeS ho68 fun K hK hKs => ?_
  have hgK : EntsR K _ (fromR l i mo).1 := hKs (R := EntR) (hd68.mono fun _ _ h => h.mono hK) rfl
  refine .on rfl <| .callP cal15 rfl rfl rfl (lives_ok) <| .e (.not rfl) rfl rfl <| .e (.move rfl) rfl rfl <| .e (.move rfl) rfl rfl <| .e (.move rfl) rfl rfl <| .e ((EV.cast (u := .bool false) (.neq rfl rfl) (by simp))) rfl rfl ?_
  refine .e (.pickF rfl rfl) rfl rfl <| .e (.move rfl) rfl rfl <| .e (.move rfl) rfl rfl <| .e (.move rfl) rfl rfl <| .e ((EV.cast (u := .bool false) (.neq rfl rfl) (by simp))) rfl rfl <| .e (.pickF rfl rfl) rfl rfl ?_
  refine .e (.move rfl) rfl rfl <| .e (.move rfl) rfl rfl <| .e (.move rfl) rfl rfl <| .e ((EV.cast (u := .bool false) (.neq rfl rfl) (by simp))) rfl rfl <| .e (.pickF rfl rfl) rfl rfl <| .e (.move rfl) rfl rfl ?_
  refine .e (.move rfl) rfl rfl <| .e (.move rfl) rfl rfl <| .e ((EV.cast (u := .bool false) (.neq rfl rfl) (by simp))) rfl rfl <| .e (.pickF rfl rfl) rfl rfl <| .e (.move rfl) rfl rfl <| .e (.move rfl) rfl rfl ?_
  refine .e (.move rfl) rfl rfl <| .e ((EV.cast (u := .bool false) (.neq rfl rfl) (by simp))) rfl rfl <| .e (.pickF rfl rfl) rfl rfl <| .e (.move rfl) rfl rfl <| .e (.move rfl) rfl rfl <| .e (.move rfl) rfl rfl ?_
  refine .on rfl <| .callP cal17 rfl rfl rfl ((sameEnts_ok (hgJ.mono (Imm.le_trans hI68 hK)) hgK).cast (congrArg Value.bool (decide_eq_true rfl))) <| .e (.not rfl) rfl rfl <| .e (.pickF rfl rfl) rfl rfl <| .e (.move rfl) rfl rfl <| .e (.move rfl) rfl rfl <| .e (.move rfl) rfl rfl ?_
  refine .e ((EV.cast (u := .bool false) (.neq rfl rfl) (by simp))) rfl rfl <| .e (.pickF rfl rfl) rfl rfl <| .nil <| .go <| .cond_false rfl <| .skip ?_
  refine .go <| .seq <| .region <| .e (.loadW ag25 sz25 rfl .here rfl) rfl rfl <| .e (.move rfl) rfl rfl <| .e (.move rfl) rfl rfl ?_
  refine .on rfl <| .callP cal21 rfl rfl rfl (lNewer_ok (i := i) (t := t) (hl0.mono (Imm.le_trans (Imm.le_trans (Imm.le_trans hI61 hJ) hI68) hK))) <| .e (.move rfl) rfl rfl <| .e (.extract rfl rfl) rfl rfl <| .e (.extract rfl rfl) rfl rfl <| .e (.assign rfl) rfl rfl <| .e (.assign rfl) rfl rfl ?_
  refine .nil <| .go <| .seq <| .region <| .e (.loadW ag25 sz25 rfl .here rfl) rfl rfl <| .e (.move rfl) rfl rfl ?_
  refine .e (.move rfl) rfl rfl <| .on rfl <| .callP cal26 rfl rfl rfl (rNewer_ok (i := i) (t := t) (hl0.mono (Imm.le_trans (Imm.le_trans (Imm.le_trans hI61 hJ) hI68) hK))) <| .e (.move rfl) rfl rfl <| .e (.extract rfl rfl) rfl rfl <| .e (.extract rfl rfl) rfl rfl <| .e (.assign rfl) rfl rfl ?_
  refine .e (.assign rfl) rfl rfl <| .nil <| .go <| .seq <| .region <| .e (.loadW ag25 sz25 rfl .here rfl) rfl rfl ?_
  refine .e (.move rfl) rfl rfl <| .e (.move rfl) rfl rfl <| .on rfl <| .call cal27 rfl rfl rfl (lMem_ok (i := i) (hl0.mono (Imm.le_trans (Imm.le_trans (Imm.le_trans hI61 hJ) hI68) hK)) (hb0.mono (Imm.le_trans (Imm.le_trans (Imm.le_trans hI61 hJ) hI68) hK)) hB hM) fun v127 I127 O127 hI127 hK127 => ?_
  obtain ⟨w127, ws127, ob127, rfl, ho127, hd127, rfl⟩ := hK127
  obtain ⟨ad127, cap127, rfl⟩ := ho127.form
  refine .e (.move rfl) rfl rfl <| .e (.extract rfl rfl) rfl rfl <| .e (.extract rfl rfl) rfl rfl <| .e (.assign rfl) rfl rfl <| .e (.assign rfl) rfl rfl <| .nil ?_
  refine .go <| .seq <| .region ?_
  refine .freezeS ho127 fun V hV hVs => ?_
  have hgV : IntsR V _ (memR l i b).1 := hVs (R := I64R) (hd127.mono fun _ _ h => h) rfl
  refine .e (.loadW ag25 sz25 rfl .here rfl) rfl rfl <| .e (.move rfl) rfl rfl <| .e (.move rfl) rfl rfl <| .on rfl <| .call cal28 rfl rfl rfl (rMem_ok (i := i) (hl0.mono (Imm.le_trans (Imm.le_trans (Imm.le_trans (Imm.le_trans (Imm.le_trans hI61 hJ) hI68) hK) hI127) hV)) (hb0.mono (Imm.le_trans (Imm.le_trans (Imm.le_trans (Imm.le_trans (Imm.le_trans hI61 hJ) hI68) hK) hI127) hV)) hB hM) fun v134 I134 O134 hI134 hK134 => ?_
  obtain ⟨w134, ws134, ob134, rfl, ho134, hd134, rfl⟩ := hK134
  obtain ⟨ad134, cap134, rfl⟩ := ho134.form
  refine .e (.move rfl) rfl rfl <| .e (.extract rfl rfl) rfl rfl <| .e (.extract rfl rfl) rfl rfl <| .e (.assign rfl) rfl rfl <| .e (.assign rfl) rfl rfl <| .nil ?_
  refine .go <| .seq ?_
  refine .freezeS ho134 fun Z hZ hZs => ?_
  have hgZ : IntsR Z _ (memR l i b).1 := hZs (R := I64R) (hd134.mono fun _ _ h => h) rfl
  refine .draw [(c1, _)] mixed (.cons .here .nil) ?_
  refine .t 0 rfl (.move rfl) rfl rfl (by kernel_rfl) <| .t 1 rfl (.move rfl) rfl rfl (by kernel_rfl) <| .t 2 rfl ((EV.cast (u := .bool true) (.eqv (EqOk.bool Try.underlying4) rfl rfl) (by simp))) rfl rfl (by kernel_rfl) <| .t 3 rfl (.move rfl) rfl rfl (by kernel_rfl) <| .t 4 rfl (.move rfl) rfl rfl (by kernel_rfl) <| .t 5 rfl (.move rfl) rfl rfl (by kernel_rfl) ?_
  refine .t 6 rfl ((EV.cast (u := .bool true) (.eql rfl rfl) (by simp))) rfl rfl (by kernel_rfl) <| .t 7 rfl (.pickT rfl rfl) rfl rfl (by kernel_rfl) <| .t 8 rfl (.move rfl) rfl rfl (by kernel_rfl) <| .t 9 rfl (.move rfl) rfl rfl (by kernel_rfl) <| .t 10 rfl (.move rfl) rfl rfl (by kernel_rfl) <| .one (i := 11) (by kernel_rfl) rfl rfl ?_
  refine .callP cal29 rfl rfl rfl ((sameInts_ok (hgV.mono (Imm.le_trans hI134 hZ)) hgZ).cast (congrArg Value.bool (decide_eq_true rfl))) ?_
  refine ⟨(.cons .here .nil), Imm.le_refl _, ?_⟩
  refine .t 12 rfl (.pickT rfl rfl) rfl rfl (by kernel_rfl) <| .t 13 rfl (.move rfl) rfl rfl (by kernel_rfl) <| .t 14 rfl (.move rfl) rfl rfl (by kernel_rfl) <| .t 15 rfl (.move rfl) rfl rfl (by kernel_rfl) <| .t 16 rfl ((EV.cast (u := .bool true) (.eql rfl rfl) (by simp))) rfl rfl (by kernel_rfl) <| .t 17 rfl (.pickT rfl rfl) rfl rfl (by kernel_rfl) ?_
  refine .t 18 rfl (.move rfl) rfl rfl (by kernel_rfl) <| .t 19 rfl (.loadW ag25 sz25 rfl .here rfl) rfl rfl (by kernel_rfl) <| .t 21 rfl (.loadW ag25 sz25 rfl .here rfl) rfl rfl (by kernel_rfl) <| .one (i := 20) (by kernel_rfl) rfl rfl <| .callP cal18 rfl rfl rfl (lCheck_ok (hl0.mono (Imm.le_trans (Imm.le_trans (Imm.le_trans (Imm.le_trans (Imm.le_trans (Imm.le_trans (Imm.le_trans hI61 hJ) hI68) hK) hI127) hV) hI134) hZ))) ?_
  refine ⟨(.cons .here .nil), Imm.le_refl _, ?_⟩
  refine .one (i := 22) (by kernel_rfl) rfl rfl <| .callP cal30 rfl rfl rfl (rlCheck_ok (hl0.mono (Imm.le_trans (Imm.le_trans (Imm.le_trans (Imm.le_trans (Imm.le_trans (Imm.le_trans (Imm.le_trans hI61 hJ) hI68) hK) hI127) hV) hI134) hZ))) ?_
  refine ⟨(.cons .here .nil), Imm.le_refl _, ?_⟩
  refine .t 23 rfl ((EV.cast (u := .bool true) (.eql rfl rfl) (by simp))) rfl rfl (by kernel_rfl) <| .t 24 rfl (.pickT rfl rfl) rfl rfl (by kernel_rfl) <| .t 25 rfl (.assign rfl) rfl rfl (by kernel_rfl) <| .done (by kernel_rfl) <| .go <| .ret ?_
  refine .tail ?_
  refine .back (Imm.le_trans (Imm.le_trans (Imm.le_trans (Imm.le_trans (Imm.le_trans (Imm.le_trans (Imm.le_trans hI61 hJ) hI68) hK) hI127) hV) hI134) hZ) ?_
  refine Post.retE rfl rfl ?_
  rfl

end Go.Proofs.Yteajcmnbjpbnpaa
