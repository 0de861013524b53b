/- Walks of functions over a symbolic memory, printed by a program of the session. -/
import Derived.Test.YtmmokaockpghaaaGreatDoorSe
namespace Go.Proofs.YtmmokaockpghaaaGreatDoor
open Go.Sy
set_option linter.unusedSimpArgs false
set_option linter.unusedVariables false

set_option maxHeartbeats 16000000 in
set_option maxRecDepth 20000 in
theorem SchedFence_ok {I : Imm} {O : Own} {kc : List Value} {b : Bk} (hk : BkR I kc b) {f g : Int} (hf : U64 f) (hg : U64 g) :
    Pure Tryz.prog 12 [.agg ⟨kc⟩, .int .u64 f, .int .u64 g] I O (.bool true) := by
  have hk0 := hk
  obtain ⟨nv, tv, bv, rfl, hnv, htv, hbv⟩ := hk.ex
  have hnv0 := hnv
  have htv0 := htv
  have hbv0 := hbv
  obtain ⟨na, ncap, rfl, hn1, hn2, -⟩ := hnv
  obtain ⟨ta, tcap, rfl, ht1, ht2, -⟩ := htv
  obtain ⟨ba, bcap, rfl, hb1, hb2, -⟩ := hbv
  refine Go.Sy.Does.enter Tryz.func12 rfl Tryz.ntmps12 rfl ?_
  refine .seq <| .region <| .on rfl <| .box rfl rfl rfl fun c1 _ _ => .e (.assign rfl) rfl rfl <| .nil <| .go ?_
  refine .seq <| .seq <| .region <| .on rfl <| .callP cal32 rfl rfl rfl (slives_ok) <| .e (.not rfl) rfl rfl <| .nil ?_
  refine .go <| .cond_false rfl <| .skip <| .go <| .seq <| .region ?_
  refine .e (.loadW ag27 sz27 rfl .here rfl) rfl rfl <| .e (.move rfl) rfl rfl <| .on rfl <| .call cal28 rfl rfl rfl (PlanF hk0 hf) fun v17 I17 O17 hI17 hK17 => ?_
  obtain ⟨W, e, hW⟩ : ∃ W e, planQ b f = (W, e) := ⟨_, _, rfl⟩
  rw [hW] at hK17
  dsimp only at hK17
  obtain ⟨rfl, u17, rfl, hl17⟩ := hK17
  have hl170 := hl17
  obtain ⟨la17, lc17, rfl, hl171, hl172, -⟩ := hl17
  have hP := PlanP.of hW
  refine .e (.move rfl) rfl rfl <| .e (.extract rfl rfl) rfl rfl <| .e (.extract rfl rfl) rfl rfl <| .e (.assign rfl) rfl rfl <| .e (.assign rfl) rfl rfl <| .nil ?_
  refine .go <| .seq <| .region <| .e (.loadW ag27 sz27 rfl .here rfl) rfl rfl <| .e (.move rfl) rfl rfl <| .on rfl <| .call cal28 rfl rfl rfl (PlanF (hk0.mono hI17) hg) fun v23 I23 O23 hI23 hK23 => ?_
  obtain ⟨V, e2, hV⟩ : ∃ W e, planQ b g = (W, e) := ⟨_, _, rfl⟩
  rw [hV] at hK23
  dsimp only at hK23
  obtain ⟨rfl, u23, rfl, hl23⟩ := hK23
  have hl230 := hl23
  obtain ⟨la23, lc23, rfl, hl231, hl232, -⟩ := hl23
  have hQ := PlanP.of hV
  have hFL := fence_law hW hV
  refine .e (.move rfl) rfl rfl <| .e (.extract rfl rfl) rfl rfl <| .e (.extract rfl rfl) rfl rfl <| .e (.assign rfl) rfl rfl <| .e (.assign rfl) rfl rfl <| .nil ?_
  refine .go <| .seq <| .seq <| .region <| .e (.move rfl) rfl rfl <| .e (.move rfl) rfl rfl ?_
  refine .e ((EV.cast (u := .bool false) (.neq rfl rfl) (congrArg Value.bool (by rw [decide_eq_true (hFL.1)]; rfl)))) rfl rfl <| .e (.move rfl) rfl rfl <| .e (.move rfl) rfl rfl <| .e (.len sl66 rfl rfl) rfl rfl <| .e (.move rfl) rfl rfl <| .e (.len sl66 rfl rfl) rfl rfl ?_
  refine .e ((EV.cast (u := .bool false) (.neq rfl rfl) (congrArg Value.bool (by rw [decide_eq_true (by have := hFL.2.1; omega)]; rfl)))) rfl rfl <| .e (.pickF rfl rfl) rfl rfl <| .nil <| .go <| .cond_false rfl <| .skip ?_
  refine .go <| .seq <| .seq <| .region <| .e (.move rfl) rfl rfl <| .e (.len sl66 rfl rfl) rfl rfl ?_
  refine .e (.move rfl) rfl rfl <| .nil <| .go <| .block ?_
  refine .loopM [6, 11, 38, 39, 40, 41, 42, 43, 44, 45, 46, 47, 48, 49, 50, 51, 52, 53, 54, 55, 56, 57, 58, 59, 60, 61, 62, 63, 64, 65, 66, 67, 68, 69, 70, 71, 72, 73, 74, 75, 76, 77, 78, 79, 80, 81, 82, 83] (fun k => W.length - k) (fun k => k ≤ W.length) (fun k => [(38, .int .i64 k)]) (fun _ => _) (fun _ => _) (0) (Nat.zero_le _) ⟨rfl, trivial⟩ rfl rfl ?_
  intro k hkk
  refine .seq <| .region <| .e (.lss rfl rfl) rfl rfl <| .nil <| .go <| .seq ?_
  refine .split 39 rfl (fun h39 => ?_) (fun h39 => ?_)
  · skip
    replace h39 := of_decide_eq_true h39
    refine .cond_true rfl <| .skip <| .go <| .seq <| .block <| .seq ?_
    refine .region <| .e (.move rfl) rfl rfl <| .e (.assign rfl) rfl rfl <| .nil <| .go <| .seq ?_
    refine .draw [] mixed .nil ?_
    refine .t 0 rfl (.move rfl) rfl rfl (by kernel_rfl) <| .t 1 rfl (.move rfl) rfl rfl (by kernel_rfl) ?_
    obtain ⟨eb43, eo43, cs43, hd43, hat43, hr43⟩ := SlR.at_ ((SlR.mono (fun _ _ h => OrdrR.mono hI23 h) hI23 hl170)) (k := k) (by omega)
    cases hd43
    have ho43 := hr43
    obtain ⟨lo43, to43, wo43, bo43, rfl, hon43, xa43, xb43, hot43, xc43, xd43⟩ := hr43.ex
    obtain ⟨_, _, rfl, -⟩ := xa43
    obtain ⟨_, _, rfl, -⟩ := xb43
    obtain ⟨_, _, rfl, -⟩ := xc43
    obtain ⟨_, _, rfl, -⟩ := xd43
    refine .t 2 rfl (.indexAddrL sl66 rfl rfl rfl (by omega)) rfl rfl (by kernel_rfl) <| .t 3 rfl (.fieldAddr fo65_3 rfl) rfl rfl (by kernel_rfl) <| .t 4 rfl (.loadI ag9 rfl (hat43.cell (j := 16) rfl)) rfl rfl (by kernel_rfl) <| .t 5 rfl (.move rfl) rfl rfl (by kernel_rfl) <| .t 6 rfl (.move rfl) rfl rfl (by kernel_rfl) ?_
    obtain ⟨eb48, eo48, cs48, hd48, hat48, hr48⟩ := SlR.at_ hl230 (k := k) (by have := hFL.2.1; omega)
    cases hd48
    have ho48 := hr48
    obtain ⟨lo48, to48, wo48, bo48, rfl, hon48, xa48, xb48, hot48, xc48, xd48⟩ := hr48.ex
    obtain ⟨_, _, rfl, -⟩ := xa48
    obtain ⟨_, _, rfl, -⟩ := xb48
    obtain ⟨_, _, rfl, -⟩ := xc48
    obtain ⟨_, _, rfl, -⟩ := xd48
    refine .t 7 rfl (.indexAddrL sl66 rfl rfl rfl (by have := hFL.2.1; omega)) rfl rfl (by kernel_rfl) <| .t 8 rfl (.fieldAddr fo65_3 rfl) rfl rfl (by kernel_rfl) <| .t 9 rfl (.loadI ag9 rfl (hat48.cell (j := 16) rfl)) rfl rfl (by kernel_rfl) <| .t 10 rfl ((EV.cast (u := .bool false) (.strne rfl rfl) (congrArg Value.bool (by rw [(hFL.2.2 k (by omega) (by omega)).1]; simp)))) rfl rfl (by kernel_rfl) <| .t 11 rfl (.move rfl) rfl rfl (by kernel_rfl) <| .t 12 rfl (.move rfl) rfl rfl (by kernel_rfl) ?_
    refine .t 13 rfl (.move rfl) rfl rfl (by kernel_rfl) ?_
    obtain ⟨eb55, eo55, cs55, hd55, hat55, hr55⟩ := SlR.at_ ((SlR.mono (fun _ _ h => OrdrR.mono hI23 h) hI23 hl170)) (k := k) (by omega)
    cases hd55
    have ho55 := hr55
    obtain ⟨lo55, to55, wo55, bo55, rfl, hon55, xa55, xb55, hot55, xc55, xd55⟩ := hr55.ex
    obtain ⟨_, _, rfl, -⟩ := xa55
    obtain ⟨_, _, rfl, -⟩ := xb55
    obtain ⟨_, _, rfl, -⟩ := xc55
    obtain ⟨_, _, rfl, -⟩ := xd55
    refine .t 14 rfl (.indexAddrL sl66 rfl rfl rfl (by omega)) rfl rfl (by kernel_rfl) <| .t 15 rfl (.fieldAddr fo65_4 rfl) rfl rfl (by kernel_rfl) <| .t 16 rfl (.loadI ag9 rfl (hat55.cell (j := 17) rfl)) rfl rfl (by kernel_rfl) <| .t 17 rfl (.move rfl) rfl rfl (by kernel_rfl) <| .t 18 rfl (.move rfl) rfl rfl (by kernel_rfl) ?_
    obtain ⟨eb60, eo60, cs60, hd60, hat60, hr60⟩ := SlR.at_ hl230 (k := k) (by have := hFL.2.1; omega)
    cases hd60
    have ho60 := hr60
    obtain ⟨lo60, to60, wo60, bo60, rfl, hon60, xa60, xb60, hot60, xc60, xd60⟩ := hr60.ex
    obtain ⟨_, _, rfl, -⟩ := xa60
    obtain ⟨_, _, rfl, -⟩ := xb60
    obtain ⟨_, _, rfl, -⟩ := xc60
    obtain ⟨_, _, rfl, -⟩ := xd60
    refine .t 19 rfl (.indexAddrL sl66 rfl rfl rfl (by have := hFL.2.1; omega)) rfl rfl (by kernel_rfl) <| .t 20 rfl (.fieldAddr fo65_4 rfl) rfl rfl (by kernel_rfl) <| .t 21 rfl (.loadI ag9 rfl (hat60.cell (j := 17) rfl)) rfl rfl (by kernel_rfl) <| .t 22 rfl ((EV.cast (u := .bool false) (.strne rfl rfl) (congrArg Value.bool (by rw [(hFL.2.2 k (by omega) (by omega)).2]; simp)))) rfl rfl (by kernel_rfl) <| .t 23 rfl (.pickF rfl rfl) rfl rfl (by kernel_rfl) <| .t 24 rfl (.move rfl) rfl rfl (by kernel_rfl) ?_
    refine .t 25 rfl (.move rfl) rfl rfl (by kernel_rfl) <| .t 26 rfl (.move rfl) rfl rfl (by kernel_rfl) ?_
    obtain ⟨eb68, eo68, cs68, hd68, hat68, hr68⟩ := SlR.at_ ((SlR.mono (fun _ _ h => OrdrR.mono hI23 h) hI23 hl170)) (k := k) (by omega)
    cases hd68
    have ho68 := hr68
    obtain ⟨lo68, to68, wo68, bo68, rfl, hon68, xa68, xb68, hot68, xc68, xd68⟩ := hr68.ex
    obtain ⟨_, _, rfl, -⟩ := xa68
    obtain ⟨_, _, rfl, -⟩ := xb68
    obtain ⟨_, _, rfl, -⟩ := xc68
    obtain ⟨_, _, rfl, -⟩ := xd68
    refine .t 27 rfl (.indexAddrL sl66 rfl rfl rfl (by omega)) rfl rfl (by kernel_rfl) <| .t 28 rfl (.fieldAddr fo65_5 rfl) rfl rfl (by kernel_rfl) <| .t 29 rfl (.loadI ag25 rfl (hat68.cell (j := 18) rfl)) rfl rfl (by kernel_rfl) <| .t 30 rfl (.move rfl) rfl rfl (by kernel_rfl) <| .t 31 rfl ((EV.cast (u := .bool false) (.neq rfl rfl) (congrArg Value.bool (by rw [decide_eq_true (hP.fen (show k < W.length by omega))]; rfl)))) rfl rfl (by kernel_rfl) <| .t 32 rfl (.pickF rfl rfl) rfl rfl (by kernel_rfl) ?_
    refine .t 33 rfl (.move rfl) rfl rfl (by kernel_rfl) <| .t 34 rfl (.move rfl) rfl rfl (by kernel_rfl) <| .t 35 rfl (.move rfl) rfl rfl (by kernel_rfl) ?_
    obtain ⟨eb77, eo77, cs77, hd77, hat77, hr77⟩ := SlR.at_ hl230 (k := k) (by have := hFL.2.1; omega)
    cases hd77
    have ho77 := hr77
    obtain ⟨lo77, to77, wo77, bo77, rfl, hon77, xa77, xb77, hot77, xc77, xd77⟩ := hr77.ex
    obtain ⟨_, _, rfl, -⟩ := xa77
    obtain ⟨_, _, rfl, -⟩ := xb77
    obtain ⟨_, _, rfl, -⟩ := xc77
    obtain ⟨_, _, rfl, -⟩ := xd77
    refine .t 36 rfl (.indexAddrL sl66 rfl rfl rfl (by have := hFL.2.1; omega)) rfl rfl (by kernel_rfl) <| .t 37 rfl (.fieldAddr fo65_5 rfl) rfl rfl (by kernel_rfl) <| .t 38 rfl (.loadI ag25 rfl (hat77.cell (j := 18) rfl)) rfl rfl (by kernel_rfl) <| .t 39 rfl (.move rfl) rfl rfl (by kernel_rfl) <| .t 40 rfl ((EV.cast (u := .bool false) (.neq rfl rfl) (congrArg Value.bool (by rw [decide_eq_true (hQ.fen (show k < V.length by have := hFL.2.1; omega))]; rfl)))) rfl rfl (by kernel_rfl) <| .t 41 rfl (.pickF rfl rfl) rfl rfl (by kernel_rfl) ?_
    refine .done (by kernel_rfl) <| .go <| .cond_false rfl <| .skip <| .blk_normal <| .go ?_
    refine .region <| .e (.add rfl rfl (by first | exact wrap_succ (by omega) | exact IntWalk.i64_in _ (by omega) | exact rfl)) rfl rfl <| .e (.move rfl) rfl rfl <| .nil ?_
    exact .mid (k + 1) ⟨by omega, by omega⟩ ⟨rfl, trivial⟩ rfl rfl (.pre 48 rfl (.app rfl .base))
  · skip
    replace h39 := of_decide_eq_false h39
    refine .cond_false rfl <| .exit <| .exit <| .exit <| .blk_exit <| .go ?_
    refine .seq <| .region <| .e (.assign rfl) rfl rfl <| .nil <| .go <| .ret ?_
    refine .tail ?_
    refine .back (Imm.le_trans hI17 hI23) ?_
    refine Post.retE rfl rfl ?_
    rfl

end Go.Proofs.YtmmokaockpghaaaGreatDoor
