/- Walks of functions over a symbolic memory, printed by a program of the session. -/
import Derived.Test.YtmmokaockpghaaaGreatDoorRe
namespace Go.Proofs.YtmmokaockpghaaaGreatDoor
open Go.Sy
set_option linter.unusedSimpArgs false
set_option linter.unusedVariables false

section
variable {I : Imm} {O : Own} {kc : List Value} {b : Bk} (hk : BkR I kc b)
include hk
theorem rPlanF {f : Int} (hf : U64 f) : Go.Sy.Does Tryz.prog 29 [.agg ⟨kc⟩, .int .u64 f] I O fun u I' O' => O' = O ∧ ∃ v, u = .tuple ⟨[v, .int .i64 (planQ b f).2]⟩ ∧ SlR OrdrR 19 I' v (planQ b f).1 := frzL (R := OrdrR) (fun h x => OrdrR.mono h x) (rPlan_ok hk hf)
end

set_option maxHeartbeats 1000000 in
set_option maxRecDepth 20000 in
theorem sameOrd_ok {I : Imm} {O : Own} {ac bc : List Value} {o : Ordr} (ha : OrdrR I ac o) (hb : OrdrR I bc o) :
  Pure Tryz.prog 33 [.agg ⟨ac⟩, .agg ⟨bc⟩] I O (.bool true) := by
 obtain ⟨xl, xt, xw, xb, rfl, xn, x1, x2, xk, x3, x4⟩ := ha.ex
 obtain ⟨_, _, rfl, -⟩ := x1
 obtain ⟨_, _, rfl, -⟩ := x2
 obtain ⟨_, _, rfl, -⟩ := x3
 obtain ⟨_, _, rfl, -⟩ := x4
 obtain ⟨yl, yt, yw, yb, rfl, yn, y1, y2, yk, y3, y4⟩ := hb.ex
 obtain ⟨_, _, rfl, -⟩ := y1
 obtain ⟨_, _, rfl, -⟩ := y2
 obtain ⟨_, _, rfl, -⟩ := y3
 obtain ⟨_, _, rfl, -⟩ := y4
 refine Go.Sy.Does.enter Tryz.func33 rfl Tryz.ntmps33 rfl ?_
 refine .seq <| .region <| .on rfl <| .box rfl rfl rfl fun c1 _ _ => .on rfl <| .box rfl rfl rfl fun c2 _ _ => .a rfl <| .nil ?_
 refine .go <| .seq <| .region <| .f (.fieldAddr fo65_0 rfl) <| .f (.load ag63 rfl (.there <| .here) rfl) <| .f (.fieldAddr fo65_0 rfl) ?_
 refine .f (.load ag63 rfl .here rfl) <| .f ((EV.cast (u := .bool true) (.eql rfl rfl) (congrArg Value.bool (decide_eq_true rfl)))) <| .m rfl <| .f (.fieldAddr fo65_1 rfl) <| .f (.loadP ag45 sz45 rfl (.there <| .here) rfl) <| .f (.fieldAddr fo65_1 rfl) ?_
 refine .f (.loadP ag45 sz45 rfl .here rfl) <| .on rfl <| .callP cal22 rfl rfl rfl ((sameNod_ok xn yn).castT (decide_eq_true rfl)) <| .f (.pickT rfl rfl) <| .m rfl <| .f (.fieldAddr fo65_2 rfl) <| .f (.loadP ag42 sz42 rfl (.there <| .here) rfl) ?_
 refine .f (.fieldAddr fo65_2 rfl) <| .f (.loadP ag42 sz42 rfl .here rfl) <| .on rfl <| .callP cal21 rfl rfl rfl ((sameTsk_ok xk yk).castT (decide_eq_true rfl)) <| .f (.pickT rfl rfl) <| .m rfl <| .f (.fieldAddr fo65_3 rfl) ?_
 refine .f (.load ag9 rfl (.there <| .here) rfl) <| .f (.fieldAddr fo65_3 rfl) <| .f (.load ag9 rfl .here rfl) <| .f ((EV.cast (u := .bool true) (.streq rfl rfl) (congrArg Value.bool (decide_eq_true rfl)))) <| .f (.pickT rfl rfl) <| .m rfl ?_
 refine .f (.fieldAddr fo65_4 rfl) <| .f (.load ag9 rfl (.there <| .here) rfl) <| .f (.fieldAddr fo65_4 rfl) <| .f (.load ag9 rfl .here rfl) <| .f ((EV.cast (u := .bool true) (.streq rfl rfl) (congrArg Value.bool (decide_eq_true rfl)))) <| .f (.pickT rfl rfl) ?_
 refine .m rfl <| .f (.fieldAddr fo65_5 rfl) <| .f (.load ag25 rfl (.there <| .here) rfl) <| .f (.fieldAddr fo65_5 rfl) <| .f (.load ag25 rfl .here rfl) <| .f ((EV.cast (u := .bool true) (.eql rfl rfl) (congrArg Value.bool (decide_eq_true rfl)))) ?_
 refine .f (.pickT rfl rfl) <| .a rfl <| .nil <| .go <| .ret ?_
 refine .tail <| .tail ?_
 refine Post.retE rfl rfl ?_
 rfl

set_option maxHeartbeats 16000000 in
set_option maxRecDepth 20000 in
theorem SchedPlans_ok {I : Imm} {O : Own} {kc : List Value} {b : Bk} (hk : BkR I kc b) {f : Int} (hf : U64 f) :
  Pure Tryz.prog 8 [.agg ⟨kc⟩, .int .u64 f] I O (.bool true) := by
 have hk0 := hk
 obtain ⟨nv, tv, bv, rfl, hnv, htv, hbv⟩ := hk.ex
 have hnv0 := hnv
 have htv0 := htv
 have hbv0 := hbv
 obtain ⟨na, ncap, rfl, hn1, hn2, -⟩ := hnv
 obtain ⟨ta, tcap, rfl, ht1, ht2, -⟩ := htv
 obtain ⟨ba, bcap, rfl, hb1, hb2, -⟩ := hbv
 refine Go.Sy.Does.enter Tryz.func8 rfl Tryz.ntmps8 rfl ?_
 refine .seq <| .region <| .on rfl <| .box rfl rfl rfl fun c1 _ _ => .a rfl <| .nil <| .go ?_
 refine .seq <| .region <| .f (.loadW ag27 sz27 rfl .here rfl) <| .m rfl <| .on rfl <| .call cal28 rfl rfl rfl (PlanF hk0 hf) fun v17 I17 O17 hI17 hK17 => ?_
 obtain ⟨W, e, hW⟩ : ∃ W e, planQ b f = (W, e) := ⟨_, _, rfl⟩
 rw [hW] at hK17
 dsimp only at hK17
 obtain ⟨rfl, u17, rfl, hl17⟩ := hK17
 have hl170 := hl17
 obtain ⟨la17, lc17, rfl, hl171, hl172, -⟩ := hl17
 refine .m rfl <| .f (.extract rfl rfl) <| .f (.extract rfl rfl) <| .a rfl <| .a rfl <| .nil ?_
 refine .go <| .seq <| .region <| .f (.loadW ag27 sz27 rfl .here rfl) <| .m rfl <| .on rfl <| .call cal29 rfl rfl rfl (rPlanF (hk0.mono hI17) hf) fun v23 I23 O23 hI23 hK23 => ?_
 rw [hW] at hK23
 dsimp only at hK23
 obtain ⟨rfl, u23, rfl, hl23⟩ := hK23
 have hl230 := hl23
 obtain ⟨la23, lc23, rfl, hl231, hl232, -⟩ := hl23
 refine .m rfl <| .f (.extract rfl rfl) <| .f (.extract rfl rfl) <| .a rfl <| .a rfl <| .nil ?_
 refine .go <| .seq <| .region <| .f (.loadW ag27 sz27 rfl .here rfl) <| .on rfl <| .callP cal30 rfl rfl rfl (Quiet_ok ((hk0.mono hI17).mono hI23)) <| .m rfl ?_
 refine .f (.extract rfl rfl) <| .f (.extract rfl rfl) <| .a rfl <| .a rfl <| .nil <| .go ?_
 refine .seq <| .region <| .f (.loadW ag27 sz27 rfl .here rfl) <| .on rfl <| .call cal31 rfl rfl rfl (rQuiet_ok ((hk0.mono hI17).mono hI23)) fun v33 I33 O33 hI33 hK33 => ?_
 obtain ⟨rfl, rfl⟩ := hK33
 refine .m rfl <| .f (.extract rfl rfl) <| .f (.extract rfl rfl) <| .a rfl <| .a rfl <| .nil ?_
 refine .go <| .seq <| .seq <| .region <| .on rfl <| .callP cal32 rfl rfl rfl (slives_ok) <| .f (.not rfl) ?_
 refine .m rfl <| .m rfl <| .m rfl <| .f ((EV.cast (u := .bool false) (.neq rfl rfl) (congrArg Value.bool (by rw [decide_eq_true (rfl)]; rfl)))) <| .f (.pickF rfl rfl) <| .m rfl ?_
 refine .m rfl <| .f (.len sl66 rfl rfl) <| .m rfl <| .f (.len sl66 rfl rfl) <| .f ((EV.cast (u := .bool false) (.neq rfl rfl) (congrArg Value.bool (by rw [decide_eq_true (rfl)]; rfl)))) <| .f (.pickF rfl rfl) ?_
 refine .m rfl <| .m rfl <| .m rfl <| .f ((EV.cast (u := .bool false) (.nev eqBool rfl rfl) (congrArg Value.bool (by simp)))) <| .f (.pickF rfl rfl) <| .m rfl ?_
 refine .m rfl <| .m rfl <| .f ((EV.cast (u := .bool false) (.neq rfl rfl) (congrArg Value.bool (by rw [decide_eq_true (rfl)]; rfl)))) <| .f (.pickF rfl rfl) <| .nil <| .go ?_
 refine .cond_false rfl <| .skip <| .go <| .seq <| .seq <| .region ?_
 refine .m rfl <| .f (.len sl66 rfl rfl) <| .m rfl <| .nil <| .go <| .block ?_
 refine .loopM [4, 13, 62, 63, 64, 65, 66, 67, 68, 69, 70, 71, 72, 73, 74, 75] (fun k => W.length - k) (fun k => k ≤ W.length) (fun k => [(62, .int .i64 k)]) (fun _ => _) (fun _ => _) (0) (Nat.zero_le _) ⟨rfl, trivial⟩ rfl rfl ?_
 intro k hkk
 refine .seq <| .region <| .f (.lss rfl rfl) <| .nil <| .go <| .seq ?_
 refine .sd 63 rfl (fun h63 => ?_) (fun h63 => ?_)
 ·
  refine .cond_true rfl <| .skip <| .go <| .seq <| .block <| .seq ?_
  refine .region <| .m rfl <| .a rfl <| .nil <| .go <| .seq ?_
  refine .draw [] mixed .nil ?_
  refine .u 0 rfl (.move rfl) <| .u 1 rfl (.move rfl) ?_
  obtain ⟨eb67, eo67, cs67, hd67, hat67, hr67⟩ := SlR.at_ (SlR.mono (R := OrdrR) (fun _ _ h => OrdrR.mono (Imm.le_trans hI23 hI33) h) (Imm.le_trans hI23 hI33) hl170) (k := k) (by omega)
  cases hd67
  have ho67 := hr67
  obtain ⟨lo67, to67, wo67, bo67, rfl, hon67, xa67, xb67, hot67, xc67, xd67⟩ := hr67.ex
  obtain ⟨_, _, rfl, -⟩ := xa67
  obtain ⟨_, _, rfl, -⟩ := xb67
  obtain ⟨_, _, rfl, -⟩ := xc67
  obtain ⟨_, _, rfl, -⟩ := xd67
  refine .u 2 rfl (.indexAddrL sl66 rfl rfl rfl (by omega)) <| .u 3 rfl (.loadIA ag65 sz65 rfl hat67 rfl) <| .u 4 rfl (.move rfl) <| .u 5 rfl (.move rfl) ?_
  obtain ⟨eb71, eo71, cs71, hd71, hat71, hr71⟩ := SlR.at_ (SlR.mono (R := OrdrR) (fun _ _ h => OrdrR.mono hI33 h) hI33 hl230) (k := k) (by omega)
  cases hd71
  have ho71 := hr71
  obtain ⟨lo71, to71, wo71, bo71, rfl, hon71, xa71, xb71, hot71, xc71, xd71⟩ := hr71.ex
  obtain ⟨_, _, rfl, -⟩ := xa71
  obtain ⟨_, _, rfl, -⟩ := xb71
  obtain ⟨_, _, rfl, -⟩ := xc71
  obtain ⟨_, _, rfl, -⟩ := xd71
  refine .u 6 rfl (.indexAddrL sl66 rfl rfl rfl (by omega)) <| .u 7 rfl (.loadIA ag65 sz65 rfl hat71 rfl) <| .one (i := 8) (by kernel_rfl) rfl rfl <| .callP cal33 rfl rfl rfl ((sameOrd_ok ho67 ho71).castT rfl) ?_
  refine ⟨.nil, Imm.le_refl _, ?_⟩
  refine .u 9 rfl (.not rfl) <| .done (by kernel_rfl) <| .go <| .cond_false rfl <| .skip <| .blk_normal ?_
  refine .go <| .region <| .f (.add rfl rfl (by first | exact wrap_succ (by omega) | exact IntWalk.i64_in _ (by omega) | exact rfl)) <| .m rfl <| .nil ?_
  exact .mid (k + 1) ⟨by omega, by omega⟩ ⟨rfl, trivial⟩ rfl rfl (.pre 16 rfl (.app rfl .base))
 ·
  refine .cond_false rfl <| .exit <| .exit <| .exit <| .blk_exit <| .go ?_
  refine .seq <| .region <| .a rfl <| .nil <| .go <| .ret ?_
  refine .tail ?_
  refine .back (Imm.le_trans (Imm.le_trans hI17 hI23) hI33) ?_
  refine Post.retE rfl rfl ?_
  rfl

end Go.Proofs.YtmmokaockpghaaaGreatDoor
