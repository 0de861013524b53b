/- Walks of functions over a symbolic memory, printed by a program of the session. -/
import Derived.Test.YtmmokaockpghaaaGreatDoorSe
namespace Go.Proofs.YtmmokaockpghaaaGreatDoor
open Go.Sy
set_option linter.unusedSimpArgs false
set_option linter.unusedVariables false

theorem waitQ_why {b : Bk} {W : List Tsk} {e : Int} (h : waitQ b = (W, e)) : e = bookWhy b := by
  unfold waitQ at h
  unfold bookWhy
  split at h <;> rename_i h1
  · cases h; rw [if_pos h1]
  · cases h; rw [if_neg h1]
theorem first_law {b : Bk} (hok : BookOk b) {f e : Int} {W : List Ordr} (h : planQ b f = (W, e)) {k : Nat} (hk : k < (waitR b).length) (hj : ∀ j (hj : j < (waitR b).length), j < k → targetR b (waitR b)[j] = none) (hs : ¬targetR b (waitR b)[k] = none) : ∃ h0 : 0 < W.length, W[0].name = (waitR b)[k].name := by
  obtain ⟨on, ho⟩ := Option.ne_none_iff_exists'.1 hs
  obtain ⟨r, hr⟩ := plan_first (most := 8) (by decide) (waitR b) k hk hj ho
  have e1 : W = (planS 8 b (waitR b)).2.map (withF f) := by
    have : (planQ b f).1 = W := by rw [h]
    rw [← this]; unfold planQ; dsimp only; rw [planR_ok hok.to]
  unfold planS at e1
  rw [hr, List.map_cons] at e1
  subst e1
  exact ⟨by simp, rfl⟩
theorem none_law {b : Bk} (hok : BookOk b) {f e : Int} {W : List Ordr} (h : planQ b f = (W, e)) {k : Nat} (hk : (waitR b).length ≤ k) (hj : ∀ j (hj : j < (waitR b).length), j < k → targetR b (waitR b)[j] = none) : W.length = 0 := by
  have e1 : W = (planS 8 b (waitR b)).2.map (withF f) := by
    have : (planQ b f).1 = W := by rw [h]
    rw [← this]; unfold planQ; dsimp only; rw [planR_ok hok.to]
  have e2 : (planS 8 b (waitR b)).2 = [] := (plan_empty (most := 8) (by decide) (waitR b)).2 fun t ht => by
    obtain ⟨j, hj2, rfl⟩ := List.mem_iff_getElem.1 ht
    exact hj j hj2 (by omega)
  rw [e1, e2]; rfl

set_option maxHeartbeats 16000000 in
set_option maxRecDepth 20000 in
theorem SchedFirst_ok {I : Imm} {O : Own} {kc : List Value} {b : Bk} (hk : BkR I kc b) :
    Pure Tryz.prog 11 [.agg ⟨kc⟩] I O (.bool true) := by
  have hk0 := hk
  obtain ⟨nv, tv, bv, rfl, hnv, htv, hbv⟩ := hk.ex
  have hnv0 := hnv
  have htv0 := htv
  have hbv0 := hbv
  obtain ⟨na, ncap, rfl, hn1, hn2, -⟩ := hnv
  obtain ⟨ta, tcap, rfl, ht1, ht2, -⟩ := htv
  obtain ⟨ba, bcap, rfl, hb1, hb2, -⟩ := hbv
  refine Go.Sy.Does.enter Tryz.func11 rfl Tryz.ntmps11 rfl ?_
  refine .seq <| .region <| .on rfl <| .box rfl rfl rfl fun c1 _ _ => .e (.assign rfl) rfl rfl <| .nil <| .go ?_
  refine .seq <| .seq <| .region <| .on rfl <| .callP cal32 rfl rfl rfl (slives_ok) <| .e (.not rfl) rfl rfl <| .nil ?_
  refine .go <| .cond_false rfl <| .skip <| .go <| .seq <| .region ?_
  refine .e (.loadW ag27 sz27 rfl .here rfl) rfl rfl <| .on rfl <| .call cal28 rfl rfl rfl (PlanF hk0 e4_) fun v15 I15 O15 hI15 hK15 => ?_
  obtain ⟨W, e, hW⟩ : ∃ W e, planQ b 0 = (W, e) := ⟨_, _, rfl⟩
  rw [hW] at hK15
  dsimp only at hK15
  obtain ⟨rfl, u15, rfl, hl15⟩ := hK15
  have hl150 := hl15
  obtain ⟨la15, lc15, rfl, hl151, hl152, -⟩ := hl15
  have hP := PlanP.of hW
  have he := hP.why
  refine .e (.move rfl) rfl rfl <| .e (.extract rfl rfl) rfl rfl <| .e (.extract rfl rfl) rfl rfl <| .e (.assign rfl) rfl rfl <| .e (.assign rfl) rfl rfl <| .nil ?_
  refine .go <| .seq <| .region <| .e (.loadW ag27 sz27 rfl .here rfl) rfl rfl <| .on rfl <| .call cal14 rfl rfl rfl (waitF (hk0.mono hI15)) fun v20 I20 O20 hI20 hK20 => ?_
  obtain ⟨V, e2, hV⟩ : ∃ W e, waitQ b = (W, e) := ⟨_, _, rfl⟩
  rw [hV] at hK20
  dsimp only at hK20
  obtain ⟨rfl, u20, rfl, hl20⟩ := hK20
  have hl200 := hl20
  obtain ⟨la20, lc20, rfl, hl201, hl202, -⟩ := hl20
  have he2 := waitQ_why hV
  refine .e (.move rfl) rfl rfl <| .e (.extract rfl rfl) rfl rfl <| .e (.extract rfl rfl) rfl rfl <| .e (.assign rfl) rfl rfl <| .e (.assign rfl) rfl rfl <| .nil ?_
  refine .go <| .seq <| .seq <| .region <| .e (.move rfl) rfl rfl <| .e (.neq rfl rfl) rfl rfl ?_
  refine .e (.move rfl) rfl rfl ?_
  refine .split 25 rfl (fun h25 => ?_) (fun h25 => ?_)
  · skip
    first | replace h25 := of_decide_eq_false ((Bool.not_eq_true' _).mp h25) | replace h25 := of_decide_eq_false (by simpa using h25)
    refine .off rfl rfl <| .off rfl rfl <| .e (.pickT rfl rfl) rfl rfl <| .nil <| .go <| .cond_true rfl ?_
    refine .seq <| .region <| .e (.move rfl) rfl rfl <| .e (.move rfl) rfl rfl <| .e ((EV.cast (u := .bool true) (.eql rfl rfl) (congrArg Value.bool (decide_eq_true (by omega))))) rfl rfl <| .e (.assign rfl) rfl rfl ?_
    refine .nil <| .go <| .ret <| .ret ?_
    refine .tail ?_
    refine .back (Imm.le_trans hI15 hI20) ?_
    refine Post.retE rfl rfl ?_
    rfl
  · skip
    first | replace h25 := of_decide_eq_true ((Bool.not_eq_false' _).mp h25) | replace h25 := of_decide_eq_true (by simpa using h25)
    refine .e (.move rfl) rfl rfl <| .e (.neq rfl rfl) rfl rfl <| .e (.pickF rfl rfl) rfl rfl <| .nil <| .go ?_
    refine .split 28 rfl (fun h28 => ?_) (fun h28 => ?_)
    · skip
      first | replace h28 := of_decide_eq_false ((Bool.not_eq_true' _).mp h28) | replace h28 := of_decide_eq_false (by simpa using h28)
      refine .cond_true rfl <| .seq <| .region <| .e (.move rfl) rfl rfl <| .e (.move rfl) rfl rfl <| .e ((EV.cast (u := .bool true) (.eql rfl rfl) (congrArg Value.bool (decide_eq_true (by omega))))) rfl rfl ?_
      refine .e (.assign rfl) rfl rfl <| .nil <| .go <| .ret <| .ret ?_
      refine .tail ?_
      refine .back (Imm.le_trans hI15 hI20) ?_
      refine Post.retE rfl rfl ?_
      rfl
    · skip
      first | replace h28 := of_decide_eq_true ((Bool.not_eq_false' _).mp h28) | replace h28 := of_decide_eq_true (by simpa using h28)
      obtain ⟨hok, rfl⟩ := waitQ_in hV h28
      refine .cond_false rfl <| .skip <| .go <| .seq <| .seq <| .region ?_
      refine .e (.move rfl) rfl rfl <| .e (.len sl23 rfl rfl) rfl rfl <| .e (.move rfl) rfl rfl <| .nil <| .go <| .block ?_
      refine .loopM [2, 8, 9, 10, 34, 35, 36, 37, 38, 39, 40, 41, 42, 43, 44, 45, 46, 47, 48, 49, 50, 51, 52, 53, 54, 55, 56, 57, 58, 59, 60] (fun s => (waitR b).length - s.1) (fun s => s.1 ≤ (waitR b).length ∧ (∀ j (hj : j < (waitR b).length), j < s.1 → targetR b (waitR b)[j] = none) ∧ I.le s.2 ∧ Imm.le I20 s.2) (fun s => [(34, .int .i64 s.1)]) (fun s => s.2) (fun _ => _) (((0, I20) : Nat × Imm)) ⟨Nat.zero_le _, fun j _ h => absurd h (Nat.not_lt_zero _), Imm.le_trans hI15 hI20, Imm.le_refl _⟩ ⟨rfl, trivial⟩ rfl rfl ?_
      intro ⟨k, J⟩ hkI
      dsimp only at hkI ⊢
      obtain ⟨hkk, hj, hJ, hJ2⟩ := hkI
      have hlJ : TsksR J _ (waitR b) := TsksR.mono hJ2 hl200
      have hpJ : SlR OrdrR 19 J _ W := SlR.mono (fun _ _ h => OrdrR.mono (Imm.le_trans hI20 hJ2) h) (Imm.le_trans hI20 hJ2) hl150
      refine .seq <| .region <| .e (.lss rfl rfl) rfl rfl <| .nil <| .go <| .seq ?_
      refine .split 35 rfl (fun h35 => ?_) (fun h35 => ?_)
      · skip
        replace h35 := of_decide_eq_true h35
        refine .cond_true rfl <| .skip <| .go <| .seq <| .block <| .seq ?_
        refine .region ?_
        obtain ⟨eb36, eo36, cs36, hd36, hat36, hr36⟩ := SlR.at_ hlJ (k := k) (by omega)
        cases hd36
        have ht36 := hr36
        obtain ⟨xw36, xb36, rfl, hxw36, hxb36⟩ := hr36.ex
        obtain ⟨xa36, xc36, rfl, -⟩ := hxw36
        obtain ⟨xd36, xe36, rfl, -⟩ := hxb36
        refine .e (.indexAddrL sl23 rfl rfl rfl (by omega)) rfl rfl <| .e (.loadIA ag42 sz42 rfl hat36 rfl) rfl rfl <| .on rfl <| .alloc zr42 rfl fun c2 _ _ => .on rfl <| .storeW sz42 rfl rfl rfl rfl rfl rfl .here <| .nil <| .go ?_
        refine .seq <| .region <| .e (.loadW ag27 sz27 rfl (.there <| .here) rfl) rfl rfl <| .e (.fieldAddr fo42_0 rfl) rfl rfl <| .e (.load ag9 rfl .here rfl) rfl rfl <| .on rfl <| .call cal18 rfl rfl rfl (freeF (hk0.mono hJ)) fun v42 I42 O42 hI42 hK42 => ?_
        obtain ⟨F, e42, hF⟩ : ∃ W e, freeQ b (waitR b)[k].name = (W, e) := ⟨_, _, rfl⟩
        rw [hF] at hK42
        dsimp only at hK42
        obtain ⟨rfl, u42, rfl, hl42⟩ := hK42
        have hl420 := hl42
        obtain ⟨la42, lc42, rfl, hl421, hl422, -⟩ := hl42
        have hF1 := freeQ_list (b := b) (task := (waitR b)[k].name)
        rw [hF] at hF1
        dsimp only at hF1
        have htm := ((wait_mem hok).1 (List.getElem_mem (show k < (waitR b).length by omega))).1
        refine .e (.move rfl) rfl rfl <| .e (.extract rfl rfl) rfl rfl <| .e (.extract rfl rfl) rfl rfl <| .e (.assign rfl) rfl rfl <| .e (.assign rfl) rfl rfl <| .nil ?_
        refine .go <| .seq <| .seq <| .region <| .e (.move rfl) rfl rfl <| .e (.len sl34 rfl rfl) rfl rfl ?_
        refine .e (.eql rfl rfl) rfl rfl <| .nil <| .go ?_
        refine .split 47 rfl (fun h47 => ?_) (fun h47 => ?_)
        · skip
          replace h47 := of_decide_eq_true h47
          have hTn : targetR b (waitR b)[k] = none := (target_none hok htm).2 (cand_free.2 (by rw [← hF1]; exact List.length_eq_zero_iff.1 (by omega)))
          refine .cond_true rfl <| .exit <| .exit <| .blk_exit <| .go <| .region ?_
          refine .e (.add rfl rfl (by first | exact wrap_succ (by omega) | exact IntWalk.i64_in _ (by omega) | exact rfl)) rfl rfl <| .e (.move rfl) rfl rfl <| .nil ?_
          refine .tail ?_
          exact .mid ((k + 1, I42)) ⟨by dsimp only; omega, by dsimp only; omega, fun j h1 h2 => by
                  rcases Nat.lt_or_ge j k with h3 | h3
                  · exact hj j h1 h3
                  · have h4 : j = k := by omega
                    subst h4; exact hTn, (Imm.le_trans hJ hI42), Imm.le_trans hJ2 hI42⟩ ⟨rfl, trivial⟩ rfl rfl (.pre 20 rfl (.app rfl .base))
        · skip
          replace h47 := of_decide_eq_false h47
          have hTs : ¬targetR b (waitR b)[k] = none := fun h => h47 (by have := cand_free.1 ((target_none hok htm).1 h); rw [← hF1] at this; rw [this]; rfl)
          obtain ⟨hW0, hW1⟩ := first_law hok hW (by omega) hj hTs
          refine .cond_false rfl <| .skip <| .go <| .seq ?_
          refine .draw [(c2, _)] mixed (.cons .here .nil) ?_
          refine .t 0 rfl (.move rfl) rfl rfl (by kernel_rfl) <| .t 1 rfl (.len sl66 rfl rfl) rfl rfl (by kernel_rfl) <| .t 2 rfl ((EV.cast (u := .bool true) (.gtr rfl rfl) (congrArg Value.bool (decide_eq_true (by omega))))) rfl rfl (by kernel_rfl) <| .t 3 rfl (.move rfl) rfl rfl (by kernel_rfl) <| .t 4 rfl (.move rfl) rfl rfl (by kernel_rfl) ?_
          obtain ⟨eb53, eo53, cs53, hd53, hat53, hr53⟩ := SlR.at_ (SlR.mono (fun _ _ h => OrdrR.mono hI42 h) hI42 hpJ) (k := 0) hW0
          cases hd53
          have ho53 := hr53
          obtain ⟨lo53, to53, wo53, bo53, rfl, hon53, xa53, xb53, hot53, xc53, xd53⟩ := hr53.ex
          obtain ⟨_, _, rfl, -⟩ := xa53
          obtain ⟨_, _, rfl, -⟩ := xb53
          obtain ⟨_, _, rfl, -⟩ := xc53
          obtain ⟨_, _, rfl, -⟩ := xd53
          refine .t 5 rfl (.indexAddrL sl66 rfl rfl rfl hW0) rfl rfl (by kernel_rfl) <| .t 6 rfl (.fieldAddr fo65_3 rfl) rfl rfl (by kernel_rfl) <| .t 7 rfl (.loadI ag9 rfl (hat53.cell (j := 16) rfl)) rfl rfl (by kernel_rfl) <| .t 8 rfl (.fieldAddr fo42_0 rfl) rfl rfl (by kernel_rfl) <| .t 9 rfl (.load ag9 rfl .here rfl) rfl rfl (by kernel_rfl) <| .t 10 rfl ((EV.cast (u := .bool true) (.streq rfl rfl) (congrArg Value.bool (decide_eq_true hW1)))) rfl rfl (by kernel_rfl) ?_
          refine .t 11 rfl (.pickT rfl rfl) rfl rfl (by kernel_rfl) <| .t 12 rfl (.assign rfl) rfl rfl (by kernel_rfl) <| .done (by kernel_rfl) <| .go <| .ret <| .blk_ret ?_
          refine .ret <| .ret <| .blk_ret <| .ret ?_
          refine .tail <| .tail ?_
          refine .back (Imm.le_trans hJ hI42) ?_
          refine Post.retE rfl rfl ?_
          rfl
      · skip
        replace h35 := of_decide_eq_false h35
        refine .cond_false rfl <| .exit <| .exit <| .exit <| .blk_exit <| .go ?_
        refine .seq <| .region <| .e (.move rfl) rfl rfl <| .e (.len sl66 rfl rfl) rfl rfl <| .e ((EV.cast (u := .bool true) (.eql rfl rfl) (congrArg Value.bool (decide_eq_true (by have := none_law hok hW (show (waitR b).length ≤ k by omega) hj; omega))))) rfl rfl <| .e (.assign rfl) rfl rfl ?_
        refine .nil <| .go <| .ret ?_
        refine .tail ?_
        refine .back hJ ?_
        refine Post.retE rfl rfl ?_
        rfl

end Go.Proofs.YtmmokaockpghaaaGreatDoor
