/- Walks of functions over a symbolic memory, printed by a program of the session. -/
import Derived.Test.YtmmokaockpghaaaGreatDoorSe
namespace Go.Proofs.YtmmokaockpghaaaGreatDoor
open Go.Sy
set_option linter.unusedSimpArgs false
set_option linter.unusedVariables false

set_option maxHeartbeats 16000000 in
set_option maxRecDepth 20000 in
theorem SchedEnds_ok {I : Imm} {O : Own} {kc : List Value} {b : Bk} (hk : BkR I kc b) :
    Pure Tryz.prog 10 [.agg ⟨kc⟩] I O (.bool true) := by
  have hk0 := hk
  obtain ⟨nv, tv, bv, rfl, hnv, htv, hbv⟩ := hk.ex
  have hnv0 := hnv
  have htv0 := htv
  have hbv0 := hbv
  obtain ⟨na, ncap, rfl, hn1, hn2, -⟩ := hnv
  obtain ⟨ta, tcap, rfl, ht1, ht2, -⟩ := htv
  obtain ⟨ba, bcap, rfl, hb1, hb2, -⟩ := hbv
  refine Go.Sy.Does.enter Tryz.func10 rfl Tryz.ntmps10 rfl ?_
  refine .seq <| .region <| .on rfl <| .box rfl rfl rfl fun c1 _ _ => .e (.assign rfl) rfl rfl <| .nil <| .go ?_
  refine .seq <| .seq <| .region <| .on rfl <| .callP cal32 rfl rfl rfl (slives_ok) <| .e (.not rfl) rfl rfl <| .nil ?_
  refine .go <| .cond_false rfl <| .skip <| .go <| .seq <| .region ?_
  refine .e (.fieldAddr fo27_2 rfl) rfl rfl <| .e (.load ag24 rfl .here rfl) rfl rfl <| .e (.len sl24 rfl rfl) rfl rfl <| .e (.assign rfl) rfl rfl <| .nil <| .go ?_
  refine .seq <| .seq <| .region <| .e (.assign rfl) rfl rfl <| .nil <| .go ?_
  refine .block ?_
  refine .loopM [2, 4, 5, 6, 7, 8, 9, 11, 17, 18, 19, 20, 21, 22, 23, 24, 25, 26, 27, 28, 29, 30, 31, 32, 33, 34, 35, 36, 37, 38, 39, 40, 41, 42, 43, 44, 45, 46, 47, 48, 49, 50, 51, 52, 53, 54, 55, 56, 57, 58, 59, 60, 61, 62, 63, 64, 65, 66, 67, 68, 69, 70, 71, 72, 73, 74, 75, 76, 77, 78, 79, 80] (fun s => 33 - s.1) (fun s => s.1 ≤ 33 ∧ BkR s.2.2.2 s.2.2.1 s.2.1 ∧ I.le s.2.2.2 ∧ (s.1 = 0 ∨ bookOk s.2.1 = true) ∧ b.binds.length + s.1 ≤ s.2.1.binds.length) (fun s => [(4, .int .i64 s.1)]) (fun s => s.2.2.2) (fun s => (c1, .cells ⟨s.2.2.1⟩ 27 (0, 0)) :: _) (((0, b, _, I) : Nat × Bk × List Value × Imm)) ⟨Nat.zero_le _, hk0, Imm.le_refl _, .inl rfl, Nat.le_refl _⟩ ⟨rfl, trivial⟩ rfl rfl ?_
  intro ⟨i, m, kcL, J⟩ hkI
  dsimp only at hkI ⊢
  obtain ⟨hi33, hm, hJ, hor, hbin⟩ := hkI
  have hm0 := hm
  obtain ⟨nm_, tm_, bm_, rfl, xn_, xt_, xb_⟩ := hm.ex
  obtain ⟨_, _, rfl, -⟩ := xn_
  obtain ⟨_, _, rfl, -⟩ := xt_
  obtain ⟨_, _, rfl, -⟩ := xb_
  refine .seq <| .seq <| .region <| .e (.move rfl) rfl rfl <| .e (.leq rfl rfl) rfl rfl <| .nil ?_
  refine .go ?_
  refine .split 18 rfl (fun h18 => ?_) (fun h18 => ?_)
  · skip
    replace h18 := of_decide_eq_true h18
    refine .cond_true rfl <| .skip <| .go <| .seq <| .block <| .seq ?_
    refine .region <| .e (.loadW ag27 sz27 rfl .here rfl) rfl rfl <| .e (.fieldAddr fo27_3 rfl) rfl rfl <| .e (.load ag25 rfl .here rfl) rfl rfl <| .on rfl <| .call cal28 rfl rfl rfl (PlanF hm0 hm0.fence) fun v25 I25 O25 hI25 hK25 => ?_
    obtain ⟨W, e, hW⟩ : ∃ W e, planQ m m.fence = (W, e) := ⟨_, _, rfl⟩
    rw [hW] at hK25
    dsimp only at hK25
    obtain ⟨rfl, u25, rfl, hl25⟩ := hK25
    have hl250 := hl25
    obtain ⟨la25, lc25, rfl, hl251, hl252, -⟩ := hl25
    have hP := PlanP.of hW
    have hWl := hP.len
    have he := hP.why
    refine .e (.move rfl) rfl rfl <| .e (.extract rfl rfl) rfl rfl <| .e (.extract rfl rfl) rfl rfl <| .e (.assign rfl) rfl rfl <| .e (.assign rfl) rfl rfl <| .nil ?_
    refine .go <| .seq <| .seq <| .region <| .e (.move rfl) rfl rfl <| .e (.neq rfl rfl) rfl rfl ?_
    refine .nil <| .go ?_
    refine .split 29 rfl (fun h29 => ?_) (fun h29 => ?_)
    · skip
      first | replace h29 := of_decide_eq_false ((Bool.not_eq_true' _).mp h29) | replace h29 := of_decide_eq_false (by simpa using h29)
      have hi0 : i = 0 := by
        rcases hor with h | h
        · exact h
        · exact absurd (by rw [he, bookWhy0 h]) h29
      refine .cond_true rfl <| .seq <| .region <| .e (.move rfl) rfl rfl <| .e ((EV.cast (u := .bool true) (.eql rfl rfl) (congrArg Value.bool (decide_eq_true (by rw [hi0]; rfl))))) rfl rfl <| .e (.assign rfl) rfl rfl ?_
      refine .nil <| .go <| .ret <| .ret <| .blk_ret <| .ret ?_
      refine .ret <| .blk_ret <| .ret ?_
      refine .tail ?_
      refine .back (Imm.le_trans hJ hI25) ?_
      refine Post.retE rfl rfl ?_
      rfl
    · skip
      first | replace h29 := of_decide_eq_true ((Bool.not_eq_false' _).mp h29) | replace h29 := of_decide_eq_true (by simpa using h29)
      have hbm : bookOk m = true := bookWhy_ok (by rw [← he]; exact h29)
      have hq1 := hP.quiet hbm
      have hR := hP.run hbm
      have hbb := (BookOk.of hbm).binds
      refine .cond_false rfl <| .skip <| .go <| .seq <| .seq <| .region ?_
      refine .e (.move rfl) rfl rfl <| .e (.len sl66 rfl rfl) rfl rfl <| .e (.eql rfl rfl) rfl rfl <| .nil <| .go ?_
      refine .split 34 rfl (fun h34 => ?_) (fun h34 => ?_)
      · skip
        replace h34 := of_decide_eq_true h34
        refine .cond_true rfl <| .seq <| .region <| .e (.loadW ag27 sz27 rfl .here rfl) rfl rfl <| .on rfl <| .callP cal30 rfl rfl rfl ((Quiet_ok (hm0.mono hI25)).cast (quV_of (a := true) (b := 0) (Prod.ext (hq1.trans (decide_eq_true (by omega))) (quiet_why.trans (bookWhy0 hbm))))) <| .e (.move rfl) rfl rfl ?_
        refine .e (.extract rfl rfl) rfl rfl <| .e (.extract rfl rfl) rfl rfl <| .e (.assign rfl) rfl rfl <| .e (.assign rfl) rfl rfl <| .nil <| .go ?_
        refine .seq <| .region <| .e (.move rfl) rfl rfl <| .e (.move rfl) rfl rfl <| .e (.move rfl) rfl rfl <| .e ((EV.cast (u := .bool true) (.eql rfl rfl) (congrArg Value.bool (by decide)))) rfl rfl ?_
        refine .e (.pickT rfl rfl) rfl rfl <| .e (.move rfl) rfl rfl <| .e (.fieldAddr fo27_2 rfl) rfl rfl <| .e (.load ag24 rfl .here rfl) rfl rfl <| .e (.len sl24 rfl rfl) rfl rfl <| .e (.move rfl) rfl rfl ?_
        refine .e ((EV.cast (u := .bool true) (.geq rfl rfl) (congrArg Value.bool (decide_eq_true (by omega))))) rfl rfl <| .e (.pickT rfl rfl) rfl rfl <| .e (.move rfl) rfl rfl <| .e (.loadW ag27 sz27 rfl .here rfl) rfl rfl <| .on rfl <| .callP cal23 rfl rfl rfl ((bCheck_ok (hm0.mono hI25)).cast (congrArg (Value.int .i64) (bookWhy0 hbm))) <| .e ((EV.cast (u := .bool true) (.eql rfl rfl) (congrArg Value.bool (by decide)))) rfl rfl ?_
        refine .e (.pickT rfl rfl) rfl rfl <| .e (.assign rfl) rfl rfl <| .nil <| .go <| .ret <| .ret ?_
        refine .blk_ret <| .ret <| .ret <| .blk_ret <| .ret ?_
        refine .tail ?_
        refine .back (Imm.le_trans hJ hI25) ?_
        refine Post.retE rfl rfl ?_
        rfl
      · skip
        replace h34 := of_decide_eq_false h34
        refine .cond_false rfl <| .skip <| .go <| .seq <| .region <| .e (.fieldAddr fo27_2 rfl) rfl rfl ?_
        refine .e (.load ag24 rfl .here rfl) rfl rfl <| .e (.len sl24 rfl rfl) rfl rfl <| .e (.assign rfl) rfl rfl <| .nil <| .go <| .seq ?_
        refine .seq <| .region <| .e (.move rfl) rfl rfl <| .e (.len sl66 rfl rfl) rfl rfl <| .e (.move rfl) rfl rfl <| .nil ?_
        refine .go <| .block ?_
        refine .loopM [11, 62, 63, 64, 65, 66, 67, 68, 69, 70, 71, 72] (fun s => W.length - s.1) (fun s => s.1 ≤ W.length ∧ BkR s.2.2 s.2.1 (doAll m (W.take s.1)) ∧ I.le s.2.2 ∧ Imm.le I25 s.2.2) (fun s => [(62, .int .i64 s.1)]) (fun s => s.2.2) (fun s => (c1, .cells ⟨s.2.1⟩ 27 (0, 0)) :: _) (((0, _, I25) : Nat × List Value × Imm)) ⟨Nat.zero_le _, hm0.mono hI25, Imm.le_trans hJ hI25, Imm.le_refl _⟩ ⟨rfl, trivial⟩ rfl rfl ?_
        intro ⟨k, kcG, G⟩ hkG
        dsimp only at hkG ⊢
        obtain ⟨hkk, hn, hG, hG2⟩ := hkG
        have hno := doAll_ok hbm (W.take k)
        obtain ⟨n, hnE⟩ : ∃ n, doAll m (W.take k) = n := ⟨_, rfl⟩
        rw [hnE] at hn hno
        have hn0 := hn
        obtain ⟨nm_, tm_, bm_, rfl, xn_, xt_, xb_⟩ := hn.ex
        obtain ⟨_, _, rfl, -⟩ := xn_
        obtain ⟨_, _, rfl, -⟩ := xt_
        obtain ⟨_, _, rfl, -⟩ := xb_
        have hlG : SlR OrdrR 19 G _ W := SlR.mono (fun _ _ h => OrdrR.mono hG2 h) hG2 hl250
        refine .seq <| .region <| .e (.lss rfl rfl) rfl rfl <| .nil <| .go <| .seq ?_
        refine .split 63 rfl (fun h63 => ?_) (fun h63 => ?_)
        · skip
          replace h63 := of_decide_eq_true h63
          refine .cond_true rfl <| .skip <| .go <| .seq <| .block <| .seq ?_
          refine .region ?_
          obtain ⟨eb64, eo64, cs64, hd64, hat64, hr64⟩ := SlR.at_ hlG (k := k) (by omega)
          cases hd64
          obtain ⟨o, hoe⟩ : ∃ o, W[k] = o := ⟨_, rfl⟩
          have hso : OrdS o := hoe ▸ hP.sz _ (List.getElem_mem (by omega))
          rw [hoe] at hr64
          have ho64 := hr64
          obtain ⟨lo64, to64, wo64, bo64, rfl, hon64, xa64, xb64, hot64, xc64, xd64⟩ := hr64.ex
          obtain ⟨_, _, rfl, -⟩ := xa64
          obtain ⟨_, _, rfl, -⟩ := xb64
          obtain ⟨_, _, rfl, -⟩ := xc64
          obtain ⟨_, _, rfl, -⟩ := xd64
          refine .e (.indexAddrL sl66 rfl rfl rfl (by omega)) rfl rfl <| .e (.loadIA ag65 sz65 rfl hat64 rfl) rfl rfl <| .on rfl <| .alloc zr65 rfl fun c2 _ _ => .on rfl <| .storeW sz65 rfl rfl rfl rfl rfl rfl .here <| .nil <| .go ?_
          refine .region <| .e (.loadW ag27 sz27 rfl (.there <| .here) rfl) rfl rfl <| .e (.loadW ag65 sz65 rfl .here rfl) rfl rfl <| .on rfl <| .call cal27 rfl rfl rfl (doF hn0 ho64 hso) fun v69 I69 O69 hI69 hK69 => ?_
          obtain ⟨rfl, cs69, rfl, hb69⟩ := hK69
          have hb690 := hb69
          obtain ⟨nv69, tv69, bv69, rfl, hn69, ht69, hx69⟩ := hb69.ex
          obtain ⟨_, _, rfl, -⟩ := hn69
          obtain ⟨_, _, rfl, htl69, -⟩ := ht69
          obtain ⟨_, _, rfl, -⟩ := hx69
          refine .e (.move rfl) rfl rfl <| .e (.extract rfl rfl) rfl rfl <| .e (.extract rfl rfl) rfl rfl <| .on rfl <| .storeW sz27 rfl rfl rfl rfl rfl rfl (.there <| .here) <| .nil <| .blk_normal ?_
          refine .go <| .region <| .e (.add rfl rfl (by first | exact wrap_succ (by omega) | exact IntWalk.i64_in _ (by omega) | exact rfl)) rfl rfl <| .e (.move rfl) rfl rfl <| .nil ?_
          refine .tail ?_
          exact .mid ((k + 1, _, I69)) ⟨by dsimp only; omega, by dsimp only; omega, by dsimp only; rw [doAll_step (show k < W.length by omega), hnE, hoe]; exact hb690, (Imm.le_trans hG hI69), Imm.le_trans hG2 hI69⟩ ⟨rfl, trivial⟩ rfl rfl (.pre 13 rfl (.app rfl .base))
        · skip
          replace h63 := of_decide_eq_false h63
          refine .cond_false rfl <| .exit <| .exit <| .exit <| .blk_exit <| .go ?_
          refine .seq <| .region <| .e (.fieldAddr fo27_2 rfl) rfl rfl ?_
          have hfin : n.binds.length = m.binds.length + W.length := by rw [← hnE, doAll_end (show W.length ≤ k by omega)]; exact (hR.1 (Int.le_refl _)).2
          refine .e (.load ag24 rfl .here rfl) rfl rfl <| .e (.len sl24 rfl rfl) rfl rfl <| .e (.move rfl) rfl rfl <| .e (.move rfl) rfl rfl <| .e (.len sl66 rfl rfl) rfl rfl <| .e (.add rfl rfl (by first | exact wrap_succ (by omega) | exact IntWalk.i64_in _ (by omega) | exact rfl)) rfl rfl ?_
          refine .e ((EV.cast (u := .bool false) (.neq rfl rfl) (congrArg Value.bool (by rw [decide_eq_true (by omega)]; rfl)))) rfl rfl <| .nil <| .go <| .cond_false rfl <| .skip <| .blk_normal ?_
          refine .go <| .region <| .e (.move rfl) rfl rfl <| .e (.add rfl rfl (by first | exact wrap_succ (by omega) | exact IntWalk.i64_in _ (by omega) | exact rfl)) rfl rfl <| .e (.assign rfl) rfl rfl <| .nil ?_
          exact .mid ((i + 1, n, _, G)) ⟨by dsimp only; omega, by dsimp only; omega, hn0, hG, .inr hno.1, by dsimp only; omega⟩ ⟨rfl, trivial⟩ rfl rfl (.pre 13 rfl (.app rfl (.del rfl (.pre 26 rfl (.app rfl .base)))))
  · skip
    replace h18 := of_decide_eq_false h18
    exfalso
    rcases hor with h | h
    · omega
    · have := (BookOk.of h).binds; omega

end Go.Proofs.YtmmokaockpghaaaGreatDoor
