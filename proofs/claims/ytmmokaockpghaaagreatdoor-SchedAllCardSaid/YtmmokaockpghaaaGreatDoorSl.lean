/- Walks of functions over a symbolic memory, printed by a program of the session. -/
import Derived.Test.YtmmokaockpghaaaGreatDoorSe
namespace Go.Proofs.YtmmokaockpghaaaGreatDoor
open Go.Sy
set_option linter.unusedSimpArgs false
set_option linter.unusedVariables false

set_option maxHeartbeats 16000000 in
set_option maxRecDepth 20000 in
theorem SchedAll_ok {I : Imm} {O : Own} {kc : List Value} {b : Bk} (hk : BkR I kc b) {f : Int} (hf : U64 f) :
    Pure Tryz.prog 9 [.agg ⟨kc⟩, .int .u64 f] I O (.bool true) := by
  have hk0 := hk
  obtain ⟨nv, tv, bv, rfl, hnv, htv, hbv⟩ := hk.ex
  have hnv0 := hnv
  have htv0 := htv
  have hbv0 := hbv
  obtain ⟨na, ncap, rfl, hn1, hn2, -⟩ := hnv
  obtain ⟨ta, tcap, rfl, ht1, ht2, -⟩ := htv
  obtain ⟨ba, bcap, rfl, hb1, hb2, -⟩ := hbv
  refine Go.Sy.Does.enter Tryz.func9 rfl Tryz.ntmps9 rfl ?_
  refine .seq <| .region <| .on rfl <| .box rfl rfl rfl fun c1 _ _ => .e (.assign rfl) rfl rfl <| .nil <| .go ?_
  refine .seq <| .seq <| .region <| .on rfl <| .callP cal32 rfl rfl rfl (slives_ok) <| .e (.not rfl) rfl rfl <| .nil ?_
  refine .go <| .cond_false rfl <| .skip <| .go <| .seq <| .region ?_
  refine .e (.loadW ag27 sz27 rfl .here rfl) rfl rfl <| .e (.move rfl) rfl rfl <| .on rfl <| .call cal28 rfl rfl rfl (PlanF hk0 hf) fun v18 I18 O18 hI18 hK18 => ?_
  obtain ⟨W, e, hW⟩ : ∃ W e, planQ b f = (W, e) := ⟨_, _, rfl⟩
  rw [hW] at hK18
  dsimp only at hK18
  obtain ⟨rfl, u18, rfl, hl18⟩ := hK18
  have hl180 := hl18
  obtain ⟨la18, lc18, rfl, hl181, hl182, -⟩ := hl18
  have hP := PlanP.of hW
  have hWl := hP.len
  have he := hP.why
  have hq2 : (quietR b).2 = bookWhy b := quiet_why
  refine .e (.move rfl) rfl rfl <| .e (.extract rfl rfl) rfl rfl <| .e (.extract rfl rfl) rfl rfl <| .e (.assign rfl) rfl rfl <| .e (.assign rfl) rfl rfl <| .nil ?_
  refine .go <| .seq <| .region <| .e (.loadW ag27 sz27 rfl .here rfl) rfl rfl <| .on rfl <| .callP cal30 rfl rfl rfl (Quiet_ok (hk0.mono hI18)) <| .e (.move rfl) rfl rfl ?_
  refine .e (.extract rfl rfl) rfl rfl <| .e (.extract rfl rfl) rfl rfl <| .e (.assign rfl) rfl rfl <| .e (.assign rfl) rfl rfl <| .nil <| .go ?_
  refine .seq <| .seq <| .region <| .e (.move rfl) rfl rfl <| .e (.neq rfl rfl) rfl rfl <| .e (.move rfl) rfl rfl ?_
  refine .split 28 rfl (fun h28 => ?_) (fun h28 => ?_)
  · skip
    first | replace h28 := of_decide_eq_false ((Bool.not_eq_true' _).mp h28) | replace h28 := of_decide_eq_false (by simpa using h28)
    have hnb : ¬bookOk b = true := fun hb => h28 (by rw [he, bookWhy0 hb])
    have hWe : W = [] := hP.bad hnb
    have hq0 : (quietR b).1 = false := quiet_bad hnb
    refine .off rfl rfl <| .off rfl rfl <| .e (.pickT rfl rfl) rfl rfl <| .nil <| .go <| .cond_true rfl ?_
    refine .seq <| .region <| .e (.move rfl) rfl rfl <| .e (.len sl66 rfl rfl) rfl rfl <| .e ((EV.cast (u := .bool true) (.eql rfl rfl) (congrArg Value.bool (decide_eq_true (by rw [hWe]; rfl))))) rfl rfl <| .e (.move rfl) rfl rfl ?_
    refine .e (.move rfl) rfl rfl <| .e ((EV.cast (u := .bool true) (.not rfl) (congrArg Value.bool (by rw [hq0]; rfl)))) rfl rfl <| .e (.pickT rfl rfl) rfl rfl <| .e (.move rfl) rfl rfl <| .e (.move rfl) rfl rfl <| .e (.move rfl) rfl rfl ?_
    refine .e ((EV.cast (u := .bool true) (.eql rfl rfl) (congrArg Value.bool (decide_eq_true (by omega))))) rfl rfl <| .e (.pickT rfl rfl) rfl rfl <| .e (.assign rfl) rfl rfl <| .nil <| .go <| .ret ?_
    refine .ret ?_
    refine .tail ?_
    refine .back hI18 ?_
    refine Post.retE rfl rfl ?_
    rfl
  · skip
    first | replace h28 := of_decide_eq_true ((Bool.not_eq_false' _).mp h28) | replace h28 := of_decide_eq_true (by simpa using h28)
    refine .e (.move rfl) rfl rfl <| .e (.neq rfl rfl) rfl rfl <| .e (.pickF rfl rfl) rfl rfl <| .nil <| .go ?_
    refine .split 31 rfl (fun h31 => ?_) (fun h31 => ?_)
    · skip
      first | replace h31 := of_decide_eq_false ((Bool.not_eq_true' _).mp h31) | replace h31 := of_decide_eq_false (by simpa using h31)
      exact absurd (by omega) h31
    · skip
      first | replace h31 := of_decide_eq_true ((Bool.not_eq_false' _).mp h31) | replace h31 := of_decide_eq_true (by simpa using h31)
      have hbok : bookOk b = true := bookWhy_ok (by rw [← he]; exact h28)
      have hq1 := hP.quiet hbok
      have hR := hP.run hbok
      refine .cond_false rfl <| .skip <| .go <| .seq <| .seq <| .region ?_
      refine .e (.move rfl) rfl rfl <| .e (.move rfl) rfl rfl <| .e (.len sl66 rfl rfl) rfl rfl <| .e (.eql rfl rfl) rfl rfl <| .e ((EV.cast (u := .bool false) (.nev eqBool rfl rfl) (congrArg Value.bool (by rw [hq1]; simp)))) rfl rfl <| .e (.move rfl) rfl rfl ?_
      refine .e (.move rfl) rfl rfl <| .e (.len sl66 rfl rfl) rfl rfl <| .e ((EV.cast (u := .bool false) (.gtr rfl rfl) (congrArg Value.bool (decide_eq_false (by omega))))) rfl rfl <| .e (.pickF rfl rfl) rfl rfl <| .nil <| .go ?_
      refine .cond_false rfl <| .skip <| .go <| .seq <| .seq <| .region ?_
      refine .e (.move rfl) rfl rfl <| .e (.len sl66 rfl rfl) rfl rfl <| .e (.move rfl) rfl rfl <| .nil <| .go <| .block ?_
      refine .loopM [4, 10, 11, 12, 56, 57, 58, 59, 60, 61, 62, 63, 64, 65, 66, 67, 68, 69, 70, 71, 72, 73, 74, 75, 76, 77, 78, 79, 80, 81, 82, 83, 84, 85, 86, 87, 88, 89, 90, 91] (fun s => W.length - s.1) (fun s => s.1 ≤ W.length ∧ BkR s.2.2 s.2.1 (doAll b (W.take s.1)) ∧ I.le s.2.2 ∧ Imm.le I18 s.2.2) (fun s => [(56, .int .i64 s.1)]) (fun s => s.2.2) (fun s => (c1, .cells ⟨s.2.1⟩ 27 (0, 0)) :: _) (((0, _, I18) : Nat × List Value × Imm)) ⟨Nat.zero_le _, hk0.mono hI18, hI18, Imm.le_refl _⟩ ⟨rfl, trivial⟩ rfl rfl ?_
      intro ⟨k, kcL, J⟩ hkI
      dsimp only at hkI ⊢
      obtain ⟨hkk, hm, hJ, hJ2⟩ := hkI
      have hmo := doAll_ok hbok (W.take k)
      obtain ⟨m, hmE⟩ : ∃ m, doAll b (W.take k) = m := ⟨_, rfl⟩
      rw [hmE] at hm hmo
      have hm0 := hm
      obtain ⟨nm_, tm_, bm_, rfl, xn_, xt_, xb_⟩ := hm.ex
      obtain ⟨_, _, rfl, -⟩ := xn_
      obtain ⟨_, _, rfl, -⟩ := xt_
      obtain ⟨_, _, rfl, -⟩ := xb_
      have hlJ : SlR OrdrR 19 J _ W := SlR.mono (fun _ _ h => OrdrR.mono hJ2 h) hJ2 hl180
      refine .seq <| .region <| .e (.lss rfl rfl) rfl rfl <| .nil <| .go <| .seq ?_
      refine .split 57 rfl (fun h57 => ?_) (fun h57 => ?_)
      · skip
        replace h57 := of_decide_eq_true h57
        refine .cond_true rfl <| .skip <| .go <| .seq <| .block <| .seq ?_
        refine .region ?_
        obtain ⟨eb58, eo58, cs58, hd58, hat58, hr58⟩ := SlR.at_ hlJ (k := k) (by omega)
        cases hd58
        obtain ⟨o, hoe⟩ : ∃ o, W[k] = o := ⟨_, rfl⟩
        have hso : OrdS o := hoe ▸ hP.sz _ (List.getElem_mem (by omega))
        have hof : o.fence = f := hoe ▸ hP.fen (by omega)
        have hRa : b.fence ≤ f → (doR m o).2.1 = 0 := fun h => by have := (hR.1 h).1 k (by omega); rw [hmE, hoe] at this; exact this
        have hRb : f < b.fence → (doR m o).2.1 = 14 := fun h => by have := hR.2 h k (by omega); rw [hmE, hoe] at this; exact this
        rw [hoe] at hr58
        have ho58 := hr58
        obtain ⟨lo58, to58, wo58, bo58, rfl, hon58, xa58, xb58, hot58, xc58, xd58⟩ := hr58.ex
        obtain ⟨_, _, rfl, -⟩ := xa58
        obtain ⟨_, _, rfl, -⟩ := xb58
        obtain ⟨_, _, rfl, -⟩ := xc58
        obtain ⟨_, _, rfl, -⟩ := xd58
        refine .e (.indexAddrL sl66 rfl rfl rfl (by omega)) rfl rfl <| .e (.loadIA ag65 sz65 rfl hat58 rfl) rfl rfl <| .on rfl <| .alloc zr65 rfl fun c2 _ _ => .on rfl <| .storeW sz65 rfl rfl rfl rfl rfl rfl .here <| .nil <| .go ?_
        refine .seq <| .seq <| .region <| .e (.fieldAddr fo65_5 rfl) rfl rfl <| .e (.load ag25 rfl .here rfl) rfl rfl <| .e (.move rfl) rfl rfl ?_
        refine .e ((EV.cast (u := .bool false) (.neq rfl rfl) (congrArg Value.bool (by rw [decide_eq_true (hof)]; rfl)))) rfl rfl <| .nil <| .go <| .cond_false rfl <| .skip <| .go ?_
        refine .seq <| .region <| .e (.loadW ag27 sz27 rfl (.there <| .here) rfl) rfl rfl <| .e (.loadW ag65 sz65 rfl .here rfl) rfl rfl <| .on rfl <| .call cal27 rfl rfl rfl (doF hm0 ho58 hso) fun v67 I67 O67 hI67 hK67 => ?_
        obtain ⟨rfl, cs67, rfl, hb67⟩ := hK67
        have hb670 := hb67
        obtain ⟨nv67, tv67, bv67, rfl, hn67, ht67, hx67⟩ := hb67.ex
        obtain ⟨_, _, rfl, -⟩ := hn67
        obtain ⟨_, _, rfl, htl67, -⟩ := ht67
        obtain ⟨_, _, rfl, -⟩ := hx67
        refine .e (.move rfl) rfl rfl <| .e (.extract rfl rfl) rfl rfl <| .e (.extract rfl rfl) rfl rfl <| .on rfl <| .alloc zr27 rfl fun c3 _ _ => .on rfl <| .alloc zr60 rfl fun c4 _ _ => .on rfl <| .storeW sz27 rfl rfl rfl rfl rfl rfl (.there <| .here) ?_
        refine .on rfl <| .storeW sz60 rfl rfl rfl rfl rfl rfl .here <| .nil <| .go <| .seq <| .seq <| .region ?_
        refine .e (.move rfl) rfl rfl <| .e (.fieldAddr fo27_3 rfl) rfl rfl <| .e (.load ag25 rfl (.there <| .there <| .there <| .here) rfl) rfl rfl <| .e (.geq rfl rfl) rfl rfl <| .e (.move rfl) rfl rfl ?_
        refine .split 74 rfl (fun h74 => ?_) (fun h74 => ?_)
        · skip
          replace h74 := of_decide_eq_true h74
          have hge : b.fence ≤ f := by have := hmo.2; omega
          refine .e (.fieldAddr fo60_0 rfl) rfl rfl <| .e (.load ag28 rfl .here rfl) rfl rfl <| .e ((EV.cast (u := .bool false) (.neq rfl rfl) (congrArg Value.bool (by rw [decide_eq_true (hRa hge)]; rfl)))) rfl rfl <| .e (.pickT rfl rfl) rfl rfl <| .e (.move rfl) rfl rfl <| .e (.move rfl) rfl rfl ?_
          refine .e (.fieldAddr fo27_3 rfl) rfl rfl <| .e (.load ag25 rfl (.there <| .there <| .there <| .here) rfl) rfl rfl <| .e ((EV.cast (u := .bool false) (.lss rfl rfl) (congrArg Value.bool (decide_eq_false (by have := hmo.2; omega))))) rfl rfl <| .e (.move rfl) rfl rfl <| .off rfl rfl <| .off rfl rfl ?_
          refine .off rfl rfl <| .e (.pickF rfl rfl) rfl rfl <| .e (.pickF rfl rfl) rfl rfl <| .nil <| .go <| .cond_false rfl ?_
          refine .skip <| .go <| .region <| .e (.loadW ag27 sz27 rfl (.there <| .here) rfl) rfl rfl <| .on rfl <| .storeW sz27 rfl rfl rfl rfl rfl rfl (.there <| .there <| .there <| .here) <| .nil ?_
          refine .blk_normal <| .go <| .region <| .e (.add rfl rfl (by first | exact wrap_succ (by omega) | exact IntWalk.i64_in _ (by omega) | exact rfl)) rfl rfl <| .e (.move rfl) rfl rfl <| .nil ?_
          refine .tail ?_
          refine .tail ?_
          refine .tail ?_
          exact .mid ((k + 1, _, I67)) ⟨by dsimp only; omega, by dsimp only; omega, by dsimp only; rw [doAll_step (show k < W.length by omega), hmE, hoe]; exact hb670, (Imm.le_trans hJ hI67), Imm.le_trans hJ2 hI67⟩ ⟨rfl, trivial⟩ rfl rfl (.pre 41 rfl (.app rfl .base))
        · skip
          replace h74 := of_decide_eq_false h74
          have hlt : f < b.fence := by have := hmo.2; omega
          refine .off rfl rfl <| .off rfl rfl <| .off rfl rfl <| .e (.pickF rfl rfl) rfl rfl <| .e (.move rfl) rfl rfl <| .e (.move rfl) rfl rfl ?_
          refine .e (.fieldAddr fo27_3 rfl) rfl rfl <| .e (.load ag25 rfl (.there <| .there <| .there <| .here) rfl) rfl rfl <| .e ((EV.cast (u := .bool true) (.lss rfl rfl) (congrArg Value.bool (decide_eq_true (by have := hmo.2; omega))))) rfl rfl <| .e (.move rfl) rfl rfl <| .e (.fieldAddr fo60_0 rfl) rfl rfl <| .e (.load ag28 rfl .here rfl) rfl rfl ?_
          refine .e ((EV.cast (u := .bool false) (.neq rfl rfl) (congrArg Value.bool (by rw [decide_eq_true (hRb hlt)]; rfl)))) rfl rfl <| .e (.pickT rfl rfl) rfl rfl <| .e (.pickF rfl rfl) rfl rfl <| .nil <| .go <| .cond_false rfl ?_
          refine .skip <| .go <| .region <| .e (.loadW ag27 sz27 rfl (.there <| .here) rfl) rfl rfl <| .on rfl <| .storeW sz27 rfl rfl rfl rfl rfl rfl (.there <| .there <| .there <| .here) <| .nil ?_
          refine .blk_normal <| .go <| .region <| .e (.add rfl rfl (by first | exact wrap_succ (by omega) | exact IntWalk.i64_in _ (by omega) | exact rfl)) rfl rfl <| .e (.move rfl) rfl rfl <| .nil ?_
          refine .tail ?_
          refine .tail ?_
          refine .tail ?_
          exact .mid ((k + 1, _, I67)) ⟨by dsimp only; omega, by dsimp only; omega, by dsimp only; rw [doAll_step (show k < W.length by omega), hmE, hoe]; exact hb670, (Imm.le_trans hJ hI67), Imm.le_trans hJ2 hI67⟩ ⟨rfl, trivial⟩ rfl rfl (.pre 41 rfl (.app rfl .base))
      · skip
        replace h57 := of_decide_eq_false h57
        refine .cond_false rfl <| .exit <| .exit <| .exit <| .blk_exit <| .go ?_
        refine .seq <| .region <| .e (.assign rfl) rfl rfl <| .nil <| .go <| .ret ?_
        refine .tail ?_
        refine .back hJ ?_
        refine Post.retE rfl rfl ?_
        rfl

end Go.Proofs.YtmmokaockpghaaaGreatDoor
