/- Walks of functions over a symbolic memory, printed by a program of the session. -/
import Derived.Test.YtcojkkndmholaaaGreatDoorBq
namespace Go.Proofs.YtcojkkndmholaaaGreatDoor
open Go.Sy
set_option linter.unusedSimpArgs false
set_option linter.unusedVariables false

theorem lead_in {b : Bk} {t : Int} (h : (leadR b t).2 = 0) : bookOk (leadR b t).1 = true ∧ t ≤ (leadR b t).1.fence := by
  unfold leadR at h ⊢
  split
  · rename_i h1; exact ⟨h1, by dsimp only; omega⟩
  · rename_i h1; rw [if_neg h1] at h; cases h
theorem bookWhy0 {b : Bk} (h : bookOk b = true) : bookWhy b = 0 := by unfold bookWhy; rw [if_pos h]

set_option maxHeartbeats 16000000 in
set_option maxRecDepth 20000 in
theorem BookFenced_ok {I : Imm} {O : Own} {kc : List Value} {b : Bk} (hk : BkR I kc b) {t : Int} (ht : U64 t) {v : Value} {l : List Ordr} (hl : SlR OrdrR 19 I v l) (hS : ∀ o ∈ l, OrdS o) :
    Pure Tryz.prog 5 [.agg ⟨kc⟩, .int .u64 t, v] I O (.bool true) := by
  have hk0 := hk
  obtain ⟨nv, tv, bv, rfl, hnv, htv, hbv⟩ := hk.ex
  have hnv0 := hnv
  have htv0 := htv
  have hbv0 := hbv
  obtain ⟨na, ncap, rfl, hn1, hn2, -⟩ := hnv
  obtain ⟨ta, tcap, rfl, ht1, ht2, -⟩ := htv
  obtain ⟨ba, bcap, rfl, hb1, hb2, -⟩ := hbv
  have hl0 := hl
  obtain ⟨la, lcap, rfl, hl1, hl2, -⟩ := hl
  refine Go.Sy.Does.enter Tryz.func5 rfl Tryz.ntmps5 rfl ?_
  refine .seq <| .region <| .on rfl <| .box rfl rfl rfl fun c1 _ _ => .e (.assign rfl) rfl rfl <| .nil <| .go ?_
  refine .seq <| .seq <| .region <| .on rfl <| .callP cal14 rfl rfl rfl (lives_ok) <| .e (.not rfl) rfl rfl <| .nil ?_
  refine .go <| .cond_false rfl <| .skip <| .go <| .seq <| .region ?_
  refine .e (.loadW ag27 sz27 rfl .here rfl) rfl rfl <| .e (.move rfl) rfl rfl <| .on rfl <| .call cal19 rfl rfl rfl (leadF hk0 ht) fun v17 I17 O17 hI17 hK17 => ?_
  obtain ⟨rfl, cs17, rfl, hb17⟩ := hK17
  have hb170 := hb17
  obtain ⟨nv17, tv17, bv17, rfl, hn17, ht17, hx17⟩ := hb17.ex
  obtain ⟨_, _, rfl, -⟩ := hn17
  obtain ⟨_, _, rfl, htl17, -⟩ := ht17
  obtain ⟨_, _, rfl, -⟩ := hx17
  refine .e (.move rfl) rfl rfl <| .e (.extract rfl rfl) rfl rfl <| .e (.extract rfl rfl) rfl rfl <| .on rfl <| .storeW sz27 rfl rfl rfl rfl rfl rfl .here <| .e (.assign rfl) rfl rfl <| .nil ?_
  refine .go <| .seq <| .seq <| .region <| .e (.move rfl) rfl rfl <| .e (.neq rfl rfl) rfl rfl ?_
  refine .nil <| .go ?_
  refine .split 21 rfl (fun h21 => ?_) (fun h21 => ?_)
  · skip
    first | replace h21 := of_decide_eq_false ((Bool.not_eq_true' _).mp h21) | replace h21 := of_decide_eq_false (by simpa using h21)
    refine .cond_true rfl <| .seq <| .region <| .e (.assign rfl) rfl rfl <| .nil <| .go ?_
    refine .ret <| .ret ?_
    refine .tail ?_
    refine .back hI17 ?_
    refine Post.retE rfl rfl ?_
    rfl
  · skip
    first | replace h21 := of_decide_eq_true ((Bool.not_eq_false' _).mp h21) | replace h21 := of_decide_eq_true (by simpa using h21)
    have hli := lead_in h21
    refine .cond_false rfl <| .skip <| .go <| .seq <| .seq <| .region ?_
    refine .e (.move rfl) rfl rfl <| .e (.len sl47 rfl rfl) rfl rfl <| .e (.move rfl) rfl rfl <| .nil <| .go <| .block ?_
    refine .loopM [6, 8, 9, 10, 11, 24, 25, 26, 27, 28, 29, 30, 31, 32, 33, 34, 35, 36, 37, 38, 39, 40, 41, 42, 43, 44, 45, 46, 47, 48, 49, 50, 51, 52, 53, 54, 55, 56, 57, 58, 59, 60, 61, 62, 63, 64, 65, 66, 67, 68, 69, 70, 71, 72, 73, 74] (fun s => l.length - s.1) (fun s => s.1 ≤ l.length ∧ BkR s.2.2.2 s.2.2.1 s.2.1 ∧ I.le s.2.2.2 ∧ bookOk s.2.1 = true ∧ t ≤ s.2.1.fence) (fun s => [(24, .int .i64 s.1)]) (fun s => s.2.2.2) (fun s => (c1, .cells ⟨s.2.2.1⟩ 27 (0, 0)) :: O) (((0, (leadR b t).1, _, I17) : Nat × Bk × List Value × Imm)) ⟨Nat.zero_le _, hb170, hI17, hli.1, hli.2⟩ ⟨rfl, trivial⟩ rfl rfl ?_
    intro ⟨k, m, kv, J⟩ hk
    dsimp only at hk ⊢
    obtain ⟨hkk, hm, hJ, hok, hfe⟩ := hk
    have hm0 := hm
    obtain ⟨nm_, tm_, bm_, rfl, xn_, xt_, xb_⟩ := hm.ex
    obtain ⟨_, _, rfl, -⟩ := xn_
    obtain ⟨_, _, rfl, -⟩ := xt_
    obtain ⟨_, _, rfl, -⟩ := xb_
    have hlJ : SlR OrdrR 19 J (.slice la l.length lcap) l := SlR.mono (fun _ _ h => OrdrR.mono hJ h) hJ hl0
    refine .seq <| .region <| .e (.lss rfl rfl) rfl rfl <| .nil <| .go <| .seq ?_
    refine .split 25 rfl (fun h25 => ?_) (fun h25 => ?_)
    · skip
      replace h25 := of_decide_eq_true h25
      refine .cond_true rfl <| .skip <| .go <| .seq <| .block <| .seq ?_
      refine .region <| .e (.move rfl) rfl rfl ?_
      obtain ⟨eb27, eo27, cs27, hd27, hat27, hr27⟩ := SlR.at_ hlJ (k := k) (by omega)
      cases hd27
      obtain ⟨o, hoe⟩ : ∃ o, l[k] = o := ⟨_, rfl⟩
      have hso : OrdS o := hoe ▸ hS _ (List.getElem_mem (by omega))
      rw [hoe] at hr27
      have ho27 := hr27
      obtain ⟨lo27, to27, wo27, bo27, rfl, hon27, xa27, xb27, hot27, xc27, xd27⟩ := hr27.ex
      obtain ⟨_, _, rfl, -⟩ := xa27
      obtain ⟨_, _, rfl, -⟩ := xb27
      obtain ⟨_, _, rfl, -⟩ := xc27
      obtain ⟨_, _, rfl, -⟩ := xd27
      refine .e (.indexAddrL sl47 rfl rfl rfl (by omega)) rfl rfl <| .e (.loadIA ag36 sz36 rfl hat27 rfl) rfl rfl <| .on rfl <| .alloc zr36 rfl fun c2 _ _ => .e (.assign rfl) rfl rfl <| .on rfl <| .storeW sz36 rfl rfl rfl rfl rfl rfl .here <| .nil ?_
      refine .go <| .seq <| .seq <| .region <| .e (.move rfl) rfl rfl <| .e (.eql rfl rfl) rfl rfl ?_
      refine .nil <| .go ?_
      refine .split 30 rfl (fun h30 => ?_) (fun h30 => ?_)
      · skip
        replace h30 := of_decide_eq_true h30
        refine .cond_true rfl <| .exit <| .exit <| .blk_other rfl <| .exit <| .exit ?_
        refine .blk_exit <| .go <| .seq <| .region <| .e (.assign rfl) rfl rfl <| .nil ?_
        refine .go <| .ret ?_
        refine .tail <| .tail ?_
        refine .back hJ ?_
        refine Post.retE rfl rfl ?_
        rfl
      · skip
        replace h30 := of_decide_eq_false h30
        refine .cond_false rfl <| .skip <| .go <| .seq <| .region <| .e (.loadW ag27 sz27 rfl (.there <| .here) rfl) rfl rfl ?_
        refine .e (.loadW ag36 sz36 rfl .here rfl) rfl rfl <| .on rfl <| .call cal12 rfl rfl rfl (doF hm0 ho27 hso) fun v34 I34 O34 hI34 hK34 => ?_
        obtain ⟨rfl, cs34, rfl, hb34⟩ := hK34
        have hb340 := hb34
        obtain ⟨nv34, tv34, bv34, rfl, hn34, ht34, hx34⟩ := hb34.ex
        obtain ⟨_, _, rfl, -⟩ := hn34
        obtain ⟨_, _, rfl, htl34, -⟩ := ht34
        obtain ⟨_, _, rfl, -⟩ := hx34
        refine .e (.move rfl) rfl rfl <| .e (.extract rfl rfl) rfl rfl <| .e (.extract rfl rfl) rfl rfl <| .on rfl <| .alloc zr27 rfl fun c3 _ _ => .on rfl <| .alloc zr40 rfl fun c4 _ _ => .on rfl <| .storeW sz27 rfl rfl rfl rfl rfl rfl (.there <| .here) ?_
        refine .on rfl <| .storeW sz40 rfl rfl rfl rfl rfl rfl .here <| .nil <| .go <| .seq <| .seq <| .region ?_
        refine .e (.fieldAddr fo27_3 rfl) rfl rfl <| .e (.load ag25 rfl (.there <| .here) rfl) rfl rfl <| .e (.fieldAddr fo27_3 rfl) rfl rfl <| .e (.load ag25 rfl (.there <| .there <| .there <| .here) rfl) rfl rfl <| .e ((EV.cast (u := .bool false) (.neq rfl rfl) (congrArg Value.bool (by rw [decide_eq_true (do_fence hok)]; rfl)))) rfl rfl <| .e (.move rfl) rfl rfl ?_
        refine .e (.fieldAddr fo27_3 rfl) rfl rfl <| .e (.load ag25 rfl (.there <| .here) rfl) rfl rfl <| .e (.move rfl) rfl rfl <| .e ((EV.cast (u := .bool false) (.lss rfl rfl) (congrArg Value.bool (decide_eq_false (by rw [do_fence hok]; omega))))) rfl rfl <| .e (.pickF rfl rfl) rfl rfl <| .nil ?_
        refine .go <| .cond_false rfl <| .skip <| .go <| .seq <| .seq ?_
        refine .region <| .e (.fieldAddr fo36_0 rfl) rfl rfl <| .e (.load ag28 rfl (.there <| .there <| .here) rfl) rfl rfl <| .e (.eql rfl rfl) rfl rfl <| .e (.move rfl) rfl rfl ?_
        refine .split 51 rfl (fun h51 => ?_) (fun h51 => ?_)
        · skip
          replace h51 := of_decide_eq_true h51
          refine .e (.fieldAddr fo36_5 rfl) rfl rfl <| .e (.load ag25 rfl (.there <| .there <| .here) rfl) rfl rfl <| .e (.move rfl) rfl rfl <| .e (.lss rfl rfl) rfl rfl <| .e (.pickT rfl rfl) rfl rfl <| .e (.move rfl) rfl rfl ?_
          refine .split 57 rfl (fun h57 => ?_) (fun h57 => ?_)
          · skip
            replace h57 := of_decide_eq_true h57
            have hfd := do_fenced hok h51 (by omega)
            refine .e (.fieldAddr fo40_0 rfl) rfl rfl <| .e (.load ag38 rfl .here rfl) rfl rfl <| .e (.neq rfl rfl) rfl rfl <| .e (.move rfl) rfl rfl ?_
            refine .split 61 rfl (fun h61 => ?_) (fun h61 => ?_)
            · skip
              first | replace h61 := of_decide_eq_false ((Bool.not_eq_true' _).mp h61) | replace h61 := of_decide_eq_false (by simpa using h61)
              refine .e (.fieldAddr fo40_0 rfl) rfl rfl <| .e (.load ag38 rfl .here rfl) rfl rfl <| .e (.neq rfl rfl) rfl rfl <| .e (.pickT rfl rfl) rfl rfl <| .e (.move rfl) rfl rfl ?_
              refine .split 66 rfl (fun h66 => ?_) (fun h66 => ?_)
              · skip
                first | replace h66 := of_decide_eq_false ((Bool.not_eq_true' _).mp h66) | replace h66 := of_decide_eq_false (by simpa using h66)
                exact absurd (hfd.2.resolve_left h61) h66
              · skip
                first | replace h66 := of_decide_eq_true ((Bool.not_eq_false' _).mp h66) | replace h66 := of_decide_eq_true (by simpa using h66)
                refine .e (.loadW ag27 sz27 rfl (.there <| .there <| .there <| .here) rfl) rfl rfl <| .e (.loadW ag27 sz27 rfl (.there <| .here) rfl) rfl rfl <| .on rfl <| .callP cal15 rfl rfl rfl ((sameBk_ok (hm0.mono hI34) hb340).cast (congrArg Value.bool (decide_eq_true (hfd.1.symm)))) <| .e (.not rfl) rfl rfl <| .e (.pickF rfl rfl) rfl rfl <| .e (.pickT rfl rfl) rfl rfl ?_
                refine .nil <| .go <| .cond_false rfl <| .skip <| .go <| .region ?_
                refine .e (.loadW ag27 sz27 rfl (.there <| .here) rfl) rfl rfl <| .on rfl <| .storeW sz27 rfl rfl rfl rfl rfl rfl (.there <| .there <| .there <| .here) <| .nil <| .blk_normal <| .go <| .region ?_
                refine .e (.add rfl rfl (by first | exact wrap_succ (by omega) | exact IntWalk.i64_in _ (by omega) | exact rfl)) rfl rfl <| .e (.move rfl) rfl rfl <| .nil ?_
                refine .tail ?_
                refine .tail ?_
                refine .tail ?_
                exact .mid ((k + 1, (doR m o).1, _, I34)) ⟨by dsimp only; omega, by dsimp only; omega, hb340, (Imm.le_trans hJ hI34), do_okB hok, by dsimp only; rw [do_fence hok]; exact hfe⟩ ⟨rfl, trivial⟩ rfl rfl (.pre 61 rfl (.app rfl .base))
            · skip
              first | replace h61 := of_decide_eq_true ((Bool.not_eq_false' _).mp h61) | replace h61 := of_decide_eq_true (by simpa using h61)
              refine .off rfl rfl <| .off rfl rfl <| .off rfl rfl <| .e (.pickF rfl rfl) rfl rfl <| .e (.move rfl) rfl rfl <| .e (.loadW ag27 sz27 rfl (.there <| .there <| .there <| .here) rfl) rfl rfl ?_
              refine .e (.loadW ag27 sz27 rfl (.there <| .here) rfl) rfl rfl <| .on rfl <| .callP cal15 rfl rfl rfl ((sameBk_ok (hm0.mono hI34) hb340).cast (congrArg Value.bool (decide_eq_true (hfd.1.symm)))) <| .e (.not rfl) rfl rfl <| .e (.pickF rfl rfl) rfl rfl <| .e (.pickT rfl rfl) rfl rfl <| .nil ?_
              refine .go <| .cond_false rfl <| .skip <| .go <| .region <| .e (.loadW ag27 sz27 rfl (.there <| .here) rfl) rfl rfl ?_
              refine .on rfl <| .storeW sz27 rfl rfl rfl rfl rfl rfl (.there <| .there <| .there <| .here) <| .nil <| .blk_normal <| .go <| .region <| .e (.add rfl rfl (by first | exact wrap_succ (by omega) | exact IntWalk.i64_in _ (by omega) | exact rfl)) rfl rfl ?_
              refine .e (.move rfl) rfl rfl <| .nil ?_
              refine .tail ?_
              refine .tail ?_
              refine .tail ?_
              exact .mid ((k + 1, (doR m o).1, _, I34)) ⟨by dsimp only; omega, by dsimp only; omega, hb340, (Imm.le_trans hJ hI34), do_okB hok, by dsimp only; rw [do_fence hok]; exact hfe⟩ ⟨rfl, trivial⟩ rfl rfl (.pre 60 rfl (.app rfl .base))
          · skip
            replace h57 := of_decide_eq_false h57
            refine .off rfl rfl <| .off rfl rfl <| .off rfl rfl <| .off rfl rfl <| .off rfl rfl <| .off rfl rfl ?_
            refine .off rfl rfl <| .off rfl rfl <| .off rfl rfl <| .off rfl rfl <| .off rfl rfl <| .off rfl rfl ?_
            refine .off rfl rfl <| .off rfl rfl <| .e (.pickF rfl rfl) rfl rfl <| .nil <| .go <| .cond_false rfl ?_
            refine .skip <| .go <| .region <| .e (.loadW ag27 sz27 rfl (.there <| .here) rfl) rfl rfl <| .on rfl <| .storeW sz27 rfl rfl rfl rfl rfl rfl (.there <| .there <| .there <| .here) <| .nil ?_
            refine .blk_normal <| .go <| .region <| .e (.add rfl rfl (by first | exact wrap_succ (by omega) | exact IntWalk.i64_in _ (by omega) | exact rfl)) rfl rfl <| .e (.move rfl) rfl rfl <| .nil ?_
            refine .tail ?_
            refine .tail ?_
            refine .tail ?_
            exact .mid ((k + 1, (doR m o).1, _, I34)) ⟨by dsimp only; omega, by dsimp only; omega, hb340, (Imm.le_trans hJ hI34), do_okB hok, by dsimp only; rw [do_fence hok]; exact hfe⟩ ⟨rfl, trivial⟩ rfl rfl (.pre 59 rfl (.app rfl .base))
        · skip
          replace h51 := of_decide_eq_false h51
          refine .off rfl rfl <| .off rfl rfl <| .off rfl rfl <| .off rfl rfl <| .e (.pickF rfl rfl) rfl rfl <| .e (.move rfl) rfl rfl ?_
          refine .off rfl rfl <| .off rfl rfl <| .off rfl rfl <| .off rfl rfl <| .off rfl rfl <| .off rfl rfl ?_
          refine .off rfl rfl <| .off rfl rfl <| .off rfl rfl <| .off rfl rfl <| .off rfl rfl <| .off rfl rfl ?_
          refine .off rfl rfl <| .off rfl rfl <| .e (.pickF rfl rfl) rfl rfl <| .nil <| .go <| .cond_false rfl ?_
          refine .skip <| .go <| .region <| .e (.loadW ag27 sz27 rfl (.there <| .here) rfl) rfl rfl <| .on rfl <| .storeW sz27 rfl rfl rfl rfl rfl rfl (.there <| .there <| .there <| .here) <| .nil ?_
          refine .blk_normal <| .go <| .region <| .e (.add rfl rfl (by first | exact wrap_succ (by omega) | exact IntWalk.i64_in _ (by omega) | exact rfl)) rfl rfl <| .e (.move rfl) rfl rfl <| .nil ?_
          refine .tail ?_
          refine .tail ?_
          refine .tail ?_
          exact .mid ((k + 1, (doR m o).1, _, I34)) ⟨by dsimp only; omega, by dsimp only; omega, hb340, (Imm.le_trans hJ hI34), do_okB hok, by dsimp only; rw [do_fence hok]; exact hfe⟩ ⟨rfl, trivial⟩ rfl rfl (.pre 58 rfl (.app rfl .base))
    · skip
      replace h25 := of_decide_eq_false h25
      refine .cond_false rfl <| .exit <| .exit <| .exit <| .blk_exit <| .go ?_
      refine .seq <| .region <| .e (.assign rfl) rfl rfl <| .nil <| .go <| .ret ?_
      refine .tail ?_
      refine .back hJ ?_
      refine Post.retE rfl rfl ?_
      rfl

set_option maxHeartbeats 16000000 in
set_option maxRecDepth 20000 in
theorem BookRight_ok {I : Imm} {O : Own} {kc : List Value} {b : Bk} (hk : BkR I kc b) {v : Value} {l : List Ordr} (hl : SlR OrdrR 19 I v l) (hS : ∀ o ∈ l, OrdS o) :
    Pure Tryz.prog 4 [.agg ⟨kc⟩, v] I O (.bool true) := by
  have hk0 := hk
  obtain ⟨nv, tv, bv, rfl, hnv, htv, hbv⟩ := hk.ex
  have hnv0 := hnv
  have htv0 := htv
  have hbv0 := hbv
  obtain ⟨na, ncap, rfl, hn1, hn2, -⟩ := hnv
  obtain ⟨ta, tcap, rfl, ht1, ht2, -⟩ := htv
  obtain ⟨ba, bcap, rfl, hb1, hb2, -⟩ := hbv
  have hl0 := hl
  obtain ⟨la, lcap, rfl, hl1, hl2, -⟩ := hl
  refine Go.Sy.Does.enter Tryz.func4 rfl Tryz.ntmps4 rfl ?_
  refine .seq <| .region <| .on rfl <| .box rfl rfl rfl fun c1 _ _ => .e (.assign rfl) rfl rfl <| .nil <| .go ?_
  refine .seq <| .seq <| .region <| .on rfl <| .callP cal14 rfl rfl rfl (lives_ok) <| .e (.not rfl) rfl rfl <| .nil ?_
  refine .go <| .cond_false rfl <| .skip <| .go <| .seq <| .seq ?_
  refine .region <| .e (.loadW ag27 sz27 rfl .here rfl) rfl rfl <| .on rfl <| .callP cal18 rfl rfl rfl (bCheck_ok hk0) <| .e (.neq rfl rfl) rfl rfl <| .nil <| .go ?_
  refine .split 15 rfl (fun h15 => ?_) (fun h15 => ?_)
  · skip
    first | replace h15 := of_decide_eq_false ((Bool.not_eq_true' _).mp h15) | replace h15 := of_decide_eq_false (by simpa using h15)
    refine .cond_true rfl <| .seq <| .region <| .e (.loadW ag27 sz27 rfl .here rfl) rfl rfl <| .e (.build bs36 zv36 rfl rfl) rfl rfl <| .on rfl <| .call cal12 rfl rfl rfl (doF hk0 (ordFlat (o := ordK 7 ⟨#[97]⟩) (by decide +kernel)).1 (ordS_flat (o := ordK 7 ⟨#[97]⟩) (by decide +kernel))) fun v19 I19 O19 hI19 hK19 => ?_
    rw [doR_no h15] at hK19
    obtain ⟨rfl, cs19, rfl, hb19⟩ := hK19
    have hb190 := hb19
    obtain ⟨nv19, tv19, bv19, rfl, hn19, ht19, hx19⟩ := hb19.ex
    obtain ⟨_, _, rfl, -⟩ := hn19
    obtain ⟨_, _, rfl, htl19, -⟩ := ht19
    obtain ⟨_, _, rfl, -⟩ := hx19
    refine .e (.move rfl) rfl rfl <| .e (.extract rfl rfl) rfl rfl <| .e (.extract rfl rfl) rfl rfl <| .on rfl <| .alloc zr27 rfl fun c2 _ _ => .on rfl <| .alloc zr40 rfl fun c3 _ _ => .on rfl <| .storeW sz27 rfl rfl rfl rfl rfl rfl (.there <| .here) ?_
    refine .on rfl <| .storeW sz40 rfl rfl rfl rfl rfl rfl .here <| .nil <| .go <| .seq <| .region <| .e (.fieldAddr fo40_0 rfl) rfl rfl ?_
    refine .e (.load ag38 rfl .here rfl) rfl rfl <| .e ((EV.cast (u := .bool true) (.eql rfl rfl) (congrArg Value.bool (by decide)))) rfl rfl <| .e (.assign rfl) rfl rfl <| .nil <| .go <| .ret ?_
    refine .ret ?_
    refine .tail <| .tail <| .tail ?_
    refine .back hI19 ?_
    refine Post.retE rfl rfl ?_
    rfl
  · skip
    first | replace h15 := of_decide_eq_true ((Bool.not_eq_false' _).mp h15) | replace h15 := of_decide_eq_true (by simpa using h15)
    refine .cond_false rfl <| .skip <| .go <| .seq <| .seq <| .region ?_
    refine .e (.move rfl) rfl rfl <| .e (.len sl47 rfl rfl) rfl rfl <| .e (.move rfl) rfl rfl <| .nil <| .go <| .block ?_
    refine .loopM [4, 7, 8, 9, 10, 27, 28, 29, 30, 31, 32, 33, 34, 35, 36, 37, 38, 39, 40, 41, 42, 43, 44, 45, 46, 47, 48, 49, 50, 51, 52, 53, 54, 55, 56, 57, 58, 59, 60, 61, 62, 63, 64, 65, 66] (fun s => l.length - s.1) (fun s => s.1 ≤ l.length ∧ BkR s.2.2.2 s.2.2.1 s.2.1 ∧ I.le s.2.2.2 ∧ bookOk s.2.1 = true) (fun s => [(27, .int .i64 s.1)]) (fun s => s.2.2.2) (fun s => (c1, .cells ⟨s.2.2.1⟩ 27 (0, 0)) :: O) (((0, b, _, I) : Nat × Bk × List Value × Imm)) ⟨Nat.zero_le _, hk0, Imm.le_refl _, bookWhy_ok h15⟩ ⟨rfl, trivial⟩ rfl rfl ?_
    intro ⟨k, m, kv, J⟩ hk
    dsimp only at hk ⊢
    obtain ⟨hkk, hm, hJ, hok⟩ := hk
    have hm0 := hm
    obtain ⟨nm_, tm_, bm_, rfl, xn_, xt_, xb_⟩ := hm.ex
    obtain ⟨_, _, rfl, -⟩ := xn_
    obtain ⟨_, _, rfl, -⟩ := xt_
    obtain ⟨_, _, rfl, -⟩ := xb_
    have hlJ : SlR OrdrR 19 J (.slice la l.length lcap) l := SlR.mono (fun _ _ h => OrdrR.mono hJ h) hJ hl0
    refine .seq <| .region <| .e (.lss rfl rfl) rfl rfl <| .nil <| .go <| .seq ?_
    refine .split 28 rfl (fun h28 => ?_) (fun h28 => ?_)
    · skip
      replace h28 := of_decide_eq_true h28
      refine .cond_true rfl <| .skip <| .go <| .seq <| .block <| .seq ?_
      refine .region <| .e (.move rfl) rfl rfl ?_
      obtain ⟨eb30, eo30, cs30, hd30, hat30, hr30⟩ := SlR.at_ hlJ (k := k) (by omega)
      cases hd30
      obtain ⟨o, hoe⟩ : ∃ o, l[k] = o := ⟨_, rfl⟩
      have hso : OrdS o := hoe ▸ hS _ (List.getElem_mem (by omega))
      rw [hoe] at hr30
      have ho30 := hr30
      obtain ⟨lo30, to30, wo30, bo30, rfl, hon30, xa30, xb30, hot30, xc30, xd30⟩ := hr30.ex
      obtain ⟨_, _, rfl, -⟩ := xa30
      obtain ⟨_, _, rfl, -⟩ := xb30
      obtain ⟨_, _, rfl, -⟩ := xc30
      obtain ⟨_, _, rfl, -⟩ := xd30
      refine .e (.indexAddrL sl47 rfl rfl rfl (by omega)) rfl rfl <| .e (.loadIA ag36 sz36 rfl hat30 rfl) rfl rfl <| .on rfl <| .alloc zr36 rfl fun c4 _ _ => .e (.assign rfl) rfl rfl <| .on rfl <| .storeW sz36 rfl rfl rfl rfl rfl rfl .here <| .nil ?_
      refine .go <| .seq <| .seq <| .region <| .e (.move rfl) rfl rfl <| .e (.eql rfl rfl) rfl rfl ?_
      refine .nil <| .go ?_
      refine .split 33 rfl (fun h33 => ?_) (fun h33 => ?_)
      · skip
        replace h33 := of_decide_eq_true h33
        refine .cond_true rfl <| .exit <| .exit <| .blk_other rfl <| .exit <| .exit ?_
        refine .blk_exit <| .go <| .seq <| .region <| .e (.assign rfl) rfl rfl <| .nil ?_
        refine .go <| .ret ?_
        refine .tail <| .tail ?_
        refine .back hJ ?_
        refine Post.retE rfl rfl ?_
        rfl
      · skip
        replace h33 := of_decide_eq_false h33
        refine .cond_false rfl <| .skip <| .go <| .seq <| .region <| .e (.loadW ag27 sz27 rfl (.there <| .here) rfl) rfl rfl ?_
        refine .e (.loadW ag36 sz36 rfl .here rfl) rfl rfl <| .on rfl <| .call cal12 rfl rfl rfl (doF hm0 ho30 hso) fun v37 I37 O37 hI37 hK37 => ?_
        obtain ⟨rfl, cs37, rfl, hb37⟩ := hK37
        have hb370 := hb37
        obtain ⟨nv37, tv37, bv37, rfl, hn37, ht37, hx37⟩ := hb37.ex
        obtain ⟨_, _, rfl, -⟩ := hn37
        obtain ⟨_, _, rfl, htl37, -⟩ := ht37
        obtain ⟨_, _, rfl, -⟩ := hx37
        refine .e (.move rfl) rfl rfl <| .e (.extract rfl rfl) rfl rfl <| .e (.extract rfl rfl) rfl rfl <| .on rfl <| .alloc zr27 rfl fun c5 _ _ => .on rfl <| .alloc zr40 rfl fun c6 _ _ => .on rfl <| .storeW sz27 rfl rfl rfl rfl rfl rfl (.there <| .here) ?_
        refine .on rfl <| .storeW sz40 rfl rfl rfl rfl rfl rfl .here <| .nil <| .go <| .seq <| .seq <| .region ?_
        refine .e (.loadW ag27 sz27 rfl (.there <| .here) rfl) rfl rfl <| .on rfl <| .callP cal18 rfl rfl rfl ((bCheck_ok hb370).cast (congrArg (Value.int .i64) (bookWhy0 (do_okB hok)))) <| .e (.neq rfl rfl) rfl rfl <| .e (.move rfl) rfl rfl <| .e (.fieldAddr fo40_0 rfl) rfl rfl <| .e (.load ag38 rfl .here rfl) rfl rfl ?_
        refine .e (.neq rfl rfl) rfl rfl <| .e (.move rfl) rfl rfl ?_
        refine .split 47 rfl (fun h47 => ?_) (fun h47 => ?_)
        · skip
          first | replace h47 := of_decide_eq_false ((Bool.not_eq_true' _).mp h47) | replace h47 := of_decide_eq_false (by simpa using h47)
          refine .e (.loadW ag27 sz27 rfl (.there <| .there <| .there <| .here) rfl) rfl rfl <| .e (.loadW ag27 sz27 rfl (.there <| .here) rfl) rfl rfl <| .on rfl <| .callP cal15 rfl rfl rfl ((sameBk_ok (hm0.mono hI37) hb370).cast (congrArg Value.bool (decide_eq_true ((do_bad hok h47).symm)))) <| .e (.not rfl) rfl rfl <| .e (.pickT rfl rfl) rfl rfl <| .e (.pickF rfl rfl) rfl rfl ?_
          refine .e (.move rfl) rfl rfl <| .e (.fieldAddr fo36_0 rfl) rfl rfl <| .e (.load ag28 rfl (.there <| .there <| .here) rfl) rfl rfl <| .e (.eql rfl rfl) rfl rfl <| .e (.move rfl) rfl rfl ?_
          refine .split 58 rfl (fun h58 => ?_) (fun h58 => ?_)
          · skip
            replace h58 := of_decide_eq_true h58
            refine .e (.loadW ag27 sz27 rfl (.there <| .there <| .there <| .here) rfl) rfl rfl <| .e (.loadW ag27 sz27 rfl (.there <| .here) rfl) rfl rfl <| .on rfl <| .callP cal15 rfl rfl rfl ((sameBk_ok (hm0.mono hI37) hb370).cast (congrArg Value.bool (decide_eq_true ((do_look hok h58).symm)))) <| .e (.not rfl) rfl rfl <| .e (.pickT rfl rfl) rfl rfl <| .e (.pickF rfl rfl) rfl rfl ?_
            refine .nil <| .go <| .cond_false rfl <| .skip <| .go <| .region ?_
            refine .e (.loadW ag27 sz27 rfl (.there <| .here) rfl) rfl rfl <| .on rfl <| .storeW sz27 rfl rfl rfl rfl rfl rfl (.there <| .there <| .there <| .here) <| .nil <| .blk_normal <| .go <| .region ?_
            refine .e (.add rfl rfl (by first | exact wrap_succ (by omega) | exact IntWalk.i64_in _ (by omega) | exact rfl)) rfl rfl <| .e (.move rfl) rfl rfl <| .nil ?_
            refine .tail ?_
            refine .tail ?_
            refine .tail ?_
            exact .mid ((k + 1, (doR m o).1, _, I37)) ⟨by dsimp only; omega, by dsimp only; omega, hb370, (Imm.le_trans hJ hI37), do_okB hok⟩ ⟨rfl, trivial⟩ rfl rfl (.pre 48 rfl (.app rfl .base))
          · skip
            replace h58 := of_decide_eq_false h58
            refine .off rfl rfl <| .off rfl rfl <| .off rfl rfl <| .off rfl rfl <| .e (.pickF rfl rfl) rfl rfl <| .e (.pickF rfl rfl) rfl rfl ?_
            refine .nil <| .go <| .cond_false rfl <| .skip <| .go <| .region ?_
            refine .e (.loadW ag27 sz27 rfl (.there <| .here) rfl) rfl rfl <| .on rfl <| .storeW sz27 rfl rfl rfl rfl rfl rfl (.there <| .there <| .there <| .here) <| .nil <| .blk_normal <| .go <| .region ?_
            refine .e (.add rfl rfl (by first | exact wrap_succ (by omega) | exact IntWalk.i64_in _ (by omega) | exact rfl)) rfl rfl <| .e (.move rfl) rfl rfl <| .nil ?_
            refine .tail ?_
            refine .tail ?_
            refine .tail ?_
            exact .mid ((k + 1, (doR m o).1, _, I37)) ⟨by dsimp only; omega, by dsimp only; omega, hb370, (Imm.le_trans hJ hI37), do_okB hok⟩ ⟨rfl, trivial⟩ rfl rfl (.pre 48 rfl (.app rfl .base))
        · skip
          first | replace h47 := of_decide_eq_true ((Bool.not_eq_false' _).mp h47) | replace h47 := of_decide_eq_true (by simpa using h47)
          refine .off rfl rfl <| .off rfl rfl <| .off rfl rfl <| .off rfl rfl <| .e (.pickF rfl rfl) rfl rfl <| .e (.pickF rfl rfl) rfl rfl ?_
          refine .e (.move rfl) rfl rfl <| .e (.fieldAddr fo36_0 rfl) rfl rfl <| .e (.load ag28 rfl (.there <| .there <| .here) rfl) rfl rfl <| .e (.eql rfl rfl) rfl rfl <| .e (.move rfl) rfl rfl ?_
          refine .split 58 rfl (fun h58 => ?_) (fun h58 => ?_)
          · skip
            replace h58 := of_decide_eq_true h58
            refine .e (.loadW ag27 sz27 rfl (.there <| .there <| .there <| .here) rfl) rfl rfl <| .e (.loadW ag27 sz27 rfl (.there <| .here) rfl) rfl rfl <| .on rfl <| .callP cal15 rfl rfl rfl ((sameBk_ok (hm0.mono hI37) hb370).cast (congrArg Value.bool (decide_eq_true ((do_look hok h58).symm)))) <| .e (.not rfl) rfl rfl <| .e (.pickT rfl rfl) rfl rfl <| .e (.pickF rfl rfl) rfl rfl ?_
            refine .nil <| .go <| .cond_false rfl <| .skip <| .go <| .region ?_
            refine .e (.loadW ag27 sz27 rfl (.there <| .here) rfl) rfl rfl <| .on rfl <| .storeW sz27 rfl rfl rfl rfl rfl rfl (.there <| .there <| .there <| .here) <| .nil <| .blk_normal <| .go <| .region ?_
            refine .e (.add rfl rfl (by first | exact wrap_succ (by omega) | exact IntWalk.i64_in _ (by omega) | exact rfl)) rfl rfl <| .e (.move rfl) rfl rfl <| .nil ?_
            refine .tail ?_
            refine .tail ?_
            refine .tail ?_
            exact .mid ((k + 1, (doR m o).1, _, I37)) ⟨by dsimp only; omega, by dsimp only; omega, hb370, (Imm.le_trans hJ hI37), do_okB hok⟩ ⟨rfl, trivial⟩ rfl rfl (.pre 48 rfl (.app rfl .base))
          · skip
            replace h58 := of_decide_eq_false h58
            refine .off rfl rfl <| .off rfl rfl <| .off rfl rfl <| .off rfl rfl <| .e (.pickF rfl rfl) rfl rfl <| .e (.pickF rfl rfl) rfl rfl ?_
            refine .nil <| .go <| .cond_false rfl <| .skip <| .go <| .region ?_
            refine .e (.loadW ag27 sz27 rfl (.there <| .here) rfl) rfl rfl <| .on rfl <| .storeW sz27 rfl rfl rfl rfl rfl rfl (.there <| .there <| .there <| .here) <| .nil <| .blk_normal <| .go <| .region ?_
            refine .e (.add rfl rfl (by first | exact wrap_succ (by omega) | exact IntWalk.i64_in _ (by omega) | exact rfl)) rfl rfl <| .e (.move rfl) rfl rfl <| .nil ?_
            refine .tail ?_
            refine .tail ?_
            refine .tail ?_
            exact .mid ((k + 1, (doR m o).1, _, I37)) ⟨by dsimp only; omega, by dsimp only; omega, hb370, (Imm.le_trans hJ hI37), do_okB hok⟩ ⟨rfl, trivial⟩ rfl rfl (.pre 48 rfl (.app rfl .base))
    · skip
      replace h28 := of_decide_eq_false h28
      refine .cond_false rfl <| .exit <| .exit <| .exit <| .blk_exit <| .go ?_
      refine .seq <| .region <| .e (.assign rfl) rfl rfl <| .nil <| .go <| .ret ?_
      refine .tail ?_
      refine .back hJ ?_
      refine Post.retE rfl rfl ?_
      rfl

end Go.Proofs.YtcojkkndmholaaaGreatDoor
