/- Walks of functions over a symbolic memory, printed by a program of the session. -/
import Derived.Test.YtcojkkndmholaaaGreatDoorBt
namespace Go.Proofs.YtcojkkndmholaaaGreatDoor
open Go.Sy
set_option linter.unusedSimpArgs false
set_option linter.unusedVariables false

def leA (x y : A3) : Prop := x.a ≤ y.a ∧ x.b ≤ y.b ∧ x.c ≤ y.c
theorem well_ref {n : Nod} {L : List Tsk} (hn : nodWhy n = 0) : wellL n L = true ↔ (leA (sumR L).1 n.has ∧ fitTo n L L.length = true ∧ (sumR L).2 = 0) := by
  unfold wellL leA
  rw [Bool.and_eq_true, Bool.and_eq_true, decide_eq_true_eq]
  constructor
  · rintro ⟨⟨h1, h2⟩, h3⟩
    unfold room at h2
    simp only [Bool.and_eq_true, decide_eq_true_eq] at h2
    exact ⟨by have := h2.2; omega, h3, h1⟩
  · rintro ⟨h1, h2, h3⟩
    refine ⟨⟨h3, ?_⟩, h2⟩
    obtain ⟨h4, h5⟩ := sumR_zero h3
    have hb := sum_bnd h5
    rw [sumR_good h4 h5] at h1 ⊢
    dsimp only at h1 ⊢
    unfold room
    rw [nod_amt hn, amt_mk (x := sumT L) (k := 32) (by omega), amt_mk (x := ⟨0, 0, 0⟩) (k := 1) (by decide)]
    simp only [Bool.true_and, decide_eq_true_eq]
    omega
theorem well_refN {n : Nod} {L : List Tsk} (hn : nodWhy n = 0) (h : ¬(leA (sumR L).1 n.has ∧ fitTo n L L.length = true ∧ (sumR L).2 = 0)) : wellL n L = false := Bool.eq_false_iff.2 fun h2 => h ((well_ref hn).1 h2)
theorem bear_take {t : Tsk} {M : List Tsk} {j : Nat} (h : (M.take j).all (bear t) = true) (hj : j < M.length) (hb : bear t M[j] = true) : (M.take (j + 1)).all (bear t) = true := by
  rw [List.take_succ_eq_append_getElem hj, List.all_append, h]; simp [hb]
theorem fitAt_ref {n : Nod} {L : List Tsk} {k : Nat} (hk : k < L.length) (h : suits L[k] n = true) (h2 : (L.take k).all (bear L[k]) = true) : fitAt n L k = true := by
  unfold fitAt
  rw [tskD hk, h]
  rw [List.all_eq_true] at h2
  simp only [Bool.true_and, Bool.not_eq_true', List.any_eq_false]
  intro u hu
  simp [h2 u hu]
theorem fitAt_refN {n : Nod} {L : List Tsk} {k j : Nat} (hk : k < L.length) (hj : j < (L.take k).length) (h : bear L[k] ((L.take k)[j]) = false) : fitAt n L k = false := by
  unfold fitAt
  rw [tskD hk, Bool.and_eq_false_iff]
  refine .inr ?_
  rw [Bool.not_eq_false', List.any_eq_true]
  exact ⟨_, List.getElem_mem hj, by rw [h]; rfl⟩
theorem fitAt_refS {n : Nod} {L : List Tsk} {k : Nat} (hk : k < L.length) (h : suits L[k] n = false) : fitAt n L k = false := by
  unfold fitAt; rw [tskD hk, h]; rfl

set_option maxHeartbeats 8000000 in
set_option maxRecDepth 20000 in
theorem rnode_ok {I : Imm} {O : Own} {kc : List Value} {b : Bk} (hk : BkR I kc b) {nc : List Value} {n : Nod} (hn : NodR I nc n) (hT : Listed b) (hw : nodWhy n = 0) :
    Pure Tryz.prog 70 [.agg ⟨kc⟩, .agg ⟨nc⟩] I O (.bool (wellR b n)) := by
  have hk0 := hk
  obtain ⟨nv, tv, bv, rfl, hnv, htv, hbv⟩ := hk.ex
  have hnv0 := hnv
  have htv0 := htv
  have hbv0 := hbv
  obtain ⟨na, ncap, rfl, hn1, hn2, -⟩ := hnv
  obtain ⟨ta, tcap, rfl, ht1, ht2, -⟩ := htv
  obtain ⟨ba, bcap, rfl, hb1, hb2, -⟩ := hbv
  have hn0 := hn
  obtain ⟨xl, xt, rfl, hxl, hxt⟩ := hn.ex
  obtain ⟨xla, xlc, rfl, -⟩ := hxl
  obtain ⟨xta, xtc, rfl, -⟩ := hxt
  obtain ⟨L, hL⟩ : ∃ L, thereR b n.name = L := ⟨_, rfl⟩
  refine Go.Sy.Does.enter Tryz.func70 rfl Tryz.ntmps70 rfl ?_
  refine .seq <| .region <| .on rfl <| .box rfl rfl rfl fun c1 _ _ => .on rfl <| .box rfl rfl rfl fun c2 _ _ => .e (.assign rfl) rfl rfl <| .nil ?_
  refine .go <| .seq <| .region <| .e (.loadW ag27 sz27 rfl (.there <| .here) rfl) rfl rfl <| .e (.fieldAddr fo32_0 rfl) rfl rfl <| .e (.load ag9 rfl .here rfl) rfl rfl ?_
  refine .on rfl <| .call cal85 rfl rfl rfl (rthere_ok hk0 hT) fun v17 I17 O17 hI17 hK17 => ?_
  obtain ⟨rfl, hl17⟩ := hK17
  rw [hL] at hl17
  have hl170 := hl17
  obtain ⟨la17, lc17, rfl, hl171, hl172, -⟩ := hl17
  refine .e (.assign rfl) rfl rfl <| .nil <| .go <| .seq <| .region <| .e (.move rfl) rfl rfl ?_
  refine .on rfl <| .callP cal111 rfl rfl rfl (rSum_ok hl170) <| .e (.move rfl) rfl rfl <| .e (.extract rfl rfl) rfl rfl <| .e (.extract rfl rfl) rfl rfl <| .on rfl <| .alloc zr29 rfl fun c3 _ _ => .on rfl <| .storeW sz29 rfl rfl rfl rfl rfl rfl .here ?_
  refine .e (.assign rfl) rfl rfl <| .nil <| .go <| .seq <| .seq <| .region ?_
  refine .e (.fieldAddr fo32_1 rfl) rfl rfl <| .e (.loadP ag29 sz29 rfl (.there <| .here) rfl) rfl rfl <| .e (.move rfl) rfl rfl <| .nil <| .go <| .block ?_
  refine .unroll 3 <| .seq <| .region <| .e (.lss rfl rfl) rfl rfl <| .nil <| .go ?_
  refine .seq <| .cond_true rfl <| .skip <| .go <| .seq <| .block ?_
  refine .seq <| .region <| .e (.move rfl) rfl rfl <| .e (.index (j := 0) ar29 ag2 rfl rfl rfl (by first | decide | omega) rfl) rfl rfl <| .e (.assign rfl) rfl rfl <| .e (.assign rfl) rfl rfl ?_
  refine .nil <| .go <| .seq <| .region <| .e (.move rfl) rfl rfl <| .e (.indexAddrA (j := 0) ar29 rfl rfl rfl (by first | decide | omega)) rfl rfl ?_
  refine .e (.load ag2 rfl .here rfl) rfl rfl <| .e (.move rfl) rfl rfl <| .e (.gtr rfl rfl) rfl rfl <| .nil <| .go ?_
  refine .split 33 rfl (fun h33 => ?_) (fun h33 => ?_)
  · skip
    replace h33 := of_decide_eq_true h33
    refine .cond_true rfl <| .seq <| .region <| .e (.assign rfl) rfl rfl <| .nil <| .go ?_
    refine .ret <| .blk_ret <| .ret <| .ret <| .blk_ret <| .ret ?_
    refine .tail <| .tail <| .tail ?_
    refine .back hI17 ?_
    refine Post.retE rfl rfl ?_
    refine congrArg Value.bool ?_
    rw [wellR_L, hL]
    refine (well_refN hw ?_).symm
    rintro ⟨g1, g2, g3⟩
    unfold leA at g1
    omega
  · skip
    replace h33 := of_decide_eq_false h33
    refine .cond_false rfl <| .skip <| .blk_normal <| .go <| .region <| .e (.add (c := 1) rfl rfl (by decide)) rfl rfl ?_
    refine .e (.move rfl) rfl rfl <| .nil <| .again <| .seq <| .region <| .e (.lss rfl rfl) rfl rfl ?_
    refine .nil <| .go <| .seq <| .cond_true rfl <| .skip <| .go ?_
    refine .seq <| .block <| .seq <| .region <| .e (.move rfl) rfl rfl <| .e (.index (j := 1) ar29 ag2 rfl rfl rfl (by first | decide | omega) rfl) rfl rfl ?_
    refine .e (.assign rfl) rfl rfl <| .e (.assign rfl) rfl rfl <| .nil <| .go <| .seq <| .region ?_
    refine .e (.move rfl) rfl rfl <| .e (.indexAddrA (j := 1) ar29 rfl rfl rfl (by first | decide | omega)) rfl rfl <| .e (.load ag2 rfl .here rfl) rfl rfl <| .e (.move rfl) rfl rfl <| .e (.gtr rfl rfl) rfl rfl <| .nil ?_
    refine .go ?_
    refine .split 33 rfl (fun h33_2 => ?_) (fun h33_2 => ?_)
    · skip
      replace h33_2 := of_decide_eq_true h33_2
      refine .cond_true rfl <| .seq <| .region <| .e (.assign rfl) rfl rfl <| .nil <| .go ?_
      refine .ret <| .blk_ret <| .ret <| .ret <| .blk_ret <| .ret ?_
      refine .tail <| .tail <| .tail ?_
      refine .back hI17 ?_
      refine Post.retE rfl rfl ?_
      refine congrArg Value.bool ?_
      rw [wellR_L, hL]
      refine (well_refN hw ?_).symm
      rintro ⟨g1, g2, g3⟩
      unfold leA at g1
      omega
    · skip
      replace h33_2 := of_decide_eq_false h33_2
      refine .cond_false rfl <| .skip <| .blk_normal <| .go <| .region <| .e (.add (c := 2) rfl rfl (by decide)) rfl rfl ?_
      refine .e (.move rfl) rfl rfl <| .nil <| .again <| .seq <| .region <| .e (.lss rfl rfl) rfl rfl ?_
      refine .nil <| .go <| .seq <| .cond_true rfl <| .skip <| .go ?_
      refine .seq <| .block <| .seq <| .region <| .e (.move rfl) rfl rfl <| .e (.index (j := 2) ar29 ag2 rfl rfl rfl (by first | decide | omega) rfl) rfl rfl ?_
      refine .e (.assign rfl) rfl rfl <| .e (.assign rfl) rfl rfl <| .nil <| .go <| .seq <| .region ?_
      refine .e (.move rfl) rfl rfl <| .e (.indexAddrA (j := 2) ar29 rfl rfl rfl (by first | decide | omega)) rfl rfl <| .e (.load ag2 rfl .here rfl) rfl rfl <| .e (.move rfl) rfl rfl <| .e (.gtr rfl rfl) rfl rfl <| .nil ?_
      refine .go ?_
      refine .split 33 rfl (fun h33_3 => ?_) (fun h33_3 => ?_)
      · skip
        replace h33_3 := of_decide_eq_true h33_3
        refine .cond_true rfl <| .seq <| .region <| .e (.assign rfl) rfl rfl <| .nil <| .go ?_
        refine .ret <| .blk_ret <| .ret <| .ret <| .blk_ret <| .ret ?_
        refine .tail <| .tail <| .tail ?_
        refine .back hI17 ?_
        refine Post.retE rfl rfl ?_
        refine congrArg Value.bool ?_
        rw [wellR_L, hL]
        refine (well_refN hw ?_).symm
        rintro ⟨g1, g2, g3⟩
        unfold leA at g1
        omega
      · skip
        replace h33_3 := of_decide_eq_false h33_3
        refine .cond_false rfl <| .skip <| .blk_normal <| .go <| .region <| .e (.add (c := 3) rfl rfl (by decide)) rfl rfl ?_
        refine .e (.move rfl) rfl rfl <| .nil <| .again <| .seq <| .region <| .e (.lss rfl rfl) rfl rfl ?_
        refine .nil <| .go <| .seq <| .cond_false rfl <| .exit <| .exit ?_
        refine .exit <| .blk_exit <| .go <| .seq <| .seq <| .region ?_
        refine .e (.move rfl) rfl rfl <| .e (.len sl23 rfl rfl) rfl rfl <| .e (.move rfl) rfl rfl <| .nil <| .go <| .block ?_
        refine .loopM [4, 10, 11, 13, 37, 38, 39, 40, 41, 42, 43, 44, 45, 46, 47, 48, 49, 50, 51, 52, 53, 54, 55, 56, 57, 58, 59] (fun k => L.length - k) (fun k => k ≤ L.length ∧ fitTo n L k = true) (fun k => [(37, .int .i64 k)]) (fun _ => _) (fun _ => _) (0) ⟨Nat.zero_le _, rfl⟩ ⟨rfl, trivial⟩ rfl rfl ?_
        intro kk hk
        obtain ⟨hkk, hfit⟩ := hk
        refine .seq <| .region <| .e (.lss rfl rfl) rfl rfl <| .nil <| .go <| .seq ?_
        refine .split 38 rfl (fun h38 => ?_) (fun h38 => ?_)
        · skip
          replace h38 := of_decide_eq_true h38
          refine .cond_true rfl <| .skip <| .go <| .seq <| .block <| .seq ?_
          refine .region <| .e (.move rfl) rfl rfl ?_
          obtain ⟨eb40, eo40, cs40, hd40, hat40, hr40⟩ := SlR.at_ hl170 (k := kk) (by omega)
          cases hd40
          have ht40 := hr40
          obtain ⟨xw40, xb40, rfl, hxw40, hxb40⟩ := hr40.ex
          obtain ⟨xa40, xc40, rfl, -⟩ := hxw40
          obtain ⟨xd40, xe40, rfl, -⟩ := hxb40
          have hjl : (L.take kk).length = kk := by rw [List.length_take]; omega
          have hlt := SlR.takeN (h := kk) hl170 (by omega)
          refine .e (.indexAddrL sl23 rfl rfl rfl (by omega)) rfl rfl <| .e (.loadIA ag34 sz34 rfl hat40 rfl) rfl rfl <| .on rfl <| .alloc zr34 rfl fun c4 _ _ => .e (.assign rfl) rfl rfl <| .on rfl <| .storeW sz34 rfl rfl rfl rfl rfl rfl .here <| .nil ?_
          refine .go <| .seq <| .seq <| .region <| .e (.loadW ag34 sz34 rfl .here rfl) rfl rfl <| .e (.loadW ag32 sz32 rfl (.there <| .there <| .here) rfl) rfl rfl ?_
          refine .on rfl <| .callP cal89 rfl rfl rfl (rSuits_ok ht40 (hn0.mono hI17)) <| .e (.not rfl) rfl rfl <| .nil <| .go ?_
          refine .split 45 rfl (fun h45 => ?_) (fun h45 => ?_)
          · skip
            refine .cond_true rfl <| .seq <| .region <| .e (.assign rfl) rfl rfl <| .nil <| .go ?_
            refine .ret <| .ret <| .blk_ret <| .ret <| .ret <| .blk_ret ?_
            refine .ret ?_
            refine .tail <| .tail <| .tail <| .tail ?_
            refine .back hI17 ?_
            refine Post.retE rfl rfl ?_
            refine congrArg Value.bool ?_
            rw [wellR_L, hL]
            refine (well_refN hw ?_).symm
            rintro ⟨g1, g2, g3⟩
            rw [fit_bad (show kk < L.length by omega) (fitAt_refS (show kk < L.length by omega) (by simpa using h45))] at g2
            cases g2
          · skip
            refine .cond_false rfl <| .skip <| .go <| .seq <| .region <| .e (.move rfl) rfl rfl ?_
            refine .e (.move rfl) rfl rfl <| .e (.sliceHn sl23 rfl rfl rfl (by omega)) rfl rfl <| .e (.len sl23 rfl rfl) rfl rfl <| .e (.move rfl) rfl rfl <| .nil <| .go ?_
            refine .block ?_
            refine .loopM [4, 13, 50, 51, 52, 53, 54, 55, 56, 57, 58] (fun k => kk - k) (fun k => k ≤ kk ∧ ((L.take kk).take k).all (bear L[kk]) = true) (fun k => [(50, .int .i64 k)]) (fun _ => _) (fun _ => _) (0) ⟨Nat.zero_le _, by simp⟩ ⟨rfl, trivial⟩ rfl rfl ?_
            intro j hj
            obtain ⟨hjj, hbj⟩ := hj
            refine .seq <| .region <| .e (.lss rfl rfl) rfl rfl <| .nil <| .go <| .seq ?_
            refine .split 51 rfl (fun h51 => ?_) (fun h51 => ?_)
            · skip
              replace h51 := of_decide_eq_true h51
              refine .cond_true rfl <| .skip <| .go <| .seq <| .block <| .seq ?_
              refine .region ?_
              obtain ⟨eb52, eo52, cs52, hd52, hat52, hr52⟩ := SlR.at_ hlt (k := j) (by first | omega | (rw [hjl]; omega))
              cases hd52
              have ht52 := hr52
              obtain ⟨xw52, xb52, rfl, hxw52, hxb52⟩ := hr52.ex
              obtain ⟨xa52, xc52, rfl, -⟩ := hxw52
              obtain ⟨xd52, xe52, rfl, -⟩ := hxb52
              refine .e (.indexAddrL sl23 rfl rfl rfl (by first | omega | (rw [hjl]; omega))) rfl rfl <| .e (.loadIA ag34 sz34 rfl hat52 rfl) rfl rfl <| .on rfl <| .alloc zr34 rfl fun c5 _ _ => .on rfl <| .storeW sz34 rfl rfl rfl rfl rfl rfl .here <| .nil <| .go ?_
              refine .seq <| .region <| .e (.loadW ag34 sz34 rfl (.there <| .here) rfl) rfl rfl <| .e (.loadW ag34 sz34 rfl .here rfl) rfl rfl <| .on rfl <| .callP cal91 rfl rfl rfl (rBear_ok ht40 ht52) <| .e (.not rfl) rfl rfl ?_
              refine .nil <| .go ?_
              refine .split 57 rfl (fun h57 => ?_) (fun h57 => ?_)
              · skip
                refine .cond_true rfl <| .seq <| .region <| .e (.assign rfl) rfl rfl <| .nil <| .go ?_
                refine .ret <| .blk_ret <| .ret <| .ret <| .blk_ret <| .blk_ret ?_
                refine .ret <| .ret <| .blk_ret <| .ret ?_
                refine .tail <| .tail <| .tail <| .tail <| .tail ?_
                refine .back hI17 ?_
                refine Post.retE rfl rfl ?_
                refine congrArg Value.bool ?_
                rw [wellR_L, hL]
                refine (well_refN hw ?_).symm
                rintro ⟨g1, g2, g3⟩
                rw [fit_bad (show kk < L.length by omega) (fitAt_refN (show kk < L.length by omega) (show j < (L.take kk).length by rw [hjl]; omega) (by simpa using h57))] at g2
                cases g2
              · skip
                refine .cond_false rfl <| .skip <| .blk_normal <| .go <| .region <| .e (.add rfl rfl (by first | exact wrap_succ (by omega) | exact IntWalk.i64_in _ (by omega) | exact rfl)) rfl rfl ?_
                refine .e (.move rfl) rfl rfl <| .nil ?_
                refine .tail ?_
                exact .mid (j + 1) ⟨by omega, by omega, bear_take hbj (by rw [hjl]; omega) (by simpa using h57)⟩ ⟨rfl, trivial⟩ rfl rfl (.pre 12 rfl (.app rfl .base))
            · skip
              replace h51 := of_decide_eq_false h51
              refine .cond_false rfl <| .exit <| .exit <| .exit <| .blk_exit <| .blk_normal ?_
              refine .go <| .region <| .e (.add rfl rfl (by first | exact wrap_succ (by omega) | exact IntWalk.i64_in _ (by omega) | exact rfl)) rfl rfl <| .e (.move rfl) rfl rfl <| .nil ?_
              refine .tail ?_
              exact .mid (kk + 1) ⟨by omega, by omega, fit_step hfit (fitAt_ref (show kk < L.length by omega) (by simpa using h45) (by have e : j = (L.take kk).length := (by omega); rw [e, List.take_length] at hbj; exact hbj))⟩ ⟨rfl, trivial⟩ rfl rfl (.pre 4 rfl (.app rfl (.del rfl (.pre 17 rfl (.app rfl .base)))))
        · skip
          replace h38 := of_decide_eq_false h38
          refine .cond_false rfl <| .exit <| .exit <| .exit <| .blk_exit <| .go ?_
          refine .seq <| .region <| .e (.move rfl) rfl rfl <| .e (.eql rfl rfl) rfl rfl <| .e (.assign rfl) rfl rfl <| .nil ?_
          refine .go <| .ret ?_
          refine .tail <| .tail <| .tail ?_
          refine .back hI17 ?_
          refine Post.retE rfl rfl ?_
          refine congrArg Value.bool ?_
          rw [wellR_L, hL]
          have ek : kk = L.length := by omega
          subst ek
          rw [Bool.eq_iff_iff, decide_eq_true_eq, well_ref hw]
          unfold leA
          exact ⟨fun h => ⟨by omega, hfit, h⟩, fun h => h.2.2⟩

end Go.Proofs.YtcojkkndmholaaaGreatDoor
