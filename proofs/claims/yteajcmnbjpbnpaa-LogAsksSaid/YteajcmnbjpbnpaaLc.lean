/- Walks of functions over a symbolic memory, printed by a program of the session. -/
import Derived.Test.YteajcmnbjpbnpaaLb
namespace Go.Proofs.Yteajcmnbjpbnpaa
open Go.Sy
set_option linter.unusedSimpArgs false
set_option linter.unusedVariables false

theorem take_step {α : Type} {l m : List α} {k : Nat} (hl : k < l.length) (hm : k < m.length) (h : l.take k = m.take k) (e : l[k] = m[k]) : l.take (k + 1) = m.take (k + 1) := by
  rw [List.take_succ_eq_append_getElem hl, List.take_succ_eq_append_getElem hm, h, e]
theorem same_all {α : Type} {l m : List α} {k : Nat} (hk : l.length ≤ k) (hlm : l.length = m.length) (h : l.take k = m.take k) : l = m := by
  rwa [List.take_of_length_le hk, List.take_of_length_le (by omega)] at h
theorem same_no {α : Type} {l m : List α} {k : Nat} (hl : k < l.length) (hm : k < m.length) (e : ¬l[k] = m[k]) : ¬l = m := fun h => by subst h; exact e rfl
theorem same_len {α : Type} {l m : List α} (h : ¬l.length = m.length) : ¬l = m := fun e => h (by rw [e])

set_option maxHeartbeats 1000000 in
set_option maxRecDepth 20000 in
theorem sameInts_ok {I : Imm} {O : Own} {v u : Value} {l m : List Int} (hl : IntsR I v l) (hm : IntsR I u m) :
    Pure Try.prog 29 [v, u] I O (.bool (decide (l = m))) := by
  have hl0 := hl
  obtain ⟨la, lcap, rfl, hl1, hl2, -⟩ := hl
  have hm0 := hm
  obtain ⟨ma, mcap, rfl, hm1, hm2, -⟩ := hm
  refine Go.Sy.Does.enter Try.func29 rfl Try.ntmps29 rfl ?_
  refine .seq <| .region <| .e (.assign rfl) rfl rfl <| .nil <| .go <| .seq ?_
  refine .seq <| .region <| .e (.move rfl) rfl rfl <| .e (.len sl39 rfl rfl) rfl rfl <| .e (.move rfl) rfl rfl <| .e (.len sl39 rfl rfl) rfl rfl ?_
  refine .e (.neq rfl rfl) rfl rfl <| .nil <| .go ?_
  refine .split 10 rfl (fun h10 => ?_) (fun h10 => ?_)
  · skip
    first | replace h10 := of_decide_eq_false ((Bool.not_eq_true' _).mp h10) | replace h10 := of_decide_eq_false (by simpa using h10)
    refine .cond_true rfl <| .seq <| .region <| .e (.assign rfl) rfl rfl <| .nil <| .go ?_
    refine .ret <| .ret ?_
    refine Post.retE rfl rfl ?_
    exact congrArg Value.bool (decide_eq_false (same_len (by omega))).symm
  · skip
    first | replace h10 := of_decide_eq_true ((Bool.not_eq_false' _).mp h10) | replace h10 := of_decide_eq_true (by simpa using h10)
    refine .cond_false rfl <| .skip <| .go <| .seq <| .seq <| .region ?_
    refine .e (.move rfl) rfl rfl <| .e (.len sl39 rfl rfl) rfl rfl <| .e (.move rfl) rfl rfl <| .nil <| .go <| .block ?_
    refine .loopM [4, 5, 13, 14, 15, 16, 17, 18, 19, 20, 21, 22, 23, 24, 25] (fun k => l.length - k) (fun k => k ≤ l.length ∧ l.take k = m.take k) (fun k => [(13, .int .i64 k)]) (fun _ => _) (fun _ => _) (0) ⟨by omega, rfl⟩ ⟨rfl, trivial⟩ rfl rfl ?_
    intro k hk
    obtain ⟨hk, hs⟩ := hk
    refine .seq <| .region <| .e (.lss rfl rfl) rfl rfl <| .nil <| .go <| .seq ?_
    refine .split 14 rfl (fun h14 => ?_) (fun h14 => ?_)
    · skip
      replace h14 := of_decide_eq_true h14
      refine .cond_true rfl <| .skip <| .go <| .seq <| .block <| .seq ?_
      refine .region <| .e (.move rfl) rfl rfl <| .e (.assign rfl) rfl rfl <| .nil <| .go <| .seq ?_
      refine .draw [] mixed .nil ?_
      refine .t 0 rfl (.move rfl) rfl rfl (by kernel_rfl) <| .t 1 rfl (.move rfl) rfl rfl (by kernel_rfl) ?_
      obtain ⟨eb18, eo18, cs18, hd18, hat18, hr18⟩ := SlR.at_ hl0 (k := k) (by omega)
      cases hd18
      obtain ⟨e18, hi18⟩ := hr18
      subst e18
      refine .t 2 rfl (.indexAddrL sl39 rfl rfl rfl (by omega)) rfl rfl (by kernel_rfl) <| .t 3 rfl (.loadI ag3 rfl (hat18.cell (j := 0) rfl)) rfl rfl (by kernel_rfl) <| .t 4 rfl (.move rfl) rfl rfl (by kernel_rfl) <| .t 5 rfl (.move rfl) rfl rfl (by kernel_rfl) ?_
      obtain ⟨eb22, eo22, cs22, hd22, hat22, hr22⟩ := SlR.at_ hm0 (k := k) (by omega)
      cases hd22
      obtain ⟨e22, hi22⟩ := hr22
      subst e22
      refine .t 6 rfl (.indexAddrL sl39 rfl rfl rfl (by omega)) rfl rfl (by kernel_rfl) <| .t 7 rfl (.loadI ag3 rfl (hat22.cell (j := 0) rfl)) rfl rfl (by kernel_rfl) <| .t 8 rfl (.neq rfl rfl) rfl rfl (by kernel_rfl) <| .done (by kernel_rfl) <| .go ?_
      refine .split 24 rfl (fun h24 => ?_) (fun h24 => ?_)
      · skip
        first | replace h24 := of_decide_eq_false ((Bool.not_eq_true' _).mp h24) | replace h24 := of_decide_eq_false (by simpa using h24)
        refine .cond_true rfl <| .seq <| .region <| .e (.assign rfl) rfl rfl <| .nil <| .go ?_
        refine .ret <| .blk_ret <| .ret <| .ret <| .blk_ret <| .ret ?_
        refine Post.retE rfl rfl ?_
        exact congrArg Value.bool (decide_eq_false (same_no (k := k) (by omega) (by omega) h24)).symm
      · skip
        first | replace h24 := of_decide_eq_true ((Bool.not_eq_false' _).mp h24) | replace h24 := of_decide_eq_true (by simpa using h24)
        refine .cond_false rfl <| .skip <| .blk_normal <| .go <| .region <| .e (.add rfl rfl (by first | exact wrap_succ (by omega) | exact IntWalk.i64_in _ (by omega) | exact rfl)) rfl rfl ?_
        refine .e (.move rfl) rfl rfl <| .nil ?_
        exact .mid (k + 1) ⟨by omega, by omega, take_step (by omega) (by omega) hs h24⟩ ⟨rfl, trivial⟩ rfl rfl (.pre 16 rfl (.app rfl .base))
    · skip
      replace h14 := of_decide_eq_false h14
      refine .cond_false rfl <| .exit <| .exit <| .exit <| .blk_exit <| .go ?_
      refine .seq <| .region <| .e (.assign rfl) rfl rfl <| .nil <| .go <| .ret ?_
      refine Post.retE rfl rfl ?_
      exact congrArg Value.bool (decide_eq_true (same_all (k := k) (by omega) (by omega) hs)).symm

set_option maxHeartbeats 1000000 in
set_option maxRecDepth 20000 in
theorem sameEnt_ok {I : Imm} {O : Own} {ec fc : List Value} {e f : Ent} (he : EntR I ec e) (hf : EntR I fc f) :
    Pure Try.prog 40 [.agg ⟨ec⟩, .agg ⟨fc⟩] I O (.bool (decide (e = f))) := by
  have he0 := he
  obtain ⟨mv, rfl, hmv⟩ := he.ex
  have hmv0 := hmv
  obtain ⟨ma, mcap, rfl, hm1, hm2, -⟩ := hmv
  have hf0 := hf
  obtain ⟨nv, rfl, hnv⟩ := hf.ex
  have hnv0 := hnv
  obtain ⟨na, ncap, rfl, hn1, hn2, -⟩ := hnv
  refine Go.Sy.Does.enter Try.func40 rfl Try.ntmps40 rfl ?_
  refine .seq <| .region <| .on rfl <| .box rfl rfl rfl fun c1 _ _ => .on rfl <| .box rfl rfl rfl fun c2 _ _ => .e (.assign rfl) rfl rfl <| .nil ?_
  refine .go <| .seq <| .region <| .e (.fieldAddr fo41_0 rfl) rfl rfl <| .e (.load ag22 rfl (.there <| .here) rfl) rfl rfl <| .e (.fieldAddr fo41_0 rfl) rfl rfl ?_
  refine .e (.load ag22 rfl .here rfl) rfl rfl <| .e (.eql rfl rfl) rfl rfl <| .e (.move rfl) rfl rfl ?_
  refine .split 10 rfl (fun h10 => ?_) (fun h10 => ?_)
  · skip
    replace h10 := of_decide_eq_true h10
    refine .e (.fieldAddr fo41_1 rfl) rfl rfl <| .e (.load ag22 rfl (.there <| .here) rfl) rfl rfl <| .e (.fieldAddr fo41_1 rfl) rfl rfl <| .e (.load ag22 rfl .here rfl) rfl rfl <| .e (.eql rfl rfl) rfl rfl <| .e (.pickT rfl rfl) rfl rfl ?_
    refine .e (.move rfl) rfl rfl ?_
    refine .split 17 rfl (fun h17 => ?_) (fun h17 => ?_)
    · skip
      replace h17 := of_decide_eq_true h17
      refine .e (.fieldAddr fo41_2 rfl) rfl rfl <| .e (.load ag38 rfl (.there <| .here) rfl) rfl rfl <| .e (.fieldAddr fo41_2 rfl) rfl rfl <| .e (.load ag38 rfl .here rfl) rfl rfl <| .e (.eql rfl rfl) rfl rfl <| .e (.pickT rfl rfl) rfl rfl ?_
      refine .e (.move rfl) rfl rfl ?_
      refine .split 24 rfl (fun h24 => ?_) (fun h24 => ?_)
      · skip
        replace h24 := of_decide_eq_true h24
        refine .e (.fieldAddr fo41_3 rfl) rfl rfl <| .e (.load ag9 rfl (.there <| .here) rfl) rfl rfl <| .e (.fieldAddr fo41_3 rfl) rfl rfl <| .e (.load ag9 rfl .here rfl) rfl rfl <| .e (.streq rfl rfl) rfl rfl <| .e (.pickT rfl rfl) rfl rfl ?_
        refine .e (.move rfl) rfl rfl ?_
        refine .split 31 rfl (fun h31 => ?_) (fun h31 => ?_)
        · skip
          replace h31 := of_decide_eq_true h31
          refine .e (.fieldAddr fo41_4 rfl) rfl rfl <| .e (.load ag39 rfl (.there <| .here) rfl) rfl rfl <| .e (.fieldAddr fo41_4 rfl) rfl rfl <| .e (.load ag39 rfl .here rfl) rfl rfl <| .on rfl <| .callP cal29 rfl rfl rfl (sameInts_ok hmv0 hnv0) <| .e (.pickT rfl rfl) rfl rfl ?_
          refine .e (.assign rfl) rfl rfl <| .nil <| .go <| .ret ?_
          refine .tail <| .tail ?_
          refine Post.retE rfl rfl ?_
          refine congrArg Value.bool ?_
          cases e
          cases f
          simp_all
        · skip
          replace h31 := of_decide_eq_false h31
          refine .off rfl rfl <| .off rfl rfl <| .off rfl rfl <| .off rfl rfl <| .off rfl rfl <| .e (.pickF rfl rfl) rfl rfl ?_
          refine .e (.assign rfl) rfl rfl <| .nil <| .go <| .ret ?_
          refine .tail <| .tail ?_
          refine Post.retE rfl rfl ?_
          refine congrArg Value.bool ?_
          cases e
          cases f
          simp_all
      · skip
        replace h24 := of_decide_eq_false h24
        refine .off rfl rfl <| .off rfl rfl <| .off rfl rfl <| .off rfl rfl <| .off rfl rfl <| .e (.pickF rfl rfl) rfl rfl ?_
        refine .e (.move rfl) rfl rfl <| .off rfl rfl <| .off rfl rfl <| .off rfl rfl <| .off rfl rfl <| .off rfl rfl ?_
        refine .e (.pickF rfl rfl) rfl rfl <| .e (.assign rfl) rfl rfl <| .nil <| .go <| .ret ?_
        refine .tail <| .tail ?_
        refine Post.retE rfl rfl ?_
        refine congrArg Value.bool ?_
        cases e
        cases f
        simp_all
    · skip
      replace h17 := of_decide_eq_false h17
      refine .off rfl rfl <| .off rfl rfl <| .off rfl rfl <| .off rfl rfl <| .off rfl rfl <| .e (.pickF rfl rfl) rfl rfl ?_
      refine .e (.move rfl) rfl rfl <| .off rfl rfl <| .off rfl rfl <| .off rfl rfl <| .off rfl rfl <| .off rfl rfl ?_
      refine .e (.pickF rfl rfl) rfl rfl <| .e (.move rfl) rfl rfl <| .off rfl rfl <| .off rfl rfl <| .off rfl rfl <| .off rfl rfl ?_
      refine .off rfl rfl <| .e (.pickF rfl rfl) rfl rfl <| .e (.assign rfl) rfl rfl <| .nil <| .go <| .ret ?_
      refine .tail <| .tail ?_
      refine Post.retE rfl rfl ?_
      refine congrArg Value.bool ?_
      cases e
      cases f
      simp_all
  · skip
    replace h10 := of_decide_eq_false h10
    refine .off rfl rfl <| .off rfl rfl <| .off rfl rfl <| .off rfl rfl <| .off rfl rfl <| .e (.pickF rfl rfl) rfl rfl ?_
    refine .e (.move rfl) rfl rfl <| .off rfl rfl <| .off rfl rfl <| .off rfl rfl <| .off rfl rfl <| .off rfl rfl ?_
    refine .e (.pickF rfl rfl) rfl rfl <| .e (.move rfl) rfl rfl <| .off rfl rfl <| .off rfl rfl <| .off rfl rfl <| .off rfl rfl ?_
    refine .off rfl rfl <| .e (.pickF rfl rfl) rfl rfl <| .e (.move rfl) rfl rfl <| .off rfl rfl <| .off rfl rfl <| .off rfl rfl ?_
    refine .off rfl rfl <| .off rfl rfl <| .e (.pickF rfl rfl) rfl rfl <| .e (.assign rfl) rfl rfl <| .nil <| .go ?_
    refine .ret ?_
    refine .tail <| .tail ?_
    refine Post.retE rfl rfl ?_
    refine congrArg Value.bool ?_
    cases e
    cases f
    simp_all

set_option maxHeartbeats 1000000 in
set_option maxRecDepth 20000 in
theorem sameEnts_ok {I : Imm} {O : Own} {v u : Value} {l m : List Ent} (hl : EntsR I v l) (hm : EntsR I u m) :
    Pure Try.prog 17 [v, u] I O (.bool (decide (l = m))) := by
  have hl0 := hl
  obtain ⟨la, lcap, rfl, hl1, hl2, -⟩ := hl
  have hm0 := hm
  obtain ⟨ma, mcap, rfl, hm1, hm2, -⟩ := hm
  refine Go.Sy.Does.enter Try.func17 rfl Try.ntmps17 rfl ?_
  refine .seq <| .region <| .e (.assign rfl) rfl rfl <| .nil <| .go <| .seq ?_
  refine .seq <| .region <| .e (.move rfl) rfl rfl <| .e (.len sl23 rfl rfl) rfl rfl <| .e (.move rfl) rfl rfl <| .e (.len sl23 rfl rfl) rfl rfl ?_
  refine .e (.neq rfl rfl) rfl rfl <| .nil <| .go ?_
  refine .split 10 rfl (fun h10 => ?_) (fun h10 => ?_)
  · skip
    first | replace h10 := of_decide_eq_false ((Bool.not_eq_true' _).mp h10) | replace h10 := of_decide_eq_false (by simpa using h10)
    refine .cond_true rfl <| .seq <| .region <| .e (.assign rfl) rfl rfl <| .nil <| .go ?_
    refine .ret <| .ret ?_
    refine Post.retE rfl rfl ?_
    exact congrArg Value.bool (decide_eq_false (same_len (by omega))).symm
  · skip
    first | replace h10 := of_decide_eq_true ((Bool.not_eq_false' _).mp h10) | replace h10 := of_decide_eq_true (by simpa using h10)
    refine .cond_false rfl <| .skip <| .go <| .seq <| .seq <| .region ?_
    refine .e (.move rfl) rfl rfl <| .e (.len sl23 rfl rfl) rfl rfl <| .e (.move rfl) rfl rfl <| .nil <| .go <| .block ?_
    refine .loopM [4, 5, 13, 14, 15, 16, 17, 18, 19, 20, 21, 22, 23, 24, 25, 26] (fun k => l.length - k) (fun k => k ≤ l.length ∧ l.take k = m.take k) (fun k => [(13, .int .i64 k)]) (fun _ => _) (fun _ => _) (0) ⟨by omega, rfl⟩ ⟨rfl, trivial⟩ rfl rfl ?_
    intro k hk
    obtain ⟨hk, hs⟩ := hk
    refine .seq <| .region <| .e (.lss rfl rfl) rfl rfl <| .nil <| .go <| .seq ?_
    refine .split 14 rfl (fun h14 => ?_) (fun h14 => ?_)
    · skip
      replace h14 := of_decide_eq_true h14
      refine .cond_true rfl <| .skip <| .go <| .seq <| .block <| .seq ?_
      refine .region <| .e (.move rfl) rfl rfl <| .e (.assign rfl) rfl rfl <| .nil <| .go <| .seq ?_
      refine .draw [] mixed .nil ?_
      refine .t 0 rfl (.move rfl) rfl rfl (by kernel_rfl) <| .t 1 rfl (.move rfl) rfl rfl (by kernel_rfl) ?_
      obtain ⟨eb18, eo18, cs18, hd18, hat18, hr18⟩ := SlR.at_ hl0 (k := k) (by omega)
      cases hd18
      have he18 := hr18
      obtain ⟨mv18, rfl, hmv18⟩ := hr18.ex
      obtain ⟨ma18, mc18, rfl, -⟩ := hmv18
      refine .t 2 rfl (.indexAddrL sl23 rfl rfl rfl (by omega)) rfl rfl (by kernel_rfl) <| .t 3 rfl (.loadIA ag41 sz41 rfl hat18 rfl) rfl rfl (by kernel_rfl) <| .t 4 rfl (.move rfl) rfl rfl (by kernel_rfl) <| .t 5 rfl (.move rfl) rfl rfl (by kernel_rfl) ?_
      obtain ⟨eb22, eo22, cs22, hd22, hat22, hr22⟩ := SlR.at_ hm0 (k := k) (by omega)
      cases hd22
      have he22 := hr22
      obtain ⟨mv22, rfl, hmv22⟩ := hr22.ex
      obtain ⟨ma22, mc22, rfl, -⟩ := hmv22
      refine .t 6 rfl (.indexAddrL sl23 rfl rfl rfl (by omega)) rfl rfl (by kernel_rfl) <| .t 7 rfl (.loadIA ag41 sz41 rfl hat22 rfl) rfl rfl (by kernel_rfl) <| .one (i := 8) (by kernel_rfl) rfl rfl <| .callP cal40 rfl rfl rfl (sameEnt_ok he18 he22) ?_
      refine ⟨.nil, Imm.le_refl _, ?_⟩
      refine .t 9 rfl (.not rfl) rfl rfl (by kernel_rfl) <| .done (by kernel_rfl) <| .go ?_
      refine .split 25 rfl (fun h25 => ?_) (fun h25 => ?_)
      · skip
        refine .cond_true rfl <| .seq <| .region <| .e (.assign rfl) rfl rfl <| .nil <| .go ?_
        refine .ret <| .blk_ret <| .ret <| .ret <| .blk_ret <| .ret ?_
        refine Post.retE rfl rfl ?_
        exact congrArg Value.bool (decide_eq_false (same_no (k := k) (by omega) (by omega) (by simpa using h25))).symm
      · skip
        refine .cond_false rfl <| .skip <| .blk_normal <| .go <| .region <| .e (.add rfl rfl (by first | exact wrap_succ (by omega) | exact IntWalk.i64_in _ (by omega) | exact rfl)) rfl rfl ?_
        refine .e (.move rfl) rfl rfl <| .nil ?_
        exact .mid (k + 1) ⟨by omega, by omega, take_step (by omega) (by omega) hs (by simpa using h25)⟩ ⟨rfl, trivial⟩ rfl rfl (.pre 17 rfl (.app rfl .base))
    · skip
      replace h14 := of_decide_eq_false h14
      refine .cond_false rfl <| .exit <| .exit <| .exit <| .blk_exit <| .go ?_
      refine .seq <| .region <| .e (.assign rfl) rfl rfl <| .nil <| .go <| .ret ?_
      refine Post.retE rfl rfl ?_
      exact congrArg Value.bool (decide_eq_true (same_all (k := k) (by omega) (by omega) hs)).symm

set_option maxHeartbeats 1000000 in
set_option maxRecDepth 20000 in
theorem sameLog_ok {I : Imm} {O : Own} {lc mc : List Value} {l m : Lg} (hl : LgR I lc l) (hm : LgR I mc m) :
    Pure Try.prog 16 [.agg ⟨lc⟩, .agg ⟨mc⟩] I O (.bool (decide (l = m))) := by
  obtain ⟨ev, rfl, hev⟩ := hl.ex
  have hev0 := hev
  obtain ⟨va, vcap, rfl, hv1, hv2, -⟩ := hev
  obtain ⟨fv, rfl, hfv⟩ := hm.ex
  have hfv0 := hfv
  obtain ⟨wa, wcap, rfl, hw1, hw2, -⟩ := hfv
  refine Go.Sy.Does.enter Try.func16 rfl Try.ntmps16 rfl ?_
  refine .seq <| .region <| .on rfl <| .box rfl rfl rfl fun c1 _ _ => .on rfl <| .box rfl rfl rfl fun c2 _ _ => .e (.assign rfl) rfl rfl <| .nil ?_
  refine .go <| .seq <| .region <| .e (.fieldAddr fo25_0 rfl) rfl rfl <| .e (.load ag22 rfl (.there <| .here) rfl) rfl rfl <| .e (.fieldAddr fo25_0 rfl) rfl rfl ?_
  refine .e (.load ag22 rfl .here rfl) rfl rfl <| .e (.eql rfl rfl) rfl rfl <| .e (.move rfl) rfl rfl ?_
  refine .split 10 rfl (fun h10 => ?_) (fun h10 => ?_)
  · skip
    replace h10 := of_decide_eq_true h10
    refine .e (.fieldAddr fo25_1 rfl) rfl rfl <| .e (.load ag22 rfl (.there <| .here) rfl) rfl rfl <| .e (.fieldAddr fo25_1 rfl) rfl rfl <| .e (.load ag22 rfl .here rfl) rfl rfl <| .e (.eql rfl rfl) rfl rfl <| .e (.pickT rfl rfl) rfl rfl ?_
    refine .e (.move rfl) rfl rfl ?_
    refine .split 17 rfl (fun h17 => ?_) (fun h17 => ?_)
    · skip
      replace h17 := of_decide_eq_true h17
      refine .e (.fieldAddr fo25_2 rfl) rfl rfl <| .e (.load ag23 rfl (.there <| .here) rfl) rfl rfl <| .e (.fieldAddr fo25_2 rfl) rfl rfl <| .e (.load ag23 rfl .here rfl) rfl rfl <| .on rfl <| .callP cal17 rfl rfl rfl (sameEnts_ok hev0 hfv0) <| .e (.pickT rfl rfl) rfl rfl ?_
      refine .e (.assign rfl) rfl rfl <| .nil <| .go <| .ret ?_
      refine .tail <| .tail ?_
      refine Post.retE rfl rfl ?_
      refine congrArg Value.bool ?_
      cases l
      cases m
      simp_all
    · skip
      replace h17 := of_decide_eq_false h17
      refine .off rfl rfl <| .off rfl rfl <| .off rfl rfl <| .off rfl rfl <| .off rfl rfl <| .e (.pickF rfl rfl) rfl rfl ?_
      refine .e (.assign rfl) rfl rfl <| .nil <| .go <| .ret ?_
      refine .tail <| .tail ?_
      refine Post.retE rfl rfl ?_
      refine congrArg Value.bool ?_
      cases l
      cases m
      simp_all
  · skip
    replace h10 := of_decide_eq_false h10
    refine .off rfl rfl <| .off rfl rfl <| .off rfl rfl <| .off rfl rfl <| .off rfl rfl <| .e (.pickF rfl rfl) rfl rfl ?_
    refine .e (.move rfl) rfl rfl <| .off rfl rfl <| .off rfl rfl <| .off rfl rfl <| .off rfl rfl <| .off rfl rfl ?_
    refine .e (.pickF rfl rfl) rfl rfl <| .e (.assign rfl) rfl rfl <| .nil <| .go <| .ret ?_
    refine .tail <| .tail ?_
    refine Post.retE rfl rfl ?_
    refine congrArg Value.bool ?_
    cases l
    cases m
    simp_all

end Go.Proofs.Yteajcmnbjpbnpaa
