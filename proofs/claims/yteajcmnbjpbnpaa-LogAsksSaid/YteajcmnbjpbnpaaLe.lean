/- Walks of functions over a symbolic memory, printed by a program of the session. -/
import Derived.Test.YteajcmnbjpbnpaaLd
namespace Go.Proofs.Yteajcmnbjpbnpaa
open Go.Sy
set_option linter.unusedSimpArgs false
set_option linter.unusedVariables false

theorem last_nil {l : Lg} (h : (l.ents.length : Int) = 0) : Value.tuple ⟨[.int .u64 l.base, .int .u64 l.term]⟩ = Value.tuple ⟨[.int .u64 (endOf l), .int .u64 (prevT l l.ents.length)]⟩ := by
  have e1 : endOf l = l.base := by unfold endOf; omega
  have e2 : prevT l l.ents.length = l.term := by unfold prevT; rw [if_pos (by omega)]
  rw [e1, e2]
theorem last_cons {l : Lg} {k : Nat} (hk : k = l.ents.length - 1) (h : logTo l l.ents.length = true) (hl : k < l.ents.length) : Value.tuple ⟨[.int .u64 l.ents[k].index, .int .u64 l.ents[k].term]⟩ = Value.tuple ⟨[.int .u64 (endOf l), .int .u64 (prevT l l.ents.length)]⟩ := by
  have e1 : endOf l = l.ents[k].index := by rw [ent_ix h hl hl]; unfold endOf; omega
  have e2 : prevT l l.ents.length = l.ents[k].term := by unfold prevT; rw [if_neg (by omega), ← hk, entD hl]
  rw [e1, e2]

set_option maxHeartbeats 1000000 in
set_option maxRecDepth 20000 in
theorem rLast_ok {I : Imm} {O : Own} {lc : List Value} {l : Lg} (hl : LgR I lc l) (h : logTo l l.ents.length = true) :
    Pure Try.prog 37 [.agg ⟨lc⟩] I O (.tuple ⟨[.int .u64 (endOf l), .int .u64 (prevT l l.ents.length)]⟩) := by
  have hl0 := hl
  obtain ⟨ev, rfl, hev⟩ := hl.ex
  have hev0 := hev
  obtain ⟨va, vcap, rfl, hv1, hv2, -⟩ := hev
  have hbase := hl0.base
  have hterm := hl0.term
  unfold U64 at hbase hterm
  refine Go.Sy.Does.enter Try.func37 rfl Try.ntmps37 rfl ?_
  refine .seq <| .region <| .on rfl <| .box rfl rfl rfl fun c1 _ _ => .e (.assign rfl) rfl rfl <| .e (.assign rfl) rfl rfl <| .nil ?_
  refine .go <| .seq <| .seq <| .region <| .e (.fieldAddr fo25_2 rfl) rfl rfl <| .e (.load ag23 rfl .here rfl) rfl rfl ?_
  refine .e (.len sl23 rfl rfl) rfl rfl <| .e (.eql rfl rfl) rfl rfl <| .nil <| .go ?_
  refine .split 8 rfl (fun h8 => ?_) (fun h8 => ?_)
  · skip
    replace h8 := of_decide_eq_true h8
    refine .cond_true rfl <| .seq ?_
    refine .draw [(c1, _)] mixed (.cons .here .nil) ?_
    refine .t 0 rfl (.fieldAddr fo25_0 rfl) rfl rfl (by kernel_rfl) <| .t 1 rfl (.load ag22 rfl .here rfl) rfl rfl (by kernel_rfl) <| .t 2 rfl (.fieldAddr fo25_1 rfl) rfl rfl (by kernel_rfl) <| .t 3 rfl (.load ag22 rfl .here rfl) rfl rfl (by kernel_rfl) <| .t 4 rfl (.assign rfl) rfl rfl (by kernel_rfl) <| .t 5 rfl (.assign rfl) rfl rfl (by kernel_rfl) ?_
    refine .done (by kernel_rfl) <| .go <| .ret <| .ret ?_
    refine Post.retsE rfl (.tmp rfl (.tmp rfl .nil)) rfl (fun w h => h.tail) ?_
    exact last_nil h8
  · skip
    replace h8 := of_decide_eq_false h8
    refine .cond_false rfl <| .skip <| .go <| .seq <| .region <| .e (.fieldAddr fo25_2 rfl) rfl rfl ?_
    refine .e (.load ag23 rfl .here rfl) rfl rfl <| .e (.fieldAddr fo25_2 rfl) rfl rfl <| .e (.load ag23 rfl .here rfl) rfl rfl <| .e (.len sl23 rfl rfl) rfl rfl <| .e (.sub rfl rfl (wrap_pred (by omega) (by omega))) rfl rfl ?_
    obtain ⟨eb19, eo19, cs19, hd19, hat19, hr19⟩ := SlR.at_ hev0 (k := l.ents.length - 1) (by omega)
    cases hd19
    have he19 := hr19
    obtain ⟨mv19, rfl, hmv19⟩ := hr19.ex
    obtain ⟨ma19, mc19, rfl, -⟩ := hmv19
    refine .e (.indexAddrL sl23 rfl rfl rfl (by omega)) rfl rfl <| .e (.loadIA ag41 sz41 rfl hat19 rfl) rfl rfl <| .on rfl <| .alloc zr41 rfl fun c2 _ _ => .on rfl <| .storeW sz41 rfl rfl rfl rfl rfl rfl .here <| .nil <| .go ?_
    refine .seq ?_
    refine .draw [(c2, _)] mixed (.cons .here .nil) ?_
    refine .t 0 rfl (.fieldAddr fo41_0 rfl) rfl rfl (by kernel_rfl) <| .t 1 rfl (.load ag22 rfl .here rfl) rfl rfl (by kernel_rfl) <| .t 2 rfl (.fieldAddr fo41_1 rfl) rfl rfl (by kernel_rfl) <| .t 3 rfl (.load ag22 rfl .here rfl) rfl rfl (by kernel_rfl) <| .t 4 rfl (.assign rfl) rfl rfl (by kernel_rfl) <| .t 5 rfl (.assign rfl) rfl rfl (by kernel_rfl) ?_
    refine .done (by kernel_rfl) <| .go <| .ret ?_
    refine Post.retsE rfl (.tmp rfl (.tmp rfl .nil)) rfl (fun w h => h.tail.tail) ?_
    exact last_cons rfl h (by omega)

set_option maxHeartbeats 1000000 in
set_option maxRecDepth 20000 in
theorem rEnd_ok {I : Imm} {O : Own} {lc : List Value} {l : Lg} (hl : LgR I lc l) :
    Pure Try.prog 23 [.agg ⟨lc⟩] I O (tripV (endR l)) := by
  have hl0 := hl
  obtain ⟨ev, rfl, hev⟩ := hl.ex
  have hev0 := hev
  obtain ⟨va, vcap, rfl, hv1, hv2, -⟩ := hev
  have hbase := hl0.base
  have hterm := hl0.term
  unfold U64 at hbase hterm
  have hu : ∀ j (hj : j < l.ents.length), U64 l.ents[j].index := fun j hj => by
    obtain ⟨_, _, _, _, _, hr⟩ := SlR.at_ hev0 hj
    exact hr.index
  refine Go.Sy.Does.enter Try.func23 rfl Try.ntmps23 rfl ?_
  refine .seq <| .region <| .on rfl <| .box rfl rfl rfl fun c1 _ _ => .e (.assign rfl) rfl rfl <| .e (.assign rfl) rfl rfl <| .e (.assign rfl) rfl rfl ?_
  refine .nil <| .go <| .seq <| .seq <| .region <| .e (.loadW ag25 sz25 rfl .here rfl) rfl rfl ?_
  refine .on rfl <| .callP cal30 rfl rfl rfl (rlCheck_ok hl0) <| .e (.neq rfl rfl) rfl rfl <| .nil <| .go ?_
  refine .split 9 rfl (fun h9 => ?_) (fun h9 => ?_)
  · skip
    first | replace h9 := of_decide_eq_false ((Bool.not_eq_true' _).mp h9) | replace h9 := of_decide_eq_false (by simpa using h9)
    refine .cond_true rfl <| .seq <| .region <| .e (.assign rfl) rfl rfl <| .e (.assign rfl) rfl rfl <| .e (.assign rfl) rfl rfl ?_
    refine .nil <| .go <| .ret <| .ret ?_
    refine Post.retsE rfl (.tmp rfl (.tmp rfl (.tmp rfl .nil))) rfl (fun w h => h.tail) ?_
    exact tripV_eq (endR_no h9 rfl)
  · skip
    first | replace h9 := of_decide_eq_true ((Bool.not_eq_false' _).mp h9) | replace h9 := of_decide_eq_true (by simpa using h9)
    have hok := logOk_why h9
    have hle := logTo_le hl0.base hu (Nat.le_refl _) hok
    refine .cond_false rfl <| .skip <| .go <| .seq <| .region <| .e (.loadW ag25 sz25 rfl .here rfl) rfl rfl ?_
    refine .on rfl <| .callP cal37 rfl rfl rfl (rLast_ok hl0 hok) <| .e (.move rfl) rfl rfl <| .e (.extract rfl rfl) rfl rfl <| .e (.extract rfl rfl) rfl rfl <| .e (.assign rfl) rfl rfl <| .e (.assign rfl) rfl rfl ?_
    refine .nil <| .go <| .seq <| .region <| .e (.move rfl) rfl rfl <| .e (.move rfl) rfl rfl ?_
    refine .e (.assign rfl) rfl rfl <| .e (.assign rfl) rfl rfl <| .e (.assign rfl) rfl rfl <| .nil <| .go <| .ret ?_
    refine Post.retsE rfl (.tmp rfl (.tmp rfl (.tmp rfl .nil))) rfl (fun w h => h.tail) ?_
    exact tripV_eq (endR_yes h9)

set_option maxHeartbeats 1000000 in
set_option maxRecDepth 20000 in
theorem rTerm_ok {I : Imm} {O : Own} {lc : List Value} {l : Lg} (hl : LgR I lc l) {i : Int} (hi : U64 i) :
    Pure Try.prog 24 [.agg ⟨lc⟩, .int .u64 i] I O (twoV (termR l i)) := by
  have hl0 := hl
  obtain ⟨ev, rfl, hev⟩ := hl.ex
  have hev0 := hev
  obtain ⟨va, vcap, rfl, hv1, hv2, -⟩ := hev
  have hbase := hl0.base
  have hterm := hl0.term
  unfold U64 at hbase hterm
  have hu : ∀ j (hj : j < l.ents.length), U64 l.ents[j].index := fun j hj => by
    obtain ⟨_, _, _, _, _, hr⟩ := SlR.at_ hev0 hj
    exact hr.index
  refine Go.Sy.Does.enter Try.func24 rfl Try.ntmps24 rfl ?_
  refine .seq <| .region <| .on rfl <| .box rfl rfl rfl fun c1 _ _ => .e (.assign rfl) rfl rfl <| .e (.assign rfl) rfl rfl <| .nil ?_
  refine .go <| .seq <| .seq <| .region <| .e (.loadW ag25 sz25 rfl .here rfl) rfl rfl <| .on rfl <| .callP cal30 rfl rfl rfl (rlCheck_ok hl0) ?_
  refine .e (.neq rfl rfl) rfl rfl <| .nil <| .go ?_
  refine .split 10 rfl (fun h10 => ?_) (fun h10 => ?_)
  · skip
    first | replace h10 := of_decide_eq_false ((Bool.not_eq_true' _).mp h10) | replace h10 := of_decide_eq_false (by simpa using h10)
    refine .cond_true rfl <| .seq <| .region <| .e (.assign rfl) rfl rfl <| .e (.assign rfl) rfl rfl <| .nil ?_
    refine .go <| .ret <| .ret ?_
    refine Post.retsE rfl (.tmp rfl (.tmp rfl .nil)) rfl (fun w h => h.tail) ?_
    exact twoV_eq (termR_no h10 rfl)
  · skip
    first | replace h10 := of_decide_eq_true ((Bool.not_eq_false' _).mp h10) | replace h10 := of_decide_eq_true (by simpa using h10)
    have hok := logOk_why h10
    have hle := logTo_le hl0.base hu (Nat.le_refl _) hok
    refine .cond_false rfl <| .skip <| .go <| .seq <| .region <| .e (.loadW ag25 sz25 rfl .here rfl) rfl rfl ?_
    refine .on rfl <| .callP cal37 rfl rfl rfl (rLast_ok hl0 hok) <| .e (.move rfl) rfl rfl <| .e (.extract rfl rfl) rfl rfl <| .e (.extract rfl rfl) rfl rfl <| .e (.assign rfl) rfl rfl <| .e (.assign rfl) rfl rfl ?_
    refine .nil <| .go <| .seq <| .block <| .seq <| .region ?_
    refine .e (.move rfl) rfl rfl <| .e (.fieldAddr fo25_0 rfl) rfl rfl <| .e (.load ag22 rfl .here rfl) rfl rfl <| .e (.lss rfl rfl) rfl rfl <| .e (.assign rfl) rfl rfl <| .nil ?_
    refine .go ?_
    refine .split 16 rfl (fun h16 => ?_) (fun h16 => ?_)
    · skip
      replace h16 := of_decide_eq_true h16
      refine .cond_true rfl <| .seq <| .region <| .e (.assign rfl) rfl rfl <| .e (.assign rfl) rfl rfl <| .nil ?_
      refine .go <| .ret <| .blk_ret <| .ret ?_
      refine Post.retsE rfl (.tmp rfl (.tmp rfl .nil)) rfl (fun w h => h.tail) ?_
      refine twoV_eq ((termR_in h10).trans ?_)
      rw [if_pos h16]
    · skip
      replace h16 := of_decide_eq_false h16
      refine .cond_false rfl <| .seq <| .region <| .e (.move rfl) rfl rfl <| .e (.move rfl) rfl rfl <| .e (.gtr rfl rfl) rfl rfl ?_
      refine .e (.assign rfl) rfl rfl <| .nil <| .go ?_
      refine .split 21 rfl (fun h21 => ?_) (fun h21 => ?_)
      · skip
        replace h21 := of_decide_eq_true h21
        refine .cond_true rfl <| .seq <| .region <| .e (.assign rfl) rfl rfl <| .e (.assign rfl) rfl rfl <| .nil ?_
        refine .go <| .ret <| .blk_ret <| .ret ?_
        refine Post.retsE rfl (.tmp rfl (.tmp rfl .nil)) rfl (fun w h => h.tail) ?_
        refine twoV_eq ((termR_in h10).trans ?_)
        rw [if_neg h16, if_pos (by omega)]
      · skip
        replace h21 := of_decide_eq_false h21
        refine .cond_false rfl <| .skip <| .blk_normal <| .go <| .seq <| .region ?_
        refine .e (.loadW ag25 sz25 rfl .here rfl) rfl rfl <| .e (.move rfl) rfl rfl <| .on rfl <| .callP cal38 rfl rfl rfl (rat_ok hl0 (by omega) (by omega)) <| .e (.assign rfl) rfl rfl <| .e (.assign rfl) rfl rfl <| .nil ?_
        refine .go <| .ret ?_
        refine Post.retsE rfl (.tmp rfl (.tmp rfl .nil)) rfl (fun w h => h.tail) ?_
        refine twoV_eq ((termR_in h10).trans ?_)
        rw [if_neg h16, if_neg (by omega)]

set_option maxHeartbeats 1000000 in
set_option maxRecDepth 20000 in
theorem rNewer_ok {I : Imm} {O : Own} {lc : List Value} {l : Lg} (hl : LgR I lc l) {i t : Int} :
    Pure Try.prog 26 [.agg ⟨lc⟩, .int .u64 i, .int .u64 t] I O (btV (newR l i t)) := by
  have hl0 := hl
  obtain ⟨ev, rfl, hev⟩ := hl.ex
  have hev0 := hev
  obtain ⟨va, vcap, rfl, hv1, hv2, -⟩ := hev
  have hbase := hl0.base
  have hterm := hl0.term
  unfold U64 at hbase hterm
  have hu : ∀ j (hj : j < l.ents.length), U64 l.ents[j].index := fun j hj => by
    obtain ⟨_, _, _, _, _, hr⟩ := SlR.at_ hev0 hj
    exact hr.index
  refine Go.Sy.Does.enter Try.func26 rfl Try.ntmps26 rfl ?_
  refine .seq <| .region <| .on rfl <| .box rfl rfl rfl fun c1 _ _ => .e (.assign rfl) rfl rfl <| .e (.assign rfl) rfl rfl <| .nil ?_
  refine .go <| .seq <| .seq <| .region <| .e (.loadW ag25 sz25 rfl .here rfl) rfl rfl <| .on rfl <| .callP cal30 rfl rfl rfl (rlCheck_ok hl0) ?_
  refine .e (.neq rfl rfl) rfl rfl <| .nil <| .go ?_
  refine .split 12 rfl (fun h12 => ?_) (fun h12 => ?_)
  · skip
    first | replace h12 := of_decide_eq_false ((Bool.not_eq_true' _).mp h12) | replace h12 := of_decide_eq_false (by simpa using h12)
    refine .cond_true rfl <| .seq <| .region <| .e (.assign rfl) rfl rfl <| .e (.assign rfl) rfl rfl <| .nil ?_
    refine .go <| .ret <| .ret ?_
    refine Post.retsE rfl (.tmp rfl (.tmp rfl .nil)) rfl (fun w h => h.tail) ?_
    exact btV_eq (newR_no h12 rfl)
  · skip
    first | replace h12 := of_decide_eq_true ((Bool.not_eq_false' _).mp h12) | replace h12 := of_decide_eq_true (by simpa using h12)
    have hok := logOk_why h12
    have hle := logTo_le hl0.base hu (Nat.le_refl _) hok
    refine .cond_false rfl <| .skip <| .go <| .seq <| .region <| .e (.loadW ag25 sz25 rfl .here rfl) rfl rfl ?_
    refine .on rfl <| .callP cal37 rfl rfl rfl (rLast_ok hl0 hok) <| .e (.move rfl) rfl rfl <| .e (.extract rfl rfl) rfl rfl <| .e (.extract rfl rfl) rfl rfl <| .e (.assign rfl) rfl rfl <| .e (.assign rfl) rfl rfl ?_
    refine .nil <| .go <| .seq <| .region <| .e (.move rfl) rfl rfl <| .e (.move rfl) rfl rfl ?_
    refine .e (.gtr rfl rfl) rfl rfl <| .e (.move rfl) rfl rfl ?_
    refine .split 21 rfl (fun h21 => ?_) (fun h21 => ?_)
    · skip
      replace h21 := of_decide_eq_true h21
      refine .off rfl rfl <| .off rfl rfl <| .off rfl rfl <| .off rfl rfl <| .off rfl rfl <| .off rfl rfl ?_
      refine .off rfl rfl <| .off rfl rfl <| .e (.pickT rfl rfl) rfl rfl <| .e (.assign rfl) rfl rfl <| .e (.assign rfl) rfl rfl <| .nil ?_
      refine .go <| .ret ?_
      refine Post.retsE rfl (.tmp rfl (.tmp rfl .nil)) rfl (fun w h => h.tail) ?_
      exact btV_eq (newR_yes h12 (by first | exact (decide_eq_true (by omega)).symm | exact (decide_eq_false (by omega)).symm | exact decide_eq_decide.2 (by omega)))
    · skip
      replace h21 := of_decide_eq_false h21
      refine .e (.move rfl) rfl rfl <| .e (.move rfl) rfl rfl <| .e (.eql rfl rfl) rfl rfl <| .e (.move rfl) rfl rfl ?_
      refine .split 25 rfl (fun h25 => ?_) (fun h25 => ?_)
      · skip
        replace h25 := of_decide_eq_true h25
        refine .e (.move rfl) rfl rfl <| .e (.move rfl) rfl rfl <| .e (.geq rfl rfl) rfl rfl <| .e (.pickT rfl rfl) rfl rfl <| .e (.pickF rfl rfl) rfl rfl <| .e (.assign rfl) rfl rfl ?_
        refine .e (.assign rfl) rfl rfl <| .nil <| .go <| .ret ?_
        refine Post.retsE rfl (.tmp rfl (.tmp rfl .nil)) rfl (fun w h => h.tail) ?_
        exact btV_eq (newR_yes h12 (by first | exact (decide_eq_true (by omega)).symm | exact (decide_eq_false (by omega)).symm | exact decide_eq_decide.2 (by omega)))
      · skip
        replace h25 := of_decide_eq_false h25
        refine .off rfl rfl <| .off rfl rfl <| .off rfl rfl <| .e (.pickF rfl rfl) rfl rfl <| .e (.pickF rfl rfl) rfl rfl <| .e (.assign rfl) rfl rfl ?_
        refine .e (.assign rfl) rfl rfl <| .nil <| .go <| .ret ?_
        refine Post.retsE rfl (.tmp rfl (.tmp rfl .nil)) rfl (fun w h => h.tail) ?_
        exact btV_eq (newR_yes h12 (by first | exact (decide_eq_true (by omega)).symm | exact (decide_eq_false (by omega)).symm | exact decide_eq_decide.2 (by omega)))

end Go.Proofs.Yteajcmnbjpbnpaa
