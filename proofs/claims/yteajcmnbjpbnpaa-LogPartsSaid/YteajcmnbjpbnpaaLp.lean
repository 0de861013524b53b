/- Walks of functions over a symbolic memory, printed by a program of the session. -/
import Derived.Test.YteajcmnbjpbnpaaLo
namespace Go.Proofs.Yteajcmnbjpbnpaa
open Go.Sy
set_option linter.unusedSimpArgs false
set_option linter.unusedVariables false

theorem parts_step {l : Lg} {a m : Nat} (ha : a < l.ents.length) (hm : 0 < m) (hok : logOk l = true) : fromR l (l.base + 1 + (a : Int)) (m : Int) = ((l.ents.drop a).take m, 0) ∧ l.ents.take a ++ (l.ents.drop a).take m = l.ents.take (a + m) := by
  refine ⟨?_, ?_⟩
  · rw [fromR_yes hok (by omega), show (l.base + 1 + (a : Int) - l.base - 1).toNat = a by omega, show (m : Int).toNat = m by omega]
  · rw [List.take_add]
theorem mod4 {z : Int} (h : U8 z) : ∃ m : Nat, IntKind.i64.wrap (IntKind.i64.wrap (z.tmod 4) + 1) = (m : Int) ∧ 0 < m ∧ m ≤ 4 := by
  unfold U8 at h
  have h1 : z.tmod 4 = z % 4 := Int.tmod_eq_emod_of_nonneg (by omega)
  have e : IntKind.i64.wrap (z.tmod 4) = z % 4 := by rw [h1]; exact IntWalk.i64_in _ (by omega)
  rw [e]
  exact ⟨(z % 4 + 1).toNat, (IntWalk.i64_in _ (by omega)).trans (by omega), by omega, by omega⟩

set_option maxHeartbeats 4000000 in
set_option maxRecDepth 20000 in
theorem LogParts_ok {I : Imm} {O : Own} {lc : List Value} {l : Lg} (hl : LgR I lc l) {z : Int} (hz : U8 z) (hL : l.ents.length * 64 ≤ 140737488351232) (hM : ∀ e ∈ l.ents, e.members.length * 8 ≤ 140737488351232) :
    Pure Try.prog 7 [.agg ⟨lc⟩, .int .u8 z] I O (.bool true) := by
  have hl0 := hl
  obtain ⟨ev, rfl, hev⟩ := hl.ex
  have hev0 := hev
  obtain ⟨va, vcap, rfl, hv1, hv2, -⟩ := hev
  have hbase := hl0.base
  have hterm := hl0.term
  unfold U64 at hbase hterm
  have hu : ∀ j (hj : j < l.ents.length), U64 l.ents[j].index := fun j hj => by
    obtain ⟨_, _, _, _, _, hr⟩ := SlR.at_ hev0 hj
    exact hr.index
  have hut : ∀ j (hj : j < l.ents.length), U64 l.ents[j].term := fun j hj => by
    obtain ⟨_, _, _, _, _, hr⟩ := SlR.at_ hev0 hj
    exact hr.term
  obtain ⟨m, hm, hm0, hm4⟩ := mod4 hz
  refine Does.enter Try.func7 rfl Try.ntmps7 rfl ?_
  refine .seq <| .region <| .on rfl <| .box rfl rfl rfl fun c1 _ _ => .e (.assign rfl) rfl rfl <| .nil <| .go ?_
  refine .seq <| .seq <| .region <| .on rfl <| .callP cal15 rfl rfl rfl (lives_ok) <| .e (.not rfl) rfl rfl <| .nil ?_
  refine .go <| .cond_false rfl <| .skip <| .go <| .seq <| .seq ?_
  refine .region <| .e (.loadW ag25 sz25 rfl .here rfl) rfl rfl <| .on rfl <| .callP cal18 rfl rfl rfl (lCheck_ok hl0) <| .e (.neq rfl rfl) rfl rfl <| .nil <| .go ?_
  refine .split 13 rfl (fun h13 => ?_) (fun h13 => ?_)
  · skip
    first | replace h13 := of_decide_eq_false ((Bool.not_eq_true' _).mp h13) | replace h13 := of_decide_eq_false (by simpa using h13)
    refine .cond_true rfl <| .seq <| .region <| .e (.assign rfl) rfl rfl <| .nil <| .go ?_
    refine .ret <| .ret ?_
    refine .tail ?_
    refine Post.retE rfl rfl ?_
    first | rfl | simp
  · skip
    first | replace h13 := of_decide_eq_true ((Bool.not_eq_false' _).mp h13) | replace h13 := of_decide_eq_true (by simpa using h13)
    have hok := logOk_why h13
    have hlok : logOk l = true := hok
    have hle := logTo_le hl0.base hu (Nat.le_refl _) hok
    have hae := at_end hl0.base (show endOf l ≤ 18446744073709551615 by unfold endOf; omega)
    have heo : endOf l = l.base + (l.ents.length : Int) := rfl
    refine .cond_false rfl <| .skip <| .go <| .seq <| .region <| .e (.assign rfl) rfl rfl ?_
    refine .nil <| .go <| .seq <| .region <| .e (.fieldAddr fo25_0 rfl) rfl rfl <| .e (.load ag22 rfl .here rfl) rfl rfl ?_
    refine .e (.add rfl rfl rfl) rfl rfl <| .e (.assign rfl) rfl rfl <| .nil <| .go <| .seq <| .seq ?_
    refine .region <| .e (.fieldAddr fo25_2 rfl) rfl rfl <| .e (.load ag23 rfl .here rfl) rfl rfl <| .e (.len sl23 rfl rfl) rfl rfl <| .e (.move rfl) rfl rfl <| .nil ?_
    refine .go <| .block ?_
    refine .loopM [4, 5, 6, 7, 8, 20, 21, 22, 23, 24, 25, 26, 27, 28, 29, 30, 31, 32, 33, 34, 35, 36, 37, 38, 39, 40, 41, 42, 43, 44, 45, 46, 47, 48] (fun s => l.ents.length - s.1) (fun s => s.1 ≤ l.ents.length ∧ s.1 ≤ s.2.1 ∧ s.2.1 ≤ l.ents.length ∧ (0 < l.ents.length → s.2.1 < l.ents.length) ∧ OwnS 5 s.2.2.1 (l.ents.take s.2.1).length s.2.2.2.1 s.2.2.2.2.1 ∧ DR EntR 5 s.2.2.2.2.2 s.2.2.2.1 (l.ents.take s.2.1) ∧ I.le s.2.2.2.2.2) (fun s => [(20, .int .i64 s.1), (5, s.2.2.1), (6, .int .u64 (IntKind.u64.wrap (l.base + 1 + (s.2.1 : Int))))]) (fun s => s.2.2.2.2.2) (fun s => s.2.2.2.2.1 ++ _) (((0, 0, .slice none 0 0, [], [], I) : Nat × Nat × Value × List Value × Own × Imm)) ⟨by dsimp only; omega, by dsimp only; omega, by dsimp only; omega, fun h => h, OwnS.nil, DR.nil, Imm.le_refl _⟩ ⟨rfl, rfl, congrArg (fun x => some (Value.int .u64 (IntKind.u64.wrap x))) (show l.base + 1 = l.base + 1 + ((0 : Nat) : Int) by omega), trivial⟩ rfl rfl ?_
    intro ⟨k, a, vL, wsL, obL, J⟩ hk
    dsimp only at hk ⊢
    obtain ⟨hk, hka, hal, han, hoL, hdL, hJ⟩ := hk
    have hlJ := hl0.mono hJ
    obtain ⟨adL, capL, rfl⟩ := hoL.form
    have hlt := List.length_take_le a l.ents
    have hte : (l.ents.take a).length = a := by rw [List.length_take]; omega
    refine .seq <| .region <| .e (.lss rfl rfl) rfl rfl <| .nil <| .go <| .seq ?_
    refine .split 21 rfl (fun h21 => ?_) (fun h21 => ?_)
    · skip
      replace h21 := of_decide_eq_true h21
      have hal2 := han (by omega)
      have hw1 : IntKind.u64.wrap (l.base + 1 + (a : Int)) = l.base + 1 + (a : Int) := IntWalk.u64_in _ (by omega)
      have hps := parts_step (a := a) hal2 hm0 hlok
      rw [← hw1] at hps
      refine .cond_true rfl <| .skip <| .go <| .seq <| .block <| .seq ?_
      refine .region <| .e (.loadW ag25 sz25 rfl (.app <| .here) rfl) rfl rfl <| .e (.move rfl) rfl rfl <| .e (.move rfl) rfl rfl <| .e (.rem rfl rfl (by decide) rfl) rfl rfl <| .e (.conv Try.underlying5 Try.underlying3 rfl) rfl rfl ?_
      refine .e (.add rfl rfl hm) rfl rfl <| .on rfl <| .call cal22 rfl rfl rfl (lFrom_ok (i := IntKind.u64.wrap (l.base + 1 + (a : Int))) (most := (m : Int)) hlJ (by rw [hw1]; unfold U64; omega) (by unfold I64; omega) hL hM) fun v29 I29 O29 hI29 hK29 => ?_
      rw [hps.1] at hK29
      dsimp only at hK29
      obtain ⟨w29, ws29, ob29, rfl, ho29, hd29, rfl⟩ := hK29
      obtain ⟨ad29, cap29, rfl⟩ := ho29.form
      refine .e (.move rfl) rfl rfl <| .e (.extract rfl rfl) rfl rfl <| .e (.extract rfl rfl) rfl rfl <| .e (.assign rfl) rfl rfl <| .e (.assign rfl) rfl rfl <| .nil ?_
      refine .go <| .seq <| .seq <| .region <| .e (.move rfl) rfl rfl <| .e (.neq rfl rfl) rfl rfl ?_
      refine .nil <| .go <| .cond_false rfl <| .skip <| .go <| .seq ?_
      refine .region <| .e (.move rfl) rfl rfl <| .e (.move rfl) rfl rfl ?_
      have hlen36 : (l.ents.take a).length + ((l.ents.drop a).take m).length ≤ l.ents.length := by rw [← List.length_append, hps.2]; exact List.length_take_le' ..
      refine .on rfl <| .append Try.underlying23 Try.underlying23 sz41 by41 zv41 rfl rfl rfl (.app <| .front) hoL (ho29.src (I := _) .front) hd29.1 (hd29.ones (by decide) fun _ _ h => EntR.ones h) (by omega) (by omega) rfl fun v36 ob36 ho36 => .e (.assign rfl) rfl rfl <| .nil <| .go <| .seq <| .seq ?_
      refine .region ?_
      obtain ⟨ad36, cap36, rfl⟩ := ho36.form
      have hd36 := (hdL.mono fun _ _ h => h.mono hI29).append hd29
      refine .e (.move rfl) rfl rfl <| .e (.len sl23 rfl rfl) rfl rfl <| .e (.fieldAddr fo25_2 rfl) rfl rfl <| .e (.load ag23 rfl (.app <| .app <| .here) rfl) rfl rfl <| .e (.len sl23 rfl rfl) rfl rfl <| .e (.geq rfl rfl) rfl rfl ?_
      refine .nil <| .go ?_
      refine .split 42 rfl (fun h42 => ?_) (fun h42 => ?_)
      · skip
        replace h42 := of_decide_eq_true h42
        refine .cond_true rfl <| .exit <| .exit <| .blk_other rfl <| .exit <| .exit ?_
        refine .blk_exit <| .go <| .seq <| .region ?_
        refine .freezeS ho36 fun K hK hKs => ?_
        have hy : EntsR K _ (l.ents.take a ++ (l.ents.drop a).take m) := hKs (R := EntR) (hd36.mono fun _ _ h => h.mono hK) (by simp)
        have hsame : l.ents.take a ++ (l.ents.drop a).take m = l.ents := by rw [hps.2]; exact List.take_of_length_le (by simp only [List.length_take, List.length_drop] at h42; omega)
        have hez := hev0.mono (Imm.le_trans (Imm.le_trans hJ hI29) hK)
        refine .e (.move rfl) rfl rfl <| .e (.fieldAddr fo25_2 rfl) rfl rfl <| .e (.load ag23 rfl (.app <| .here) rfl) rfl rfl <| .on rfl <| .callP cal17 rfl rfl rfl ((sameEnts_ok hy hez).cast (congrArg Value.bool (decide_eq_true hsame))) <| .e (.assign rfl) rfl rfl <| .nil ?_
        refine .go <| .ret ?_
        refine .drop <| .tail ?_
        refine .back (Imm.le_trans (Imm.le_trans hJ hI29) hK) ?_
        refine Post.retE rfl rfl ?_
        first | rfl | simp
      · skip
        replace h42 := of_decide_eq_false h42
        refine .cond_false rfl <| .skip <| .go <| .region <| .e (.move rfl) rfl rfl <| .e (.move rfl) rfl rfl ?_
        refine .e (.len sl23 rfl rfl) rfl rfl <| .e (.conv Try.underlying3 Try.underlying22 rfl) rfl rfl <| .e (.add rfl rfl rfl) rfl rfl <| .e (.assign rfl) rfl rfl <| .nil <| .blk_normal ?_
        refine .go <| .region <| .e (.add rfl rfl (by first | exact wrap_succ (by omega) | exact IntWalk.i64_in _ (by omega) | exact rfl)) rfl rfl <| .e (.move rfl) rfl rfl <| .nil ?_
        refine .front (.app <| .front) ?_
        refine .drop ?_
        have haml : a + m < l.ents.length := by simp only [List.length_take, List.length_drop] at h42; omega
        exact .mid ((k + 1, a + m, _, _, _, I29)) ⟨by dsimp only; omega, by dsimp only; omega, by dsimp only; omega, by dsimp only; omega, by dsimp only; omega, (by rw [← hps.2]; simpa using ho36), (by rw [← hps.2]; exact hd36), Imm.le_trans hJ hI29⟩ ⟨rfl, rfl, congrArg (fun x => some (Value.int .u64 x)) (by dsimp only; rw [show ((l.ents.drop a).take m).length = m by rw [List.length_take, List.length_drop]; omega]; rw [hw1, show IntKind.u64.wrap ((m : Nat) : Int) = (m : Int) from IntWalk.u64_in _ (by omega)]; congr 1; omega), trivial⟩ rfl rfl (.pre 35 rfl (.app rfl .base))
    · skip
      replace h21 := of_decide_eq_false h21
      refine .cond_false rfl <| .exit <| .exit <| .exit <| .blk_exit <| .go ?_
      refine .seq <| .region ?_
      refine .freezeS hoL fun K hK hKs => ?_
      have ek : l.ents.length = 0 := by omega
      have hy : EntsR K _ (l.ents.take a) := hKs (R := EntR) (hdL.mono fun _ _ h => h.mono hK) rfl
      have hsame : l.ents.take a = l.ents := List.take_of_length_le (by omega)
      have hez := hev0.mono (Imm.le_trans hJ hK)
      refine .e (.move rfl) rfl rfl <| .e (.fieldAddr fo25_2 rfl) rfl rfl <| .e (.load ag23 rfl .here rfl) rfl rfl <| .on rfl <| .callP cal17 rfl rfl rfl ((sameEnts_ok hy hez).cast (congrArg Value.bool (decide_eq_true hsame))) <| .e (.assign rfl) rfl rfl <| .nil ?_
      refine .go <| .ret ?_
      refine .tail ?_
      refine .back (Imm.le_trans hJ hK) ?_
      refine Post.retE rfl rfl ?_
      first | rfl | simp

end Go.Proofs.Yteajcmnbjpbnpaa
