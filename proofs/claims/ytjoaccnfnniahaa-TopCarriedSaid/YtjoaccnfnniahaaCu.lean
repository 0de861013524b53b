/- Walks of functions over a symbolic memory, printed by a program of the session. -/
import Derived.Test.YtjoaccnfnniahaaCh
import Derived.Test.YtjoaccnfnniahaaCt
import Derived.Test.YtjoaccnfnniahaaDi
import Derived.Test.YtjoaccnfnniahaaLj
namespace Go.Proofs.Ytjoaccnfnniahaa
open Go.Sy
set_option linter.unusedSimpArgs false
set_option linter.unusedVariables false

theorem prevT_u64 {l : Lg} (h : U64 l.term) (hut : ∀ j (hj : j < l.ents.length), U64 l.ents[j].term) {j : Nat} (hj : j ≤ l.ents.length) : U64 (prevT l j) := by
  unfold prevT
  split
  · exact h
  · rw [entD (show j - 1 < l.ents.length by omega)]; exact hut _ _
theorem mem_part {l : Lg} {j m : Nat} {e : Ent} (h : e ∈ part l j m) : e ∈ l.ents := List.mem_of_mem_drop (List.mem_of_mem_take h)

set_option maxHeartbeats 16000000 in
set_option maxRecDepth 20000 in
theorem TopCarried_ok {I : Imm} {O : Own} {lc : List Value} {l : Lg} (hl : LgR I lc l) {z : Int} (hz : U8 z) (hL : l.ents.length * 64 ≤ 140737488351232) (hM : ∀ e ∈ l.ents, e.members.length * 8 ≤ 140737488351232) :
    Pure Try.prog 4 [.agg ⟨lc⟩, .int .u8 z] I O (.bool true) := by
  have hl0 := hl
  obtain ⟨ev, rfl, hev⟩ := hl.ex
  have hev0 := hev
  obtain ⟨va, vcap, rfl, hv1, hv2, -⟩ := hev
  have hbase := hl0.base
  have hterm := hl0.term
  unfold U64 at hbase hterm
  have hu : ∀ j (hj : j < l.ents.length), U64 l.ents[j].index := fun j hj => by
    obtain ⟨_, _, _, _, _, hr⟩ := SlR.at_ hev0 hj
    exact hr.index
  have hut : ∀ j (hj : j < l.ents.length), U64 l.ents[j].term := fun j hj => by
    obtain ⟨_, _, _, _, _, hr⟩ := SlR.at_ hev0 hj
    exact hr.term
  refine Go.Sy.Does.enter Try.func4 rfl Try.ntmps4 rfl ?_
  refine .seq <| .region <| .on rfl <| .box rfl rfl rfl fun c1 _ _ => .e (.assign rfl) rfl rfl <| .nil <| .go ?_
  refine .seq <| .seq <| .region <| .on rfl <| .callP cal5 rfl rfl rfl (begins_ok) <| .e (.not rfl) rfl rfl <| .nil ?_
  refine .go <| .cond_false rfl <| .skip <| .go <| .seq <| .seq ?_
  refine .region <| .e (.loadW ag43 sz43 rfl .here rfl) rfl rfl <| .on rfl <| .callP cal12 rfl rfl rfl (lCheck_ok hl0) <| .e (.neq rfl rfl) rfl rfl <| .nil <| .go ?_
  refine .split 31 rfl (fun h31 => ?_) (fun h31 => ?_)
  · skip
    first | replace h31 := of_decide_eq_false ((Bool.not_eq_true' _).mp h31) | replace h31 := of_decide_eq_false (by simpa using h31)
    refine .cond_true rfl <| .seq <| .region <| .e (.assign rfl) rfl rfl <| .nil <| .go ?_
    refine .ret <| .ret ?_
    refine .tail ?_
    refine Post.retE rfl rfl ?_
    rfl
  · skip
    first | replace h31 := of_decide_eq_true ((Bool.not_eq_false' _).mp h31) | replace h31 := of_decide_eq_true (by simpa using h31)
    have hok := logOk_why h31
    have hlok : logOk l = true := hok
    have hle := logTo_le hl0.base hu (Nat.le_refl _) hok
    have hae := at_end hl0.base (show endOf l ≤ 18446744073709551615 by unfold endOf; omega)
    have heo : endOf l = l.base + (l.ents.length : Int) := rfl
    refine .cond_false rfl <| .skip <| .go <| .seq <| .region <| .e (.fieldAddr fo43_0 rfl) rfl rfl ?_
    refine .e (.load ag40 rfl .here rfl) rfl rfl <| .e (.fieldAddr fo43_1 rfl) rfl rfl <| .e (.load ag40 rfl .here rfl) rfl rfl <| .e (.build bs43 zv43 rfl rfl) rfl rfl <| .on rfl <| .alloc zr43 rfl fun c2 _ _ => .on rfl <| .storeW sz43 rfl rfl rfl rfl rfl rfl .here ?_
    refine .nil <| .go <| .seq <| .seq <| .region <| .e (.fieldAddr fo43_2 rfl) rfl rfl ?_
    refine .e (.load ag41 rfl (.there <| .here) rfl) rfl rfl <| .e (.len sl41 rfl rfl) rfl rfl <| .e (.move rfl) rfl rfl <| .nil <| .go <| .block ?_
    refine .loopM [4, 6, 7, 8, 9, 10, 11, 12, 13, 14, 15, 16, 17, 40, 41, 42, 43, 44, 45, 46, 47, 48, 49, 50, 51, 52, 53, 54, 55, 56, 57, 58, 59, 60, 61, 62, 63, 64, 65, 66, 67, 68, 69, 70, 71, 72, 73, 74, 75, 76, 77, 78, 79, 80, 81, 82, 83, 84, 85, 86, 87, 88, 89, 90, 91, 92, 93, 94, 95, 96, 97, 98, 99, 100, 101, 102, 103, 104, 105, 106, 107, 108] (fun q => l.ents.length - q.1) (fun q => q.1 ≤ l.ents.length ∧ q.2.1 ≤ l.ents.length ∧ q.1 ≤ q.2.1 ∧ EntsR q.2.2.2 q.2.2.1 (l.ents.take q.2.1) ∧ I.le q.2.2.2) (fun q => [(40, .int .i64 q.1)]) (fun q => q.2.2.2) (fun q => (c2, .cells ⟨(pre l q.2.1).cells q.2.2.1⟩ 43 (0, 0)) :: _) (((0, 0, .slice none 0 0, I) : Nat × Nat × Value × Imm)) ⟨Nat.zero_le _, Nat.zero_le _, Nat.le_refl _, SlR.nil, Imm.le_refl _⟩ ⟨rfl, trivial⟩ rfl rfl ?_
    intro ⟨k, j, vX, J⟩ hk
    dsimp only at hk ⊢
    obtain ⟨hkl, hjl, hkj, hX, hJ⟩ := hk
    have hX0 := hX
    have hxR : LgR J ((pre l j).cells vX) (pre l j) := ⟨⟨_, rfl, hX⟩, hl0.base, hl0.term⟩
    have hxl := pre_len hjl
    obtain ⟨xa, xc, rfl, -, -, -⟩ := hX0
    refine .seq <| .region <| .e (.lss rfl rfl) rfl rfl <| .nil <| .go <| .seq ?_
    refine .split 41 rfl (fun h41 => ?_) (fun h41 => ?_)
    · skip
      replace h41 := of_decide_eq_true h41
      refine .cond_true rfl <| .skip <| .go <| .seq <| .block <| .seq ?_
      refine .region <| .e (.loadW ag43 sz43 rfl .here rfl) rfl rfl <| .on rfl <| .callP cal13 rfl rfl rfl ((lEnd_ok hxR).cast (congrArg tripV (pre_endR hlok hjl))) <| .e (.move rfl) rfl rfl <| .e (.extract rfl rfl) rfl rfl <| .e (.extract rfl rfl) rfl rfl ?_
      refine .e (.extract rfl rfl) rfl rfl <| .e (.assign rfl) rfl rfl <| .e (.assign rfl) rfl rfl <| .e (.assign rfl) rfl rfl <| .nil <| .go ?_
      refine .seq <| .seq <| .region <| .e (.move rfl) rfl rfl <| .e (.fieldAddr fo43_0 rfl) rfl rfl <| .e (.load ag40 rfl (.there <| .here) rfl) rfl rfl ?_
      refine .e (.sub rfl rfl ((IntWalk.u64_in _ (by omega)).trans (show l.base + (j : Int) - l.base = (j : Int) by omega))) rfl rfl <| .e (.fieldAddr fo43_2 rfl) rfl rfl <| .e (.load ag41 rfl (.there <| .here) rfl) rfl rfl <| .e (.len sl41 rfl rfl) rfl rfl <| .e ((EV.cast (.conv Try.underlying3 Try.underlying40 rfl) (congrArg (Value.int .u64) (IntWalk.u64_in ((l.ents.length : Nat) : Int) (by omega))))) rfl rfl <| .e (.geq rfl rfl) rfl rfl ?_
      refine .nil <| .go ?_
      refine .split 56 rfl (fun h56 => ?_) (fun h56 => ?_)
      · skip
        replace h56 := of_decide_eq_true h56
        obtain rfl : j = l.ents.length := by omega
        rw [List.take_length] at hX hxR ⊢
        have hxl0 : LgR J (l.cells (.slice xa l.ents.length xc)) l := ⟨⟨_, rfl, hX⟩, hl0.base, hl0.term⟩
        refine .cond_true rfl <| .exit <| .exit <| .blk_other rfl <| .exit <| .exit ?_
        refine .blk_exit <| .go <| .seq <| .region <| .e (.loadW ag43 sz43 rfl .here rfl) rfl rfl <| .on rfl <| .callP cal13 rfl rfl rfl ((lEnd_ok hxl0).cast (congrArg tripV (all_endR hlok))) ?_
        refine .e (.move rfl) rfl rfl <| .e (.extract rfl rfl) rfl rfl <| .e (.extract rfl rfl) rfl rfl <| .e (.extract rfl rfl) rfl rfl <| .e (.assign rfl) rfl rfl <| .e (.assign rfl) rfl rfl ?_
        refine .e (.assign rfl) rfl rfl <| .nil <| .go <| .seq <| .region <| .e (.loadW ag43 sz43 rfl (.there <| .here) rfl) rfl rfl ?_
        refine .on rfl <| .callP cal13 rfl rfl rfl ((lEnd_ok (hl0.mono hJ)).cast (congrArg tripV (all_endR hlok))) <| .e (.move rfl) rfl rfl <| .e (.extract rfl rfl) rfl rfl <| .e (.extract rfl rfl) rfl rfl <| .e (.extract rfl rfl) rfl rfl <| .e (.assign rfl) rfl rfl ?_
        refine .e (.assign rfl) rfl rfl <| .e (.assign rfl) rfl rfl <| .nil <| .go <| .seq <| .region ?_
        refine .e (.loadW ag43 sz43 rfl .here rfl) rfl rfl <| .e (.fieldAddr fo43_0 rfl) rfl rfl <| .e (.load ag40 rfl (.there <| .here) rfl) rfl rfl <| .e (.fieldAddr fo43_1 rfl) rfl rfl <| .e (.load ag40 rfl (.there <| .here) rfl) rfl rfl <| .e (.fieldAddr fo43_2 rfl) rfl rfl ?_
        refine .e (.load ag41 rfl (.there <| .here) rfl) rfl rfl <| .on rfl <| .call cal17 rfl rfl rfl (lJoin_ok hxl0 (hev0.mono hJ) hl0.base hl0.term hL hM hL hM (by rw [all_adj, List.drop_zero, all_any hlok]; intro h; cases h)) fun v129 I129 O129 hI129 hK129 => ?_
        obtain ⟨cs129, eu129, hlg129, eO129⟩ := hK129
        rw [all_join hlok] at eu129 hlg129
        dsimp only at eu129 hlg129
        subst eu129 eO129
        obtain ⟨wv129, ew129, hw129⟩ := hlg129.ex
        have hwr129 := hw129
        obtain ⟨wa129, wc129, rfl, -, -, -⟩ := hw129
        subst ew129
        refine .e (.move rfl) rfl rfl <| .e (.extract rfl rfl) rfl rfl <| .e (.extract rfl rfl) rfl rfl <| .e (.extract rfl rfl) rfl rfl <| .on rfl <| .alloc zr43 rfl fun c3 _ _ => .on rfl <| .storeW sz43 rfl rfl rfl rfl rfl rfl .here ?_
        refine .e (.assign rfl) rfl rfl <| .e (.assign rfl) rfl rfl <| .nil <| .go <| .seq <| .region ?_
        refine .e (.move rfl) rfl rfl <| .e (.move rfl) rfl rfl <| .e ((EV.cast (u := .bool true) (.eql rfl rfl) (congrArg Value.bool (decide_eq_true rfl)))) rfl rfl <| .e (.move rfl) rfl rfl <| .e (.move rfl) rfl rfl <| .e (.move rfl) rfl rfl ?_
        refine .e ((EV.cast (u := .bool true) (.eql rfl rfl) (congrArg Value.bool (decide_eq_true rfl)))) rfl rfl <| .e (.pickT rfl rfl) rfl rfl <| .e (.move rfl) rfl rfl <| .e (.move rfl) rfl rfl <| .e (.eql rfl rfl) rfl rfl <| .e (.pickT rfl rfl) rfl rfl ?_
        refine .e (.move rfl) rfl rfl <| .e (.move rfl) rfl rfl <| .e (.eql rfl rfl) rfl rfl <| .e (.pickT rfl rfl) rfl rfl <| .e (.move rfl) rfl rfl <| .e (.fieldAddr fo43_2 rfl) rfl rfl ?_
        refine .e (.load ag41 rfl .here rfl) rfl rfl <| .e (.len sl41 rfl rfl) rfl rfl <| .e (.fieldAddr fo43_2 rfl) rfl rfl <| .e (.load ag41 rfl (.there <| .there <| .here) rfl) rfl rfl <| .e (.len sl41 rfl rfl) rfl rfl <| .e ((EV.cast (u := .bool true) (.eql rfl rfl) (congrArg Value.bool (decide_eq_true rfl)))) rfl rfl ?_
        refine .e (.pickT rfl rfl) rfl rfl <| .e (.assign rfl) rfl rfl <| .nil <| .go <| .ret ?_
        refine .tail <| .tail <| .tail ?_
        refine .back (Imm.le_trans hJ hI129) ?_
        refine Post.retE rfl rfl ?_
        rfl
      · skip
        replace h56 := of_decide_eq_false h56
        have hjn : j < l.ents.length := by omega
        obtain ⟨m, hm, hm8⟩ : ∃ m : Nat, z.tmod 8 = (m : Int) ∧ m < 8 := ⟨(z.tmod 8).toNat, by unfold U8 at hz; have := Int.tmod_nonneg 8 hz.1; omega, by unfold U8 at hz; have := Int.tmod_lt_of_pos z (show (0 : Int) < 8 by decide); omega⟩
        have hg := part_good (m := m + 1) hlok (by omega) hjn hbase.1 hle
        have hpl := part_len (l := l) (j := j) (m := m + 1)
        have hpu := prevT_u64 hl0.term hut hjl
        have htu : ∀ e ∈ part l j (m + 1), U64 e.term := fun e he => by
          obtain ⟨q, hq, rfl⟩ := List.mem_iff_getElem.1 (mem_part he)
          exact hut q hq
        refine .cond_false rfl <| .skip <| .go <| .seq <| .region <| .e (.loadW ag43 sz43 rfl (.there <| .here) rfl) rfl rfl ?_
        refine .e (.move rfl) rfl rfl <| .e (.add rfl rfl (IntWalk.u64_in _ (by omega))) rfl rfl <| .e (.move rfl) rfl rfl <| .e (.rem rfl rfl (by decide) hm) rfl rfl <| .e ((EV.cast (.conv Try.underlying5 Try.underlying3 rfl) (congrArg (Value.int .i64) (IntWalk.i64_in ((m : Nat) : Int) (by omega))))) rfl rfl <| .e (.add rfl rfl (by first | exact wrap_succ (by omega) | exact IntWalk.i64_in _ (by omega) | exact rfl)) rfl rfl ?_
        refine .on rfl <| .call cal14 rfl rfl rfl (lFrom_ok (hl0.mono hJ) (by unfold U64; omega) (by unfold I64; omega) hL hM) fun v65 I65 O65 hI65 hK65 => ?_
        obtain ⟨v, ws65, ob65, eu65, ho65, hd65, eO65⟩ := hK65
        rw [part_from (m := m + 1) hlok rfl rfl] at eu65 ho65 hd65
        dsimp only at eu65 ho65 hd65
        subst eu65 eO65
        obtain ⟨ad65, cap65, rfl⟩ := ho65.form
        refine .e (.move rfl) rfl rfl <| .e (.extract rfl rfl) rfl rfl <| .e (.extract rfl rfl) rfl rfl <| .e (.assign rfl) rfl rfl <| .e (.assign rfl) rfl rfl <| .nil ?_
        refine .go <| .seq <| .region ?_
        refine .freezeS ho65 fun K hK hKs => ?_
        have hp : EntsR K _ (part l j (m + 1)) := hKs (R := EntR) (hd65.mono fun _ _ h => h.mono hK) rfl
        refine .e (.move rfl) rfl rfl <| .e (.move rfl) rfl rfl <| .e (.move rfl) rfl rfl <| .e (.build bs54 zv54 rfl rfl) rfl rfl <| .on rfl <| .callP cal15 rfl rfl rfl (mEncode_ok hp hg hpu htu) <| .e (.move rfl) rfl rfl ?_
        refine .e (.extract rfl rfl) rfl rfl <| .e (.extract rfl rfl) rfl rfl <| .e (.assign rfl) rfl rfl <| .e (.assign rfl) rfl rfl <| .nil <| .go ?_
        refine .seq <| .region <| .e (.move rfl) rfl rfl <| .on rfl <| .call cal16 rfl rfl rfl (mDecode_ok hg hpu htu) fun v78 I78 O78 hI78 hK78 => ?_
        obtain ⟨v', rfl, hy, rfl⟩ := hK78
        have hy0 := hy
        obtain ⟨ya, yc, rfl, -, -, -⟩ := hy0
        refine .e (.move rfl) rfl rfl <| .e (.extract rfl rfl) rfl rfl <| .e (.extract rfl rfl) rfl rfl <| .on rfl <| .alloc zr54 rfl fun c4 _ _ => .on rfl <| .storeW sz54 rfl rfl rfl rfl rfl rfl .here <| .e (.assign rfl) rfl rfl ?_
        refine .nil <| .go <| .seq <| .region <| .e (.loadW ag43 sz43 rfl (.there <| .here) rfl) rfl rfl <| .e (.fieldAddr fo54_2 rfl) rfl rfl ?_
        refine .e (.load ag40 rfl .here rfl) rfl rfl <| .e (.fieldAddr fo54_3 rfl) rfl rfl <| .e (.load ag40 rfl .here rfl) rfl rfl <| .e (.fieldAddr fo54_6 rfl) rfl rfl <| .e (.load ag41 rfl .here rfl) rfl rfl ?_
        have hxI := (Imm.le_trans (Imm.le_trans hI65 hK) hI78)
        refine .on rfl <| .call cal17 rfl rfl rfl (lJoin_ok (hxR.mono hxI) hy hg.at_ hpu (by rw [hxl]; omega) (fun e he => hM e (List.mem_of_mem_take he)) (by omega) (fun e he => hM e (mem_part he)) (fun _ => by rw [hxl]; omega)) fun v89 I89 O89 hI89 hK89 => ?_
        obtain ⟨cs89, eu89, hlg89, eO89⟩ := hK89
        rw [part_join hlok (by omega) (by omega) hjn hbase.1 hle] at eu89 hlg89
        dsimp only at eu89 hlg89
        subst eu89 eO89
        obtain ⟨wv89, ew89, hw89⟩ := hlg89.ex
        have hwr89 := hw89
        obtain ⟨wa89, wc89, rfl, -, -, -⟩ := hw89
        subst ew89
        refine .e (.move rfl) rfl rfl <| .e (.extract rfl rfl) rfl rfl <| .e (.extract rfl rfl) rfl rfl <| .e (.extract rfl rfl) rfl rfl <| .on rfl <| .alloc zr43 rfl fun c5 _ _ => .on rfl <| .storeW sz43 rfl rfl rfl rfl rfl rfl .here ?_
        refine .e (.assign rfl) rfl rfl <| .e (.assign rfl) rfl rfl <| .nil <| .go <| .seq <| .seq ?_
        refine .region <| .e (.move rfl) rfl rfl <| .e (.neq rfl rfl) rfl rfl <| .e (.move rfl) rfl rfl <| .e (.move rfl) rfl rfl <| .e (.neq rfl rfl) rfl rfl ?_
        refine .e (.pickF rfl rfl) rfl rfl <| .e (.move rfl) rfl rfl <| .e (.move rfl) rfl rfl <| .e (.neq rfl rfl) rfl rfl <| .e (.pickF rfl rfl) rfl rfl <| .e (.move rfl) rfl rfl ?_
        refine .e (.move rfl) rfl rfl <| .e (.neq rfl rfl) rfl rfl <| .e (.pickF rfl rfl) rfl rfl <| .nil <| .go <| .cond_false rfl ?_
        refine .skip <| .go <| .region <| .e (.loadW ag43 sz43 rfl .here rfl) rfl rfl <| .on rfl <| .storeW sz43 rfl rfl rfl rfl rfl rfl (.there <| .there <| .here) <| .nil ?_
        refine .blk_normal <| .go <| .region <| .e (.add rfl rfl (by first | exact wrap_succ (by omega) | exact IntWalk.i64_in _ (by omega) | exact rfl)) rfl rfl <| .e (.move rfl) rfl rfl <| .nil ?_
        refine .tail ?_
        refine .tail ?_
        exact .mid ((k + 1, j + (part l j (m + 1)).length, _, I89)) ⟨by dsimp only; omega, by dsimp only; omega, by dsimp only; omega, by dsimp only; omega, hwr89, (Imm.le_trans (Imm.le_trans (Imm.le_trans (Imm.le_trans hJ hI65) hK) hI78) hI89)⟩ ⟨rfl, trivial⟩ rfl rfl (.pre 83 rfl (.app rfl .base))
    · skip
      replace h41 := of_decide_eq_false h41
      obtain rfl : j = l.ents.length := by omega
      rw [List.take_length] at hX hxR ⊢
      have hxl0 : LgR J (l.cells (.slice xa l.ents.length xc)) l := ⟨⟨_, rfl, hX⟩, hl0.base, hl0.term⟩
      refine .cond_false rfl <| .exit <| .exit <| .exit <| .blk_exit <| .go ?_
      refine .seq <| .region <| .e (.loadW ag43 sz43 rfl .here rfl) rfl rfl <| .on rfl <| .callP cal13 rfl rfl rfl ((lEnd_ok hxl0).cast (congrArg tripV (all_endR hlok))) <| .e (.move rfl) rfl rfl <| .e (.extract rfl rfl) rfl rfl ?_
      refine .e (.extract rfl rfl) rfl rfl <| .e (.extract rfl rfl) rfl rfl <| .e (.assign rfl) rfl rfl <| .e (.assign rfl) rfl rfl <| .e (.assign rfl) rfl rfl <| .nil ?_
      refine .go <| .seq <| .region <| .e (.loadW ag43 sz43 rfl (.there <| .here) rfl) rfl rfl <| .on rfl <| .callP cal13 rfl rfl rfl ((lEnd_ok (hl0.mono hJ)).cast (congrArg tripV (all_endR hlok))) <| .e (.move rfl) rfl rfl ?_
      refine .e (.extract rfl rfl) rfl rfl <| .e (.extract rfl rfl) rfl rfl <| .e (.extract rfl rfl) rfl rfl <| .e (.assign rfl) rfl rfl <| .e (.assign rfl) rfl rfl <| .e (.assign rfl) rfl rfl ?_
      refine .nil <| .go <| .seq <| .region <| .e (.loadW ag43 sz43 rfl .here rfl) rfl rfl <| .e (.fieldAddr fo43_0 rfl) rfl rfl ?_
      refine .e (.load ag40 rfl (.there <| .here) rfl) rfl rfl <| .e (.fieldAddr fo43_1 rfl) rfl rfl <| .e (.load ag40 rfl (.there <| .here) rfl) rfl rfl <| .e (.fieldAddr fo43_2 rfl) rfl rfl <| .e (.load ag41 rfl (.there <| .here) rfl) rfl rfl <| .on rfl <| .call cal17 rfl rfl rfl (lJoin_ok hxl0 (hev0.mono hJ) hl0.base hl0.term hL hM hL hM (by rw [all_adj, List.drop_zero, all_any hlok]; intro h; cases h)) fun v129 I129 O129 hI129 hK129 => ?_
      obtain ⟨cs129, eu129, hlg129, eO129⟩ := hK129
      rw [all_join hlok] at eu129 hlg129
      dsimp only at eu129 hlg129
      subst eu129 eO129
      obtain ⟨wv129, ew129, hw129⟩ := hlg129.ex
      have hwr129 := hw129
      obtain ⟨wa129, wc129, rfl, -, -, -⟩ := hw129
      subst ew129
      refine .e (.move rfl) rfl rfl <| .e (.extract rfl rfl) rfl rfl <| .e (.extract rfl rfl) rfl rfl <| .e (.extract rfl rfl) rfl rfl <| .on rfl <| .alloc zr43 rfl fun c6 _ _ => .on rfl <| .storeW sz43 rfl rfl rfl rfl rfl rfl .here ?_
      refine .e (.assign rfl) rfl rfl <| .e (.assign rfl) rfl rfl <| .nil <| .go <| .seq <| .region ?_
      refine .e (.move rfl) rfl rfl <| .e (.move rfl) rfl rfl <| .e ((EV.cast (u := .bool true) (.eql rfl rfl) (congrArg Value.bool (decide_eq_true rfl)))) rfl rfl <| .e (.move rfl) rfl rfl <| .e (.move rfl) rfl rfl <| .e (.move rfl) rfl rfl ?_
      refine .e ((EV.cast (u := .bool true) (.eql rfl rfl) (congrArg Value.bool (decide_eq_true rfl)))) rfl rfl <| .e (.pickT rfl rfl) rfl rfl <| .e (.move rfl) rfl rfl <| .e (.move rfl) rfl rfl <| .e (.eql rfl rfl) rfl rfl <| .e (.pickT rfl rfl) rfl rfl ?_
      refine .e (.move rfl) rfl rfl <| .e (.move rfl) rfl rfl <| .e (.eql rfl rfl) rfl rfl <| .e (.pickT rfl rfl) rfl rfl <| .e (.move rfl) rfl rfl <| .e (.fieldAddr fo43_2 rfl) rfl rfl ?_
      refine .e (.load ag41 rfl .here rfl) rfl rfl <| .e (.len sl41 rfl rfl) rfl rfl <| .e (.fieldAddr fo43_2 rfl) rfl rfl <| .e (.load ag41 rfl (.there <| .there <| .here) rfl) rfl rfl <| .e (.len sl41 rfl rfl) rfl rfl <| .e ((EV.cast (u := .bool true) (.eql rfl rfl) (congrArg Value.bool (decide_eq_true rfl)))) rfl rfl ?_
      refine .e (.pickT rfl rfl) rfl rfl <| .e (.assign rfl) rfl rfl <| .nil <| .go <| .ret ?_
      refine .tail <| .tail <| .tail ?_
      refine .back (Imm.le_trans hJ hI129) ?_
      refine Post.retE rfl rfl ?_
      rfl

end Go.Proofs.Ytjoaccnfnniahaa
