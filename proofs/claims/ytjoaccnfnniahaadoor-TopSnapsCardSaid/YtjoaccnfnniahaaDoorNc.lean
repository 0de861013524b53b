/- Walks of functions over a symbolic memory, printed by a program of the session. -/
import Derived.Test.YtjoaccnfnniahaaDoorNb
namespace Go.Proofs.YtjoaccnfnniahaaDoor
open Go.Sy
set_option linter.unusedSimpArgs false
set_option linter.unusedVariables false

theorem takeN_ne {s t : ByteArray} {k : Nat} (h : ¬s = ⟨#[]⟩) (hk : (s.data.toList.getD 0 0).toNat = k) (ht : s.extract 1 s.size = t) : takeN s = if 8 < k ∨ (0 < k ∧ t ≠ ⟨#[]⟩ ∧ (t.data.toList.getD 0 0).toNat = 0) then (0, ⟨#[]⟩, 4) else if t.size < k then (0, ⟨#[]⟩, 3) else (valB (t.extract 0 k), t.extract k t.size, 0) := by
  subst hk ht; unfold takeN; rw [if_neg h]
theorem takeT_eq {s r : ByteArray} {n e : Int} (h : takeN s = (n, r, e)) : takeT s = if e = 0 then (if 65536 < n then (⟨#[]⟩, ⟨#[]⟩, 2) else if (r.size : Int) < n then (⟨#[]⟩, ⟨#[]⟩, 3) else (r.extract 0 n.toNat, r.extract n.toNat r.size, 0)) else (⟨#[]⟩, ⟨#[]⟩, e) := by
  unfold takeT; rw [h]

set_option maxHeartbeats 4000000 in
set_option maxRecDepth 20000 in
theorem TakeNumber_ok {I : Imm} {O : Own} {s : ByteArray} (hs : StrOk s) :
    Pure Tryd.prog 69 [.string s] I O (triN (takeN s)) := by
  have hs0 := hs
  unfold StrOk at hs0
  refine Go.Sy.Does.enter Tryd.func69 rfl Tryd.ntmps69 rfl ?_
  refine .seq <| .region <| .e (.assign rfl) rfl rfl <| .e (.assign rfl) rfl rfl <| .e (.assign rfl) rfl rfl <| .nil ?_
  refine .go <| .seq <| .seq <| .region <| .e (.move rfl) rfl rfl <| .e (.streq rfl rfl) rfl rfl ?_
  refine .nil <| .go ?_
  refine .split 7 rfl (fun h7 => ?_) (fun h7 => ?_)
  · skip
    replace h7 := of_decide_eq_true h7
    refine .cond_true rfl <| .seq <| .region <| .e (.assign rfl) rfl rfl <| .e (.assign rfl) rfl rfl <| .e (.assign rfl) rfl rfl ?_
    refine .nil <| .go <| .ret <| .ret ?_
    refine Post.retsE rfl (.tmp rfl (.tmp rfl (.tmp rfl .nil))) rfl (fun w h => h) ?_
    exact triN_eq (by unfold takeN; rw [if_pos h7])
  · skip
    replace h7 := of_decide_eq_false h7
    have hl0 := ne_len h7
    obtain ⟨k, hk⟩ : ∃ k : Nat, s.data.toList[0].toNat = k := ⟨_, rfl⟩
    have hk' : (s.data.toList.getD 0 0).toNat = k := by rw [hd_eq hl0]; exact hk
    have hk256 : k < 256 := by rw [← hk]; exact UInt8.toNat_lt _
    obtain ⟨t, ht⟩ : ∃ t, s.extract 1 s.size = t := ⟨_, rfl⟩
    have htz : t.size = s.size - 1 := by rw [← ht, ByteArray.size_extract]; omega
    have hl0' : 0 < s.size := by simpa using hl0
    refine .cond_false rfl <| .skip <| .go <| .seq <| .region <| .e (.move rfl) rfl rfl ?_
    refine .e ((EV.cast (.indexS (j := 0) Tryd.underlying9 rfl rfl rfl hl0) (congrArg (fun x : Nat => Value.int .u8 (x : Int)) hk))) rfl rfl <| .e ((EV.cast (.conv Tryd.underlying5 Tryd.underlying3 rfl) (congrArg (Value.int .i64) (IntWalk.i64_in ((k : Nat) : Int) (by omega))))) rfl rfl <| .e (.assign rfl) rfl rfl <| .nil <| .go <| .seq ?_
    refine .seq <| .region <| .e (.move rfl) rfl rfl <| .e ((EV.cast (.strL (l := 1) Tryd.underlying9 rfl rfl rfl (by omega)) (congrArg Value.string ht))) rfl rfl <| .e (.assign rfl) rfl rfl <| .nil ?_
    refine .go <| .block <| .seq <| .region <| .e (.move rfl) rfl rfl <| .e (.gtr rfl rfl) rfl rfl ?_
    refine .e (.move rfl) rfl rfl ?_
    refine .split 16 rfl (fun h16 => ?_) (fun h16 => ?_)
    · skip
      replace h16 := of_decide_eq_true h16
      refine .off rfl rfl <| .off rfl rfl <| .off rfl rfl <| .off rfl rfl <| .off rfl rfl <| .off rfl rfl ?_
      refine .off rfl rfl <| .off rfl rfl <| .off rfl rfl <| .off rfl rfl <| .off rfl rfl <| .e (.pickT rfl rfl) rfl rfl ?_
      refine .e (.assign rfl) rfl rfl <| .nil <| .go <| .cond_true rfl <| .seq <| .region ?_
      refine .e (.assign rfl) rfl rfl <| .e (.assign rfl) rfl rfl <| .e (.assign rfl) rfl rfl <| .nil <| .go <| .ret ?_
      refine .blk_ret <| .ret ?_
      refine Post.retsE rfl (.tmp rfl (.tmp rfl (.tmp rfl .nil))) rfl (fun w h => h) ?_
      exact triN_eq (by rw [takeN_ne h7 hk' ht]; rw [if_pos (.inl (by omega))])
    · skip
      replace h16 := of_decide_eq_false h16
      refine .e (.move rfl) rfl rfl <| .e (.gtr rfl rfl) rfl rfl <| .e (.move rfl) rfl rfl ?_
      refine .split 19 rfl (fun h19 => ?_) (fun h19 => ?_)
      · skip
        replace h19 := of_decide_eq_true h19
        refine .e (.move rfl) rfl rfl <| .e (.strne rfl rfl) rfl rfl <| .e (.pickT rfl rfl) rfl rfl <| .e (.move rfl) rfl rfl ?_
        refine .split 23 rfl (fun h23 => ?_) (fun h23 => ?_)
        · skip
          first | replace h23 := of_decide_eq_false ((Bool.not_eq_true' _).mp h23) | replace h23 := of_decide_eq_false (by simpa using h23)
          have hl1 := ne_len h23
          refine .e (.move rfl) rfl rfl <| .e ((.indexS (j := 0) Tryd.underlying9 rfl rfl rfl hl1)) rfl rfl <| .e (.eql rfl rfl) rfl rfl <| .e (.pickT rfl rfl) rfl rfl <| .e (.pickF rfl rfl) rfl rfl <| .e (.assign rfl) rfl rfl ?_
          refine .nil <| .go ?_
          refine .split 13 rfl (fun h13 => ?_) (fun h13 => ?_)
          · skip
            replace h13 := of_decide_eq_true h13
            refine .cond_true rfl <| .seq <| .region <| .e (.assign rfl) rfl rfl <| .e (.assign rfl) rfl rfl <| .e (.assign rfl) rfl rfl ?_
            refine .nil <| .go <| .ret <| .blk_ret <| .ret ?_
            refine Post.retsE rfl (.tmp rfl (.tmp rfl (.tmp rfl .nil))) rfl (fun w h => h) ?_
            exact triN_eq (by rw [takeN_ne h7 hk' ht]; rw [if_pos (.inr ⟨by omega, h23, by rw [hd_eq hl1]; omega⟩)])
          · skip
            replace h13 := of_decide_eq_false h13
            refine .cond_false rfl <| .seq <| .region <| .e (.move rfl) rfl rfl <| .e (.move rfl) rfl rfl <| .e (.lenS Tryd.underlying9 rfl rfl) rfl rfl ?_
            refine .e (.gtr rfl rfl) rfl rfl <| .e (.assign rfl) rfl rfl <| .nil <| .go ?_
            refine .split 29 rfl (fun h29 => ?_) (fun h29 => ?_)
            · skip
              replace h29 := of_decide_eq_true h29
              refine .cond_true rfl <| .seq <| .region <| .e (.assign rfl) rfl rfl <| .e (.assign rfl) rfl rfl <| .e (.assign rfl) rfl rfl ?_
              refine .nil <| .go <| .ret <| .blk_ret <| .ret ?_
              refine Post.retsE rfl (.tmp rfl (.tmp rfl (.tmp rfl .nil))) rfl (fun w h => h) ?_
              exact triN_eq (by rw [takeN_ne h7 hk' ht]; rw [if_neg (by rintro (ha | ⟨ha, hb, hc⟩) <;> first | omega | (rw [hd_eq hl1] at hc; omega)), if_pos (by omega)])
            · skip
              replace h29 := of_decide_eq_false h29
              refine .cond_false rfl <| .skip <| .blk_normal <| .go <| .seq ?_
              refine .draw [] mixed .nil ?_
              refine .t 0 rfl (.move rfl) rfl rfl (by kernel_rfl) <| .t 1 rfl (.move rfl) rfl rfl (by kernel_rfl) <| .t 2 rfl ((.strH (h := k) Tryd.underlying9 rfl rfl rfl (by omega))) rfl rfl (by kernel_rfl) <| .t 4 rfl (.move rfl) rfl rfl (by kernel_rfl) <| .t 5 rfl (.move rfl) rfl rfl (by kernel_rfl) <| .t 6 rfl ((.strL (l := k) Tryd.underlying9 rfl rfl rfl (by omega))) rfl rfl (by kernel_rfl) ?_
              refine .one (i := 3) (by kernel_rfl) rfl rfl <| .callP cal43 rfl rfl rfl (value_ok (s := t.extract 0 k) (by unfold StrOk; rw [ByteArray.size_extract]; omega)) ?_
              refine ⟨.nil, Imm.le_refl _, ?_⟩
              refine .t 7 rfl (.assign rfl) rfl rfl (by kernel_rfl) <| .t 8 rfl (.assign rfl) rfl rfl (by kernel_rfl) <| .t 9 rfl (.assign rfl) rfl rfl (by kernel_rfl) <| .done (by kernel_rfl) <| .go <| .ret ?_
              refine Post.retsE rfl (.tmp rfl (.tmp rfl (.tmp rfl .nil))) rfl (fun w h => h) ?_
              exact triN_eq (by rw [takeN_ne h7 hk' ht]; rw [if_neg (by rintro (ha | ⟨ha, hb, hc⟩) <;> first | omega | (rw [hd_eq hl1] at hc; omega)), if_neg (by omega)])
        · skip
          first | replace h23 := of_decide_eq_true ((Bool.not_eq_false' _).mp h23) | replace h23 := of_decide_eq_true (by simpa using h23)
          refine .off rfl rfl <| .off rfl rfl <| .off rfl rfl <| .e (.pickF rfl rfl) rfl rfl <| .e (.pickF rfl rfl) rfl rfl <| .e (.assign rfl) rfl rfl ?_
          refine .nil <| .go <| .cond_false rfl <| .seq <| .region <| .e (.move rfl) rfl rfl ?_
          refine .e (.move rfl) rfl rfl <| .e (.lenS Tryd.underlying9 rfl rfl) rfl rfl <| .e (.gtr rfl rfl) rfl rfl <| .e (.assign rfl) rfl rfl <| .nil <| .go ?_
          refine .split 29 rfl (fun h29 => ?_) (fun h29 => ?_)
          · skip
            replace h29 := of_decide_eq_true h29
            refine .cond_true rfl <| .seq <| .region <| .e (.assign rfl) rfl rfl <| .e (.assign rfl) rfl rfl <| .e (.assign rfl) rfl rfl ?_
            refine .nil <| .go <| .ret <| .blk_ret <| .ret ?_
            refine Post.retsE rfl (.tmp rfl (.tmp rfl (.tmp rfl .nil))) rfl (fun w h => h) ?_
            exact triN_eq (by rw [takeN_ne h7 hk' ht]; rw [if_neg (by rintro (ha | ⟨ha, hb, hc⟩) <;> first | omega | exact hb h23), if_pos (by omega)])
          · skip
            replace h29 := of_decide_eq_false h29
            refine .cond_false rfl <| .skip <| .blk_normal <| .go <| .seq ?_
            refine .draw [] mixed .nil ?_
            refine .t 0 rfl (.move rfl) rfl rfl (by kernel_rfl) <| .t 1 rfl (.move rfl) rfl rfl (by kernel_rfl) <| .t 2 rfl ((.strH (h := k) Tryd.underlying9 rfl rfl rfl (by omega))) rfl rfl (by kernel_rfl) <| .t 4 rfl (.move rfl) rfl rfl (by kernel_rfl) <| .t 5 rfl (.move rfl) rfl rfl (by kernel_rfl) <| .t 6 rfl ((.strL (l := k) Tryd.underlying9 rfl rfl rfl (by omega))) rfl rfl (by kernel_rfl) ?_
            refine .one (i := 3) (by kernel_rfl) rfl rfl <| .callP cal43 rfl rfl rfl (value_ok (s := t.extract 0 k) (by unfold StrOk; rw [ByteArray.size_extract]; omega)) ?_
            refine ⟨.nil, Imm.le_refl _, ?_⟩
            refine .t 7 rfl (.assign rfl) rfl rfl (by kernel_rfl) <| .t 8 rfl (.assign rfl) rfl rfl (by kernel_rfl) <| .t 9 rfl (.assign rfl) rfl rfl (by kernel_rfl) <| .done (by kernel_rfl) <| .go <| .ret ?_
            refine Post.retsE rfl (.tmp rfl (.tmp rfl (.tmp rfl .nil))) rfl (fun w h => h) ?_
            exact triN_eq (by rw [takeN_ne h7 hk' ht]; rw [if_neg (by rintro (ha | ⟨ha, hb, hc⟩) <;> first | omega | exact hb h23), if_neg (by omega)])
      · skip
        replace h19 := of_decide_eq_false h19
        refine .off rfl rfl <| .off rfl rfl <| .e (.pickF rfl rfl) rfl rfl <| .e (.move rfl) rfl rfl <| .off rfl rfl <| .off rfl rfl ?_
        refine .off rfl rfl <| .e (.pickF rfl rfl) rfl rfl <| .e (.pickF rfl rfl) rfl rfl <| .e (.assign rfl) rfl rfl <| .nil <| .go ?_
        refine .cond_false rfl <| .seq <| .region <| .e (.move rfl) rfl rfl <| .e (.move rfl) rfl rfl <| .e (.lenS Tryd.underlying9 rfl rfl) rfl rfl ?_
        refine .e (.gtr rfl rfl) rfl rfl <| .e (.assign rfl) rfl rfl <| .nil <| .go ?_
        refine .split 29 rfl (fun h29 => ?_) (fun h29 => ?_)
        · skip
          replace h29 := of_decide_eq_true h29
          refine .cond_true rfl <| .seq <| .region <| .e (.assign rfl) rfl rfl <| .e (.assign rfl) rfl rfl <| .e (.assign rfl) rfl rfl ?_
          refine .nil <| .go <| .ret <| .blk_ret <| .ret ?_
          refine Post.retsE rfl (.tmp rfl (.tmp rfl (.tmp rfl .nil))) rfl (fun w h => h) ?_
          exact triN_eq (by rw [takeN_ne h7 hk' ht]; rw [if_neg (by rintro (ha | ⟨ha, hb, hc⟩) <;> omega), if_pos (by omega)])
        · skip
          replace h29 := of_decide_eq_false h29
          refine .cond_false rfl <| .skip <| .blk_normal <| .go <| .seq ?_
          refine .draw [] mixed .nil ?_
          refine .t 0 rfl (.move rfl) rfl rfl (by kernel_rfl) <| .t 1 rfl (.move rfl) rfl rfl (by kernel_rfl) <| .t 2 rfl ((.strH (h := k) Tryd.underlying9 rfl rfl rfl (by omega))) rfl rfl (by kernel_rfl) <| .t 4 rfl (.move rfl) rfl rfl (by kernel_rfl) <| .t 5 rfl (.move rfl) rfl rfl (by kernel_rfl) <| .t 6 rfl ((.strL (l := k) Tryd.underlying9 rfl rfl rfl (by omega))) rfl rfl (by kernel_rfl) ?_
          refine .one (i := 3) (by kernel_rfl) rfl rfl <| .callP cal43 rfl rfl rfl (value_ok (s := t.extract 0 k) (by unfold StrOk; rw [ByteArray.size_extract]; omega)) ?_
          refine ⟨.nil, Imm.le_refl _, ?_⟩
          refine .t 7 rfl (.assign rfl) rfl rfl (by kernel_rfl) <| .t 8 rfl (.assign rfl) rfl rfl (by kernel_rfl) <| .t 9 rfl (.assign rfl) rfl rfl (by kernel_rfl) <| .done (by kernel_rfl) <| .go <| .ret ?_
          refine Post.retsE rfl (.tmp rfl (.tmp rfl (.tmp rfl .nil))) rfl (fun w h => h) ?_
          exact triN_eq (by rw [takeN_ne h7 hk' ht]; rw [if_neg (by rintro (ha | ⟨ha, hb, hc⟩) <;> omega), if_neg (by omega)])

set_option maxHeartbeats 4000000 in
set_option maxRecDepth 20000 in
theorem TakeText_ok {I : Imm} {O : Own} {s : ByteArray} (hs : StrOk s) :
    Pure Tryd.prog 70 [.string s] I O (trio (takeT s)) := by
  have hs0 := hs
  unfold StrOk at hs0
  have hnz := takeN_u64 s
  have hrz := takeN_size s
  obtain ⟨n, r, e, hT⟩ : ∃ n r e, takeN s = (n, r, e) := ⟨_, _, _, rfl⟩
  rw [hT] at hnz hrz
  dsimp only at hnz hrz
  refine Go.Sy.Does.enter Tryd.func70 rfl Tryd.ntmps70 rfl ?_
  refine .seq <| .region <| .e (.assign rfl) rfl rfl <| .e (.assign rfl) rfl rfl <| .e (.assign rfl) rfl rfl <| .nil ?_
  refine .go <| .seq <| .region <| .e (.move rfl) rfl rfl <| .on rfl <| .callP cal69 rfl rfl rfl ((TakeNumber_ok hs).cast (congrArg triN hT)) <| .e (.move rfl) rfl rfl ?_
  refine .e (.extract rfl rfl) rfl rfl <| .e (.extract rfl rfl) rfl rfl <| .e (.extract rfl rfl) rfl rfl <| .e (.assign rfl) rfl rfl <| .e (.assign rfl) rfl rfl <| .e (.assign rfl) rfl rfl ?_
  refine .nil <| .go <| .seq <| .block <| .seq <| .region ?_
  refine .e (.move rfl) rfl rfl <| .e (.neq rfl rfl) rfl rfl <| .e (.assign rfl) rfl rfl <| .nil <| .go ?_
  refine .split 14 rfl (fun h14 => ?_) (fun h14 => ?_)
  · skip
    first | replace h14 := of_decide_eq_false ((Bool.not_eq_true' _).mp h14) | replace h14 := of_decide_eq_false (by simpa using h14)
    refine .cond_true rfl <| .seq <| .region <| .e (.move rfl) rfl rfl <| .e (.assign rfl) rfl rfl <| .e (.assign rfl) rfl rfl ?_
    refine .e (.assign rfl) rfl rfl <| .nil <| .go <| .ret <| .blk_ret <| .ret ?_
    refine Post.retsE rfl (.tmp rfl (.tmp rfl (.tmp rfl .nil))) rfl (fun w h => h) ?_
    exact trio_eq (by rw [takeT_eq hT]; rw [if_neg h14])
  · skip
    first | replace h14 := of_decide_eq_true ((Bool.not_eq_false' _).mp h14) | replace h14 := of_decide_eq_true (by simpa using h14)
    refine .cond_false rfl <| .seq <| .region <| .e (.move rfl) rfl rfl <| .e (.gtr rfl rfl) rfl rfl <| .e (.assign rfl) rfl rfl ?_
    refine .nil <| .go ?_
    refine .split 18 rfl (fun h18 => ?_) (fun h18 => ?_)
    · skip
      replace h18 := of_decide_eq_true h18
      refine .cond_true rfl <| .seq <| .region <| .e (.assign rfl) rfl rfl <| .e (.assign rfl) rfl rfl <| .e (.assign rfl) rfl rfl ?_
      refine .nil <| .go <| .ret <| .blk_ret <| .ret ?_
      refine Post.retsE rfl (.tmp rfl (.tmp rfl (.tmp rfl .nil))) rfl (fun w h => h) ?_
      exact trio_eq (by rw [takeT_eq hT]; rw [if_pos h14, if_pos h18])
    · skip
      replace h18 := of_decide_eq_false h18
      refine .cond_false rfl <| .seq <| .region <| .e (.move rfl) rfl rfl <| .e (.move rfl) rfl rfl <| .e (.lenS Tryd.underlying9 rfl rfl) rfl rfl ?_
      refine .e ((EV.cast (.conv Tryd.underlying3 Tryd.underlying28 rfl) (congrArg (Value.int .u64) (IntWalk.u64_in ((r.size : Nat) : Int) (by omega))))) rfl rfl <| .e (.gtr rfl rfl) rfl rfl <| .e (.assign rfl) rfl rfl <| .nil <| .go ?_
      refine .split 21 rfl (fun h21 => ?_) (fun h21 => ?_)
      · skip
        replace h21 := of_decide_eq_true h21
        refine .cond_true rfl <| .seq <| .region <| .e (.assign rfl) rfl rfl <| .e (.assign rfl) rfl rfl <| .e (.assign rfl) rfl rfl ?_
        refine .nil <| .go <| .ret <| .blk_ret <| .ret ?_
        refine Post.retsE rfl (.tmp rfl (.tmp rfl (.tmp rfl .nil))) rfl (fun w h => h) ?_
        exact trio_eq (by rw [takeT_eq hT]; rw [if_pos h14, if_neg h18, if_pos h21])
      · skip
        replace h21 := of_decide_eq_false h21
        refine .cond_false rfl <| .skip <| .blk_normal <| .go <| .seq ?_
        refine .draw [] mixed .nil ?_
        refine .t 0 rfl (.move rfl) rfl rfl (by kernel_rfl) <| .t 1 rfl (.move rfl) rfl rfl (by kernel_rfl) <| .t 2 rfl ((.strH (h := n.toNat) Tryd.underlying9 rfl rfl (by omega) (by show n.toNat ≤ r.size; omega))) rfl rfl (by kernel_rfl) <| .t 3 rfl (.move rfl) rfl rfl (by kernel_rfl) <| .t 4 rfl (.move rfl) rfl rfl (by kernel_rfl) <| .t 5 rfl ((.strL (l := n.toNat) Tryd.underlying9 rfl rfl (by omega) (by show n.toNat ≤ r.size; omega))) rfl rfl (by kernel_rfl) ?_
        refine .t 6 rfl (.assign rfl) rfl rfl (by kernel_rfl) <| .t 7 rfl (.assign rfl) rfl rfl (by kernel_rfl) <| .t 8 rfl (.assign rfl) rfl rfl (by kernel_rfl) <| .done (by kernel_rfl) <| .go <| .ret ?_
        refine Post.retsE rfl (.tmp rfl (.tmp rfl (.tmp rfl .nil))) rfl (fun w h => h) ?_
        exact trio_eq (by rw [takeT_eq hT]; rw [if_pos h14, if_neg h18, if_neg h21])

end Go.Proofs.YtjoaccnfnniahaaDoor
