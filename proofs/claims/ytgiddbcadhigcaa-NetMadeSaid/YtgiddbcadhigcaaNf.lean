/- Walks of functions over a symbolic memory, printed by a program of the session. -/
import Derived.Test.YtgiddbcadhigcaaNe
namespace Go.Proofs.Ytgiddbcadhigcaa
open Go.Sy
set_option linter.unusedSimpArgs false
set_option linter.unusedVariables false

theorem send_bad {n l : List Pkt} (h : ¬(sendR n l).2.2 = 0) : (sendR n l).1 = [] ∧ (sendR n l).2.1 = 0 := by
  unfold sendR at *
  split at h
  · exact absurd rfl h
  · rename_i h1; rw [if_neg h1]; exact ⟨rfl, rfl⟩
structure SendLaw (n l m : List Pkt) (a : Int) : Prop where
  len : (m.length : Int) = (n.length : Int) + a
  le : ¬(l.length : Int) < a
  pos : 0 ≤ a
  ok : netOk m = true
  mem : ∀ p ∈ m, p ∈ n ∨ p ∈ l
theorem send_law {n l : List Pkt} (h : (sendR n l).2.2 = 0) : SendLaw n l (sendR n l).1 (sendR n l).2.1 := by
  by_cases h1 : netOk n = true
  · have e : sendR n l = (n ++ sendP n l, ((sendP n l).length : Int), 0) := by unfold sendR; rw [if_pos h1]
    rw [e]
    have h2 := netOk_len h1
    have h3 : n.all rightP = true := by unfold netOk at h1; rw [Bool.and_eq_true] at h1; exact h1.2
    have h4 : (sendP n l).length ≤ 4096 - n.length := by unfold sendP; rw [List.length_take]; omega
    have h5 : (sendP n l).length ≤ l.length := by unfold sendP; have := List.length_filter_le rightP l; rw [List.length_take]; omega
    refine ⟨by dsimp only; rw [List.length_append]; omega, by dsimp only; omega, by dsimp only; omega, ?_, fun p hp => ?_⟩
    · dsimp only
      unfold netOk
      rw [decide_eq_true (show (n ++ sendP n l).length ≤ 4096 by rw [List.length_append]; omega), List.all_append, h3]
      simp only [Bool.true_and]
      exact List.all_eq_true.2 fun p hp => (List.mem_filter.1 (List.mem_of_mem_take hp)).2
    · rcases List.mem_append.1 hp with hp | hp
      · exact .inl hp
      · exact .inr (List.mem_filter.1 (List.mem_of_mem_take hp)).1
  · unfold sendR at h; rw [if_neg h1] at h; cases h
structure GiveLaw (m o t : List Pkt) (p : Pkt) (tw : Int) : Prop where
  cnt_ : (cnt m p : Int) = (cnt o p : Int) + 1
  len : (o.length : Int) = (m.length : Int) - 1
  ok : netOk o = true
  mem : ∀ q ∈ o, q ∈ m
  own : p ∈ m
  twice : tw = 0 → (cnt t p : Int) = (cnt m p : Int) + 1 ∧ (t.length : Int) = (m.length : Int) + 1
theorem cnt_append {a b : List Pkt} {p : Pkt} : cnt (a ++ b) p = cnt a p + cnt b p := by unfold cnt; rw [List.filter_append, List.length_append]
theorem cnt_self {p : Pkt} : cnt [p] p = 1 := by unfold cnt; simp
theorem give_law {m : List Pkt} {i : Int} (h : (giveR m i).2.2 = 0) : GiveLaw m (giveR m i).1 (twiceR m i).1 (giveR m i).2.1 (twiceR m i).2 := by
  by_cases h1 : netOk m = true
  · by_cases h2 : i < 0 ∨ (m.length : Int) ≤ i
    · unfold giveR at h; rw [if_pos h1, if_pos h2] at h; cases h
    · obtain ⟨j, hj⟩ : ∃ j : Nat, i = (j : Int) := ⟨i.toNat, by omega⟩
      have hjn : j < m.length := by omega
      have hw : netWhy m = 0 := by unfold netWhy; rw [if_pos h1]
      rw [giveR_in hw hj hjn]
      have e : m = m.take j ++ (m[j] :: m.drop (j + 1)) := by rw [← List.drop_eq_getElem_cons hjn, List.take_append_drop]
      have hc : cnt m m[j] = cnt (m.take j) m[j] + (1 + cnt (m.drop (j + 1)) m[j]) := by
        have e2 : cnt m m[j] = cnt (m.take j ++ ([m[j]] ++ m.drop (j + 1))) m[j] := congrArg (fun x => cnt x m[j]) e
        rw [e2, cnt_append, cnt_append, cnt_self]
      refine ⟨by dsimp only; rw [cnt_append, hc]; omega, by dsimp only; rw [List.length_append, List.length_take, List.length_drop]; omega, ?_, fun q hq => ?_, List.getElem_mem hjn, fun ht => ?_⟩
      · dsimp only
        have h3 : m.all rightP = true := by unfold netOk at h1; rw [Bool.and_eq_true] at h1; exact h1.2
        have h4 := netOk_len h1
        unfold netOk
        rw [decide_eq_true (show (m.take j ++ m.drop (j + 1)).length ≤ 4096 by rw [List.length_append, List.length_take, List.length_drop]; omega)]
        simp only [Bool.true_and]
        refine List.all_eq_true.2 fun q hq => List.all_eq_true.1 h3 q ?_
        rcases List.mem_append.1 hq with hq | hq
        · exact List.mem_of_mem_take hq
        · exact List.mem_of_mem_drop hq
      · rcases List.mem_append.1 hq with hq | hq
        · exact List.mem_of_mem_take hq
        · exact List.mem_of_mem_drop hq
      · by_cases h5 : (4096 : Int) ≤ m.length
        · rw [twiceR_full hw h2 h5] at ht; cases ht
        · rw [twiceR_in hw hj hjn h5]
          exact ⟨by dsimp only; rw [cnt_append, cnt_self]; omega, by dsimp only; rw [List.length_append]; simp⟩
  · unfold giveR at h; rw [if_neg h1] at h; cases h
theorem cnt_pos {l : List Pkt} {p : Pkt} (h : p ∈ l) : 0 < cnt l p := by
  unfold cnt
  exact List.length_pos_of_mem (List.mem_filter.2 ⟨h, by simp⟩)
theorem why0 {m : List Pkt} (h : netOk m = true) : netWhy m = 0 := by unfold netWhy; rw [if_pos h]

set_option maxHeartbeats 8000000 in
set_option maxRecDepth 20000 in
theorem NetMade_ok {I : Imm} {O : Own} {cs : List Value} {n : List Pkt} (hn : NetR I cs n) {v u : Value} {l : List Pkt} (hl : PktsR I v l) {xs : List Int} (hx : IntsR I u xs) (hL : l.length * 32 ≤ 140737488351232) :
    Pure Try.prog 4 [.agg ⟨cs⟩, v, u] I O (.bool true) := by
  have hn0' := hn
  obtain ⟨nv, rfl, hnv⟩ := hn
  have hn0 := hnv
  obtain ⟨na, ncap, rfl, hn1, hn2, -⟩ := hnv
  have hl0 := hl
  obtain ⟨la, lcap, rfl, hl1, hl2, -⟩ := hl
  have hx0 := hx
  obtain ⟨xa, xcap, rfl, hxx1, hxx2, -⟩ := hx
  refine Go.Sy.Does.enter Try.func4 rfl Try.ntmps4 rfl ?_
  refine .seq <| .region <| .on rfl <| .box rfl rfl rfl fun c1 _ _ => .e (.assign rfl) rfl rfl <| .nil <| .go ?_
  refine .seq <| .seq <| .region <| .on rfl <| .callP cal12 rfl rfl rfl (lives_ok) <| .e (.not rfl) rfl rfl <| .nil ?_
  refine .go <| .cond_false rfl <| .skip <| .go <| .seq <| .region ?_
  refine .e (.loadW ag24 sz24 rfl .here rfl) rfl rfl <| .e (.move rfl) rfl rfl <| .on rfl <| .call cal8 rfl rfl rfl (sendF hn0' hl0) fun v22 I22 O22 hI22 hK22 => ?_
  obtain ⟨rfl, v22, rfl, hp22⟩ := hK22
  have hp22' := hp22
  obtain ⟨a22, q22, rfl, -⟩ := hp22'
  refine .e (.move rfl) rfl rfl <| .e (.extract rfl rfl) rfl rfl <| .e (.extract rfl rfl) rfl rfl <| .e (.extract rfl rfl) rfl rfl <| .on rfl <| .alloc zr24 rfl fun c2 _ _ => .on rfl <| .storeW sz24 rfl rfl rfl rfl rfl rfl .here ?_
  refine .e (.assign rfl) rfl rfl <| .e (.assign rfl) rfl rfl <| .nil <| .go <| .seq <| .seq ?_
  refine .region <| .e (.move rfl) rfl rfl <| .e (.neq rfl rfl) rfl rfl <| .nil <| .go ?_
  refine .split 27 rfl (fun h27 => ?_) (fun h27 => ?_)
  · skip
    first | replace h27 := of_decide_eq_false ((Bool.not_eq_true' _).mp h27) | replace h27 := of_decide_eq_false (by simpa using h27)
    refine .cond_true rfl <| .seq <| .region <| .e (.move rfl) rfl rfl <| .e ((EV.cast (u := .bool true) (.eql rfl rfl) (congrArg Value.bool (decide_eq_true (send_bad h27).2)))) rfl rfl <| .e (.move rfl) rfl rfl ?_
    refine .e (.fieldAddr fo24_0 rfl) rfl rfl <| .e (.load ag22 rfl .here rfl) rfl rfl <| .e (.len sl22 rfl rfl) rfl rfl <| .e ((EV.cast (u := .bool true) (.eql rfl rfl) (congrArg Value.bool (decide_eq_true (by rw [(send_bad h27).1]; rfl))))) rfl rfl <| .e (.pickT rfl rfl) rfl rfl <| .e (.assign rfl) rfl rfl ?_
    refine .nil <| .go <| .ret <| .ret ?_
    refine .tail <| .tail ?_
    refine .back hI22 ?_
    refine Post.retE rfl rfl ?_
    rfl
  · skip
    first | replace h27 := of_decide_eq_true ((Bool.not_eq_false' _).mp h27) | replace h27 := of_decide_eq_true (by simpa using h27)
    have hsl := send_law h27
    have hsp1 := hsl.pos
    have hsp2 := hsl.len
    have hsp3 := netOk_len hsl.ok
    refine .cond_false rfl <| .skip <| .go <| .seq <| .seq <| .region ?_
    refine .e (.fieldAddr fo24_0 rfl) rfl rfl <| .e (.load ag22 rfl .here rfl) rfl rfl <| .e (.len sl22 rfl rfl) rfl rfl <| .e (.fieldAddr fo24_0 rfl) rfl rfl <| .e (.load ag22 rfl (.there <| .here) rfl) rfl rfl <| .e (.len sl22 rfl rfl) rfl rfl ?_
    refine .e (.move rfl) rfl rfl <| .e (.add rfl rfl (IntWalk.i64_in _ (by omega))) rfl rfl <| .e ((EV.cast (u := .bool false) (.neq rfl rfl) (congrArg Value.bool (by rw [decide_eq_true (by omega)]; rfl)))) rfl rfl <| .e (.move rfl) rfl rfl <| .e (.move rfl) rfl rfl <| .e (.move rfl) rfl rfl ?_
    refine .e (.len sl22 rfl rfl) rfl rfl <| .e ((EV.cast (u := .bool false) (.gtr rfl rfl) (congrArg Value.bool (decide_eq_false hsl.le)))) rfl rfl <| .e (.pickF rfl rfl) rfl rfl <| .nil <| .go <| .cond_false rfl ?_
    refine .skip <| .go <| .seq <| .seq <| .region <| .e (.move rfl) rfl rfl ?_
    refine .e (.len sl41 rfl rfl) rfl rfl <| .e (.move rfl) rfl rfl <| .nil <| .go <| .block ?_
    refine .loopM [6, 10, 11, 12, 13, 14, 15, 16, 53, 54, 55, 56, 57, 58, 59, 60, 61, 62, 63, 64, 65, 66, 67, 68, 69, 70, 71, 72, 73, 74, 75, 76, 77, 78, 79, 80, 81, 82, 83, 84, 85, 86, 87, 88, 89, 90, 91, 92, 93, 94, 95, 96, 97, 98, 99, 100, 101, 102, 103, 104, 105, 106, 107, 108, 109, 110, 111, 112, 113, 114, 115, 116, 117, 118, 119, 120, 121, 122, 123, 124, 125, 126, 127, 128, 129, 130, 131] (fun s => xs.length - s.1) (fun s => s.1 ≤ xs.length ∧ PktsR s.2.2.2 s.2.2.1 s.2.1 ∧ I.le s.2.2.2 ∧ netOk s.2.1 = true ∧ ∀ p ∈ s.2.1, p ∈ n ∨ p ∈ l) (fun s => [(53, .int .i64 s.1)]) (fun s => s.2.2.2) (fun s => (c2, .cells ⟨[s.2.2.1]⟩ 24 (0, 0)) :: (c1, .cells ⟨[.slice na n.length ncap]⟩ 24 (0, 0)) :: O) (((0, (sendR n l).1, _, I22) : Nat × List Pkt × Value × Imm)) ⟨Nat.zero_le _, hp22, hI22, hsl.ok, hsl.mem⟩ ⟨rfl, trivial⟩ rfl rfl ?_
    intro ⟨k, m, vm, J⟩ hk
    dsimp only at hk ⊢
    obtain ⟨hk, hvm, hJ, hok, hmem⟩ := hk
    have hvm' := hvm
    obtain ⟨am, qm, rfl, -⟩ := hvm'
    have hml := netOk_len hok
    have hxJ := hx0.mono hJ
    refine .seq <| .region <| .e (.lss rfl rfl) rfl rfl <| .nil <| .go <| .seq ?_
    refine .split 54 rfl (fun h54 => ?_) (fun h54 => ?_)
    · skip
      replace h54 := of_decide_eq_true h54
      refine .cond_true rfl <| .skip <| .go <| .seq <| .block <| .seq ?_
      refine .region <| .e (.move rfl) rfl rfl ?_
      obtain ⟨eb56, eo56, cs56, hd56, hat56, hr56⟩ := SlR.at_ hxJ (k := k) (by omega)
      cases hd56
      obtain ⟨e56, hix⟩ := hr56
      obtain ⟨x, hxe⟩ : ∃ x, xs[k] = x := ⟨_, rfl⟩
      rw [hxe] at hix e56
      subst e56
      refine .e (.indexAddrL sl41 rfl rfl rfl (by omega)) rfl rfl <| .e (.loadI ag3 rfl (hat56.cell (j := 0) rfl)) rfl rfl <| .e (.assign rfl) rfl rfl <| .e (.assign rfl) rfl rfl <| .nil <| .go ?_
      refine .seq <| .seq <| .region <| .e (.move rfl) rfl rfl <| .e (.eql rfl rfl) rfl rfl <| .nil ?_
      refine .go ?_
      refine .split 59 rfl (fun h59 => ?_) (fun h59 => ?_)
      · skip
        replace h59 := of_decide_eq_true h59
        refine .cond_true rfl <| .exit <| .exit <| .blk_other rfl <| .exit <| .exit ?_
        refine .blk_exit <| .go <| .seq <| .region <| .e (.loadW ag24 sz24 rfl .here rfl) rfl rfl <| .on rfl <| .callP cal18 rfl rfl rfl ((nCheck_ok (netMk hvm)).cast (congrArg (Value.int .i64) (why0 hok))) ?_
        refine .e (.eql rfl rfl) rfl rfl <| .e (.assign rfl) rfl rfl <| .nil <| .go <| .ret ?_
        refine .tail <| .tail ?_
        refine .back hJ ?_
        refine Post.retE rfl rfl ?_
        rfl
      · skip
        replace h59 := of_decide_eq_false h59
        refine .cond_false rfl <| .skip <| .go <| .seq <| .region <| .e (.loadW ag24 sz24 rfl .here rfl) rfl rfl ?_
        refine .e (.move rfl) rfl rfl <| .on rfl <| .call cal10 rfl rfl rfl (giveF (netMk hvm) hix) fun v63 I63 O63 hI63 hK63 => ?_
        obtain ⟨rfl, v63, rfl, hX63, hp63⟩ := hK63
        have hp63' := hp63
        obtain ⟨a63, q63, rfl, -⟩ := hp63'
        refine .e (.move rfl) rfl rfl <| .e (.extract rfl rfl) rfl rfl <| .e (.extract rfl rfl) rfl rfl <| .e (.extract rfl rfl) rfl rfl <| .on rfl <| .alloc zr24 rfl fun c3 _ _ => .on rfl <| .alloc zr30 rfl fun c4 _ _ => ?_
        refine .on rfl <| .storeW sz24 rfl rfl rfl rfl rfl rfl (.there <| .here) <| .on rfl <| .storeW sz30 rfl rfl rfl rfl rfl rfl .here <| .e (.assign rfl) rfl rfl <| .nil <| .go <| .seq ?_
        refine .seq <| .region <| .e (.move rfl) rfl rfl <| .e (.neq rfl rfl) rfl rfl <| .nil <| .go ?_
        refine .split 68 rfl (fun h68 => ?_) (fun h68 => ?_)
        · skip
          first | replace h68 := of_decide_eq_false ((Bool.not_eq_true' _).mp h68) | replace h68 := of_decide_eq_false (by simpa using h68)
          refine .cond_true rfl <| .exit <| .exit <| .blk_exit <| .go <| .region ?_
          refine .e (.add rfl rfl (by first | exact wrap_succ (by omega) | exact IntWalk.i64_in _ (by omega) | exact rfl)) rfl rfl <| .e (.move rfl) rfl rfl <| .nil ?_
          refine .tail ?_
          refine .tail ?_
          exact .mid ((k + 1, m, _, I63)) ⟨by dsimp only; omega, by dsimp only; omega, (hvm.mono hI63), (Imm.le_trans hJ hI63), hok, hmem⟩ ⟨rfl, trivial⟩ rfl rfl (.pre 25 rfl (.app rfl .base))
        · skip
          first | replace h68 := of_decide_eq_true ((Bool.not_eq_false' _).mp h68) | replace h68 := of_decide_eq_true (by simpa using h68)
          have hgl := give_law h68
          have hg1 := hgl.cnt_
          have hg2 := hgl.len
          have hg3 := hmem _ hgl.own
          have hc1 := cnt_le (l := m) (p := (giveR m x).2.1)
          have hc2 := cnt_le (l := (giveR m x).1) (p := (giveR m x).2.1)
          have hc3 := cnt_le (l := n) (p := (giveR m x).2.1)
          have hc4 := cnt_le (l := l) (p := (giveR m x).2.1)
          have hpos : 0 < cnt n (giveR m x).2.1 + cnt l (giveR m x).2.1 := by rcases hg3 with h | h <;> have := cnt_pos h <;> omega
          refine .cond_false rfl <| .skip <| .go <| .seq <| .seq ?_
          refine .draw [(c2, _), (c4, _), (c3, _), (c1, _)] mixed (.cons (.there <| .there <| .here) (.cons .here (.cons (.there <| .here) (.cons (.there <| .there <| .there <| .here) .nil)))) ?_
          refine .t 0 rfl (.fieldAddr fo24_0 rfl) rfl rfl (by kernel_rfl) <| .t 1 rfl (.load ag22 rfl .here rfl) rfl rfl (by kernel_rfl) <| .t 2 rfl (.loadW ag30 sz30 rfl (.there <| .here) rfl) rfl rfl (by kernel_rfl) <| .t 4 rfl (.fieldAddr fo24_0 rfl) rfl rfl (by kernel_rfl) <| .t 5 rfl (.load ag22 rfl (.there <| .there <| .here) rfl) rfl rfl (by kernel_rfl) <| .t 6 rfl (.loadW ag30 sz30 rfl (.there <| .here) rfl) rfl rfl (by kernel_rfl) ?_
          refine .one (i := 3) (by kernel_rfl) rfl rfl <| .callP cal20 rfl rfl rfl (count_ok (hvm.mono hI63) hX63) ?_
          refine ⟨(.cons (.there <| .there <| .here) (.cons .here (.cons (.there <| .here) (.cons (.there <| .there <| .there <| .here) .nil)))), Imm.le_refl _, ?_⟩
          refine .one (i := 7) (by kernel_rfl) rfl rfl <| .callP cal20 rfl rfl rfl (count_ok hp63 hX63) ?_
          refine ⟨(.cons (.there <| .there <| .here) (.cons .here (.cons (.there <| .here) (.cons (.there <| .there <| .there <| .here) .nil)))), Imm.le_refl _, ?_⟩
          refine .t 8 rfl (.add rfl rfl (wrap_succ (by omega))) rfl rfl (by kernel_rfl) <| .t 9 rfl ((EV.cast (u := .bool false) (.neq rfl rfl) (congrArg Value.bool (by rw [decide_eq_true (by omega)]; rfl)))) rfl rfl (by kernel_rfl) <| .t 10 rfl (.move rfl) rfl rfl (by kernel_rfl) <| .t 11 rfl (.fieldAddr fo24_0 rfl) rfl rfl (by kernel_rfl) <| .t 12 rfl (.load ag22 rfl (.there <| .there <| .here) rfl) rfl rfl (by kernel_rfl) <| .t 13 rfl (.len sl22 rfl rfl) rfl rfl (by kernel_rfl) ?_
          refine .t 14 rfl (.fieldAddr fo24_0 rfl) rfl rfl (by kernel_rfl) <| .t 15 rfl (.load ag22 rfl .here rfl) rfl rfl (by kernel_rfl) <| .t 16 rfl (.len sl22 rfl rfl) rfl rfl (by kernel_rfl) <| .t 17 rfl (.sub rfl rfl (IntWalk.i64_in _ (by omega))) rfl rfl (by kernel_rfl) <| .t 18 rfl ((EV.cast (u := .bool false) (.neq rfl rfl) (congrArg Value.bool (by rw [decide_eq_true (by omega)]; rfl)))) rfl rfl (by kernel_rfl) <| .t 19 rfl (.pickF rfl rfl) rfl rfl (by kernel_rfl) ?_
          refine .t 20 rfl (.move rfl) rfl rfl (by kernel_rfl) <| .t 21 rfl (.fieldAddr fo24_0 rfl) rfl rfl (by kernel_rfl) <| .t 22 rfl (.load ag22 rfl (.there <| .there <| .there <| .here) rfl) rfl rfl (by kernel_rfl) <| .t 23 rfl (.loadW ag30 sz30 rfl (.there <| .here) rfl) rfl rfl (by kernel_rfl) <| .t 25 rfl (.move rfl) rfl rfl (by kernel_rfl) <| .t 26 rfl (.loadW ag30 sz30 rfl (.there <| .here) rfl) rfl rfl (by kernel_rfl) ?_
          refine .one (i := 24) (by kernel_rfl) rfl rfl <| .callP cal20 rfl rfl rfl (count_ok (hn0.mono (Imm.le_trans hJ hI63)) hX63) ?_
          refine ⟨(.cons (.there <| .there <| .here) (.cons .here (.cons (.there <| .here) (.cons (.there <| .there <| .there <| .here) .nil)))), Imm.le_refl _, ?_⟩
          refine .one (i := 27) (by kernel_rfl) rfl rfl <| .callP cal20 rfl rfl rfl (count_ok (hl0.mono (Imm.le_trans hJ hI63)) hX63) ?_
          refine ⟨(.cons (.there <| .there <| .here) (.cons .here (.cons (.there <| .here) (.cons (.there <| .there <| .there <| .here) .nil)))), Imm.le_refl _, ?_⟩
          refine .t 28 rfl (.add rfl rfl (IntWalk.i64_in _ (by omega))) rfl rfl (by kernel_rfl) <| .t 29 rfl ((EV.cast (u := .bool false) (.eql rfl rfl) (congrArg Value.bool (decide_eq_false (by omega))))) rfl rfl (by kernel_rfl) <| .t 30 rfl (.pickF rfl rfl) rfl rfl (by kernel_rfl) <| .done (by kernel_rfl) <| .go <| .cond_false rfl ?_
          refine .skip <| .go <| .seq <| .region <| .e (.loadW ag24 sz24 rfl (.there <| .there <| .here) rfl) rfl rfl <| .e (.move rfl) rfl rfl ?_
          refine .on rfl <| .call cal14 rfl rfl rfl (twiceF (netMk (hvm.mono hI63)) hix) fun v103 I103 O103 hI103 hK103 => ?_
          obtain ⟨rfl, v103, rfl, hp103⟩ := hK103
          have hp103' := hp103
          obtain ⟨a103, q103, rfl, -⟩ := hp103'
          refine .e (.move rfl) rfl rfl <| .e (.extract rfl rfl) rfl rfl <| .e (.extract rfl rfl) rfl rfl <| .on rfl <| .alloc zr24 rfl fun c5 _ _ => .on rfl <| .storeW sz24 rfl rfl rfl rfl rfl rfl .here <| .e (.assign rfl) rfl rfl ?_
          refine .nil <| .go <| .seq <| .seq ?_
          refine .draw [(c5, _), (c4, _), (c2, _)] mixed (.cons .here (.cons (.there <| .here) (.cons (.there <| .there <| .there <| .here) .nil))) ?_
          refine .t 0 rfl (.move rfl) rfl rfl (by kernel_rfl) <| .t 1 rfl (.eql rfl rfl) rfl rfl (by kernel_rfl) <| .t 2 rfl (.move rfl) rfl rfl (by kernel_rfl) ?_
          refine .split 108 rfl (fun h108 => ?_) (fun h108 => ?_)
          · skip
            replace h108 := of_decide_eq_true h108
            have hgt := hgl.twice h108
            refine .t 3 rfl (.fieldAddr fo24_0 rfl) rfl rfl (by kernel_rfl) <| .t 4 rfl (.load ag22 rfl .here rfl) rfl rfl (by kernel_rfl) <| .t 5 rfl (.loadW ag30 sz30 rfl (.there <| .here) rfl) rfl rfl (by kernel_rfl) <| .t 7 rfl (.fieldAddr fo24_0 rfl) rfl rfl (by kernel_rfl) <| .t 8 rfl (.load ag22 rfl (.there <| .there <| .here) rfl) rfl rfl (by kernel_rfl) <| .t 9 rfl (.loadW ag30 sz30 rfl (.there <| .here) rfl) rfl rfl (by kernel_rfl) ?_
            refine .one (i := 6) (by kernel_rfl) rfl rfl <| .callP cal20 rfl rfl rfl (count_ok hp103 hX63) ?_
            refine ⟨(.cons .here (.cons (.there <| .here) (.cons (.there <| .there <| .there <| .here) .nil))), Imm.le_refl _, ?_⟩
            refine .one (i := 10) (by kernel_rfl) rfl rfl <| .callP cal20 rfl rfl rfl (count_ok (hvm.mono (Imm.le_trans hI63 hI103)) hX63) ?_
            refine ⟨(.cons .here (.cons (.there <| .here) (.cons (.there <| .there <| .there <| .here) .nil))), Imm.le_refl _, ?_⟩
            refine .t 11 rfl (.add rfl rfl (wrap_succ (by omega))) rfl rfl (by kernel_rfl) <| .t 12 rfl ((EV.cast (u := .bool false) (.neq rfl rfl) (congrArg Value.bool (by rw [decide_eq_true (by omega)]; rfl)))) rfl rfl (by kernel_rfl) <| .t 13 rfl (.move rfl) rfl rfl (by kernel_rfl) <| .t 14 rfl (.fieldAddr fo24_0 rfl) rfl rfl (by kernel_rfl) <| .t 15 rfl (.load ag22 rfl .here rfl) rfl rfl (by kernel_rfl) <| .t 16 rfl (.len sl22 rfl rfl) rfl rfl (by kernel_rfl) ?_
            refine .t 17 rfl (.fieldAddr fo24_0 rfl) rfl rfl (by kernel_rfl) <| .t 18 rfl (.load ag22 rfl (.there <| .there <| .here) rfl) rfl rfl (by kernel_rfl) <| .t 19 rfl (.len sl22 rfl rfl) rfl rfl (by kernel_rfl) <| .t 20 rfl (.add rfl rfl (wrap_succ (by omega))) rfl rfl (by kernel_rfl) <| .t 21 rfl ((EV.cast (u := .bool false) (.neq rfl rfl) (congrArg Value.bool (by rw [decide_eq_true (by omega)]; rfl)))) rfl rfl (by kernel_rfl) <| .t 22 rfl (.pickF rfl rfl) rfl rfl (by kernel_rfl) ?_
            refine .t 23 rfl (.pickT rfl rfl) rfl rfl (by kernel_rfl) <| .done (by kernel_rfl) <| .go <| .cond_false rfl <| .skip <| .go ?_
            refine .region <| .e (.loadW ag24 sz24 rfl (.there <| .there <| .here) rfl) rfl rfl <| .on rfl <| .storeW sz24 rfl rfl rfl rfl rfl rfl (.there <| .there <| .there <| .here) <| .nil <| .blk_normal <| .go ?_
            refine .region <| .e (.add rfl rfl (by first | exact wrap_succ (by omega) | exact IntWalk.i64_in _ (by omega) | exact rfl)) rfl rfl <| .e (.move rfl) rfl rfl <| .nil ?_
            refine .tail ?_
            refine .tail ?_
            refine .tail ?_
            exact .mid ((k + 1, (giveR m x).1, _, I103)) ⟨by dsimp only; omega, by dsimp only; omega, (hp63.mono hI103), (Imm.le_trans (Imm.le_trans hJ hI63) hI103), hgl.ok, (fun q hq => hmem q (hgl.mem q hq))⟩ ⟨rfl, trivial⟩ rfl rfl (.pre 90 rfl (.app rfl .base))
          · skip
            replace h108 := of_decide_eq_false h108
            refine .s 3 rfl rfl rfl (by kernel_rfl) <| .s 4 rfl rfl rfl (by kernel_rfl) <| .s 5 rfl rfl rfl (by kernel_rfl) <| .s 7 rfl rfl rfl (by kernel_rfl) <| .s 8 rfl rfl rfl (by kernel_rfl) <| .s 9 rfl rfl rfl (by kernel_rfl) ?_
            refine .none_ (i := 6) (by kernel_rfl) rfl rfl rfl <| .none_ (i := 10) (by kernel_rfl) rfl rfl rfl <| .s 11 rfl rfl rfl (by kernel_rfl) <| .s 12 rfl rfl rfl (by kernel_rfl) <| .s 13 rfl rfl rfl (by kernel_rfl) <| .s 14 rfl rfl rfl (by kernel_rfl) ?_
            refine .s 15 rfl rfl rfl (by kernel_rfl) <| .s 16 rfl rfl rfl (by kernel_rfl) <| .s 17 rfl rfl rfl (by kernel_rfl) <| .s 18 rfl rfl rfl (by kernel_rfl) <| .s 19 rfl rfl rfl (by kernel_rfl) <| .s 20 rfl rfl rfl (by kernel_rfl) ?_
            refine .s 21 rfl rfl rfl (by kernel_rfl) <| .s 22 rfl rfl rfl (by kernel_rfl) <| .t 23 rfl (.pickF rfl rfl) rfl rfl (by kernel_rfl) <| .done (by kernel_rfl) <| .go <| .cond_false rfl ?_
            refine .skip <| .go <| .region <| .e (.loadW ag24 sz24 rfl (.there <| .there <| .here) rfl) rfl rfl <| .on rfl <| .storeW sz24 rfl rfl rfl rfl rfl rfl (.there <| .there <| .there <| .here) <| .nil ?_
            refine .blk_normal <| .go <| .region <| .e (.add rfl rfl (by first | exact wrap_succ (by omega) | exact IntWalk.i64_in _ (by omega) | exact rfl)) rfl rfl <| .e (.move rfl) rfl rfl <| .nil ?_
            refine .tail ?_
            refine .tail ?_
            refine .tail ?_
            exact .mid ((k + 1, (giveR m x).1, _, I103)) ⟨by dsimp only; omega, by dsimp only; omega, (hp63.mono hI103), (Imm.le_trans (Imm.le_trans hJ hI63) hI103), hgl.ok, (fun q hq => hmem q (hgl.mem q hq))⟩ ⟨rfl, trivial⟩ rfl rfl (.pre 90 rfl (.app rfl .base))
    · skip
      replace h54 := of_decide_eq_false h54
      refine .cond_false rfl <| .exit <| .exit <| .exit <| .blk_exit <| .go ?_
      refine .seq <| .region <| .e (.loadW ag24 sz24 rfl .here rfl) rfl rfl <| .on rfl <| .callP cal18 rfl rfl rfl ((nCheck_ok (netMk hvm)).cast (congrArg (Value.int .i64) (why0 hok))) <| .e (.eql rfl rfl) rfl rfl <| .e (.assign rfl) rfl rfl ?_
      refine .nil <| .go <| .ret ?_
      refine .tail <| .tail ?_
      refine .back hJ ?_
      refine Post.retE rfl rfl ?_
      rfl

end Go.Proofs.Ytgiddbcadhigcaa
