/- Walks of functions over a symbolic memory, printed by a program of the session. -/
import Derived.Test.YteajcmnbjpbnpaaLi
namespace Go.Proofs.Yteajcmnbjpbnpaa
open Go.Sy
set_option linter.unusedSimpArgs false
set_option linter.unusedVariables false

def fromR (l : Lg) (i most : Int) : List Ent × Int :=
  if logOk l = false then ([], 10) else if i ≤ l.base then ([], 15) else ((l.ents.drop (i - l.base - 1).toNat).take most.toNat, 0)
theorem fromR_no {l : Lg} {i m w : Int} (h : ¬logWhy l = 0) (hw : w = 10) : fromR l i m = ([], w) := by subst hw; unfold fromR; rw [(logNo_why h).1]; rfl
theorem fromR_stale {l : Lg} {i m : Int} (h : logOk l = true) (hi : i ≤ l.base) : fromR l i m = ([], 15) := by unfold fromR; rw [h, if_neg (by simp), if_pos hi]
theorem fromR_yes {l : Lg} {i m : Int} (h : logOk l = true) (hi : ¬i ≤ l.base) : fromR l i m = ((l.ents.drop (i - l.base - 1).toNat).take m.toNat, 0) := by unfold fromR; rw [h, if_neg (by simp), if_neg hi]
theorem fromR_far {l : Lg} {i m : Int} (h : logOk l = true) (hi : ¬i ≤ l.base) (he : endOf l < i) : fromR l i m = ([], 0) := by
  rw [fromR_yes h hi, List.drop_of_length_le (by unfold endOf at he; omega), List.take_nil]
theorem from_n {l : Lg} {i most : Int} {j : Nat} (hok : logOk l = true) (hb : ¬i ≤ l.base) (hj : i - l.base - 1 = (j : Int)) (hjl : j ≤ l.ents.length) : ∃ n : Nat,
    (if (if most < 0 then 0 else most) < ((l.ents.length - j : Nat) : Int) then (if most < 0 then 0 else most) else ((l.ents.length - j : Nat) : Int)) = (n : Int) ∧ n ≤ l.ents.length - j ∧ fromR l i most = ((l.ents.drop j).take n, 0) := by
  have ej : (i - l.base - 1).toNat = j := by omega
  rw [fromR_yes hok hb, ej]
  have e0 : (if most < 0 then 0 else most) = (most.toNat : Int) := by split <;> omega
  rw [e0]
  split
  · exact ⟨most.toNat, rfl, by omega, rfl⟩
  · refine ⟨l.ents.length - j, rfl, by omega, ?_⟩
    rw [List.take_of_length_le (by simp; omega), List.take_of_length_le (by simp)]
def outF (l : Lg) (i most : Int) (k : Nat) : List Ent := ((l.ents.take k).filter fun e => decide (i ≤ e.index)).take most.toNat
theorem outF_yes {l : Lg} {i most : Int} {k : Nat} (hk : k < l.ents.length) (h1 : i ≤ l.ents[k].index) (h2 : ((outF l i most k).length : Int) < most) : outF l i most (k + 1) = outF l i most k ++ [l.ents[k]] := by
  unfold outF at *
  rw [List.take_succ_eq_append_getElem hk, List.filter_append]
  have e : [l.ents[k]].filter (fun e => decide (i ≤ e.index)) = [l.ents[k]] := by simp [h1]
  rw [e, List.take_append]
  have h3 : ((l.ents.take k).filter fun e => decide (i ≤ e.index)).length < most.toNat := by
    rw [List.length_take] at h2; omega
  rw [List.take_of_length_le (show [l.ents[k]].length ≤ _ by simp; omega)]
theorem outF_no {l : Lg} {i most : Int} {k : Nat} (hk : k < l.ents.length) (h : ¬(i ≤ l.ents[k].index) ∨ ¬((outF l i most k).length : Int) < most) : outF l i most (k + 1) = outF l i most k := by
  unfold outF at *
  rw [List.take_succ_eq_append_getElem hk, List.filter_append]
  by_cases h1 : i ≤ l.ents[k].index
  · have h2 : ¬((((l.ents.take k).filter fun e => decide (i ≤ e.index)).take most.toNat).length : Int) < most := by rcases h with h | h; exact absurd h1 h; exact h
    rw [List.length_take] at h2
    rw [List.take_append_of_le_length (by omega)]
  · have e : [l.ents[k]].filter (fun e => decide (i ≤ e.index)) = [] := by simp [h1]
    rw [e, List.append_nil]
theorem outF_len {l : Lg} {i most : Int} {k : Nat} : (outF l i most k).length ≤ k := by
  unfold outF
  have h1 := List.length_filter_le (fun e : Ent => decide (i ≤ e.index)) (l.ents.take k)
  rw [List.length_take] at *
  omega
theorem outF_sub {l : Lg} {i most : Int} {k : Nat} {e : Ent} (h : e ∈ outF l i most k) : e ∈ l.ents := List.mem_of_mem_take (List.mem_filter.1 (List.mem_of_mem_take h)).1
theorem filter_from {p : Ent → Bool} : ∀ (j : Nat) (xs : List Ent), j ≤ xs.length → (∀ n (h : n < xs.length), p xs[n] = decide (j ≤ n)) → xs.filter p = xs.drop j
  | 0, xs, _, h => by
    rw [List.drop_zero, List.filter_eq_self]
    intro e he
    obtain ⟨n, hn, rfl⟩ := List.mem_iff_getElem.1 he
    rw [h n hn]; simp
  | j + 1, [], hj, _ => by simp at hj
  | j + 1, x :: xs, hj, h => by
    have h0 := h 0 (by simp)
    simp at h0
    rw [List.filter_cons, h0, List.drop_succ_cons]
    simp only [Bool.false_eq_true, if_false]
    refine filter_from j xs (by simpa using hj) fun n hn => ?_
    have := h (n + 1) (by simpa using hn)
    simpa using this
theorem outF_end {l : Lg} {i most : Int} (hok : logOk l = true) (hb : ¬i ≤ l.base) : fromR l i most = (outF l i most l.ents.length, 0) := by
  rw [fromR_yes hok hb]
  unfold outF
  rw [List.take_length]
  have hto : logTo l l.ents.length = true := hok
  by_cases hj : (i - l.base - 1).toNat ≤ l.ents.length
  · rw [filter_from (i - l.base - 1).toNat _ hj fun n hn => ?_]
    rw [ent_ix hto hn hn]
    exact decide_eq_decide.2 (by omega)
  · rw [List.drop_of_length_le (by omega)]
    have : l.ents.filter (fun e => decide (i ≤ e.index)) = [] := by
      rw [List.filter_eq_nil_iff]
      intro e he
      obtain ⟨n, hn, rfl⟩ := List.mem_iff_getElem.1 he
      rw [ent_ix hto hn hn]
      simp; omega
    rw [this]

set_option maxHeartbeats 1000000 in
set_option maxRecDepth 20000 in
theorem lFrom_ok {I : Imm} {O : Own} {lc : List Value} {l : Lg} (hl : LgR I lc l) {i most : Int} (hi : U64 i) (hmo : I64 most) (hL : l.ents.length * 64 ≤ 140737488351232) (hM : ∀ e ∈ l.ents, e.members.length * 8 ≤ 140737488351232) :
    Go.Sy.Does Try.prog 22 [.agg ⟨lc⟩, .int .u64 i, .int .i64 most] I O (fun u I' O' => ∃ v ws ob, u = .tuple ⟨[v, .int .i64 (fromR l i most).2]⟩ ∧ OwnS 5 v (fromR l i most).1.length ws ob ∧ DR EntR 5 I' ws (fromR l i most).1 ∧ O' = ob ++ O) := by
  have hl0 := hl
  obtain ⟨ev, rfl, hev⟩ := hl.ex
  have hev0 := hev
  obtain ⟨va, vcap, rfl, hv1, hv2, -⟩ := hev
  have hbase := hl0.base
  have hterm := hl0.term
  unfold U64 at hbase hterm
  have hu : ∀ j (hj : j < l.ents.length), U64 l.ents[j].index := fun j hj => by
    obtain ⟨_, _, _, _, _, hr⟩ := SlR.at_ hev0 hj
    exact hr.index
  have hut : ∀ j (hj : j < l.ents.length), U64 l.ents[j].term := fun j hj => by
    obtain ⟨_, _, _, _, _, hr⟩ := SlR.at_ hev0 hj
    exact hr.term
  unfold U64 at hi
  unfold I64 at hmo
  refine Go.Sy.Does.enter Try.func22 rfl Try.ntmps22 rfl ?_
  refine .seq <| .region <| .on rfl <| .box rfl rfl rfl fun c1 _ _ => .e (.assign rfl) rfl rfl <| .e (.assign rfl) rfl rfl <| .nil ?_
  refine .go <| .seq <| .seq <| .region <| .e (.loadW ag25 sz25 rfl .here rfl) rfl rfl <| .on rfl <| .callP cal18 rfl rfl rfl (lCheck_ok hl0) ?_
  refine .e (.assign rfl) rfl rfl <| .nil <| .go <| .block <| .seq <| .region ?_
  refine .e (.move rfl) rfl rfl <| .e (.neq rfl rfl) rfl rfl <| .e (.assign rfl) rfl rfl <| .nil <| .go ?_
  refine .split 13 rfl (fun h13 => ?_) (fun h13 => ?_)
  · skip
    first | replace h13 := of_decide_eq_false ((Bool.not_eq_true' _).mp h13) | replace h13 := of_decide_eq_false (by simpa using h13)
    refine .cond_true rfl <| .seq <| .region <| .e (.move rfl) rfl rfl <| .e (.assign rfl) rfl rfl <| .e (.assign rfl) rfl rfl ?_
    refine .nil <| .go <| .ret <| .blk_ret <| .ret ?_
    refine Post.rets rfl (.tmp rfl (.tmp rfl .nil)) rfl (Imm.le_refl _) (fun w h => (Sat.tail h)) ?_
    rw [fromR_no h13 (logNo_why h13).2]
    exact ⟨_, [], [], rfl, OwnS.nil, DR.nil, rfl⟩
  · skip
    first | replace h13 := of_decide_eq_true ((Bool.not_eq_false' _).mp h13) | replace h13 := of_decide_eq_true (by simpa using h13)
    have hok := logOk_why h13
    have hlok : logOk l = true := hok
    have hle := logTo_le hl0.base hu (Nat.le_refl _) hok
    have hae := at_end hl0.base (show endOf l ≤ 18446744073709551615 by unfold endOf; omega)
    have heo : endOf l = l.base + (l.ents.length : Int) := rfl
    refine .cond_false rfl <| .seq <| .region <| .e (.move rfl) rfl rfl <| .e (.fieldAddr fo25_0 rfl) rfl rfl <| .e (.load ag22 rfl .here rfl) rfl rfl ?_
    refine .e (.leq rfl rfl) rfl rfl <| .e (.assign rfl) rfl rfl <| .nil <| .go ?_
    refine .split 17 rfl (fun h17 => ?_) (fun h17 => ?_)
    · skip
      replace h17 := of_decide_eq_true h17
      refine .cond_true rfl <| .seq <| .region <| .e (.assign rfl) rfl rfl <| .e (.assign rfl) rfl rfl <| .nil ?_
      refine .go <| .ret <| .blk_ret <| .ret ?_
      refine Post.rets rfl (.tmp rfl (.tmp rfl .nil)) rfl (Imm.le_refl _) (fun w h => (Sat.tail h)) ?_
      rw [fromR_stale hlok h17]
      exact ⟨_, [], [], rfl, OwnS.nil, DR.nil, rfl⟩
    · skip
      replace h17 := of_decide_eq_false h17
      refine .cond_false rfl <| .seq <| .region <| .e (.move rfl) rfl rfl <| .e (.loadW ag25 sz25 rfl .here rfl) rfl rfl <| .on rfl <| .callP cal33 rfl rfl rfl (lend_ok hl0) ?_
      refine .e (.gtr rfl rfl) rfl rfl <| .e (.assign rfl) rfl rfl <| .nil <| .go ?_
      refine .split 22 rfl (fun h22 => ?_) (fun h22 => ?_)
      · skip
        replace h22 := of_decide_eq_true h22
        refine .cond_true rfl <| .seq <| .region <| .e (.assign rfl) rfl rfl <| .e (.assign rfl) rfl rfl <| .nil ?_
        refine .go <| .ret <| .blk_ret <| .ret ?_
        refine Post.rets rfl (.tmp rfl (.tmp rfl .nil)) rfl (Imm.le_refl _) (fun w h => (Sat.tail h)) ?_
        rw [fromR_far hlok h17 (by omega)]
        exact ⟨_, [], [], rfl, OwnS.nil, DR.nil, rfl⟩
      · skip
        replace h22 := of_decide_eq_false h22
        obtain ⟨j, hj⟩ : ∃ j : Nat, i - l.base - 1 = (j : Int) := ⟨(i - l.base - 1).toNat, by omega⟩
        have hjl : j ≤ l.ents.length := by omega
        obtain ⟨n, hn, hnl, hfr⟩ := from_n (most := most) hlok h17 hj hjl
        refine .cond_false rfl <| .skip <| .blk_normal <| .go <| .seq <| .region ?_
        refine .e (.fieldAddr fo25_2 rfl) rfl rfl <| .e (.load ag23 rfl .here rfl) rfl rfl <| .e (.move rfl) rfl rfl <| .e (.fieldAddr fo25_0 rfl) rfl rfl <| .e (.load ag22 rfl .here rfl) rfl rfl <| .e (.sub rfl rfl (IntWalk.u64_in _ (by omega))) rfl rfl ?_
        refine .e (.sub rfl rfl (IntWalk.u64_in _ (by omega))) rfl rfl <| .e (.sliceL sl23 rfl rfl hj hjl) rfl rfl <| .e (.assign rfl) rfl rfl <| .nil <| .go <| .seq ?_
        refine .region <| .e (.move rfl) rfl rfl <| .e (.len sl23 rfl rfl) rfl rfl <| .e (.move rfl) rfl rfl <| .e (.max2 rfl rfl rfl) rfl rfl <| .e (.min2 rfl rfl rfl) rfl rfl ?_
        refine .e (.assign rfl) rfl rfl <| .nil <| .go <| .seq <| .region <| .e (.move rfl) rfl rfl ?_
        refine .e (.move rfl) rfl rfl <| .e (.move rfl) rfl rfl <| .e (.slice3 sl23 rfl rfl rfl hn hn (Nat.le_refl _) (by omega)) rfl rfl <| .on rfl <| .call cal35 rfl rfl rfl (own_ok (SlR.take3 (m := n) (q := 5) (SlR.from hev0 hjl) (by rw [List.length_drop]; exact hnl) (Nat.le_refl _) (by omega)) (by have := List.length_take_le n (l.ents.drop j); have := List.length_drop (i := j) (l := l.ents); omega) (fun e he => hM e (List.mem_of_mem_drop (List.mem_of_mem_take he)))) fun v44 I44 O44 hI44 hK44 => ?_
        obtain ⟨ws44, ob44, ho44, hd44, rfl⟩ := hK44
        obtain ⟨ad44, cap44, rfl⟩ := ho44.form
        refine .e (.assign rfl) rfl rfl <| .e (.assign rfl) rfl rfl <| .nil <| .go <| .ret ?_
        refine Post.rets rfl (.tmp rfl (.tmp rfl .nil)) rfl hI44 (fun w h => (Sat.tail (Sat.rem h (Rem.app <| Rem.here)))) ?_
        rw [hfr]
        exact ⟨_, ws44, ob44, rfl, ho44, hd44, rfl⟩

set_option maxHeartbeats 1000000 in
set_option maxRecDepth 20000 in
theorem rFrom_ok {I : Imm} {O : Own} {lc : List Value} {l : Lg} (hl : LgR I lc l) {i most : Int} (hi : U64 i) (hmo : I64 most) (hL : l.ents.length * 64 ≤ 140737488351232) (hM : ∀ e ∈ l.ents, e.members.length * 8 ≤ 140737488351232) :
    Go.Sy.Does Try.prog 25 [.agg ⟨lc⟩, .int .u64 i, .int .i64 most] I O (fun u I' O' => ∃ v ws ob, u = .tuple ⟨[v, .int .i64 (fromR l i most).2]⟩ ∧ OwnS 5 v (fromR l i most).1.length ws ob ∧ DR EntR 5 I' ws (fromR l i most).1 ∧ O' = ob ++ O) := by
  have hl0 := hl
  obtain ⟨ev, rfl, hev⟩ := hl.ex
  have hev0 := hev
  obtain ⟨va, vcap, rfl, hv1, hv2, -⟩ := hev
  have hbase := hl0.base
  have hterm := hl0.term
  unfold U64 at hbase hterm
  have hu : ∀ j (hj : j < l.ents.length), U64 l.ents[j].index := fun j hj => by
    obtain ⟨_, _, _, _, _, hr⟩ := SlR.at_ hev0 hj
    exact hr.index
  have hut : ∀ j (hj : j < l.ents.length), U64 l.ents[j].term := fun j hj => by
    obtain ⟨_, _, _, _, _, hr⟩ := SlR.at_ hev0 hj
    exact hr.term
  unfold U64 at hi
  unfold I64 at hmo
  refine Go.Sy.Does.enter Try.func25 rfl Try.ntmps25 rfl ?_
  refine .seq <| .region <| .on rfl <| .box rfl rfl rfl fun c1 _ _ => .e (.assign rfl) rfl rfl <| .e (.assign rfl) rfl rfl <| .nil ?_
  refine .go <| .seq <| .seq <| .region <| .e (.loadW ag25 sz25 rfl .here rfl) rfl rfl <| .on rfl <| .callP cal30 rfl rfl rfl (rlCheck_ok hl0) ?_
  refine .e (.neq rfl rfl) rfl rfl <| .nil <| .go ?_
  refine .split 13 rfl (fun h13 => ?_) (fun h13 => ?_)
  · skip
    first | replace h13 := of_decide_eq_false ((Bool.not_eq_true' _).mp h13) | replace h13 := of_decide_eq_false (by simpa using h13)
    refine .cond_true rfl <| .seq <| .region <| .e (.assign rfl) rfl rfl <| .e (.assign rfl) rfl rfl <| .nil ?_
    refine .go <| .ret <| .ret ?_
    refine Post.rets rfl (.tmp rfl (.tmp rfl .nil)) rfl (Imm.le_refl _) (fun w h => (Sat.tail h)) ?_
    rw [fromR_no h13 rfl]
    exact ⟨_, [], [], rfl, OwnS.nil, DR.nil, rfl⟩
  · skip
    first | replace h13 := of_decide_eq_true ((Bool.not_eq_false' _).mp h13) | replace h13 := of_decide_eq_true (by simpa using h13)
    have hok := logOk_why h13
    have hlok : logOk l = true := hok
    have hle := logTo_le hl0.base hu (Nat.le_refl _) hok
    have hae := at_end hl0.base (show endOf l ≤ 18446744073709551615 by unfold endOf; omega)
    have heo : endOf l = l.base + (l.ents.length : Int) := rfl
    refine .cond_false rfl <| .skip <| .go <| .seq <| .seq <| .region ?_
    refine .e (.move rfl) rfl rfl <| .e (.fieldAddr fo25_0 rfl) rfl rfl <| .e (.load ag22 rfl .here rfl) rfl rfl <| .e (.leq rfl rfl) rfl rfl <| .nil <| .go ?_
    refine .split 17 rfl (fun h17 => ?_) (fun h17 => ?_)
    · skip
      replace h17 := of_decide_eq_true h17
      refine .cond_true rfl <| .seq <| .region <| .e (.assign rfl) rfl rfl <| .e (.assign rfl) rfl rfl <| .nil ?_
      refine .go <| .ret <| .ret ?_
      refine Post.rets rfl (.tmp rfl (.tmp rfl .nil)) rfl (Imm.le_refl _) (fun w h => (Sat.tail h)) ?_
      rw [fromR_stale hlok h17]
      exact ⟨_, [], [], rfl, OwnS.nil, DR.nil, rfl⟩
    · skip
      replace h17 := of_decide_eq_false h17
      refine .cond_false rfl <| .skip <| .go <| .seq <| .region <| .e (.assign rfl) rfl rfl ?_
      refine .nil <| .go <| .seq <| .seq <| .region <| .e (.fieldAddr fo25_2 rfl) rfl rfl ?_
      refine .e (.load ag23 rfl .here rfl) rfl rfl <| .e (.len sl23 rfl rfl) rfl rfl <| .e (.move rfl) rfl rfl <| .nil <| .go <| .block ?_
      refine .loopM [8, 10, 21, 22, 23, 24, 25, 26, 27, 28, 29, 30, 31, 32, 33, 34, 35, 36, 37, 38, 39] (fun s => l.ents.length - s.1) (fun s => s.1 ≤ l.ents.length ∧ OwnS 5 s.2.1 (outF l i most s.1).length s.2.2.1 s.2.2.2 ∧ DR EntR 5 I s.2.2.1 (outF l i most s.1)) (fun s => [(21, .int .i64 s.1), (8, s.2.1)]) (fun _ => _) (fun s => s.2.2.2 ++ _) (((0, .slice none 0 0, [], []) : Nat × Value × List Value × Own)) ⟨by dsimp only; omega, by simpa [outF] using OwnS.nil, by simpa [outF] using DR.nil⟩ ⟨rfl, rfl, trivial⟩ rfl rfl ?_
      intro ⟨k, vL, wsL, obL⟩ hk
      dsimp only at hk ⊢
      obtain ⟨hk, hoL, hdL⟩ := hk
      obtain ⟨adL, capL, rfl⟩ := hoL.form
      have hlen := outF_len (l := l) (i := i) (most := most) (k := k)
      refine .seq <| .region <| .e (.lss rfl rfl) rfl rfl <| .nil <| .go <| .seq ?_
      refine .split 22 rfl (fun h22 => ?_) (fun h22 => ?_)
      · skip
        replace h22 := of_decide_eq_true h22
        refine .cond_true rfl <| .skip <| .go <| .seq <| .block <| .seq ?_
        refine .region ?_
        obtain ⟨eb23, eo23, cs23, hd23, hat23, hr23⟩ := SlR.at_ hev0 (k := k) (by omega)
        cases hd23
        have he23 := hr23
        obtain ⟨mv23, rfl, hmv23⟩ := hr23.ex
        obtain ⟨ma23, mc23, rfl, -⟩ := hmv23
        refine .e (.indexAddrL sl23 rfl rfl rfl (by omega)) rfl rfl <| .e (.loadIA ag41 sz41 rfl hat23 rfl) rfl rfl <| .on rfl <| .alloc zr41 rfl fun c2 _ _ => .on rfl <| .storeW sz41 rfl rfl rfl rfl rfl rfl .here <| .nil <| .go ?_
        refine .seq <| .region <| .e (.fieldAddr fo41_0 rfl) rfl rfl <| .e (.load ag22 rfl .here rfl) rfl rfl <| .e (.move rfl) rfl rfl <| .e (.geq rfl rfl) rfl rfl ?_
        refine .e (.move rfl) rfl rfl ?_
        refine .split 29 rfl (fun h29 => ?_) (fun h29 => ?_)
        · skip
          replace h29 := of_decide_eq_true h29
          refine .e (.move rfl) rfl rfl <| .e (.len sl23 rfl rfl) rfl rfl <| .e (.move rfl) rfl rfl <| .e (.lss rfl rfl) rfl rfl <| .e (.pickT rfl rfl) rfl rfl <| .nil ?_
          refine .go ?_
          refine .split 34 rfl (fun h34 => ?_) (fun h34 => ?_)
          · skip
            replace h34 := of_decide_eq_true h34
            refine .cond_true rfl <| .region <| .e (.move rfl) rfl rfl <| .e (.loadW ag41 sz41 rfl .here rfl) rfl rfl <| .on rfl <| .buildSlice Try.underlying23 sz41 (by decide) (by decide) zv41 rfl rfl rfl rfl rfl fun c3 _ _ => .on rfl <| .append Try.underlying23 Try.underlying23 sz41 by41 zv41 rfl rfl rfl (.there <| .there <| .front) hoL ((OwnS.made (k := 5) rfl (by decide)).src (I := _) .here) rfl rfl (by omega) (by omega) rfl fun v38 ob38 ho38 => ?_
            refine .e (.assign rfl) rfl rfl <| .nil <| .blk_normal <| .go <| .region <| .e (.add rfl rfl (by first | exact wrap_succ (by omega) | exact IntWalk.i64_in _ (by omega) | exact rfl)) rfl rfl ?_
            refine .e (.move rfl) rfl rfl <| .nil ?_
            refine .front1 (.app <| .here) ?_
            refine .tail ?_
            refine .front1 (.app <| .here) ?_
            refine .tail ?_
            exact .mid ((k + 1, _, _, _)) ⟨by dsimp only; omega, by dsimp only; omega, by rw [outF_yes (by omega) h29 h34]; simpa using ho38, by rw [outF_yes (by omega) h29 h34]; exact hdL.append (DR.single rfl he23)⟩ ⟨rfl, rfl, trivial⟩ rfl rfl (.pre 24 rfl (.app rfl .base))
          · skip
            replace h34 := of_decide_eq_false h34
            refine .cond_false rfl <| .skip <| .blk_normal <| .go <| .region <| .e (.add rfl rfl (by first | exact wrap_succ (by omega) | exact IntWalk.i64_in _ (by omega) | exact rfl)) rfl rfl ?_
            refine .e (.move rfl) rfl rfl <| .nil ?_
            refine .tail ?_
            exact .mid ((k + 1, _, wsL, obL)) ⟨by dsimp only; omega, by dsimp only; omega, by rw [outF_no (by omega) (by omega)]; exact hoL, by rw [outF_no (by omega) (by omega)]; exact hdL⟩ ⟨rfl, rfl, trivial⟩ rfl rfl (.pre 19 rfl (.app rfl .base))
        · skip
          replace h29 := of_decide_eq_false h29
          refine .off rfl rfl <| .off rfl rfl <| .off rfl rfl <| .off rfl rfl <| .e (.pickF rfl rfl) rfl rfl <| .nil ?_
          refine .go <| .cond_false rfl <| .skip <| .blk_normal <| .go <| .region ?_
          refine .e (.add rfl rfl (by first | exact wrap_succ (by omega) | exact IntWalk.i64_in _ (by omega) | exact rfl)) rfl rfl <| .e (.move rfl) rfl rfl <| .nil ?_
          refine .tail ?_
          exact .mid ((k + 1, _, wsL, obL)) ⟨by dsimp only; omega, by dsimp only; omega, by rw [outF_no (by omega) (by omega)]; exact hoL, by rw [outF_no (by omega) (by omega)]; exact hdL⟩ ⟨rfl, rfl, trivial⟩ rfl rfl (.pre 18 rfl (.app rfl .base))
      · skip
        replace h22 := of_decide_eq_false h22
        have ek : k = l.ents.length := by omega
        subst ek
        refine .cond_false rfl <| .exit <| .exit <| .exit <| .blk_exit <| .go ?_
        refine .seq <| .region ?_
        refine .freezeS hoL fun K hK hKs => ?_
        have hy : EntsR K _ (outF l i most l.ents.length) := hKs (R := EntR) (hdL.mono fun _ _ h => h.mono hK) rfl
        refine .e (.move rfl) rfl rfl <| .on rfl <| .call cal10 rfl rfl rfl (copy_ok hy (by have := outF_len (l := l) (i := i) (most := most) (k := l.ents.length); omega) (fun e he => hM e (outF_sub he))) fun v41 I41 O41 hI41 hK41 => ?_
        obtain ⟨ws41, ob41, ho41, hd41, rfl⟩ := hK41
        obtain ⟨ad41, cap41, rfl⟩ := ho41.form
        refine .e (.assign rfl) rfl rfl <| .e (.assign rfl) rfl rfl <| .nil <| .go <| .ret ?_
        refine Post.rets rfl (.tmp rfl (.tmp rfl .nil)) rfl (Imm.le_trans hK hI41) (fun w h => (Sat.tail (Sat.rem h (Rem.app <| Rem.here)))) ?_
        rw [outF_end hlok h17]
        exact ⟨_, ws41, ob41, rfl, ho41, hd41, rfl⟩

end Go.Proofs.Yteajcmnbjpbnpaa
