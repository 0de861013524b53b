/- Walks of functions over a symbolic memory, printed by a program of the session. -/
import Derived.Test.YtjoaccnfnniahaaLf
namespace Go.Proofs.Ytjoaccnfnniahaa
open Go.Sy
set_option linter.unusedSimpArgs false
set_option linter.unusedVariables false

def fromR (l : Lg) (i most : Int) : List Ent × Int :=
  if logOk l = false then ([], 10) else if i ≤ l.base then ([], 15) else ((l.ents.drop (i - l.base - 1).toNat).take most.toNat, 0)
theorem fromR_no {l : Lg} {i m w : Int} (h : ¬logWhy l = 0) (hw : w = 10) : fromR l i m = ([], w) := by subst hw; unfold fromR; rw [(logNo_why h).1]; rfl
theorem fromR_stale {l : Lg} {i m : Int} (h : logOk l = true) (hi : i ≤ l.base) : fromR l i m = ([], 15) := by unfold fromR; rw [h, if_neg (by simp), if_pos hi]
theorem fromR_yes {l : Lg} {i m : Int} (h : logOk l = true) (hi : ¬i ≤ l.base) : fromR l i m = ((l.ents.drop (i - l.base - 1).toNat).take m.toNat, 0) := by unfold fromR; rw [h, if_neg (by simp), if_neg hi]
theorem fromR_far {l : Lg} {i m : Int} (h : logOk l = true) (hi : ¬i ≤ l.base) (he : endOf l < i) : fromR l i m = ([], 0) := by
  rw [fromR_yes h hi, List.drop_of_length_le (by unfold endOf at he; omega), List.take_nil]
theorem from_n {l : Lg} {i most : Int} {j : Nat} (hok : logOk l = true) (hb : ¬i ≤ l.base) (hj : i - l.base - 1 = (j : Int)) (hjl : j ≤ l.ents.length) : ∃ n : Nat,
    (if (if most < 0 then 0 else most) < ((l.ents.length - j : Nat) : Int) then (if most < 0 then 0 else most) else ((l.ents.length - j : Nat) : Int)) = (n : Int) ∧ n ≤ l.ents.length - j ∧ fromR l i most = ((l.ents.drop j).take n, 0) := by
  have ej : (i - l.base - 1).toNat = j := by omega
  rw [fromR_yes hok hb, ej]
  have e0 : (if most < 0 then 0 else most) = (most.toNat : Int) := by split <;> omega
  rw [e0]
  split
  · exact ⟨most.toNat, rfl, by omega, rfl⟩
  · refine ⟨l.ents.length - j, rfl, by omega, ?_⟩
    rw [List.take_of_length_le (by simp; omega), List.take_of_length_le (by simp)]
def outF (l : Lg) (i most : Int) (k : Nat) : List Ent := ((l.ents.take k).filter fun e => decide (i ≤ e.index)).take most.toNat
theorem outF_yes {l : Lg} {i most : Int} {k : Nat} (hk : k < l.ents.length) (h1 : i ≤ l.ents[k].index) (h2 : ((outF l i most k).length : Int) < most) : outF l i most (k + 1) = outF l i most k ++ [l.ents[k]] := by
  unfold outF at *
  rw [List.take_succ_eq_append_getElem hk, List.filter_append]
  have e : [l.ents[k]].filter (fun e => decide (i ≤ e.index)) = [l.ents[k]] := by simp [h1]
  rw [e, List.take_append]
  have h3 : ((l.ents.take k).filter fun e => decide (i ≤ e.index)).length < most.toNat := by
    rw [List.length_take] at h2; omega
  rw [List.take_of_length_le (show [l.ents[k]].length ≤ _ by simp; omega)]
theorem outF_no {l : Lg} {i most : Int} {k : Nat} (hk : k < l.ents.length) (h : ¬(i ≤ l.ents[k].index) ∨ ¬((outF l i most k).length : Int) < most) : outF l i most (k + 1) = outF l i most k := by
  unfold outF at *
  rw [List.take_succ_eq_append_getElem hk, List.filter_append]
  by_cases h1 : i ≤ l.ents[k].index
  · have h2 : ¬((((l.ents.take k).filter fun e => decide (i ≤ e.index)).take most.toNat).length : Int) < most := by rcases h with h | h; exact absurd h1 h; exact h
    rw [List.length_take] at h2
    rw [List.take_append_of_le_length (by omega)]
  · have e : [l.ents[k]].filter (fun e => decide (i ≤ e.index)) = [] := by simp [h1]
    rw [e, List.append_nil]
theorem outF_len {l : Lg} {i most : Int} {k : Nat} : (outF l i most k).length ≤ k := by
  unfold outF
  have h1 := List.length_filter_le (fun e : Ent => decide (i ≤ e.index)) (l.ents.take k)
  rw [List.length_take] at *
  omega
theorem outF_sub {l : Lg} {i most : Int} {k : Nat} {e : Ent} (h : e ∈ outF l i most k) : e ∈ l.ents := List.mem_of_mem_take (List.mem_filter.1 (List.mem_of_mem_take h)).1
theorem filter_from {p : Ent → Bool} : ∀ (j : Nat) (xs : List Ent), j ≤ xs.length → (∀ n (h : n < xs.length), p xs[n] = decide (j ≤ n)) → xs.filter p = xs.drop j
  | 0, xs, _, h => by
    rw [List.drop_zero, List.filter_eq_self]
    intro e he
    obtain ⟨n, hn, rfl⟩ := List.mem_iff_getElem.1 he
    rw [h n hn]; simp
  | j + 1, [], hj, _ => by simp at hj
  | j + 1, x :: xs, hj, h => by
    have h0 := h 0 (by simp)
    simp at h0
    rw [List.filter_cons, h0, List.drop_succ_cons]
    simp only [Bool.false_eq_true, if_false]
    refine filter_from j xs (by simpa using hj) fun n hn => ?_
    have := h (n + 1) (by simpa using hn)
    simpa using this
theorem outF_end {l : Lg} {i most : Int} (hok : logOk l = true) (hb : ¬i ≤ l.base) : fromR l i most = (outF l i most l.ents.length, 0) := by
  rw [fromR_yes hok hb]
  unfold outF
  rw [List.take_length]
  have hto : logTo l l.ents.length = true := hok
  by_cases hj : (i - l.base - 1).toNat ≤ l.ents.length
  · rw [filter_from (i - l.base - 1).toNat _ hj fun n hn => ?_]
    rw [ent_ix hto hn hn]
    exact decide_eq_decide.2 (by omega)
  · rw [List.drop_of_length_le (by omega)]
    have : l.ents.filter (fun e => decide (i ≤ e.index)) = [] := by
      rw [List.filter_eq_nil_iff]
      intro e he
      obtain ⟨n, hn, rfl⟩ := List.mem_iff_getElem.1 he
      rw [ent_ix hto hn hn]
      simp; omega
    rw [this]

set_option maxHeartbeats 1000000 in
set_option maxRecDepth 20000 in
theorem lFrom_ok {I : Imm} {O : Own} {lc : List Value} {l : Lg} (hl : LgR I lc l) {i most : Int} (hi : U64 i) (hmo : I64 most) (hL : l.ents.length * 64 ≤ 140737488351232) (hM : ∀ e ∈ l.ents, e.members.length * 8 ≤ 140737488351232) :
    Go.Sy.Does Try.prog 14 [.agg ⟨lc⟩, .int .u64 i, .int .i64 most] I O (fun u I' O' => ∃ v ws ob, u = .tuple ⟨[v, .int .i64 (fromR l i most).2]⟩ ∧ OwnS 5 v (fromR l i most).1.length ws ob ∧ DR EntR 5 I' ws (fromR l i most).1 ∧ O' = ob ++ O) := by
  have hl0 := hl
  obtain ⟨ev, rfl, hev⟩ := hl.ex
  have hev0 := hev
  obtain ⟨va, vcap, rfl, hv1, hv2, -⟩ := hev
  have hbase := hl0.base
  have hterm := hl0.term
  unfold U64 at hbase hterm
  have hu : ∀ j (hj : j < l.ents.length), U64 l.ents[j].index := fun j hj => by
    obtain ⟨_, _, _, _, _, hr⟩ := SlR.at_ hev0 hj
    exact hr.index
  have hut : ∀ j (hj : j < l.ents.length), U64 l.ents[j].term := fun j hj => by
    obtain ⟨_, _, _, _, _, hr⟩ := SlR.at_ hev0 hj
    exact hr.term
  unfold U64 at hi
  unfold I64 at hmo
  refine Go.Sy.Does.enter Try.func14 rfl Try.ntmps14 rfl ?_
  refine .seq <| .region <| .on rfl <| .box rfl rfl rfl fun c1 _ _ => .e (.assign rfl) rfl rfl <| .e (.assign rfl) rfl rfl <| .nil ?_
  refine .go <| .seq <| .seq <| .region <| .e (.loadW ag43 sz43 rfl .here rfl) rfl rfl <| .on rfl <| .callP cal12 rfl rfl rfl (lCheck_ok hl0) ?_
  refine .e (.assign rfl) rfl rfl <| .nil <| .go <| .block <| .seq <| .region ?_
  refine .e (.move rfl) rfl rfl <| .e (.neq rfl rfl) rfl rfl <| .e (.assign rfl) rfl rfl <| .nil <| .go ?_
  refine .split 13 rfl (fun h13 => ?_) (fun h13 => ?_)
  · skip
    first | replace h13 := of_decide_eq_false ((Bool.not_eq_true' _).mp h13) | replace h13 := of_decide_eq_false (by simpa using h13)
    refine .cond_true rfl <| .seq <| .region <| .e (.move rfl) rfl rfl <| .e (.assign rfl) rfl rfl <| .e (.assign rfl) rfl rfl ?_
    refine .nil <| .go <| .ret <| .blk_ret <| .ret ?_
    refine Post.rets rfl (.tmp rfl (.tmp rfl .nil)) rfl (Imm.le_refl _) (fun w h => (Sat.tail h)) ?_
    rw [fromR_no h13 (logNo_why h13).2]
    exact ⟨_, [], [], rfl, OwnS.nil, DR.nil, rfl⟩
  · skip
    first | replace h13 := of_decide_eq_true ((Bool.not_eq_false' _).mp h13) | replace h13 := of_decide_eq_true (by simpa using h13)
    have hok := logOk_why h13
    have hlok : logOk l = true := hok
    have hle := logTo_le hl0.base hu (Nat.le_refl _) hok
    have hae := at_end hl0.base (show endOf l ≤ 18446744073709551615 by unfold endOf; omega)
    have heo : endOf l = l.base + (l.ents.length : Int) := rfl
    refine .cond_false rfl <| .seq <| .region <| .e (.move rfl) rfl rfl <| .e (.fieldAddr fo43_0 rfl) rfl rfl <| .e (.load ag40 rfl .here rfl) rfl rfl ?_
    refine .e (.leq rfl rfl) rfl rfl <| .e (.assign rfl) rfl rfl <| .nil <| .go ?_
    refine .split 17 rfl (fun h17 => ?_) (fun h17 => ?_)
    · skip
      replace h17 := of_decide_eq_true h17
      refine .cond_true rfl <| .seq <| .region <| .e (.assign rfl) rfl rfl <| .e (.assign rfl) rfl rfl <| .nil ?_
      refine .go <| .ret <| .blk_ret <| .ret ?_
      refine Post.rets rfl (.tmp rfl (.tmp rfl .nil)) rfl (Imm.le_refl _) (fun w h => (Sat.tail h)) ?_
      rw [fromR_stale hlok h17]
      exact ⟨_, [], [], rfl, OwnS.nil, DR.nil, rfl⟩
    · skip
      replace h17 := of_decide_eq_false h17
      refine .cond_false rfl <| .seq <| .region <| .e (.move rfl) rfl rfl <| .e (.loadW ag43 sz43 rfl .here rfl) rfl rfl <| .on rfl <| .callP cal27 rfl rfl rfl (lend_ok hl0) ?_
      refine .e (.gtr rfl rfl) rfl rfl <| .e (.assign rfl) rfl rfl <| .nil <| .go ?_
      refine .split 22 rfl (fun h22 => ?_) (fun h22 => ?_)
      · skip
        replace h22 := of_decide_eq_true h22
        refine .cond_true rfl <| .seq <| .region <| .e (.assign rfl) rfl rfl <| .e (.assign rfl) rfl rfl <| .nil ?_
        refine .go <| .ret <| .blk_ret <| .ret ?_
        refine Post.rets rfl (.tmp rfl (.tmp rfl .nil)) rfl (Imm.le_refl _) (fun w h => (Sat.tail h)) ?_
        rw [fromR_far hlok h17 (by omega)]
        exact ⟨_, [], [], rfl, OwnS.nil, DR.nil, rfl⟩
      · skip
        replace h22 := of_decide_eq_false h22
        obtain ⟨j, hj⟩ : ∃ j : Nat, i - l.base - 1 = (j : Int) := ⟨(i - l.base - 1).toNat, by omega⟩
        have hjl : j ≤ l.ents.length := by omega
        obtain ⟨n, hn, hnl, hfr⟩ := from_n (most := most) hlok h17 hj hjl
        refine .cond_false rfl <| .skip <| .blk_normal <| .go <| .seq <| .region ?_
        refine .e (.fieldAddr fo43_2 rfl) rfl rfl <| .e (.load ag41 rfl .here rfl) rfl rfl <| .e (.move rfl) rfl rfl <| .e (.fieldAddr fo43_0 rfl) rfl rfl <| .e (.load ag40 rfl .here rfl) rfl rfl <| .e (.sub rfl rfl (IntWalk.u64_in _ (by omega))) rfl rfl ?_
        refine .e (.sub rfl rfl (IntWalk.u64_in _ (by omega))) rfl rfl <| .e (.sliceL sl41 rfl rfl hj hjl) rfl rfl <| .e (.assign rfl) rfl rfl <| .nil <| .go <| .seq ?_
        refine .region <| .e (.move rfl) rfl rfl <| .e (.len sl41 rfl rfl) rfl rfl <| .e (.move rfl) rfl rfl <| .e (.max2 rfl rfl rfl) rfl rfl <| .e (.min2 rfl rfl rfl) rfl rfl ?_
        refine .e (.assign rfl) rfl rfl <| .nil <| .go <| .seq <| .region <| .e (.move rfl) rfl rfl ?_
        refine .e (.move rfl) rfl rfl <| .e (.move rfl) rfl rfl <| .e (.slice3 sl41 rfl rfl rfl hn hn (Nat.le_refl _) (by omega)) rfl rfl <| .on rfl <| .call cal29 rfl rfl rfl (own_ok (SlR.take3 (m := n) (q := 5) (SlR.from hev0 hjl) (by rw [List.length_drop]; exact hnl) (Nat.le_refl _) (by omega)) (by have := List.length_take_le n (l.ents.drop j); have := List.length_drop (i := j) (l := l.ents); omega) (fun e he => hM e (List.mem_of_mem_drop (List.mem_of_mem_take he)))) fun v44 I44 O44 hI44 hK44 => ?_
        obtain ⟨ws44, ob44, ho44, hd44, rfl⟩ := hK44
        obtain ⟨ad44, cap44, rfl⟩ := ho44.form
        refine .e (.assign rfl) rfl rfl <| .e (.assign rfl) rfl rfl <| .nil <| .go <| .ret ?_
        refine Post.rets rfl (.tmp rfl (.tmp rfl .nil)) rfl hI44 (fun w h => (Sat.tail (Sat.rem h (Rem.app <| Rem.here)))) ?_
        rw [hfr]
        exact ⟨_, ws44, ob44, rfl, ho44, hd44, rfl⟩

end Go.Proofs.Ytjoaccnfnniahaa

namespace Go.Proofs.Ytjoaccnfnniahaa
open Go.Sy
set_option linter.unusedSimpArgs false
set_option linter.unusedVariables false

def zLg : Lg := ⟨0, 0, []⟩
theorem zLgR {I : Imm} : LgR I [.int .u64 0, .int .u64 0, .slice none 0 0] zLg := ⟨⟨_, rfl, SlR.nil⟩, by unfold U64 zLg; decide, by unfold U64 zLg; decide⟩
def trimR (l : Lg) (q : Int) : Lg × Int := if logOk l = false then (zLg, 10) else if endOf l < q then (zLg, 6) else if l.base < q then (⟨q, termAt l q, l.ents.drop (q - l.base).toNat⟩, 0) else (l, 0)
theorem trimR_no {l : Lg} {q w : Int} (h : ¬logWhy l = 0) (hw : w = 10) : trimR l q = (zLg, w) := by subst hw; unfold trimR; rw [(logNo_why h).1]; rfl
theorem trimR_far {l : Lg} {q : Int} (h : logOk l = true) (hq : endOf l < q) : trimR l q = (zLg, 6) := by unfold trimR; rw [h, if_neg (by simp), if_pos hq]
theorem trimR_cut {l : Lg} {q : Int} {j : Nat} (h : logOk l = true) (hq : ¬endOf l < q) (hb : l.base < q) (hj : q - l.base = (j : Int)) : trimR l q = (⟨q, termAt l q, l.ents.drop j⟩, 0) := by
  have : (q - l.base).toNat = j := by omega
  unfold trimR; rw [h, if_neg (by simp), if_neg hq, if_pos hb, this]
theorem trimR_all {l : Lg} {q : Int} (h : logOk l = true) (hq : ¬endOf l < q) (hb : ¬l.base < q) : trimR l q = (l, 0) := by unfold trimR; rw [h, if_neg (by simp), if_neg hq, if_neg hb]
theorem termAt_u64 {l : Lg} (h : U64 l.term) (hut : ∀ j (hj : j < l.ents.length), U64 l.ents[j].term) (i : Int) : U64 (termAt l i) := by
  unfold termAt
  split
  · exact h
  · by_cases hj : (i - l.base - 1).toNat < l.ents.length
    · rw [entD hj]; exact hut _ hj
    · have : l.ents.getD (i - l.base - 1).toNat ent0 = ent0 := by rw [List.getD_eq_getElem?_getD, List.getElem?_eq_none (by omega)]; rfl
      rw [this]; unfold U64 ent0; decide

end Go.Proofs.Ytjoaccnfnniahaa

namespace Go.Proofs.Ytjoaccnfnniahaa
open Go.Sy
set_option linter.unusedSimpArgs false
set_option linter.unusedVariables false

def bAt (i : Int) (s : List Ent) (j : Nat) : Bool := entOk (s.getD j ent0) && decide ((s.getD j ent0).index = i + (j : Int) + 1)
def bTo (i : Int) (s : List Ent) (k : Nat) : Bool := (List.range k).all (bAt i s)
def bOk (i : Int) (s : List Ent) : Bool := bTo i s s.length
theorem bTo_succ (i : Int) (s : List Ent) (k : Nat) : bTo i s (k + 1) = (bTo i s k && bAt i s k) := by unfold bTo; rw [List.range_succ, List.all_append]; simp
theorem bTo_bad {i : Int} {s : List Ent} {k : Nat} (hk : k < s.length) (h : bAt i s k = false) : bOk i s = false := by
  unfold bOk bTo
  rw [Bool.eq_false_iff]; intro h2
  have := List.all_eq_true.1 h2 k (List.mem_range.2 hk)
  rw [h] at this; cases this
theorem bAt_yes {i : Int} {s : List Ent} {k : Nat} (hk : k < s.length) (h1 : entOk s[k] = true) (h2 : s[k].index = i + (k : Int) + 1) : bAt i s k = true := by
  unfold bAt; rw [entD hk, h1, decide_eq_true h2]; rfl
theorem bAt_no {i : Int} {s : List Ent} {k : Nat} (hk : k < s.length) (h : entOk s[k] = false ∨ ¬s[k].index = i + (k : Int) + 1) : bAt i s k = false := by
  unfold bAt; rw [entD hk]
  rcases h with h | h
  · rw [h]; rfl
  · rw [decide_eq_false h]; simp
theorem b_ix {i : Int} {s : List Ent} (h : bOk i s = true) (j : Nat) (hj : j < s.length) : s[j].index = i + (j : Int) + 1 := by
  have := List.all_eq_true.1 h j (List.mem_range.2 hj)
  unfold bAt at this
  rw [entD hj] at this
  simp only [Bool.and_eq_true, decide_eq_true_eq] at this
  exact this.2

set_option maxHeartbeats 1000000 in
set_option maxRecDepth 20000 in
theorem behind_ok {I : Imm} {O : Own} {v : Value} {s : List Ent} {i : Int} (hs : EntsR I v s) (hi : U64 i) :
    Pure Try.prog 35 [.int .u64 i, v] I O (.bool (bOk i s)) := by
  have hs0 := hs
  obtain ⟨sa, scap, rfl, hs1, hs2, -⟩ := hs
  unfold U64 at hi
  refine Go.Sy.Does.enter Try.func35 rfl Try.ntmps35 rfl ?_
  refine .seq <| .region <| .e (.assign rfl) rfl rfl <| .nil <| .go <| .seq ?_
  refine .seq <| .region <| .e (.move rfl) rfl rfl <| .e (.len sl41 rfl rfl) rfl rfl <| .e (.move rfl) rfl rfl <| .nil ?_
  refine .go <| .block ?_
  refine .loopM [4, 5, 6, 9, 10, 11, 12, 13, 14, 15, 16, 17, 18, 19, 20, 21, 22, 23, 24, 25, 26, 27, 28, 29, 30, 31, 32, 33] (fun k => s.length - k) (fun k => k ≤ s.length ∧ bTo i s k = true) (fun k => [(9, .int .i64 k)]) (fun _ => _) (fun _ => _) (0) ⟨by omega, rfl⟩ ⟨rfl, trivial⟩ rfl rfl ?_
  intro k hk
  obtain ⟨hk, hb⟩ := hk
  refine .seq <| .region <| .e (.lss rfl rfl) rfl rfl <| .nil <| .go <| .seq ?_
  refine .split 10 rfl (fun h10 => ?_) (fun h10 => ?_)
  · skip
    replace h10 := of_decide_eq_true h10
    refine .cond_true rfl <| .skip <| .go <| .seq <| .block <| .seq ?_
    refine .region <| .e (.move rfl) rfl rfl ?_
    obtain ⟨eb12, eo12, cs12, hd12, hat12, hr12⟩ := SlR.at_ hs0 (k := k) (by omega)
    cases hd12
    have he12 := hr12
    obtain ⟨mv12, rfl, hmv12⟩ := hr12.ex
    obtain ⟨ma12, mc12, rfl, -⟩ := hmv12
    have hx12 := he12.index
    unfold U64 at hx12
    refine .e (.indexAddrL sl41 rfl rfl rfl (by omega)) rfl rfl <| .e (.loadIA ag77 sz77 rfl hat12 rfl) rfl rfl <| .on rfl <| .alloc zr77 rfl fun c1 _ _ => .e (.assign rfl) rfl rfl <| .on rfl <| .storeW sz77 rfl rfl rfl rfl rfl rfl .here <| .nil ?_
    refine .go <| .seq <| .region <| .e (.loadW ag77 sz77 rfl .here rfl) rfl rfl <| .on rfl <| .callP cal26 rfl rfl rfl (wCheck_ok he12) <| .e (.neq rfl rfl) rfl rfl ?_
    refine .e (.move rfl) rfl rfl ?_
    refine .split 17 rfl (fun h17 => ?_) (fun h17 => ?_)
    · skip
      first | replace h17 := of_decide_eq_false ((Bool.not_eq_true' _).mp h17) | replace h17 := of_decide_eq_false (by simpa using h17)
      refine .off rfl rfl <| .off rfl rfl <| .off rfl rfl <| .off rfl rfl <| .e (.pickT rfl rfl) rfl rfl <| .e (.move rfl) rfl rfl ?_
      refine .off rfl rfl <| .off rfl rfl <| .off rfl rfl <| .off rfl rfl <| .off rfl rfl <| .off rfl rfl ?_
      refine .off rfl rfl <| .off rfl rfl <| .e (.pickT rfl rfl) rfl rfl <| .nil <| .go <| .cond_true rfl ?_
      refine .seq <| .region <| .e (.assign rfl) rfl rfl <| .nil <| .go <| .ret ?_
      refine .blk_ret <| .ret <| .ret <| .blk_ret <| .ret ?_
      refine .tail ?_
      refine Post.retE rfl rfl ?_
      exact congrArg Value.bool (bTo_bad (k := k) (by omega) (bAt_no (by omega) (.inl (ent_no h17)))).symm
    · skip
      first | replace h17 := of_decide_eq_true ((Bool.not_eq_false' _).mp h17) | replace h17 := of_decide_eq_true (by simpa using h17)
      refine .e (.fieldAddr fo77_0 rfl) rfl rfl <| .e (.load ag40 rfl .here rfl) rfl rfl <| .e (.move rfl) rfl rfl <| .e (.leq rfl rfl) rfl rfl <| .e (.pickF rfl rfl) rfl rfl <| .e (.move rfl) rfl rfl ?_
      refine .split 23 rfl (fun h23 => ?_) (fun h23 => ?_)
      · skip
        replace h23 := of_decide_eq_true h23
        refine .off rfl rfl <| .off rfl rfl <| .off rfl rfl <| .off rfl rfl <| .off rfl rfl <| .off rfl rfl ?_
        refine .off rfl rfl <| .off rfl rfl <| .e (.pickT rfl rfl) rfl rfl <| .nil <| .go <| .cond_true rfl ?_
        refine .seq <| .region <| .e (.assign rfl) rfl rfl <| .nil <| .go <| .ret ?_
        refine .blk_ret <| .ret <| .ret <| .blk_ret <| .ret ?_
        refine .tail ?_
        refine Post.retE rfl rfl ?_
        exact congrArg Value.bool (bTo_bad (k := k) (by omega) (bAt_no (by omega) (.inr (by omega)))).symm
      · skip
        replace h23 := of_decide_eq_false h23
        refine .e (.fieldAddr fo77_0 rfl) rfl rfl <| .e (.load ag40 rfl .here rfl) rfl rfl <| .e (.move rfl) rfl rfl <| .e (.sub rfl rfl (IntWalk.u64_in _ (by omega))) rfl rfl <| .e (.move rfl) rfl rfl <| .e (.conv Try.underlying3 Try.underlying40 rfl) rfl rfl ?_
        refine .e (.add rfl rfl (show IntKind.u64.wrap (IntKind.u64.wrap (k : Int) + 1) = (k : Int) + 1 by rw [show IntKind.u64.wrap (k : Int) = (k : Int) from IntWalk.u64_in _ (by omega)]; exact IntWalk.u64_in _ (by omega))) rfl rfl <| .e (.neq rfl rfl) rfl rfl <| .e (.pickF rfl rfl) rfl rfl <| .nil <| .go ?_
        refine .split 32 rfl (fun h32 => ?_) (fun h32 => ?_)
        · skip
          first | replace h32 := of_decide_eq_false ((Bool.not_eq_true' _).mp h32) | replace h32 := of_decide_eq_false (by simpa using h32)
          refine .cond_true rfl <| .seq <| .region <| .e (.assign rfl) rfl rfl <| .nil <| .go ?_
          refine .ret <| .blk_ret <| .ret <| .ret <| .blk_ret <| .ret ?_
          refine .tail ?_
          refine Post.retE rfl rfl ?_
          exact congrArg Value.bool (bTo_bad (k := k) (by omega) (bAt_no (by omega) (.inr (by omega)))).symm
        · skip
          first | replace h32 := of_decide_eq_true ((Bool.not_eq_false' _).mp h32) | replace h32 := of_decide_eq_true (by simpa using h32)
          refine .cond_false rfl <| .skip <| .blk_normal <| .go <| .region <| .e (.add rfl rfl (by first | exact wrap_succ (by omega) | exact IntWalk.i64_in _ (by omega) | exact rfl)) rfl rfl ?_
          refine .e (.move rfl) rfl rfl <| .nil ?_
          refine .tail ?_
          exact .mid (k + 1) ⟨by omega, by omega, by rw [bTo_succ, hb, bAt_yes (by omega) (ent_of h17) (by omega)]; rfl⟩ ⟨rfl, trivial⟩ rfl rfl (.pre 31 rfl (.app rfl .base))
  · skip
    replace h10 := of_decide_eq_false h10
    refine .cond_false rfl <| .exit <| .exit <| .exit <| .blk_exit <| .go ?_
    refine .seq <| .region <| .e (.assign rfl) rfl rfl <| .nil <| .go <| .ret ?_
    refine Post.retE rfl rfl ?_
    exact congrArg Value.bool ((show bOk i s = bTo i s k by unfold bOk; rw [show k = s.length by omega]).trans hb).symm

end Go.Proofs.Ytjoaccnfnniahaa

namespace Go.Proofs.Ytjoaccnfnniahaa
open Go.Sy
set_option linter.unusedSimpArgs false
set_option linter.unusedVariables false

def adjN (l : Lg) (i : Int) (s : List Ent) : Nat := if i < l.base then (min (l.base - i) (s.length : Int)).toNat else 0
def adjI (l : Lg) (i : Int) (s : List Ent) : Int := i + (adjN l i s : Int)
def adjT (l : Lg) (i t : Int) : Int := if i < l.base then l.term else t
def parts (l : Lg) (e : Ent) : Bool := decide (endOf l < e.index) || !decide (termAt l e.index = e.term)
def joinL (l : Lg) (s : List Ent) (j : Nat) : Lg := ⟨l.base, l.term, l.ents.take ((s.getD j ent0).index - l.base - 1).toNat ++ s.drop j⟩
def joinAt (l : Lg) (s : List Ent) (j : Nat) : Lg × Int × Int := if logOk (joinL l s j) = true then (joinL l s j, (s.getD j ent0).index, 0) else (zLg, 0, 17)
def joinB (l : Lg) (s : List Ent) : Lg × Int × Int := if s.findIdx (parts l) < s.length then joinAt l s (s.findIdx (parts l)) else (l, 0, 0)
def joinR (l : Lg) (i t : Int) (s : List Ent) : Lg × Int × Int :=
  if logOk l = false then (zLg, 0, 10) else if bOk i s = false then (zLg, 0, 4) else if adjI l i s < l.base then (l, 0, 0) else if endOf l < adjI l i s then (zLg, 0, 6) else
  if ¬termAt l (adjI l i s) = adjT l i t then (zLg, 0, 18) else joinB l (s.drop (adjN l i s))
theorem adjN_le {l : Lg} {i : Int} {s : List Ent} : adjN l i s ≤ s.length := by unfold adjN; split <;> omega
theorem adj_no {l : Lg} {i t : Int} {s : List Ent} (h : ¬i < l.base) : adjN l i s = 0 ∧ adjI l i s = i ∧ adjT l i t = t := by
  have : adjN l i s = 0 := by unfold adjN; rw [if_neg h]
  refine ⟨this, by unfold adjI; rw [this]; omega, by unfold adjT; rw [if_neg h]⟩
theorem adj_yes {l : Lg} {i t : Int} {s : List Ent} (h : i < l.base) (hi : U64 i) (hb : U64 l.base) (hs : s.length ≤ 9223372036854775807) :
    (if IntKind.u64.wrap (s.length : Int) < l.base - i then IntKind.u64.wrap (s.length : Int) else l.base - i) = (adjN l i s : Int) ∧ adjT l i t = l.term ∧ IntKind.u64.wrap (i + (if IntKind.u64.wrap (s.length : Int) < l.base - i then IntKind.u64.wrap (s.length : Int) else l.base - i)) = adjI l i s := by
  unfold U64 at *
  have e : IntKind.u64.wrap (s.length : Int) = (s.length : Int) := IntWalk.u64_in _ (by omega)
  have e2 : (if IntKind.u64.wrap (s.length : Int) < l.base - i then IntKind.u64.wrap (s.length : Int) else l.base - i) = (adjN l i s : Int) := by
    rw [e]; unfold adjN; rw [if_pos h]; split <;> omega
  refine ⟨e2, by unfold adjT; rw [if_pos h], ?_⟩
  rw [e2]
  refine IntWalk.u64_in _ ?_
  unfold adjN
  rw [if_pos h]
  omega
theorem adj_ix {l : Lg} {i : Int} {s : List Ent} (h : bOk i s = true) (j : Nat) (hj : j < (s.drop (adjN l i s)).length) : (s.drop (adjN l i s))[j].index = adjI l i s + (j : Int) + 1 := by
  rw [List.getElem_drop, b_ix h]; unfold adjI; omega
theorem find_at {p : Ent → Bool} {s : List Ent} {k : Nat} (hk : k < s.length) (h : (s.take k).any p = false) (hp : p s[k] = true) : s.findIdx p = k := by
  rw [List.findIdx_eq hk]
  refine ⟨hp, fun j hj => ?_⟩
  rw [Bool.eq_false_iff]
  intro hjp
  have : (s.take k).any p = true := List.any_eq_true.2 ⟨s[j], by rw [List.mem_take_iff_getElem]; exact ⟨j, by omega, rfl⟩, hjp⟩
  rw [h] at this; cases this
theorem find_none {p : Ent → Bool} {s : List Ent} (h : s.any p = false) : s.findIdx p = s.length := by
  rw [List.findIdx_eq_length]
  intro x hx
  rw [Bool.eq_false_iff]; intro h2
  have := List.any_eq_true.2 ⟨x, hx, h2⟩
  rw [h] at this; cases this
theorem joinB_none {l : Lg} {s : List Ent} (h : s.any (parts l) = false) : joinB l s = (l, 0, 0) := by
  unfold joinB; rw [find_none h, if_neg (Nat.lt_irrefl _)]
theorem joinB_at {l : Lg} {s : List Ent} {k : Nat} (hk : k < s.length) (h : (s.take k).any (parts l) = false) (hp : parts l s[k] = true) : joinB l s = joinAt l s k := by
  unfold joinB; rw [find_at hk h hp, if_pos hk]
theorem parts_far {l : Lg} {e : Ent} (h : endOf l < e.index) : parts l e = true := by unfold parts; rw [decide_eq_true h]; rfl
theorem parts_term {l : Lg} {e : Ent} (h : ¬termAt l e.index = e.term) : parts l e = true := by unfold parts; rw [decide_eq_false h]; simp
theorem parts_no {l : Lg} {e : Ent} (h : ¬endOf l < e.index) (h2 : termAt l e.index = e.term) : parts l e = false := by unfold parts; rw [decide_eq_false h, decide_eq_true h2]; rfl
theorem part_le {l : Lg} {s : List Ent} {i : Int} {k : Nat} (hix : ∀ j (hj : j < s.length), s[j].index = i + (j : Int) + 1) (hi : ¬endOf l < i) (hk : k < s.length) (h : (s.take k).any (parts l) = false) : s[k].index ≤ endOf l + 1 := by
  rcases Nat.eq_zero_or_pos k with h0 | h0
  · have := hix k hk; omega
  · have h1 := hix k hk
    have h2 := hix (k - 1) (by omega)
    have h3 : parts l s[k - 1] = false := by
      rw [Bool.eq_false_iff]; intro hp
      have : (s.take k).any (parts l) = true := List.any_eq_true.2 ⟨s[k - 1], by rw [List.mem_take_iff_getElem]; exact ⟨k - 1, by omega, rfl⟩, hp⟩
      rw [h] at this; cases this
    unfold parts at h3
    rw [Bool.or_eq_false_iff] at h3
    have h4 := of_decide_eq_false h3.1
    omega
theorem any_nil_of {p : Ent → Bool} {s : List Ent} {k : Nat} (hk : k = s.length) (h : (s.take k).any p = false) : s.any p = false := by subst hk; rwa [List.take_length] at h
theorem joinR_no {l : Lg} {i t w : Int} {s : List Ent} (h : ¬logWhy l = 0) (hw : w = 10) : joinR l i t s = (zLg, 0, w) := by subst hw; unfold joinR; rw [(logNo_why h).1]; rfl
theorem joinR_form {l : Lg} {i t : Int} {s : List Ent} (h : logOk l = true) (h2 : bOk i s = false) : joinR l i t s = (zLg, 0, 4) := by unfold joinR; rw [h, h2]; rfl
theorem joinR_old {l : Lg} {i t : Int} {s : List Ent} (h : logOk l = true) (h2 : bOk i s = true) (h3 : adjI l i s < l.base) : joinR l i t s = (l, 0, 0) := by
  unfold joinR; rw [h, h2, if_neg (by simp), if_neg (by simp), if_pos h3]
theorem joinR_far {l : Lg} {i t : Int} {s : List Ent} (h : logOk l = true) (h2 : bOk i s = true) (h3 : ¬adjI l i s < l.base) (h4 : endOf l < adjI l i s) : joinR l i t s = (zLg, 0, 6) := by
  unfold joinR; rw [h, h2, if_neg (by simp), if_neg (by simp), if_neg h3, if_pos h4]
theorem joinR_gap {l : Lg} {i t : Int} {s : List Ent} (h : logOk l = true) (h2 : bOk i s = true) (h3 : ¬adjI l i s < l.base) (h4 : ¬endOf l < adjI l i s) (h5 : ¬termAt l (adjI l i s) = adjT l i t) : joinR l i t s = (zLg, 0, 18) := by
  unfold joinR; rw [h, h2, if_neg (by simp), if_neg (by simp), if_neg h3, if_neg h4, if_pos h5]
theorem joinR_in {l : Lg} {i t : Int} {s : List Ent} (h : logOk l = true) (h2 : bOk i s = true) (h3 : ¬adjI l i s < l.base) (h4 : ¬endOf l < adjI l i s) (h5 : termAt l (adjI l i s) = adjT l i t) : joinR l i t s = joinB l (s.drop (adjN l i s)) := by
  unfold joinR; rw [h, h2, if_neg (by simp), if_neg (by simp), if_neg h3, if_neg h4, if_neg (by simp [h5])]
theorem joinAt_yes {l : Lg} {s : List Ent} {k : Nat} (h : logWhy (joinL l s k) = 0) : joinAt l s k = (joinL l s k, (s.getD k ent0).index, 0) := by
  unfold joinAt logOk; rw [logOk_why h, if_pos rfl]
theorem joinAt_no {l : Lg} {s : List Ent} {k : Nat} (h : ¬logWhy (joinL l s k) = 0) : joinAt l s k = (zLg, 0, 17) := by
  unfold joinAt; rw [(logNo_why h).1, if_neg (by simp)]
theorem joinL_eq {l : Lg} {s : List Ent} {k h : Nat} (hk : k < s.length) (hh : s[k].index - l.base - 1 = (h : Int)) : joinL l s k = ⟨l.base, l.term, l.ents.take h ++ s.drop k⟩ := by
  unfold joinL; rw [entD hk, show (s[k].index - l.base - 1).toNat = h by omega]

set_option maxHeartbeats 8000000 in
set_option maxRecDepth 20000 in
theorem lJoin_ok {I : Imm} {O : Own} {lc : List Value} {l : Lg} (hl : LgR I lc l) {v : Value} {s : List Ent} (hs : EntsR I v s) {i t : Int} (hi : U64 i) (ht : U64 t) (hL : l.ents.length * 64 ≤ 140737488351232) (hM : ∀ e ∈ l.ents, e.members.length * 8 ≤ 140737488351232) (hLs : s.length * 64 ≤ 140737488351232) (hMs : ∀ e ∈ s, e.members.length * 8 ≤ 140737488351232) (hLL0 : (s.drop (adjN l i s)).any (parts l) = true → (l.ents.length + s.length) * 64 ≤ 140737488351232) :
    Go.Sy.Does Try.prog 17 [.agg ⟨lc⟩, .int .u64 i, .int .u64 t, v] I O (fun u I' O' => ∃ cs, u = .tuple ⟨[.agg ⟨cs⟩, .int .u64 (joinR l i t s).2.1, .int .i64 (joinR l i t s).2.2]⟩ ∧ LgR I' cs (joinR l i t s).1 ∧ O' = O) := by
  have hl0 := hl
  obtain ⟨ev, rfl, hev⟩ := hl.ex
  have hev0 := hev
  obtain ⟨va, vcap, rfl, hv1, hv2, -⟩ := hev
  have hbase := hl0.base
  have hterm := hl0.term
  unfold U64 at hbase hterm
  have hu : ∀ j (hj : j < l.ents.length), U64 l.ents[j].index := fun j hj => by
    obtain ⟨_, _, _, _, _, hr⟩ := SlR.at_ hev0 hj
    exact hr.index
  have hut : ∀ j (hj : j < l.ents.length), U64 l.ents[j].term := fun j hj => by
    obtain ⟨_, _, _, _, _, hr⟩ := SlR.at_ hev0 hj
    exact hr.term
  have hs0 := hs
  obtain ⟨sa, scap, rfl, hs1, hs2, -⟩ := hs
  have hi0 := hi
  have ht0 := ht
  unfold U64 at hi0 ht0
  refine Go.Sy.Does.enter Try.func17 rfl Try.ntmps17 rfl ?_
  refine .seq <| .region <| .on rfl <| .box rfl rfl rfl fun c1 _ _ => .on rfl <| .alloc zr43 rfl fun c2 _ _ => .e (.assign rfl) rfl rfl <| .e (.assign rfl) rfl rfl ?_
  refine .nil <| .go <| .scope <| .seq <| .seq <| .region ?_
  refine .e (.loadW ag43 sz43 rfl (.there <| .here) rfl) rfl rfl <| .on rfl <| .callP cal12 rfl rfl rfl (lCheck_ok hl0) <| .e (.assign rfl) rfl rfl <| .nil <| .go <| .seq ?_
  refine .region <| .e (.move rfl) rfl rfl <| .e (.neq rfl rfl) rfl rfl <| .nil <| .go ?_
  refine .split 19 rfl (fun h19 => ?_) (fun h19 => ?_)
  · skip
    first | replace h19 := of_decide_eq_false ((Bool.not_eq_true' _).mp h19) | replace h19 := of_decide_eq_false (by simpa using h19)
    refine .cond_true rfl <| .seq <| .region <| .e (.build bs43 zv43 rfl rfl) rfl rfl <| .e (.move rfl) rfl rfl <| .on rfl <| .storeW sz43 rfl rfl rfl rfl rfl rfl .here ?_
    refine .e (.assign rfl) rfl rfl <| .e (.assign rfl) rfl rfl <| .nil <| .go <| .ret <| .ret ?_
    refine .sc_ret ?_
    refine Post.rets rfl (.agg rfl ag43 sz43 .here rfl (.tmp rfl (.tmp rfl .nil))) rfl (Imm.le_refl _) (fun w h => (Sat.tail (Sat.tail h))) ?_
    rw [joinR_no h19 (logNo_why h19).2]
    exact ⟨_, rfl, zLgR, rfl⟩
  · skip
    first | replace h19 := of_decide_eq_true ((Bool.not_eq_false' _).mp h19) | replace h19 := of_decide_eq_true (by simpa using h19)
    have hok := logOk_why h19
    have hlok : logOk l = true := hok
    have hle := logTo_le hl0.base hu (Nat.le_refl _) hok
    have hae := at_end hl0.base (show endOf l ≤ 18446744073709551615 by unfold endOf; omega)
    have heo : endOf l = l.base + (l.ents.length : Int) := rfl
    refine .cond_false rfl <| .skip <| .go <| .seq <| .seq <| .region ?_
    refine .e (.move rfl) rfl rfl <| .e (.move rfl) rfl rfl <| .on rfl <| .callP cal35 rfl rfl rfl (behind_ok hs0 hi) <| .e (.not rfl) rfl rfl <| .nil <| .go ?_
    refine .split 25 rfl (fun h25 => ?_) (fun h25 => ?_)
    · skip
      refine .cond_true rfl <| .seq <| .region <| .e (.build bs43 zv43 rfl rfl) rfl rfl <| .on rfl <| .storeW sz43 rfl rfl rfl rfl rfl rfl .here <| .e (.assign rfl) rfl rfl ?_
      refine .e (.assign rfl) rfl rfl <| .nil <| .go <| .ret <| .ret <| .sc_ret ?_
      refine Post.rets rfl (.agg rfl ag43 sz43 .here rfl (.tmp rfl (.tmp rfl .nil))) rfl (Imm.le_refl _) (fun w h => (Sat.tail (Sat.tail h))) ?_
      rw [joinR_form hlok (by simpa using h25)]
      exact ⟨_, rfl, zLgR, rfl⟩
    · skip
      have hbok : bOk i s = true := by simpa using h25
      refine .cond_false rfl <| .skip <| .go <| .seq <| .region <| .e (.loadW ag43 sz43 rfl (.there <| .here) rfl) rfl rfl ?_
      refine .on rfl <| .call cal36 rfl rfl rfl (Own_ok hl0 hL hM) fun v28 I28 O28 hI28 hK28 => ?_
      obtain ⟨ev28, ws28, ob28, rfl, ho28, hd28, rfl⟩ := hK28
      obtain ⟨ad28, cap28, rfl⟩ := ho28.form
      refine .lend ho28 fun K hK hKs hKt => ?_
      have hek : EntsR K _ l.ents := hKs (R := EntR) (hd28.mono fun _ _ h => h.mono hK) rfl
      have hlk : LgR K (l.cells (.slice ad28 l.ents.length cap28)) l := ⟨⟨_, rfl, hek⟩, hl0.base, hl0.term⟩
      have hs28 := hs0.mono hI28
      refine .on rfl <| .storeW sz43 rfl rfl rfl rfl rfl rfl (.there <| .here) <| .nil <| .go ?_
      refine .meetO (σ := Value) [1, 2, 3, 12, 29, 30, 31, 32, 33, 34, 35, 36, 37, 38, 39, 40, 41, 42, 43, 44, 45, 46, 47, 48] (fun v => EntsR I28 v (s.drop (adjN l i s))) (fun v => [(1, .int .u64 (adjI l i s)), (2, .int .u64 (adjT l i t)), (3, v)]) (fun _ => K) (fun R _ => R) ?_ ?_
      · skip
        refine .seq <| .region <| .e (.move rfl) rfl rfl <| .e (.fieldAddr fo43_0 rfl) rfl rfl <| .e (.load ag40 rfl (.there <| .here) rfl) rfl rfl <| .e (.lss rfl rfl) rfl rfl ?_
        refine .nil <| .go ?_
        refine .split 32 rfl (fun h32 => ?_) (fun h32 => ?_)
        · skip
          replace h32 := of_decide_eq_true h32
          have hadj := adj_yes (t := t) (s := s) h32 hi hl0.base (by omega)
          refine .cond_true rfl <| .seq <| .region <| .e (.fieldAddr fo43_0 rfl) rfl rfl <| .e (.load ag40 rfl (.there <| .here) rfl) rfl rfl <| .e (.move rfl) rfl rfl ?_
          refine .e (.sub rfl rfl (IntWalk.u64_in _ (by omega))) rfl rfl <| .e (.move rfl) rfl rfl <| .e (.len sl41 rfl rfl) rfl rfl <| .e (.conv Try.underlying3 Try.underlying40 rfl) rfl rfl <| .e (.min2 rfl rfl rfl) rfl rfl <| .e (.assign rfl) rfl rfl ?_
          refine .nil <| .go ?_
          refine .draw [(c1, _)] mixed (.cons (.there <| .here) .nil) ?_
          refine .t 0 rfl (.move rfl) rfl rfl (by kernel_rfl) <| .t 1 rfl (.move rfl) rfl rfl (by kernel_rfl) <| .t 2 rfl (.add rfl rfl hadj.2.2) rfl rfl (by kernel_rfl) <| .t 3 rfl (.fieldAddr fo43_1 rfl) rfl rfl (by kernel_rfl) <| .t 4 rfl (.load ag40 rfl .here rfl) rfl rfl (by kernel_rfl) <| .t 5 rfl (.move rfl) rfl rfl (by kernel_rfl) ?_
          refine .t 6 rfl (.move rfl) rfl rfl (by kernel_rfl) <| .t 7 rfl (.sliceL sl41 rfl rfl hadj.1 adjN_le) rfl rfl (by kernel_rfl) <| .t 8 rfl (.assign rfl) rfl rfl (by kernel_rfl) <| .t 9 rfl (.assign rfl) rfl rfl (by kernel_rfl) <| .t 10 rfl (.assign rfl) rfl rfl (by kernel_rfl) <| .done (by kernel_rfl) ?_
          exact .mid (_) (SlR.from hs28 adjN_le) ⟨rfl, congrArg (fun x => some (Value.int .u64 x)) hadj.2.1.symm, rfl, trivial⟩ rfl rfl (.pre 25 rfl .self)
        · skip
          replace h32 := of_decide_eq_false h32
          refine .cond_false rfl <| .skip ?_
          exact .mid (_) (by rw [(adj_no (t := t) h32).1, List.drop_zero]; exact hs28) ⟨congrArg (fun x => some (Value.int .u64 x)) (adj_no (t := t) (s := s) h32).2.1.symm, congrArg (fun x => some (Value.int .u64 x)) (adj_no (s := s) h32).2.2.symm, rfl, trivial⟩ rfl rfl (.pre 5 rfl .self)
      · intro v3 hv3
        have hv30 := hv3
        obtain ⟨ta, tcap, rfl, hv31, hv32, -⟩ := hv3
        obtain ⟨S, hS⟩ : ∃ S, s.drop (adjN l i s) = S := ⟨_, rfl⟩
        have hix := adj_ix (l := l) hbok
        have hSl : S.length ≤ s.length := by rw [← hS, List.length_drop]; omega
        have hSm : ∀ e ∈ S, e.members.length * 8 ≤ 140737488351232 := fun e he => hMs e (List.mem_of_mem_drop (hS ▸ he))
        have hjB := @joinR_in l i t s hlok hbok
        rw [hS] at hv30 hv31 hix hjB hLL0
        rw [hS]
        obtain ⟨i', hi'⟩ : ∃ x, adjI l i s = x := ⟨_, rfl⟩
        obtain ⟨t', ht'⟩ : ∃ x, adjT l i t = x := ⟨_, rfl⟩
        have hold := @joinR_old l i t s hlok hbok
        have hfar := @joinR_far l i t s hlok hbok
        have hgap := @joinR_gap l i t s hlok hbok
        rw [hi'] at hix hold
        simp only [hi', ht'] at hfar hgap hjB
        rw [hi', ht']
        have hv3K := hv30.mono hK
        refine .seq <| .block <| .seq <| .region <| .e (.move rfl) rfl rfl <| .e (.fieldAddr fo43_0 rfl) rfl rfl ?_
        refine .e (.load ag40 rfl (.there <| .here) rfl) rfl rfl <| .e (.lss rfl rfl) rfl rfl <| .e (.assign rfl) rfl rfl <| .nil <| .go ?_
        refine .split 49 rfl (fun h49 => ?_) (fun h49 => ?_)
        · skip
          replace h49 := of_decide_eq_true h49
          refine .cond_true rfl <| .seq <| .region <| .e (.loadW ag43 sz43 rfl (.there <| .here) rfl) rfl rfl <| .on rfl <| .storeW sz43 rfl rfl rfl rfl rfl rfl .here <| .e (.assign rfl) rfl rfl ?_
          refine .e (.assign rfl) rfl rfl <| .nil <| .go <| .ret <| .blk_ret <| .ret ?_
          refine .sc_ret ?_
          refine Post.rets rfl (.agg rfl ag43 sz43 .here rfl (.tmp rfl (.tmp rfl .nil))) rfl (Imm.le_trans hI28 hK) (fun w h => (Sat.tail (Sat.tail h))) ?_
          rw [hold h49]
          exact ⟨_, rfl, hlk, rfl⟩
        · skip
          replace h49 := of_decide_eq_false h49
          refine .cond_false rfl <| .seq <| .region <| .e (.move rfl) rfl rfl <| .e (.loadW ag43 sz43 rfl (.there <| .here) rfl) rfl rfl <| .on rfl <| .callP cal27 rfl rfl rfl (lend_ok hlk) ?_
          refine .e (.gtr rfl rfl) rfl rfl <| .e (.assign rfl) rfl rfl <| .nil <| .go ?_
          refine .split 55 rfl (fun h55 => ?_) (fun h55 => ?_)
          · skip
            replace h55 := of_decide_eq_true h55
            refine .cond_true rfl <| .seq <| .region <| .e (.build bs43 zv43 rfl rfl) rfl rfl <| .on rfl <| .storeW sz43 rfl rfl rfl rfl rfl rfl .here <| .e (.assign rfl) rfl rfl ?_
            refine .e (.assign rfl) rfl rfl <| .nil <| .go <| .ret <| .blk_ret <| .ret ?_
            refine .sc_ret ?_
            refine Post.rets rfl (.agg rfl ag43 sz43 .here rfl (.tmp rfl (.tmp rfl .nil))) rfl (Imm.le_trans hI28 hK) (fun w h => (Sat.tail (Sat.tail h))) ?_
            rw [hfar h49 (by omega)]
            exact ⟨_, rfl, zLgR, rfl⟩
          · skip
            replace h55 := of_decide_eq_false h55
            refine .cond_false rfl <| .seq <| .region <| .e (.loadW ag43 sz43 rfl (.there <| .here) rfl) rfl rfl <| .e (.move rfl) rfl rfl <| .on rfl <| .callP cal28 rfl rfl rfl (lterm_ok hlk (by omega) (by omega)) ?_
            refine .e (.move rfl) rfl rfl <| .e (.neq rfl rfl) rfl rfl <| .e (.assign rfl) rfl rfl <| .nil <| .go ?_
            refine .split 61 rfl (fun h61 => ?_) (fun h61 => ?_)
            · skip
              first | replace h61 := of_decide_eq_false ((Bool.not_eq_true' _).mp h61) | replace h61 := of_decide_eq_false (by simpa using h61)
              refine .cond_true rfl <| .seq <| .region <| .e (.build bs43 zv43 rfl rfl) rfl rfl <| .on rfl <| .storeW sz43 rfl rfl rfl rfl rfl rfl .here <| .e (.assign rfl) rfl rfl ?_
              refine .e (.assign rfl) rfl rfl <| .nil <| .go <| .ret <| .blk_ret <| .ret ?_
              refine .sc_ret ?_
              refine Post.rets rfl (.agg rfl ag43 sz43 .here rfl (.tmp rfl (.tmp rfl .nil))) rfl (Imm.le_trans hI28 hK) (fun w h => (Sat.tail (Sat.tail h))) ?_
              rw [hgap h49 (by omega) h61]
              exact ⟨_, rfl, zLgR, rfl⟩
            · skip
              first | replace h61 := of_decide_eq_true ((Bool.not_eq_false' _).mp h61) | replace h61 := of_decide_eq_true (by simpa using h61)
              refine .cond_false rfl <| .skip <| .blk_normal <| .go <| .seq <| .label ?_
              refine .go <| .seq <| .seq <| .region <| .e (.move rfl) rfl rfl <| .e (.len sl41 rfl rfl) rfl rfl ?_
              refine .e (.move rfl) rfl rfl <| .nil <| .go <| .block ?_
              refine .loopM [3, 9, 10, 13, 14, 70, 71, 72, 73, 74, 75, 76, 77, 78, 79, 80, 81, 82, 83, 84, 85, 86, 87, 88, 89, 90, 91, 92, 93, 94, 95, 96, 97, 98] (fun k => S.length - k) (fun k => k ≤ S.length ∧ (k = S.length → S.length = 0) ∧ (S.take k).any (parts l) = false) (fun k => [(70, .int .i64 k), (3, .slice ta S.length tcap)]) (fun _ => _) (fun _ => _) (0) ⟨by omega, fun h => h.symm, rfl⟩ ⟨rfl, rfl, trivial⟩ rfl rfl ?_
              intro k hk
              obtain ⟨hk, hkn, hany⟩ := hk
              refine .seq <| .region <| .e (.lss rfl rfl) rfl rfl <| .nil <| .go <| .seq ?_
              refine .split 71 rfl (fun h71 => ?_) (fun h71 => ?_)
              · skip
                replace h71 := of_decide_eq_true h71
                refine .cond_true rfl <| .skip <| .go <| .seq <| .block <| .seq ?_
                refine .region <| .e (.move rfl) rfl rfl ?_
                obtain ⟨eb73, eo73, cs73, hd73, hat73, hr73⟩ := SlR.at_ hv3K (k := k) (by omega)
                cases hd73
                have he73 := hr73
                obtain ⟨mv73, rfl, hmv73⟩ := hr73.ex
                obtain ⟨ma73, mc73, rfl, -⟩ := hmv73
                refine .e (.indexAddrL sl41 rfl rfl rfl (by omega)) rfl rfl <| .e (.loadIA ag77 sz77 rfl hat73 rfl) rfl rfl <| .on rfl <| .alloc zr77 rfl fun c3 _ _ => .e (.assign rfl) rfl rfl <| .on rfl <| .storeW sz77 rfl rfl rfl rfl rfl rfl .here <| .nil ?_
                refine .go <| .block <| .seq <| .seq ?_
                refine .draw [(c3, _), (c1, _)] mixed (.cons .here (.cons (.there <| .there <| .here) .nil)) ?_
                refine .t 0 rfl (.fieldAddr fo77_0 rfl) rfl rfl (by kernel_rfl) <| .t 1 rfl (.load ag40 rfl .here rfl) rfl rfl (by kernel_rfl) <| .t 2 rfl (.loadW ag43 sz43 rfl (.there <| .here) rfl) rfl rfl (by kernel_rfl) <| .one (i := 3) (by kernel_rfl) rfl rfl <| .callP cal27 rfl rfl rfl (lend_ok hlk) ?_
                refine ⟨(.cons .here (.cons (.there <| .there <| .here) .nil)), Imm.le_refl _, ?_⟩
                refine .t 4 rfl (.gtr rfl rfl) rfl rfl (by kernel_rfl) <| .t 5 rfl (.assign rfl) rfl rfl (by kernel_rfl) <| .done (by kernel_rfl) <| .go ?_
                refine .split 75 rfl (fun h75 => ?_) (fun h75 => ?_)
                · skip
                  replace h75 := of_decide_eq_true h75
                  have hkS : k < S.length := by omega
                  have hpart : parts l S[k] = true := parts_far (by omega)
                  refine .cond_true rfl <| .skip <| .go <| .cond_true rfl <| .seq <| .region ?_
                  refine .e (.move rfl) rfl rfl <| .e (.move rfl) rfl rfl <| .e (.sliceLs sl41 rfl rfl rfl (by omega) (by omega)) rfl rfl <| .e (.assign rfl) rfl rfl <| .nil <| .go ?_
                  refine .exit <| .blk_other rfl <| .blk_other rfl <| .exit <| .exit <| .blk_exit ?_
                  refine .go <| .seq <| .seq <| .region <| .e (.move rfl) rfl rfl <| .e (.len sl41 rfl rfl) rfl rfl ?_
                  refine .e (.eql rfl rfl) rfl rfl <| .nil <| .go ?_
                  refine .split 101 rfl (fun h101 => ?_) (fun h101 => ?_)
                  · skip
                    replace h101 := of_decide_eq_true h101
                    exact absurd h101 (by omega)
                  · skip
                    replace h101 := of_decide_eq_false h101
                    have hLL := hLL0 (List.any_eq_true.2 ⟨S[k], List.getElem_mem _, hpart⟩)
                    obtain ⟨h, hh⟩ : ∃ h : Nat, S[k].index - l.base - 1 = (h : Int) := ⟨(S[k].index - l.base - 1).toNat, by have := hix k (by omega); omega⟩
                    have hhl : h ≤ l.ents.length := by have := part_le hix (by omega) hkS hany; omega
                    have ho28s := OwnS.take (q := 5) ho28 hhl
                    have hc28 := ho28.capLe
                    have hsd := SlR.fromS hv30 hkS
                    have hdl : (S.drop k).length = S.length - k := List.length_drop
                    refine .cond_false rfl <| .skip <| .go <| .seq <| .region ?_
                    refine .thaw hKt ?_
                    refine .e (.move rfl) rfl rfl ?_
                    obtain ⟨eb104, eo104, cs104, hd104, hat104, hr104⟩ := SlR.at_ hsd (k := 0) (by omega)
                    cases hd104
                    have e0 : (S.drop k)[0]'(by omega) = S[k] := by simp
                    rw [e0] at hr104
                    have he104 := hr104
                    obtain ⟨mv104, rfl, hmv104⟩ := hr104.ex
                    obtain ⟨ma104, mc104, rfl, -⟩ := hmv104
                    refine .e (.indexAddrL sl41 rfl rfl (show (0 : Int) = ((0 : Nat) : Int) from rfl) (by omega)) rfl rfl <| .e (.fieldAddr fo77_0 rfl) rfl rfl <| .e (.loadI ag40 rfl (hat104.cell (j := 0) rfl)) rfl rfl <| .e (.assign rfl) rfl rfl <| .nil <| .go ?_
                    refine .seq ?_
                    refine .draw [(c1, _)] mixed (.cons (.app <| .there <| .there <| .here) .nil) ?_
                    refine .t 0 rfl (.fieldAddr fo43_2 rfl) rfl rfl (by kernel_rfl) <| .t 1 rfl (.load ag41 rfl .here rfl) rfl rfl (by kernel_rfl) <| .t 2 rfl (.move rfl) rfl rfl (by kernel_rfl) <| .t 3 rfl (.fieldAddr fo43_0 rfl) rfl rfl (by kernel_rfl) <| .t 4 rfl (.load ag40 rfl .here rfl) rfl rfl (by kernel_rfl) <| .t 5 rfl (.sub rfl rfl (IntWalk.u64_in _ (by have := hix k (by omega); omega))) rfl rfl (by kernel_rfl) ?_
                    refine .t 6 rfl (.sub rfl rfl (IntWalk.u64_in _ (by have := hix k (by omega); omega))) rfl rfl (by kernel_rfl) <| .t 7 rfl (.sliceH sl41 rfl rfl hh (by omega)) rfl rfl (by kernel_rfl) <| .t 8 rfl (.move rfl) rfl rfl (by kernel_rfl) <| .one (i := 9) (by kernel_rfl) rfl rfl <| .call cal29 rfl rfl rfl (own_ok hsd (by have := List.length_drop (i := k) (l := S); omega) (fun e he => hSm e (List.mem_of_mem_drop he))) fun v116 I116 O116 hI116 hK116 => ?_
                    obtain ⟨ws116, ob116, ho116, hd116, rfl⟩ := hK116
                    obtain ⟨ad116, cap116, rfl⟩ := ho116.form
                    refine ⟨(.cons (.app <| .app <| .there <| .there <| .here) .nil), hI116, ?_⟩
                    refine .one (i := 10) (by kernel_rfl) rfl rfl <| .append Try.underlying41 Try.underlying41 sz77 by77 zv77 rfl rfl rfl (.app <| .front) ho28s (ho116.src (I := _) .front) hd116.1 (hd116.ones (by decide) fun _ _ h => EntR.ones h) (by omega) (by omega) rfl fun v117 ob117 ho117 => ?_
                    refine ⟨(.cons (.app <| .app <| .there <| .there <| .here) .nil), hI116, ?_⟩
                    refine .t 11 rfl (.fieldAddr fo43_2 rfl) rfl rfl (by kernel_rfl) ?_
                    obtain ⟨ad117, cap117, rfl⟩ := ho117.form
                    refine .late (i := 12) (by kernel_rfl) (by kernel_rfl) (by kernel_rfl) rfl rfl <| .store sz41 rfl rfl rfl rfl rfl rfl (.app <| .app <| .there <| .there <| .here) <| .go <| .seq <| .seq <| .region ?_
                    refine .freezeS ho117 fun K2 hK2 hK2s => ?_
                    have hek2 : EntsR K2 _ (l.ents.take h ++ S.drop k) := hK2s (R := EntR) (((hd28.take hhl).mono fun _ _ hx => (hx.mono hI116).mono hK2).append (hd116.mono fun _ _ hx => hx.mono hK2)) (by simp; omega)
                    have hl2 : LgR K2 (Lg.cells ⟨l.base, l.term, l.ents.take h ++ S.drop k⟩ (.slice ad117 (h + (S.drop k).length) cap117)) ⟨l.base, l.term, l.ents.take h ++ S.drop k⟩ := ⟨⟨_, rfl, hek2⟩, hl0.base, hl0.term⟩
                    refine .e (.loadW ag43 sz43 rfl (.app <| .there <| .there <| .here) rfl) rfl rfl <| .on rfl <| .callP cal12 rfl rfl rfl (lCheck_ok hl2) <| .e (.neq rfl rfl) rfl rfl <| .nil <| .go ?_
                    refine .split 121 rfl (fun h121 => ?_) (fun h121 => ?_)
                    · skip
                      first | replace h121 := of_decide_eq_false ((Bool.not_eq_true' _).mp h121) | replace h121 := of_decide_eq_false (by simpa using h121)
                      refine .cond_true rfl <| .seq <| .region <| .e (.build bs43 zv43 rfl rfl) rfl rfl <| .on rfl <| .storeW sz43 rfl rfl rfl rfl rfl rfl (.app <| .there <| .here) <| .e (.assign rfl) rfl rfl ?_
                      refine .e (.assign rfl) rfl rfl <| .nil <| .go <| .ret <| .ret <| .sc_ret ?_
                      refine Post.rets rfl (.agg rfl ag43 sz43 (.app <| .there <| .here) rfl (.tmp rfl (.tmp rfl .nil))) rfl (Imm.le_trans (Imm.le_trans hI28 hI116) hK2) (fun w h => (Sat.tail (Sat.tail (Sat.tail (Sat.drop h))))) ?_
                      rw [hjB h49 (by omega) h61, joinB_at hkS hany hpart, joinAt_no (by rw [joinL_eq hkS hh]; exact h121)]
                      exact ⟨_, rfl, zLgR, rfl⟩
                    · skip
                      first | replace h121 := of_decide_eq_true ((Bool.not_eq_false' _).mp h121) | replace h121 := of_decide_eq_true (by simpa using h121)
                      refine .cond_false rfl <| .skip <| .go <| .seq <| .region <| .e (.loadW ag43 sz43 rfl (.app <| .there <| .there <| .here) rfl) rfl rfl ?_
                      refine .e (.move rfl) rfl rfl <| .on rfl <| .storeW sz43 rfl rfl rfl rfl rfl rfl (.app <| .there <| .here) <| .e (.assign rfl) rfl rfl <| .e (.assign rfl) rfl rfl <| .nil <| .go ?_
                      refine .ret <| .sc_ret ?_
                      refine Post.rets rfl (.agg rfl ag43 sz43 (.app <| .there <| .here) rfl (.tmp rfl (.tmp rfl .nil))) rfl (Imm.le_trans (Imm.le_trans hI28 hI116) hK2) (fun w h => (Sat.tail (Sat.tail (Sat.tail (Sat.drop h))))) ?_
                      rw [hjB h49 (by omega) h61, joinB_at hkS hany hpart, joinAt_yes (by rw [joinL_eq hkS hh]; exact h121), joinL_eq hkS hh, entD hkS]
                      exact ⟨_, rfl, hl2, rfl⟩
                · skip
                  replace h75 := of_decide_eq_false h75
                  refine .cond_false rfl ?_
                  refine .draw [(c1, _), (c3, _)] mixed (.cons (.there <| .there <| .here) (.cons .here .nil)) ?_
                  refine .t 0 rfl (.loadW ag43 sz43 rfl .here rfl) rfl rfl (by kernel_rfl) <| .t 1 rfl (.fieldAddr fo77_0 rfl) rfl rfl (by kernel_rfl) <| .t 2 rfl (.load ag40 rfl (.there <| .here) rfl) rfl rfl (by kernel_rfl) <| .t 4 rfl (.fieldAddr fo77_1 rfl) rfl rfl (by kernel_rfl) <| .t 5 rfl (.load ag40 rfl (.there <| .here) rfl) rfl rfl (by kernel_rfl) <| .one (i := 3) (by kernel_rfl) rfl rfl ?_
                  refine .callP cal28 rfl rfl rfl (lterm_ok hlk (by have := hix k (by omega); omega) (by omega)) ?_
                  refine ⟨(.cons (.there <| .there <| .here) (.cons .here .nil)), Imm.le_refl _, ?_⟩
                  refine .t 6 rfl (.neq rfl rfl) rfl rfl (by kernel_rfl) <| .t 7 rfl (.assign rfl) rfl rfl (by kernel_rfl) <| .done (by kernel_rfl) <| .go ?_
                  refine .split 75 rfl (fun h75_2 => ?_) (fun h75_2 => ?_)
                  · skip
                    first | replace h75_2 := of_decide_eq_false ((Bool.not_eq_true' _).mp h75_2) | replace h75_2 := of_decide_eq_false (by simpa using h75_2)
                    have hkS : k < S.length := by omega
                    have hpart : parts l S[k] = true := parts_term h75_2
                    refine .cond_true rfl <| .seq <| .region <| .e (.move rfl) rfl rfl <| .e (.move rfl) rfl rfl <| .e (.sliceLs sl41 rfl rfl rfl (by omega) (by omega)) rfl rfl ?_
                    refine .e (.assign rfl) rfl rfl <| .nil <| .go <| .exit <| .blk_other rfl <| .blk_other rfl ?_
                    refine .exit <| .exit <| .blk_exit <| .go <| .seq <| .seq ?_
                    refine .region <| .e (.move rfl) rfl rfl <| .e (.len sl41 rfl rfl) rfl rfl <| .e (.eql rfl rfl) rfl rfl <| .nil <| .go ?_
                    refine .split 101 rfl (fun h101 => ?_) (fun h101 => ?_)
                    · skip
                      replace h101 := of_decide_eq_true h101
                      exact absurd h101 (by omega)
                    · skip
                      replace h101 := of_decide_eq_false h101
                      have hLL := hLL0 (List.any_eq_true.2 ⟨S[k], List.getElem_mem _, hpart⟩)
                      obtain ⟨h, hh⟩ : ∃ h : Nat, S[k].index - l.base - 1 = (h : Int) := ⟨(S[k].index - l.base - 1).toNat, by have := hix k (by omega); omega⟩
                      have hhl : h ≤ l.ents.length := by have := part_le hix (by omega) hkS hany; omega
                      have ho28s := OwnS.take (q := 5) ho28 hhl
                      have hc28 := ho28.capLe
                      have hsd := SlR.fromS hv30 hkS
                      have hdl : (S.drop k).length = S.length - k := List.length_drop
                      refine .cond_false rfl <| .skip <| .go <| .seq <| .region ?_
                      refine .thaw hKt ?_
                      refine .e (.move rfl) rfl rfl ?_
                      obtain ⟨eb104, eo104, cs104, hd104, hat104, hr104⟩ := SlR.at_ hsd (k := 0) (by omega)
                      cases hd104
                      have e0 : (S.drop k)[0]'(by omega) = S[k] := by simp
                      rw [e0] at hr104
                      have he104 := hr104
                      obtain ⟨mv104, rfl, hmv104⟩ := hr104.ex
                      obtain ⟨ma104, mc104, rfl, -⟩ := hmv104
                      refine .e (.indexAddrL sl41 rfl rfl (show (0 : Int) = ((0 : Nat) : Int) from rfl) (by omega)) rfl rfl <| .e (.fieldAddr fo77_0 rfl) rfl rfl <| .e (.loadI ag40 rfl (hat104.cell (j := 0) rfl)) rfl rfl <| .e (.assign rfl) rfl rfl <| .nil <| .go ?_
                      refine .seq ?_
                      refine .draw [(c1, _)] mixed (.cons (.app <| .there <| .there <| .here) .nil) ?_
                      refine .t 0 rfl (.fieldAddr fo43_2 rfl) rfl rfl (by kernel_rfl) <| .t 1 rfl (.load ag41 rfl .here rfl) rfl rfl (by kernel_rfl) <| .t 2 rfl (.move rfl) rfl rfl (by kernel_rfl) <| .t 3 rfl (.fieldAddr fo43_0 rfl) rfl rfl (by kernel_rfl) <| .t 4 rfl (.load ag40 rfl .here rfl) rfl rfl (by kernel_rfl) <| .t 5 rfl (.sub rfl rfl (IntWalk.u64_in _ (by have := hix k (by omega); omega))) rfl rfl (by kernel_rfl) ?_
                      refine .t 6 rfl (.sub rfl rfl (IntWalk.u64_in _ (by have := hix k (by omega); omega))) rfl rfl (by kernel_rfl) <| .t 7 rfl (.sliceH sl41 rfl rfl hh (by omega)) rfl rfl (by kernel_rfl) <| .t 8 rfl (.move rfl) rfl rfl (by kernel_rfl) <| .one (i := 9) (by kernel_rfl) rfl rfl <| .call cal29 rfl rfl rfl (own_ok hsd (by have := List.length_drop (i := k) (l := S); omega) (fun e he => hSm e (List.mem_of_mem_drop he))) fun v116 I116 O116 hI116 hK116 => ?_
                      obtain ⟨ws116, ob116, ho116, hd116, rfl⟩ := hK116
                      obtain ⟨ad116, cap116, rfl⟩ := ho116.form
                      refine ⟨(.cons (.app <| .app <| .there <| .there <| .here) .nil), hI116, ?_⟩
                      refine .one (i := 10) (by kernel_rfl) rfl rfl <| .append Try.underlying41 Try.underlying41 sz77 by77 zv77 rfl rfl rfl (.app <| .front) ho28s (ho116.src (I := _) .front) hd116.1 (hd116.ones (by decide) fun _ _ h => EntR.ones h) (by omega) (by omega) rfl fun v117 ob117 ho117 => ?_
                      refine ⟨(.cons (.app <| .app <| .there <| .there <| .here) .nil), hI116, ?_⟩
                      refine .t 11 rfl (.fieldAddr fo43_2 rfl) rfl rfl (by kernel_rfl) ?_
                      obtain ⟨ad117, cap117, rfl⟩ := ho117.form
                      refine .late (i := 12) (by kernel_rfl) (by kernel_rfl) (by kernel_rfl) rfl rfl <| .store sz41 rfl rfl rfl rfl rfl rfl (.app <| .app <| .there <| .there <| .here) <| .go <| .seq <| .seq <| .region ?_
                      refine .freezeS ho117 fun K2 hK2 hK2s => ?_
                      have hek2 : EntsR K2 _ (l.ents.take h ++ S.drop k) := hK2s (R := EntR) (((hd28.take hhl).mono fun _ _ hx => (hx.mono hI116).mono hK2).append (hd116.mono fun _ _ hx => hx.mono hK2)) (by simp; omega)
                      have hl2 : LgR K2 (Lg.cells ⟨l.base, l.term, l.ents.take h ++ S.drop k⟩ (.slice ad117 (h + (S.drop k).length) cap117)) ⟨l.base, l.term, l.ents.take h ++ S.drop k⟩ := ⟨⟨_, rfl, hek2⟩, hl0.base, hl0.term⟩
                      refine .e (.loadW ag43 sz43 rfl (.app <| .there <| .there <| .here) rfl) rfl rfl <| .on rfl <| .callP cal12 rfl rfl rfl (lCheck_ok hl2) <| .e (.neq rfl rfl) rfl rfl <| .nil <| .go ?_
                      refine .split 121 rfl (fun h121 => ?_) (fun h121 => ?_)
                      · skip
                        first | replace h121 := of_decide_eq_false ((Bool.not_eq_true' _).mp h121) | replace h121 := of_decide_eq_false (by simpa using h121)
                        refine .cond_true rfl <| .seq <| .region <| .e (.build bs43 zv43 rfl rfl) rfl rfl <| .on rfl <| .storeW sz43 rfl rfl rfl rfl rfl rfl (.app <| .there <| .here) <| .e (.assign rfl) rfl rfl ?_
                        refine .e (.assign rfl) rfl rfl <| .nil <| .go <| .ret <| .ret <| .sc_ret ?_
                        refine Post.rets rfl (.agg rfl ag43 sz43 (.app <| .there <| .here) rfl (.tmp rfl (.tmp rfl .nil))) rfl (Imm.le_trans (Imm.le_trans hI28 hI116) hK2) (fun w h => (Sat.tail (Sat.tail (Sat.tail (Sat.drop h))))) ?_
                        rw [hjB h49 (by omega) h61, joinB_at hkS hany hpart, joinAt_no (by rw [joinL_eq hkS hh]; exact h121)]
                        exact ⟨_, rfl, zLgR, rfl⟩
                      · skip
                        first | replace h121 := of_decide_eq_true ((Bool.not_eq_false' _).mp h121) | replace h121 := of_decide_eq_true (by simpa using h121)
                        refine .cond_false rfl <| .skip <| .go <| .seq <| .region <| .e (.loadW ag43 sz43 rfl (.app <| .there <| .there <| .here) rfl) rfl rfl ?_
                        refine .e (.move rfl) rfl rfl <| .on rfl <| .storeW sz43 rfl rfl rfl rfl rfl rfl (.app <| .there <| .here) <| .e (.assign rfl) rfl rfl <| .e (.assign rfl) rfl rfl <| .nil <| .go ?_
                        refine .ret <| .sc_ret ?_
                        refine Post.rets rfl (.agg rfl ag43 sz43 (.app <| .there <| .here) rfl (.tmp rfl (.tmp rfl .nil))) rfl (Imm.le_trans (Imm.le_trans hI28 hI116) hK2) (fun w h => (Sat.tail (Sat.tail (Sat.tail (Sat.drop h))))) ?_
                        rw [hjB h49 (by omega) h61, joinB_at hkS hany hpart, joinAt_yes (by rw [joinL_eq hkS hh]; exact h121), joinL_eq hkS hh, entD hkS]
                        exact ⟨_, rfl, hl2, rfl⟩
                  · skip
                    first | replace h75_2 := of_decide_eq_true ((Bool.not_eq_false' _).mp h75_2) | replace h75_2 := of_decide_eq_true (by simpa using h75_2)
                    refine .cond_false rfl <| .seq <| .region <| .e (.move rfl) rfl rfl <| .e (.move rfl) rfl rfl <| .e (.len sl41 rfl rfl) rfl rfl ?_
                    refine .e (.sub rfl rfl (wrap_pred (by omega) (by omega))) rfl rfl <| .e (.eql rfl rfl) rfl rfl <| .e (.assign rfl) rfl rfl <| .nil <| .go ?_
                    refine .split 91 rfl (fun h91 => ?_) (fun h91 => ?_)
                    · skip
                      replace h91 := of_decide_eq_true h91
                      refine .cond_true rfl <| .seq <| .region <| .e (.loadW ag43 sz43 rfl (.there <| .there <| .here) rfl) rfl rfl <| .on rfl <| .storeW sz43 rfl rfl rfl rfl rfl rfl (.there <| .here) <| .e (.assign rfl) rfl rfl ?_
                      refine .e (.assign rfl) rfl rfl <| .nil <| .go <| .ret <| .blk_ret <| .blk_ret ?_
                      refine .ret <| .ret <| .blk_ret <| .ret <| .sc_ret ?_
                      refine Post.rets rfl (.agg rfl ag43 sz43 (.there <| .here) rfl (.tmp rfl (.tmp rfl .nil))) rfl (Imm.le_trans hI28 hK) (fun w h => (Sat.tail (Sat.tail (Sat.tail h)))) ?_
                      rw [hjB h49 (by omega) h61, joinB_none (any_nil_of (k := k + 1) (by omega) (any_take_step (by omega) hany (parts_no (by omega) (by omega))))]
                      exact ⟨_, rfl, hlk, rfl⟩
                    · skip
                      replace h91 := of_decide_eq_false h91
                      refine .cond_false rfl <| .skip <| .blk_normal <| .blk_normal <| .go <| .region ?_
                      refine .e (.add rfl rfl (by first | exact wrap_succ (by omega) | exact IntWalk.i64_in _ (by omega) | exact rfl)) rfl rfl <| .e (.move rfl) rfl rfl <| .nil ?_
                      refine .tail ?_
                      exact .mid (k + 1) ⟨by omega, by omega, by omega, any_take_step (by omega) hany (parts_no (by omega) (by omega))⟩ ⟨rfl, rfl, trivial⟩ rfl rfl (.pre 32 rfl (.app rfl .base))
              · skip
                replace h71 := of_decide_eq_false h71
                refine .cond_false rfl <| .exit <| .exit <| .exit <| .blk_exit <| .go ?_
                refine .seq <| .seq <| .region <| .e (.move rfl) rfl rfl <| .e (.len sl41 rfl rfl) rfl rfl <| .e (.eql rfl rfl) rfl rfl ?_
                refine .nil <| .go ?_
                refine .split 101 rfl (fun h101 => ?_) (fun h101 => ?_)
                · skip
                  replace h101 := of_decide_eq_true h101
                  refine .cond_true rfl <| .seq <| .region <| .e (.loadW ag43 sz43 rfl (.there <| .here) rfl) rfl rfl <| .on rfl <| .storeW sz43 rfl rfl rfl rfl rfl rfl .here <| .e (.assign rfl) rfl rfl ?_
                  refine .e (.assign rfl) rfl rfl <| .nil <| .go <| .ret <| .ret <| .sc_ret ?_
                  refine Post.rets rfl (.agg rfl ag43 sz43 .here rfl (.tmp rfl (.tmp rfl .nil))) rfl (Imm.le_trans hI28 hK) (fun w h => (Sat.tail (Sat.tail h))) ?_
                  rw [hjB h49 (by omega) h61, joinB_none (any_nil_of (k := k) (by omega) hany)]
                  exact ⟨_, rfl, hlk, rfl⟩
                · skip
                  replace h101 := of_decide_eq_false h101
                  exact absurd (hkn (by omega)) (by omega)

end Go.Proofs.Ytjoaccnfnniahaa
