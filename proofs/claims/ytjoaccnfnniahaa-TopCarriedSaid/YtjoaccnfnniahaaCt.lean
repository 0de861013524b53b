/- Walks of functions over a symbolic memory, printed by a program of the session. -/
import Derived.Test.YtjoaccnfnniahaaLj
import Derived.Test.YtjoaccnfnniahaaCa
namespace Go.Proofs.Ytjoaccnfnniahaa
open Go.Sy
set_option linter.unusedSimpArgs false
set_option linter.unusedVariables false

/-- A log's first j entries, with its base. -/
def pre (l : Lg) (j : Nat) : Lg := ⟨l.base, l.term, l.ents.take j⟩
theorem pre_all (l : Lg) : pre l l.ents.length = l := by unfold pre; rw [List.take_length]
theorem pre_len {l : Lg} {j : Nat} (hj : j ≤ l.ents.length) : (pre l j).ents.length = j := by unfold pre; rw [List.length_take]; omega
theorem pre_getD {l : Lg} {j k : Nat} (hk : k < j) : (pre l j).ents.getD k ent0 = l.ents.getD k ent0 := by
  unfold pre; rw [List.getD_eq_getElem?_getD, List.getD_eq_getElem?_getD, List.getElem?_take, if_pos hk]
theorem pre_prevT {l : Lg} {j k : Nat} (hk : k ≤ j) : prevT (pre l j) k = prevT l k := by
  unfold prevT
  split
  · rfl
  · rw [pre_getD (by omega)]
theorem pre_eOk {l : Lg} {j k : Nat} (hk : k < j) : eOk (pre l j) k = eOk l k := by
  unfold eOk; rw [pre_getD hk, pre_prevT (by omega)]; rfl
theorem pre_to {l : Lg} {j : Nat} : ∀ {k : Nat}, k ≤ j → logTo (pre l j) k = logTo l k
  | 0, _ => rfl
  | k + 1, h => by rw [logTo_succ, logTo_succ, pre_to (k := k) (by omega), pre_eOk (by omega)]
theorem pre_ok {l : Lg} {j : Nat} (h : logOk l = true) (hj : j ≤ l.ents.length) : logOk (pre l j) = true := by
  unfold logOk; rw [pre_len hj, pre_to (Nat.le_refl _)]; exact logTo_mono hj h
theorem pre_why {l : Lg} {j : Nat} (h : logOk l = true) (hj : j ≤ l.ents.length) : logWhy (pre l j) = 0 := by unfold logWhy; rw [pre_ok h hj, if_pos rfl]
theorem pre_end {l : Lg} {j : Nat} (hj : j ≤ l.ents.length) : endOf (pre l j) = l.base + (j : Int) := by unfold endOf; rw [pre_len hj]; rfl
theorem pre_endR {l : Lg} {j : Nat} (h : logOk l = true) (hj : j ≤ l.ents.length) : endR (pre l j) = (l.base + (j : Int), prevT l j, 0) := by
  rw [endR_yes (pre_why h hj), pre_end hj, pre_len hj, pre_prevT (Nat.le_refl _)]
theorem all_endR {l : Lg} (h : logOk l = true) : endR l = (l.base + (l.ents.length : Int), prevT l l.ents.length, 0) := by
  have := pre_endR h (Nat.le_refl _)
  rwa [pre_all] at this
theorem ok_each {l : Lg} (h : logOk l = true) {j : Nat} (hj : j < l.ents.length) : entOk l.ents[j] = true ∧ l.ents[j].index = l.base + (j : Int) + 1 ∧ prevT l j ≤ l.ents[j].term := by
  unfold logOk logTo at h
  rw [Bool.and_eq_true] at h
  have h1 := List.all_eq_true.1 h.2 j (List.mem_range.2 hj)
  unfold eOk at h1
  rw [entD hj, Bool.and_eq_true, Bool.and_eq_true, decide_eq_true_eq, decide_eq_true_eq] at h1
  exact ⟨h1.1, h1.2.1, h1.2.2⟩
/-- What is sent in one part. -/
def part (l : Lg) (j m : Nat) : List Ent := (l.ents.drop j).take m
theorem part_len {l : Lg} {j m : Nat} : (part l j m).length = min m (l.ents.length - j) := by unfold part; rw [List.length_take, List.length_drop]
theorem part_at {l : Lg} {j m k : Nat} (hk : k < (part l j m).length) (h2 : j + k < l.ents.length) : (part l j m)[k] = l.ents[j + k] := by
  have hk2 : k < ((l.ents.drop j).take m).length := hk
  show ((l.ents.drop j).take m)[k]'hk2 = _
  rw [List.getElem_take, List.getElem_drop]
theorem part_from {l : Lg} {j m : Nat} {i n : Int} (h : logOk l = true) (hi : i = l.base + (j : Int) + 1) (hn : n = (m : Int)) : fromR l i n = (part l j m, 0) := by
  subst hi hn
  rw [fromR_yes h (by omega), show (l.base + (j : Int) + 1 - l.base - 1).toNat = j by omega, Int.toNat_natCast]; rfl
theorem part_good {l : Lg} {j m : Nat} (h : logOk l = true) (hm : m ≤ 8) (hj : j < l.ents.length) (hb : 0 ≤ l.base) (hle : l.base + (l.ents.length : Int) ≤ 18446744073709551615) : goodM (l.base + (j : Int)) (part l j m) := by
  have hp := part_len (l := l) (j := j) (m := m)
  refine ⟨by omega, by omega, by omega, fun k hk => ?_⟩
  have h2 : j + k < l.ents.length := by omega
  rw [part_at hk h2]
  obtain ⟨h3, h4, _⟩ := ok_each h h2
  exact ⟨h3, by rw [h4]; omega⟩
theorem pre_part {l : Lg} {j m : Nat} : l.ents.take j ++ part l j m = l.ents.take (j + m) := by unfold part; rw [List.take_add]
theorem part_join {l : Lg} {j m : Nat} (h : logOk l = true) (hm : 0 < m) (hm8 : m ≤ 8) (hj : j < l.ents.length) (hb : 0 ≤ l.base) (hle : l.base + (l.ents.length : Int) ≤ 18446744073709551615) :
    joinR (pre l j) (l.base + (j : Int)) (prevT l j) (part l j m) = (pre l (j + (part l j m).length), l.base + (j : Int) + 1, 0) := by
  have hg := part_good (m := m) h hm8 hj hb hle
  have hjl : j ≤ l.ents.length := by omega
  have hp := part_len (l := l) (j := j) (m := m)
  have hp0 : 0 < (part l j m).length := by omega
  have hx := pre_ok h hjl
  have hbk : bOk (l.base + (j : Int)) (part l j m) = true := by
    unfold bOk bTo
    refine List.all_eq_true.2 fun k hk => ?_
    rw [List.mem_range] at hk
    obtain ⟨h1, h2⟩ := hg.2.2.2 k hk
    exact bAt_yes hk h1 h2
  have hbase : (pre l j).base = l.base := rfl
  obtain ⟨a1, a2, a3⟩ := adj_no (l := pre l j) (i := l.base + (j : Int)) (t := prevT l j) (s := part l j m) (by rw [hbase]; omega)
  have he := pre_end hjl
  rw [joinR_in hx hbk (by rw [a2, hbase]; omega) (by rw [a2, he]; omega) (by rw [a2, a3, ← he, termAt_end, pre_len hjl, pre_prevT (Nat.le_refl _)]), a1, List.drop_zero]
  have h0 := hg.2.2.2 0 hp0
  rw [joinB_at hp0 rfl (parts_far (by rw [he, h0.2]; omega))]
  have hL : joinL (pre l j) (part l j m) 0 = pre l (j + (part l j m).length) := by
    rw [joinL_eq (h := j) hp0 (by rw [h0.2, hbase]; omega), List.drop_zero]
    have e1 : (pre l j).ents.take j = l.ents.take j := by unfold pre; rw [List.take_take, Nat.min_self]
    rw [e1, pre_part]
    unfold pre
    have e2 : l.ents.take (j + m) = l.ents.take (j + (part l j m).length) := by
      rcases Nat.le_total (j + m) l.ents.length with h1 | h1
      · rw [show (part l j m).length = m by omega]
      · rw [List.take_of_length_le h1, List.take_of_length_le (by omega)]
    rw [e2]
  rw [joinAt_yes (by rw [hL]; exact pre_why h (by omega)), hL, entD hp0, h0.2]
  congr 2
  omega
theorem all_bOk {l : Lg} (h : logOk l = true) : bOk l.base l.ents = true := by
  unfold bOk bTo
  refine List.all_eq_true.2 fun k hk => ?_
  rw [List.mem_range] at hk
  obtain ⟨h1, h2, _⟩ := ok_each h hk
  exact bAt_yes hk h1 h2
theorem all_any {l : Lg} (h : logOk l = true) : l.ents.any (parts l) = false := by
  rw [Bool.eq_false_iff]
  intro ha
  obtain ⟨e, he, hp⟩ := List.any_eq_true.1 ha
  obtain ⟨k, hk, rfl⟩ := List.mem_iff_getElem.1 he
  obtain ⟨_, h2, _⟩ := ok_each h hk
  rw [parts_no (by rw [h2]; unfold endOf; omega) (by
    unfold termAt
    rw [if_neg (by omega), show (l.ents[k].index - l.base - 1).toNat = k by omega, entD hk])] at hp
  cases hp
theorem all_adj {l : Lg} : adjN l l.base l.ents = 0 := (adj_no (t := 0) (s := l.ents) (Int.lt_irrefl _)).1
theorem all_join {l : Lg} (h : logOk l = true) : joinR l l.base l.term l.ents = (l, 0, 0) := by
  obtain ⟨a1, a2, a3⟩ := adj_no (l := l) (i := l.base) (t := l.term) (s := l.ents) (Int.lt_irrefl _)
  rw [joinR_in h (all_bOk h) (by rw [a2]; omega) (by rw [a2]; unfold endOf; omega) (by rw [a2, a3]; unfold termAt; rw [if_pos rfl]), a1, List.drop_zero, joinB_none (all_any h)]

end Go.Proofs.Ytjoaccnfnniahaa
