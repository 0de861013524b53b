/- Walks of functions over a symbolic memory, printed by a program of the session. -/
import Derived.Test.YtdcblbcidjldmaaDoorSf
import Derived.Test.YtdcblbcidjldmaaDoorSyI
namespace Go.Proofs.YtdcblbcidjldmaaDoor
open Go.Sy
set_option linter.unusedSimpArgs false
set_option linter.unusedVariables false

theorem bl_trans : ∀ a b c : List UInt8, Op.bytesLess a b = true → Op.bytesLess b c = true → Op.bytesLess a c = true
  | _, [], _, h, _ => by simp [Op.bytesLess] at h
  | _, _ :: _, [], _, h => by simp [Op.bytesLess] at h
  | [], _ :: _, _ :: _, _, _ => by simp [Op.bytesLess]
  | x :: a, y :: b, z :: c, h, h' => by
    simp only [Op.bytesLess, Bool.or_eq_true, decide_eq_true_eq, Bool.and_eq_true, beq_iff_eq] at h h' ⊢
    rw [UInt8.lt_iff_toNat_lt] at *
    rcases h with h | ⟨rfl, h⟩
    · rcases h' with h' | ⟨rfl, h'⟩
      · exact .inl (by omega)
      · exact .inl h
    · rcases h' with h' | ⟨rfl, h'⟩
      · exact .inl h'
      · exact .inr ⟨rfl, bl_trans a b c h h'⟩
theorem slt_trans {a b c : ByteArray} (h : slt a b = true) (h' : slt b c = true) : slt a c = true := bl_trans _ _ _ h h'
def nameOf (l : List Lod) (k : Nat) : ByteArray := (l.getD k lod0).node.name
def Dom (t : Tsk) (l : List Lod) (k : Nat) (s : Int × Int) : Prop := ∀ j, j < k → (scoreR t (l.getD j lod0)).2 = 0 → (scoreR t (l.getD j lod0)).1 < s.2 ∨ ((scoreR t (l.getD j lod0)).1 = s.2 ∧ slt (nameOf l j) (nameOf l s.1.toNat) = false)
theorem Dom_best {t : Tsk} {l : List Lod} : ∀ k, Dom t l k (bestTo t l k)
  | 0 => fun j h => absurd h (by omega)
  | k + 1 => by
    have h1 := Dom_best (t := t) (l := l) k
    have hM := Mx_best (t := t) (l := l) k
    rw [bestTo_succ]
    generalize bestTo t l k = s at h1 hM ⊢
    unfold stepB
    by_cases hz : (scoreR t (l.getD k lod0)).2 = 0
    · rw [if_neg (fun hh => hh hz)]
      by_cases hb : betterB l s k (scoreR t (l.getD k lod0)).1 = true
      · rw [if_pos hb]
        intro j hj h0
        show (scoreR t (l.getD j lod0)).1 < (scoreR t (l.getD k lod0)).1 ∨ ((scoreR t (l.getD j lod0)).1 = (scoreR t (l.getD k lod0)).1 ∧ slt (nameOf l j) (nameOf l ((k : Int).toNat)) = false)
        rw [Int.toNat_natCast]
        rcases Nat.lt_or_ge j k with h5 | h5
        · have h6 := h1 j h5 h0
          have h7 := (hM.1 j h5 h0).1
          rw [betterB_ref] at hb
          simp only [Bool.or_eq_true, Bool.and_eq_true, decide_eq_true_eq] at hb
          rcases hb with hb | hb | ⟨hb, hn⟩
          · omega
          · exact .inl (by omega)
          · rcases h6 with h6 | ⟨h6, h8⟩
            · exact .inl (by omega)
            · refine .inr ⟨by omega, ?_⟩
              rw [Bool.eq_false_iff]
              intro h9
              have := slt_trans h9 hn
              rw [show slt (nameOf l j) (l.getD s.1.toNat lod0).node.name = false from h8] at this
              cases this
        · obtain rfl : j = k := by omega
          exact .inr ⟨rfl, slt_irr _⟩
      · rw [if_neg hb]
        intro j hj h0
        rcases Nat.lt_or_ge j k with h5 | h5
        · exact h1 j h5 h0
        · obtain rfl : j = k := by omega
          rw [betterB_ref] at hb
          simp only [Bool.or_eq_true, Bool.and_eq_true, decide_eq_true_eq, not_or, not_and] at hb
          obtain ⟨b1, b2, b3⟩ := hb
          rcases Int.lt_or_eq_of_le (show (scoreR t (l.getD j lod0)).1 ≤ s.2 by omega) with h6 | h6
          · exact .inl h6
          · exact .inr ⟨h6, by simpa [nameOf] using b3 h6⟩
    · rw [if_pos hz]
      intro j hj h0
      rcases Nat.lt_or_ge j k with h5 | h5
      · exact h1 j h5 h0
      · obtain rfl : j = k := by omega
        exact absurd h0 hz
theorem best_ix {t : Tsk} {l : List Lod} (h : (bestR t l).2 = 0) : (bestR t l).1 = (bestTo t l l.length).1 := by
  have h0 := bestR_why0 (.inl h)
  unfold bestR at *
  rw [if_neg (by simp [h0])] at *
  split at h
  · cases h
  · rename_i h1; rw [if_neg h1]
theorem best_dom {t : Tsk} {l : List Lod} {b : Nat} (h : (bestR t l).2 = 0) (hb : b = (bestR t l).1.toNat) (j : Nat) (hj : j < l.length) (hz : (scoreR t (l.getD j lod0)).2 = 0) :
    (scoreR t (l.getD b lod0)).2 = 0 ∧ ((scoreR t (l.getD j lod0)).1 < (scoreR t (l.getD b lod0)).1 ∨ ((scoreR t (l.getD j lod0)).1 = (scoreR t (l.getD b lod0)).1 ∧ slt (nameOf l j) (nameOf l b) = false)) := by
  have hi := bestR_in h
  rw [best_ix h] at hb hi
  have e := ((Mx_best (t := t) (l := l) l.length).2 hi.1).2
  have d := Dom_best (t := t) (l := l) l.length j hj hz
  rw [← hb] at e d
  rw [e]
  exact ⟨rfl, d⟩
theorem best_ok {t : Tsk} {l : List Lod} {b : Nat} (h : (bestR t l).2 = 0) (hb : b = (bestR t l).1.toNat) : (scoreR t (l.getD b lod0)).2 = 0 := by
  have hi := bestR_in h
  rw [best_ix h] at hb hi
  have e := ((Mx_best (t := t) (l := l) l.length).2 hi.1).2
  rw [← hb] at e
  rw [e]
theorem bestR_iff {t : Tsk} {l : List Lod} : (bestR t l).2 = 0 ↔ (tskWhy t = 0 ∧ (∀ x ∈ l, lodWhy x = 0) ∧ ∃ x ∈ l, (scoreR t x).2 = 0) := by
  have all : ∀ k, k ≤ l.length → (whyTo t l k = 0 ↔ tskWhy t = 0 ∧ ∀ x ∈ l.take k, lodWhy x = 0) := by
    intro k
    induction k with
    | zero => intro _; simp [whyTo]
    | succ k ih =>
      intro hk
      rw [whyTo_succ (by omega), List.take_succ_eq_append_getElem (by omega)]
      constructor
      · intro h
        obtain ⟨h1, h2⟩ := orI_zero h
        obtain ⟨h3, h4⟩ := (ih (by omega)).1 h1
        refine ⟨h3, fun x hx => ?_⟩
        rcases List.mem_append.1 hx with hx | hx
        · exact h4 x hx
        · rw [List.mem_singleton.1 hx]; exact h2
      · rintro ⟨h3, h4⟩
        exact or_zero ((ih (by omega)).2 ⟨h3, fun x hx => h4 x (List.mem_append_left _ hx)⟩) (h4 _ (List.mem_append_right _ (List.mem_singleton.2 rfl)))
  have hall := all l.length (Nat.le_refl _)
  rw [List.take_length] at hall
  constructor
  · intro h
    obtain ⟨h1, h2⟩ := hall.1 (bestR_why0 (.inl h))
    have hi := bestR_in h
    have := best_ok h rfl
    rw [lodD (show (bestR t l).1.toNat < l.length by omega)] at this
    exact ⟨h1, h2, _, List.getElem_mem _, this⟩
  · rintro ⟨h1, h2, x, hx, hz⟩
    have h0 := hall.2 ⟨h1, h2⟩
    obtain ⟨j, hj, rfl⟩ := List.mem_iff_getElem.1 hx
    have hm := (Mx_best (t := t) (l := l) l.length).1 j hj (by rw [lodD hj]; exact hz)
    unfold bestR
    rw [if_neg (by simp [h0]), if_neg (by omega)]
def revTo (l : List Lod) (m : Nat) : List Lod := (l.drop (l.length - m)).reverse
theorem revTo_len {l : List Lod} {m : Nat} (h : m ≤ l.length) : (revTo l m).length = m := by unfold revTo; simp; omega
theorem revTo_all (l : List Lod) : revTo l l.length = l.reverse := by unfold revTo; simp
theorem revTo_succ {l : List Lod} {m : Nat} (h : m < l.length) : revTo l (m + 1) = revTo l m ++ [l[l.length - 1 - m]] := by
  unfold revTo
  have e : l.length - (m + 1) = l.length - 1 - m := by omega
  rw [e, List.drop_eq_getElem_cons (by omega), List.reverse_cons, show l.length - 1 - m + 1 = l.length - m by omega]
def unlike (l : List Lod) (m : Nat) (x : Lod) : Bool := !decide (x.node.name = nameOf l (l.length - 1 - m))
def apTo (l : List Lod) : Nat → Bool
  | 0 => true
  | m + 1 => apTo l m && (revTo l m).all (unlike l m)
theorem all_take1 {l : List Lod} {p : Lod → Bool} {q : Nat} (hq : q < l.length) : (l.take (q + 1)).all p = ((l.take q).all p && p l[q]) := by
  rw [List.take_succ_eq_append_getElem hq, List.all_append]; simp
theorem apTo_out {l : List Lod} : ∀ m, apTo l m = true → ∀ i, i < m → (revTo l i).all (unlike l i) = true
  | 0, _, i, hi => absurd hi (by omega)
  | m + 1, h, i, hi => by
    simp only [apTo, Bool.and_eq_true] at h
    rcases Nat.lt_or_ge i m with h1 | h1
    · exact apTo_out m h.1 i h1
    · obtain rfl : i = m := by omega
      exact h.2
theorem apart_ne {l : List Lod} (h : apTo l l.length = true) {i j : Nat} (hij : i < j) (hj : j < l.length) : nameOf l j ≠ nameOf l i := by
  have h1 := apTo_out _ h (l.length - 1 - i) (by omega)
  have hm : l[j] ∈ revTo l (l.length - 1 - i) := by
    unfold revTo
    rw [List.mem_reverse, List.mem_drop_iff_getElem]
    exact ⟨j - (l.length - (l.length - 1 - i)), by omega, by congr 1; omega⟩
  have h2 := List.all_eq_true.1 h1 _ hm
  unfold unlike at h2
  rw [show l.length - 1 - (l.length - 1 - i) = i by omega] at h2
  unfold nameOf at *
  rw [lodD hj]
  simpa using h2
theorem turned_iff {t : Tsk} {l : List Lod} : (bestR t l.reverse).2 = 0 ↔ (bestR t l).2 = 0 := by
  rw [bestR_iff, bestR_iff]; simp
theorem revD {l : List Lod} {c : Nat} (hc : c < l.length) : l.reverse.getD c lod0 = l.getD (l.length - 1 - c) lod0 := by
  rw [lodD (by simpa using hc), lodD (by omega), List.getElem_reverse]
theorem turned_ix {t : Tsk} {l : List Lod} (h : (bestR t l).2 = 0) (ha : apTo l l.length = true) : (bestR t l.reverse).1 = (l.length : Int) - 1 - (bestR t l).1 := by
  have h' := turned_iff.2 h
  have hi := bestR_in h
  have hi' := bestR_in h'
  rw [List.length_reverse] at hi'
  obtain ⟨b, hb⟩ : ∃ b : Nat, b = (bestR t l).1.toNat := ⟨_, rfl⟩
  obtain ⟨c, hc⟩ : ∃ c : Nat, c = (bestR t l.reverse).1.toNat := ⟨_, rfl⟩
  have z1 := best_ok h hb
  have z2 := best_ok h' hc
  rw [revD (by omega)] at z2
  have d1 := (best_dom h hb (l.length - 1 - c) (by omega) z2).2
  have d2 := (best_dom h' hc (l.length - 1 - b) (by rw [List.length_reverse]; omega) (by rw [revD (by omega), show l.length - 1 - (l.length - 1 - b) = b by omega]; exact z1)).2
  unfold nameOf at d2
  rw [revD (by omega), revD (by omega), show l.length - 1 - (l.length - 1 - b) = b by omega] at d2
  unfold nameOf at d1
  have e : (l.getD (l.length - 1 - c) lod0).node.name = (l.getD b lod0).node.name := by
    rcases d1 with d1 | ⟨d1, n1⟩
    · rcases d2 with d2 | ⟨d2, _⟩ <;> omega
    · rcases d2 with d2 | ⟨_, n2⟩
      · omega
      · exact slt_tot n1 n2
  have : l.length - 1 - c = b := by
    rcases Nat.lt_trichotomy (l.length - 1 - c) b with h1 | h1 | h1
    · exact absurd e.symm (apart_ne ha h1 (by omega))
    · exact h1
    · exact absurd e (apart_ne ha h1 (by omega))
  omega

end Go.Proofs.YtdcblbcidjldmaaDoor
