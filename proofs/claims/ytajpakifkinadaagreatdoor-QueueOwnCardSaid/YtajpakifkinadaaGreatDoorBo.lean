/- Walks of functions over a symbolic memory, printed by a program of the session. -/
import Derived.Test.YtajpakifkinadaaGreatDoorBn
namespace Go.Proofs.YtajpakifkinadaaGreatDoor
open Go.Sy
set_option linter.unusedSimpArgs false
set_option linter.unusedVariables false

section
variable {α : Type} {nm : α → ByteArray}
theorem rising_pw {l : List α} : Rising nm l ↔ l.Pairwise (fun a b => slt (nm a) (nm b) = true) := by
  rw [List.pairwise_iff_getElem]; exact ⟨fun h i j hi hj hij => h i j hi hj hij, fun h i j hi hj hij => h i j hi hj hij⟩
theorem risingB_of {l : List α} (h : Rising nm l) : risingB nm l = true := by
  unfold risingB
  refine List.all_eq_true.2 fun i hi => ?_
  rw [List.mem_range] at hi
  unfold risAt
  rw [List.getElem?_eq_getElem (show i < l.length by omega), List.getElem?_eq_getElem (show i + 1 < l.length by omega)]
  exact h i (i + 1) (by omega) (by omega) (by omega)
theorem mem_insAt {l : List α} {k : Nat} {x y : α} : y ∈ insAt l k x ↔ y = x ∨ y ∈ l := by
  unfold insAt
  rw [List.perm_middle.mem_iff, List.mem_cons, List.take_append_drop]
theorem delAt_sub {l : List α} {k : Nat} : (delAt l k).Sublist l := by
  unfold delAt
  have h : (l.take k ++ l.drop (k + 1)).Sublist (l.take k ++ l.drop k) := (List.Sublist.refl _).append (by
    rw [show l.drop (k + 1) = (l.drop k).drop 1 by rw [List.drop_drop]]
    exact List.drop_sublist _ _)
  rwa [List.take_append_drop] at h
theorem pos_at {s : ByteArray} : ∀ (l : List α) (h : posBy nm l s < l.length), slt (nm l[posBy nm l s]) s = false := by
  intro l
  induction l with
  | nil => intro h; simp at h
  | cons a r ih =>
    intro h
    unfold posBy at h ⊢
    by_cases ha : slt (nm a) s = true
    · simp only [List.takeWhile_cons, ha, if_true, List.length_cons] at h ⊢
      have := ih (by unfold posBy; omega)
      unfold posBy at this
      simpa using this
    · simp only [List.takeWhile_cons, ha] at h ⊢
      simpa using ha
theorem tw_imp {p : α → Bool} {y : α} : ∀ l : List α, y ∈ l.takeWhile p → p y = true
  | [], h => by simp at h
  | a :: r, h => by
    rw [List.takeWhile_cons] at h
    split at h
    · rename_i ha
      rcases List.mem_cons.1 h with rfl | h
      · exact ha
      · exact tw_imp r h
    · cases h
theorem take_lt {l : List α} {s : ByteArray} {y : α} (hy : y ∈ l.take (posBy nm l s)) : slt (nm y) s = true := by
  have e : l.take (posBy nm l s) = l.takeWhile fun x => slt (nm x) s := (List.prefix_iff_eq_take.1 (List.takeWhile_prefix _)).symm
  rw [e] at hy
  exact tw_imp (p := fun x => slt (nm x) s) l hy
theorem drop_ge {l : List α} {s : ByteArray} {y : α} (hr : Rising nm l) (hy : y ∈ l.drop (posBy nm l s)) : slt (nm y) s = false := by
  obtain ⟨i, hi, rfl⟩ := List.mem_iff_getElem.1 hy
  rw [List.length_drop] at hi
  rw [List.getElem_drop]
  have h0 := pos_at (nm := nm) (s := s) l (by omega)
  rcases Nat.eq_zero_or_pos i with h | h
  · subst h; simpa using h0
  · rw [Bool.eq_false_iff]; intro h2
    have := lt_tr (hr (posBy nm l s) (posBy nm l s + i) (by omega) (by omega) (by omega)) h2
    rw [h0] at this; cases this
theorem has_iff {l : List α} {s : ByteArray} : hasBy nm l s = true ↔ ∃ x, x ∈ l ∧ nm x = s := by
  unfold hasBy; rw [List.any_eq_true]; simp
theorem has_niff {l : List α} {s : ByteArray} : hasBy nm l s = false ↔ ∀ x, x ∈ l → nm x ≠ s := by
  rw [Bool.eq_false_iff, ne_eq, has_iff]; simp
theorem drop_gt {l : List α} {s : ByteArray} {y : α} (hr : Rising nm l) (hn : hasBy nm l s = false) (hy : y ∈ l.drop (posBy nm l s)) : slt s (nm y) = true := by
  have h := drop_ge hr hy
  cases h2 : slt s (nm y)
  · exact absurd (lt_tot h h2) (has_niff.1 hn y (List.mem_of_mem_drop hy))
  · rfl
theorem ris_ins {l : List α} {x : α} (hr : Rising nm l) (hn : hasBy nm l (nm x) = false) : Rising nm (insAt l (posBy nm l (nm x)) x) := by
  have hp := rising_pw.1 hr
  rw [rising_pw]
  unfold insAt
  rw [List.pairwise_append, List.pairwise_cons]
  refine ⟨hp.sublist (List.take_sublist _ _), ⟨fun y hy => drop_gt hr hn hy, hp.sublist (List.drop_sublist _ _)⟩, fun a ha b hb => ?_⟩
  rcases List.mem_cons.1 hb with rfl | hb
  · exact take_lt ha
  · exact lt_tr (take_lt ha) (drop_gt hr hn hb)
theorem ris_del {l : List α} {k : Nat} (hr : Rising nm l) : Rising nm (delAt l k) := rising_pw.2 ((rising_pw.1 hr).sublist delAt_sub)
theorem pos_ins {l : List α} {x : α} : posBy nm (insAt l (posBy nm l (nm x)) x) (nm x) = posBy nm l (nm x) := by
  have h : ∀ y ∈ l.take (posBy nm l (nm x)), slt (nm y) (nm x) = true := fun y hy => take_lt hy
  have e : (insAt l (posBy nm l (nm x)) x).takeWhile (fun y => slt (nm y) (nm x)) = l.take (posBy nm l (nm x)) := by
    unfold insAt
    rw [List.takeWhile_append_of_pos h, List.takeWhile_cons, lt_irr]
    simp
  have hl := pos_le (nm := nm) (l := l) (s := nm x)
  unfold posBy at e hl ⊢
  rw [e, List.length_take, Nat.min_eq_left hl]
theorem del_ins {l : List α} {k : Nat} {x : α} (h : k ≤ l.length) : delAt (insAt l k x) k = l := by
  have hl : (l.take k).length = k := by rw [List.length_take]; omega
  have e : (l.take k ++ (x :: l.drop k)).drop (k + 1) = l.drop k := by
    rw [show k + 1 = (l.take k).length + 1 by omega, List.drop_append]
    simp
  unfold delAt insAt
  rw [e, List.take_left' hl, List.take_append_drop]
theorem get_split {l : List α} {k : Nat} (hk : k < l.length) : l = l.take k ++ (l[k] :: l.drop (k + 1)) := by rw [← List.drop_eq_getElem_cons hk, List.take_append_drop]
theorem mem_del {l : List α} {k : Nat} {y : α} (hr : Rising nm l) (hk : k < l.length) : y ∈ delAt l k ↔ y ∈ l ∧ nm y ≠ nm l[k] := by
  have hp := rising_pw.1 hr
  rw [get_split hk, List.pairwise_append, List.pairwise_cons] at hp
  constructor
  · intro h
    refine ⟨delAt_sub.mem h, fun e => ?_⟩
    unfold delAt at h
    rcases List.mem_append.1 h with h | h
    · have := hp.2.2 y h l[k] List.mem_cons_self
      rw [e, lt_irr] at this; cases this
    · have := hp.2.1.1 y h
      rw [e, lt_irr] at this; cases this
  · rintro ⟨h, hne⟩
    rw [get_split hk] at h
    unfold delAt
    rcases List.mem_append.1 h with h | h
    · exact List.mem_append_left _ h
    · rcases List.mem_cons.1 h with rfl | h
      · exact absurd rfl hne
      · exact List.mem_append_right _ h
theorem uniq {l : List α} {a b : α} (hr : Rising nm l) (ha : a ∈ l) (hb : b ∈ l) (e : nm a = nm b) : a = b := by
  obtain ⟨i, hi, rfl⟩ := List.mem_iff_getElem.1 ha
  obtain ⟨j, hj, rfl⟩ := List.mem_iff_getElem.1 hb
  rcases Nat.lt_trichotomy i j with h | h | h
  · have := hr i j hi hj h; rw [e, lt_irr] at this; cases this
  · subst h; rfl
  · have := hr j i hj hi h; rw [e, lt_irr] at this; cases this
theorem find_iff {l : List α} {s : ByteArray} {t : α} (hr : Rising nm l) : l.find? (fun x => decide (nm x = s)) = some t ↔ t ∈ l ∧ nm t = s := by
  constructor
  · intro h
    have h2 := List.find?_some h
    rw [decide_eq_true_eq] at h2
    exact ⟨List.mem_of_find?_eq_some h, h2⟩
  · rintro ⟨h, rfl⟩
    have hh : hasBy nm l (nm t) = true := has_iff.2 ⟨t, h, rfl⟩
    rw [find_get hr hh]
    obtain ⟨hk, e⟩ := has_get hr hh
    rw [uniq hr (List.getElem_mem hk) h e]
theorem find_congr {l l' : List α} {s : ByteArray} (h : Rising nm l) (h' : Rising nm l') (hm : ∀ t, nm t = s → (t ∈ l ↔ t ∈ l')) : l.find? (fun x => decide (nm x = s)) = l'.find? (fun x => decide (nm x = s)) := by
  refine Option.ext fun t => ?_
  rw [find_iff h, find_iff h']
  exact ⟨fun ⟨h1, h2⟩ => ⟨(hm t h2).1 h1, h2⟩, fun ⟨h1, h2⟩ => ⟨(hm t h2).2 h1, h2⟩⟩
end

/-! what is on a node -/
theorem sumF (B : List Tsk) : ∀ z : A3, (B.foldl (fun x t => (⟨x.a + t.needs.a, x.b + t.needs.b, x.c + t.needs.c⟩ : A3)) z) = ⟨z.a + (sumT B).a, z.b + (sumT B).b, z.c + (sumT B).c⟩ := by
  induction B with
  | nil => intro z; unfold sumT; simp
  | cons t r ih =>
    intro z
    have h1 := ih ⟨z.a + t.needs.a, z.b + t.needs.b, z.c + t.needs.c⟩
    have h2 := ih ⟨0 + t.needs.a, 0 + t.needs.b, 0 + t.needs.c⟩
    unfold sumT at h1 h2 ⊢
    simp only [List.foldl_cons]
    rw [h1, h2]
    simp only [A3.mk.injEq]
    omega
theorem sumT_app (A B : List Tsk) : sumT (A ++ B) = ⟨(sumT A).a + (sumT B).a, (sumT A).b + (sumT B).b, (sumT A).c + (sumT B).c⟩ := by
  have := sumF B (sumT A)
  rw [← this]
  unfold sumT; rw [List.foldl_append]
theorem sumT_cons (t : Tsk) (B : List Tsk) : sumT (t :: B) = ⟨t.needs.a + (sumT B).a, t.needs.b + (sumT B).b, t.needs.c + (sumT B).c⟩ := by
  have := sumF B ⟨0 + t.needs.a, 0 + t.needs.b, 0 + t.needs.c⟩
  unfold sumT at this ⊢
  rw [List.foldl_cons, this]
  simp only [A3.mk.injEq]
  omega
def amtAll (L : List Tsk) : Prop := ∀ t ∈ L, t.needs.amt 1 = true
theorem sum_bnd : ∀ {L : List Tsk}, amtAll L → 0 ≤ (sumT L).a ∧ 0 ≤ (sumT L).b ∧ 0 ≤ (sumT L).c ∧ (sumT L).a ≤ 1099511627776 * (L.length : Int) ∧ (sumT L).b ≤ 1099511627776 * (L.length : Int) ∧ (sumT L).c ≤ 1099511627776 * (L.length : Int)
  | [], _ => by unfold sumT; simp
  | t :: r, h => by
    have h1 := sum_bnd (L := r) fun x hx => h x (List.mem_cons_of_mem _ hx)
    have h2 := A3.amt_out (h t List.mem_cons_self)
    rw [sumT_cons]
    simp only [List.length_cons]
    omega
theorem bear_symm (a b : Tsk) : bear a b = bear b a := by unfold bear; rw [Bool.and_comm]
def wellL (n : Nod) (L : List Tsk) : Bool := (decide ((sumR L).2 = 0) && room n (sumR L).1 ⟨0, 0, 0⟩) && fitTo n L L.length
theorem wellR_L {b : Bk} {n : Nod} : wellR b n = wellL n (thereR b n.name) := rfl
structure WellP (n : Nod) (L : List Tsk) : Prop where
  few : L.length ≤ 32
  amt : amtAll L
  has : n.has.amt 1 = true
  le : (sumT L).a ≤ n.has.a ∧ (sumT L).b ≤ n.has.b ∧ (sumT L).c ≤ n.has.c
  suit : ∀ t ∈ L, suits t n = true
  bear : L.Pairwise (fun u t => bear t u = true)
theorem sumR_good {L : List Tsk} (h1 : L.length ≤ 32) (h2 : amtAll L) : sumR L = (sumT L, 0) := by
  unfold sumR
  rw [if_neg]
  rintro (h | h)
  · omega
  · obtain ⟨t, ht, h3⟩ := List.any_eq_true.1 h
    simp [badT, h2 t ht] at h3
theorem sumR_zero {L : List Tsk} (h : (sumR L).2 = 0) : L.length ≤ 32 ∧ amtAll L := by
  unfold sumR at h
  split at h
  · cases h
  · rename_i h1
    rw [not_or] at h1
    refine ⟨by omega, fun t ht => ?_⟩
    cases h3 : t.needs.amt 1
    · exact absurd (List.any_eq_true.2 ⟨t, ht, by simp [badT, h3]⟩) h1.2
    · rfl
theorem amt_mk {x : A3} {k : Int} (h : 0 ≤ x.a ∧ 0 ≤ x.b ∧ 0 ≤ x.c ∧ x.a ≤ 1099511627776 * k ∧ x.b ≤ 1099511627776 * k ∧ x.c ≤ 1099511627776 * k) : x.amt k = true := by
  unfold A3.amt; exact decide_eq_true h
theorem fit_all {n : Nod} {L : List Tsk} : fitTo n L L.length = true ↔ (∀ t ∈ L, suits t n = true) ∧ L.Pairwise (fun u t => bear t u = true) := by
  unfold fitTo fitAt
  rw [List.all_eq_true, List.pairwise_iff_getElem]
  constructor
  · intro h
    have h1 : ∀ i (hi : i < L.length), suits L[i] n = true ∧ ∀ j (hj : j < i), bear L[i] (L[j]'(by omega)) = true := by
      intro i hi
      have := h i (List.mem_range.2 hi)
      rw [tskD hi, Bool.and_eq_true, Bool.not_eq_true', List.any_eq_false] at this
      refine ⟨this.1, fun j hj => ?_⟩
      have h3 := this.2 (L[j]'(by omega)) (by rw [List.mem_take_iff_getElem]; exact ⟨j, by omega, rfl⟩)
      simpa using h3
    refine ⟨fun t ht => ?_, fun i j hi hj hij => (h1 j hj).2 i hij⟩
    obtain ⟨i, hi, rfl⟩ := List.mem_iff_getElem.1 ht
    exact (h1 i hi).1
  · rintro ⟨h1, h2⟩ i hi
    rw [List.mem_range] at hi
    rw [tskD hi, Bool.and_eq_true, Bool.not_eq_true', List.any_eq_false]
    refine ⟨h1 _ (List.getElem_mem hi), fun u hu => ?_⟩
    rw [List.mem_take_iff_getElem] at hu
    obtain ⟨j, hj, rfl⟩ := hu
    simp [h2 j i (by omega) hi (by omega)]
theorem well_iff {n : Nod} {L : List Tsk} : wellL n L = true ↔ WellP n L := by
  unfold wellL
  rw [Bool.and_eq_true, Bool.and_eq_true, decide_eq_true_eq]
  constructor
  · rintro ⟨⟨h1, h2⟩, h3⟩
    obtain ⟨h4, h5⟩ := sumR_zero h1
    rw [sumR_good h4 h5] at h2
    unfold room at h2
    simp only [Bool.and_eq_true, decide_eq_true_eq] at h2
    obtain ⟨h6, h7⟩ := fit_all.1 h3
    exact ⟨h4, h5, h2.1.1.1, by have := h2.2; omega, h6, h7⟩
  · rintro ⟨h1, h2, h3, h4, h5, h6⟩
    have hb := sum_bnd h2
    refine ⟨⟨by rw [sumR_good h1 h2], ?_⟩, fit_all.2 ⟨h5, h6⟩⟩
    rw [sumR_good h1 h2]
    unfold room
    rw [h3, amt_mk (x := sumT L) (k := 32) (by omega), amt_mk (x := ⟨0, 0, 0⟩) (k := 1) (by decide)]
    simp only [Bool.true_and, decide_eq_true_eq]
    omega
theorem well_drop {n : Nod} {A M B : List Tsk} (h : WellP n (A ++ (M ++ B))) : WellP n (A ++ B) := by
  have hs : (A ++ B).Sublist (A ++ (M ++ B)) := (List.Sublist.refl _).append (List.sublist_append_right _ _)
  have hM := sum_bnd (L := M) fun t ht => h.amt t (by simp [ht])
  have h1 := h.le
  rw [sumT_app, sumT_app] at h1
  refine ⟨Nat.le_trans hs.length_le h.few, fun t ht => h.amt t (hs.mem ht), h.has, ?_, fun t ht => h.suit t (hs.mem ht), h.bear.sublist hs⟩
  rw [sumT_app]
  dsimp only at h1 ⊢
  omega
theorem well_add {n : Nod} {t : Tsk} {A B : List Tsk} (h : WellP n (A ++ B)) (hl : (A ++ B).length < 32) (hs : suits t n = true) (hr : room n (sumR (A ++ B)).1 t.needs = true) (hb : (A ++ B).all (Go.Proofs.YtajpakifkinadaaGreatDoor.bear t) = true) : WellP n (A ++ (t :: B)) := by
  rw [sumR_good h.few h.amt] at hr
  unfold room at hr
  simp only [Bool.and_eq_true, decide_eq_true_eq] at hr
  rw [List.all_eq_true] at hb
  have h1 := hr.2
  rw [sumT_app] at h1
  refine ⟨by simp at hl ⊢; omega, fun u hu => ?_, h.has, ?_, fun u hu => ?_, ?_⟩
  · rw [List.perm_middle.mem_iff, List.mem_cons] at hu
    rcases hu with rfl | hu
    · exact hr.1.2
    · exact h.amt u hu
  · rw [sumT_app, sumT_cons]; dsimp only at h1 ⊢; omega
  · rw [List.perm_middle.mem_iff, List.mem_cons] at hu
    rcases hu with rfl | hu
    · exact hs
    · exact h.suit u hu
  · have hp := h.bear
    rw [List.pairwise_append] at hp ⊢
    rw [List.pairwise_cons]
    refine ⟨hp.1, ⟨fun u hu => ?_, hp.2.1⟩, fun u hu v hv => ?_⟩
    · rw [bear_symm]; exact hb u (List.mem_append_right _ hu)
    · rcases List.mem_cons.1 hv with rfl | hv
      · exact hb u (List.mem_append_left _ hu)
      · exact hp.2.2 u hu v hv

theorem binds_few' {b : Bk} (h1 : b.tasks.length ≤ 32) (h2 : Rising (fun x : Bnd => x.task) b.binds) (h3 : ∀ x ∈ b.binds, hasBy (fun x : Tsk => x.name) b.tasks x.task = true) : b.binds.length ≤ 32 := by
  have := len_le_of_mem (b.binds.map fun x => x.task) (b.tasks.map fun x => x.name) (nodup_of h2) fun s hs => by
    obtain ⟨x, hx, rfl⟩ := List.mem_map.1 hs
    obtain ⟨t, ht, h5⟩ := has_iff.1 (h3 x hx)
    exact List.mem_map.2 ⟨t, ht, h5⟩
  simp only [List.length_map] at this
  omega
theorem BookOk.to {b : Bk} (h : BookOk b) : bookOk b = true := by
  unfold bookOk
  simp only [Bool.and_eq_true, Bool.not_eq_true', decide_eq_true_eq]
  refine ⟨h.nodes, h.tasks, risingB_of h.rn, risingB_of h.rt, risingB_of h.rb, ?_, ?_, ?_, ?_⟩
  · exact List.any_eq_false.2 fun n hn => by simp [badN, h.nod n hn]
  · exact List.any_eq_false.2 fun n hn => by simp [badK, h.tsk n hn]
  · exact List.any_eq_false.2 fun x hx => by simp [badX, h.bnd x hx]
  · exact List.any_eq_false.2 fun n hn => by simp [h.well n hn]
theorem fm_congr {α β : Type} {f g : α → Option β} : ∀ l : List α, (∀ x ∈ l, f x = g x) → l.filterMap f = l.filterMap g
  | [], _ => rfl
  | a :: r, h => by
    rw [List.filterMap_cons, List.filterMap_cons, h a List.mem_cons_self, fm_congr r fun x hx => h x (List.mem_cons_of_mem _ hx)]
theorem there_tasks {b b' : Bk} {s : ByteArray} (hb : b'.binds = b.binds) (hf : ∀ x ∈ b.binds, b'.tasks.find? (fun t => decide (t.name = x.task)) = b.tasks.find? (fun t => decide (t.name = x.task))) : thereR b' s = thereR b s := by
  unfold thereR; rw [hb]
  exact fm_congr _ fun x hx => by unfold thereF; rw [hf x hx]
theorem there_none {b : Bk} {s : ByteArray} (h : ∀ x ∈ b.binds, x.node ≠ s) : thereR b s = [] := by
  unfold thereR
  rw [List.filterMap_eq_nil_iff]
  intro x hx
  unfold thereF; rw [if_neg (h x hx)]
theorem nod_amt {n : Nod} (h : nodWhy n = 0) : n.has.amt 1 = true := by
  unfold nodWhy at h
  split at h
  · cases h
  · split at h
    · cases h
    · rename_i h2; simpa using h2
theorem well_nil {n : Nod} (h : nodWhy n = 0) : WellP n [] := by
  have h1 := A3.amt_out (nod_amt h)
  exact ⟨by simp, fun _ hx => (by cases hx), nod_amt h, by unfold sumT; simp; omega, fun _ hx => (by cases hx), List.Pairwise.nil⟩
theorem ok_addN {b : Bk} {n : Nod} (h : BookOk b) (hw : nodWhy n = 0) (hn : hasN b n.name = false) (hl : ¬16 ≤ b.nodes.length) : BookOk { b with nodes := insAt b.nodes (posN b n.name) n } := by
  refine ⟨by dsimp only; rw [insAt_len (show posN b n.name ≤ _ from pos_le)]; omega, h.tasks, ris_ins h.rn hn, h.rt, h.rb, fun m hm => ?_, h.tsk, fun x hx => ?_, fun m hm => ?_, h.binds⟩
  · rcases mem_insAt.1 hm with rfl | hm
    · exact hw
    · exact h.nod m hm
  · obtain ⟨h1, h2⟩ := h.bnd x hx
    obtain ⟨m, hm, h3⟩ := has_iff.1 h1
    exact ⟨has_iff.2 ⟨m, mem_insAt.2 (.inr hm), h3⟩, h2⟩
  · rw [wellR_L]
    have e : thereR { b with nodes := insAt b.nodes (posN b n.name) n } m.name = thereR b m.name := rfl
    rw [e]
    rcases mem_insAt.1 hm with rfl | hm
    · rw [there_none fun x hx hxn => ?_, well_iff]
      · exact well_nil hw
      · have h1 := (h.bnd x hx).1
        rw [hxn] at h1
        have h2 : hasBy (fun x : Nod => x.name) b.nodes m.name = false := hn
        rw [h1] at h2; cases h2
    · exact h.well m hm
theorem ok_addT {b : Bk} {t : Tsk} (h : BookOk b) (hw : tskWhy t = 0) (hn : hasT b t.name = false) (hl : ¬32 ≤ b.tasks.length) : BookOk { b with tasks := insAt b.tasks (posT b t.name) t } := by
  have hr : Rising (fun x : Tsk => x.name) (insAt b.tasks (posT b t.name) t) := ris_ins h.rt hn
  refine ⟨h.nodes, by dsimp only; rw [insAt_len (show posT b t.name ≤ _ from pos_le)]; omega, h.rn, hr, h.rb, h.nod, fun m hm => ?_, fun x hx => ?_, fun m hm => ?_, h.binds⟩
  · rcases mem_insAt.1 hm with rfl | hm
    · exact hw
    · exact h.tsk m hm
  · obtain ⟨h1, h2⟩ := h.bnd x hx
    obtain ⟨m, hm, h3⟩ := has_iff.1 h2
    exact ⟨h1, has_iff.2 ⟨m, mem_insAt.2 (.inr hm), h3⟩⟩
  · have e : thereR { b with tasks := insAt b.tasks (posT b t.name) t } m.name = thereR b m.name := there_tasks (b := b) (b' := { b with tasks := insAt b.tasks (posT b t.name) t }) rfl fun x hx => find_congr (nm := fun x : Tsk => x.name) (l := insAt b.tasks (posT b t.name) t) (l' := b.tasks) hr h.rt fun u hu => ?_
    · rw [wellR_L, e]; exact h.well m hm
    · rw [mem_insAt]
      refine ⟨fun h1 => h1.resolve_left fun e => ?_, .inr⟩
      subst e
      have h2 := (h.bnd x hx).2
      rw [← hu] at h2
      have h3 : hasBy (fun x : Tsk => x.name) b.tasks u.name = false := hn
      rw [h2] at h3; cases h3
theorem ok_gone {b : Bk} {s : ByteArray} (h : BookOk b) (hs : hasN b s = true) (he : ¬0 < (thereR b s).length) : BookOk { b with nodes := delAt b.nodes (posN b s) } := by
  obtain ⟨hk, hks⟩ := has_get h.rn hs
  refine ⟨Nat.le_trans delAt_sub.length_le h.nodes, h.tasks, ris_del h.rn, h.rt, h.rb, fun m hm => h.nod m (delAt_sub.mem hm), h.tsk, fun x hx => ⟨?_, (h.bnd x hx).2⟩, fun m hm => h.well m (delAt_sub.mem hm), h.binds⟩
  obtain ⟨h1, h2⟩ := h.bnd x hx
  obtain ⟨m, hm, h3⟩ := has_iff.1 h1
  refine has_iff.2 ⟨m, (mem_del h.rn hk).2 ⟨hm, ?_⟩, h3⟩
  rw [hks, h3]
  intro e
  apply he
  refine List.length_pos_of_mem (a := b.tasks[posBy (fun x : Tsk => x.name) b.tasks x.task]'(has_get h.rt h2).1) ?_
  unfold thereR
  rw [List.mem_filterMap]
  exact ⟨x, hx, by unfold thereF; rw [if_pos e, find_get h.rt h2]⟩
theorem there_app {b : Bk} {s : ByteArray} {A B M : List Bnd} : thereR { b with binds := A ++ (M ++ B) } s = A.filterMap (thereF b s) ++ (M.filterMap (thereF b s) ++ B.filterMap (thereF b s)) := by
  unfold thereR
  have e : thereF { b with binds := A ++ (M ++ B) } s = thereF b s := rfl
  rw [e]
  simp only [List.filterMap_append]
theorem there_app2 {b : Bk} {s : ByteArray} {A B : List Bnd} : thereR { b with binds := A ++ B } s = A.filterMap (thereF b s) ++ B.filterMap (thereF b s) := by
  unfold thereR
  have e : thereF { b with binds := A ++ B } s = thereF b s := rfl
  rw [e]
  simp only [List.filterMap_append]
theorem bk_eta {b : Bk} {l : List Bnd} (h : b.binds = l) : b = { b with binds := l } := by subst h; rfl
theorem ok_free {b : Bk} {s : ByteArray} (h : BookOk b) : BookOk (freeR b s) := by
  unfold freeR
  split
  · rename_i hs
    obtain ⟨hk, hks⟩ := has_get h.rb hs
    refine ⟨h.nodes, h.tasks, h.rn, h.rt, ris_del h.rb, h.nod, h.tsk, fun x hx => h.bnd x (delAt_sub.mem hx), fun m hm => ?_, Nat.le_trans delAt_sub.length_le h.binds⟩
    have hw := h.well m hm
    rw [wellR_L, well_iff] at hw ⊢
    have e : thereR b m.name = _ := (congrArg (fun x => thereR x m.name) (bk_eta (get_split hk))).trans (there_app (M := [b.binds[posB b s]]))
    rw [e] at hw
    have e2 : thereR { b with binds := delAt b.binds (posB b s) } m.name = _ := there_app2
    rw [e2]
    exact well_drop hw
  · exact h
theorem can_zero {b : Bk} {task node : ByteArray} (h : canR b task node = 0) : ∃ t n, b.tasks.find? (fun t => decide (t.name = task)) = some t ∧ b.nodes.find? (fun n => decide (n.name = node)) = some n ∧ hasB b task = false ∧ suits t n = true ∧ room n (sumR (thereR b node)).1 t.needs = true ∧ (thereR b node).all (bear t) = true := by
  unfold canR at h
  split at h
  · rename_i t n h1 h2
    refine ⟨t, n, h1, h2, ?_⟩
    split at h
    · cases h
    · rename_i h3
      split at h
      · rename_i h4
        rw [Bool.and_eq_true, canT, Bool.and_eq_true] at h4
        exact ⟨by simpa using h3, h4.1.1, h4.1.2, h4.2⟩
      · cases h
  · cases h
theorem there_bind {b : Bk} {task node s : ByteArray} {t : Tsk} {A B : List Bnd} (ht : b.tasks.find? (fun t => decide (t.name = task)) = some t) : thereR { b with binds := A ++ (⟨task, node⟩ :: B) } s = A.filterMap (thereF b s) ++ ((if node = s then [t] else []) ++ B.filterMap (thereF b s)) := by
  have := there_app (b := b) (s := s) (A := A) (M := [⟨task, node⟩]) (B := B)
  rw [List.singleton_append] at this
  rw [this]
  congr 2
  by_cases h : node = s
  · simp [thereF, h, ht]
  · simp [thereF, h]
theorem ok_place {b : Bk} {task node : ByteArray} (h : BookOk b) (hc : canR b task node = 0) : BookOk { b with binds := insAt b.binds (posB b task) ⟨task, node⟩ } := by
  obtain ⟨t, n, h1, h2, h3, h4, h5, h6⟩ := can_zero hc
  obtain ⟨htm, htn⟩ := (find_iff h.rt).1 h1
  obtain ⟨hnm, hnn⟩ := (find_iff h.rn).1 h2
  have hr : Rising (fun x : Bnd => x.task) (insAt b.binds (posB b task) ⟨task, node⟩) := ris_ins (x := (⟨task, node⟩ : Bnd)) h.rb h3
  have hb : ∀ x ∈ insAt b.binds (posB b task) ⟨task, node⟩, hasBy (fun x : Nod => x.name) b.nodes x.node = true ∧ hasBy (fun x : Tsk => x.name) b.tasks x.task = true := fun x hx => by
    rcases mem_insAt.1 hx with rfl | hx
    · exact ⟨has_iff.2 ⟨n, hnm, hnn⟩, has_iff.2 ⟨t, htm, htn⟩⟩
    · exact h.bnd x hx
  have hl := binds_few' (b := { b with binds := insAt b.binds (posB b task) ⟨task, node⟩ }) h.tasks hr fun x hx => (hb x hx).2
  refine ⟨h.nodes, h.tasks, h.rn, h.rt, hr, h.nod, h.tsk, hb, fun m hm => ?_, hl⟩
  dsimp only at hl
  rw [insAt_len (show posB b task ≤ _ from pos_le)] at hl
  have hw := h.well m hm
  rw [wellR_L, well_iff] at hw ⊢
  have e : thereR b m.name = (b.binds.take (posB b task)).filterMap (thereF b m.name) ++ (b.binds.drop (posB b task)).filterMap (thereF b m.name) := (congrArg (fun x => thereR x m.name) (bk_eta (List.take_append_drop (posB b task) b.binds).symm)).trans there_app2
  have e2 : thereR { b with binds := insAt b.binds (posB b task) ⟨task, node⟩ } m.name = _ := there_bind h1
  rw [e2]
  by_cases hm2 : node = m.name
  · have hmn : n = m := uniq h.rn hnm hm (by rw [hnn, hm2])
    subst hmn
    have hlen : (thereR b n.name).length ≤ b.binds.length := List.length_filterMap_le _ _
    rw [if_pos hm2, List.singleton_append]
    rw [hm2] at h5 h6
    rw [e] at hw hlen h5 h6
    exact well_add hw (by omega) h4 h5 h6
  · rw [if_neg hm2, List.nil_append, ← e]; exact hw
theorem free_names {b : Bk} {s : ByteArray} (h : BookOk b) {x : Bnd} (hx : x ∈ (freeR b s).binds) : x.task ≠ s := by
  unfold freeR at hx
  split at hx
  · rename_i hs
    obtain ⟨hk, hks⟩ := has_get h.rb hs
    have := (mem_del h.rb hk).1 hx
    rw [← hks]; exact this.2
  · rename_i hs
    exact has_niff.1 (Bool.eq_false_iff.2 hs) x hx
theorem ok_done {b : Bk} {s : ByteArray} (h : BookOk b) (hs : hasT b s = true) : BookOk { freeR b s with tasks := delAt (freeR b s).tasks (posT b s) } := by
  have hf := ok_free (s := s) h
  rw [freeR_tasks]
  obtain ⟨hk, hks⟩ := has_get h.rt hs
  have hr : Rising (fun x : Tsk => x.name) (delAt b.tasks (posT b s)) := ris_del h.rt
  have hm : ∀ x ∈ (freeR b s).binds, ∀ t : Tsk, t.name = x.task → (t ∈ delAt b.tasks (posT b s) ↔ t ∈ b.tasks) := fun x hx t ht => by
    rw [show (t ∈ delAt b.tasks (posT b s)) ↔ _ from mem_del h.rt hk]
    refine ⟨fun h => h.1, fun h1 => ⟨h1, ?_⟩⟩
    rw [ht, hks]
    exact free_names h hx
  refine ⟨hf.nodes, Nat.le_trans delAt_sub.length_le h.tasks, hf.rn, hr, hf.rb, hf.nod, fun t ht => h.tsk t (delAt_sub.mem ht), fun x hx => ⟨(hf.bnd x hx).1, ?_⟩, fun m hm2 => ?_, hf.binds⟩
  · have h2 := (hf.bnd x hx).2
    rw [freeR_tasks] at h2
    obtain ⟨t, ht, h3⟩ := has_iff.1 h2
    exact has_iff.2 ⟨t, (hm x hx t h3).2 ht, h3⟩
  · have e : thereR { freeR b s with tasks := delAt b.tasks (posT b s) } m.name = thereR (freeR b s) m.name := there_tasks (b := freeR b s) (b' := { freeR b s with tasks := delAt b.tasks (posT b s) }) rfl fun x hx => find_congr (nm := fun x : Tsk => x.name) (l := delAt b.tasks (posT b s)) (l' := (freeR b s).tasks) hr (by rw [freeR_tasks]; exact h.rt) fun t ht => (by rw [freeR_tasks]; exact hm x hx t ht)
    rw [wellR_L, e]; exact hf.well m hm2
theorem step_ok {b : Bk} {o : Ordr} (h : BookOk b) : BookOk (stepR b o).1 := by
  unfold stepR
  split
  · unfold addNR
    split
    · split
      · exact h
      · split
        · exact h
        · exact ok_addN h (by assumption) (Bool.eq_false_iff.2 (by assumption)) (by assumption)
    · exact h
  · split
    · unfold addTR
      split
      · split
        · exact h
        · split
          · exact h
          · exact ok_addT h (by assumption) (Bool.eq_false_iff.2 (by assumption)) (by assumption)
      · exact h
    · split
      · unfold goneR
        split
        · split
          · exact h
          · exact ok_gone h (by assumption) (by assumption)
        · exact h
      · split
        · unfold placeR
          split
          · exact h
          · split
            · exact ok_place h (by assumption)
            · exact h
        · unfold ofR
          split
          · split
            · exact ok_done h (by assumption)
            · split
              · exact ok_free h
              · split
                · exact h
                · exact h
          · exact h
theorem do_okB {b : Bk} {o : Ordr} (h : bookOk b = true) : bookOk (doR b o).1 = true := by
  unfold doR
  rw [if_pos h]
  split
  · exact (step_ok (BookOk.of h)).to
  · exact h
/-- What is refused changes nothing. -/
theorem step_bad {b : Bk} {o : Ordr} (h : ¬(stepR b o).2.1 = 0) : (stepR b o).1 = b := by
  unfold stepR at h ⊢
  split
  · rename_i h1; rw [if_pos h1] at h
    unfold addNR at h ⊢
    split
    · rename_i h2; rw [if_pos h2] at h
      split
      · rfl
      · rename_i h3; rw [if_neg h3] at h
        split
        · rfl
        · rename_i h4; rw [if_neg h4] at h; exact absurd rfl h
    · rfl
  · rename_i h1; rw [if_neg h1] at h
    split
    · rename_i h1; rw [if_pos h1] at h
      unfold addTR at h ⊢
      split
      · rename_i h2; rw [if_pos h2] at h
        split
        · rfl
        · rename_i h3; rw [if_neg h3] at h
          split
          · rfl
          · rename_i h4; rw [if_neg h4] at h; exact absurd rfl h
      · rfl
    · rename_i h1; rw [if_neg h1] at h
      split
      · rename_i h1; rw [if_pos h1] at h
        unfold goneR at h ⊢
        split
        · rename_i h2; rw [if_pos h2] at h
          split
          · rfl
          · rename_i h3; rw [if_neg h3] at h; exact absurd rfl h
        · rfl
      · rename_i h1; rw [if_neg h1] at h
        split
        · rename_i h1; rw [if_pos h1] at h
          unfold placeR at h ⊢
          split
          · rfl
          · rename_i h2; rw [if_neg h2] at h
            split
            · rename_i h3; rw [if_pos h3] at h; exact absurd rfl h
            · rfl
        · rename_i h1; rw [if_neg h1] at h
          unfold ofR at h ⊢
          split
          · rename_i h2; rw [if_pos h2] at h
            split
            · rename_i h3; rw [if_pos h3] at h; exact absurd rfl h
            · rename_i h3; rw [if_neg h3] at h
              split
              · rename_i h4; rw [if_pos h4] at h
                dsimp only at h
                split at h
                · exact absurd rfl h
                · rename_i h5; unfold freeR; rw [if_neg h5]
              · rename_i h4; rw [if_neg h4] at h
                split
                · rfl
                · rfl
          · rfl
theorem do_bad {b : Bk} {o : Ordr} (hb : bookOk b = true) (h : ¬(doR b o).2.1 = 0) : (doR b o).1 = b := by
  unfold doR at h ⊢
  rw [if_pos hb] at h ⊢
  split
  · rename_i h1; rw [if_pos h1] at h; exact step_bad h
  · rfl
theorem do_look {b : Bk} {o : Ordr} (hb : bookOk b = true) (h : o.kind = 7) : (doR b o).1 = b := by
  unfold doR stepR ofR
  rw [if_pos hb]
  split
  · rw [h]
    simp only [reduceCtorEq, if_false, if_true, Int.reduceEq]
    split <;> rfl
  · rfl
theorem step_fence {b : Bk} {o : Ordr} : (stepR b o).1.fence = b.fence := by
  unfold stepR addNR addTR goneR placeR ofR freeR
  repeat' split
  all_goals rfl
theorem do_fence {b : Bk} {o : Ordr} (hb : bookOk b = true) : (doR b o).1.fence = b.fence := by
  unfold doR
  rw [if_pos hb]
  split
  · exact step_fence
  · rfl
theorem do_fenced {b : Bk} {o : Ordr} (hb : bookOk b = true) (h : o.kind = 5) (hf : o.fence < b.fence) : (doR b o).1 = b ∧ ((doR b o).2.1 = 14 ∨ (doR b o).2.1 = 4) := by
  unfold doR stepR placeR
  rw [if_pos hb]
  split
  · simp [h, hf]
  · exact ⟨rfl, .inr rfl⟩

def nod0' : Nod := ⟨⟨#[]⟩, ⟨0, 0, 0⟩, [], []⟩
def ordT (t : Tsk) : Ordr := ⟨3, nod0', t, ⟨#[]⟩, ⟨#[]⟩, 0⟩
def ordK (k : Int) (s : ByteArray) : Ordr := ⟨k, nod0', task0', s, ⟨#[]⟩, 0⟩
def ordB (task node : ByteArray) (f : Int) : Ordr := ⟨5, nod0', task0', task, node, f⟩
def canA (b : Bk) (task node : ByteArray) : Int := if bookOk b = true then canR b task node else 10
def usedR (b : Bk) (s : ByteArray) : A3 × Int := if bookOk b = true then (if hasN b s = true then sumR (thereR b s) else (⟨0, 0, 0⟩, 6)) else (⟨0, 0, 0⟩, 10)
theorem do_in {b : Bk} {o : Ordr} (h : (doR b o).2.1 = 0) : bookOk b = true ∧ orderOk o = true ∧ doR b o = stepR b o := by
  unfold doR at h ⊢
  split
  · rename_i h1; rw [if_pos h1] at h
    split
    · rename_i h2; exact ⟨h1, h2, rfl⟩
    · rename_i h2; rw [if_neg h2] at h; cases h
  · rename_i h1; rw [if_neg h1] at h; cases h
theorem do_eq {b : Bk} {o : Ordr} (h : bookOk b = true) (h2 : orderOk o = true) : doR b o = stepR b o := by unfold doR; rw [if_pos h, if_pos h2]
theorem ordK_ok {k : Int} {s : ByteArray} (h : k = 2 ∨ k = 4 ∨ k = 6 ∨ k = 7) : orderOk (ordK k s) = true := by
  rcases h with rfl | rfl | rfl | rfl <;> rfl
theorem ordB_ok {task node : ByteArray} {f : Int} : orderOk (ordB task node f) = true := rfl
theorem step3 {b : Bk} {t : Tsk} : stepR b (ordT t) = ((addTR b t).1, (addTR b t).2, ⟨#[]⟩) := rfl
theorem step5 {b : Bk} {task node : ByteArray} {f : Int} : stepR b (ordB task node f) = ((placeR b (ordB task node f)).1, (placeR b (ordB task node f)).2, ⟨#[]⟩) := rfl
theorem stepK {b : Bk} {k : Int} {s : ByteArray} (h : k = 4 ∨ k = 6 ∨ k = 7) : stepR b (ordK k s) = ofR b (ordK k s) := by
  rcases h with rfl | rfl | rfl <;> rfl
theorem names_law {b : Bk} {t : Tsk} (h : (doR b (ordT t)).2.1 = 0) : (doR b (ordT t)).1.tasks.length = b.tasks.length + 1 ∧ b.tasks.length ≤ 32 ∧ (doR (doR b (ordT t)).1 (ordT t)).2.1 = 7 ∧ (doR (doR b (ordT t)).1 (ordK 4 t.name)).2.1 = 0 ∧ (doR (doR b (ordT t)).1 (ordK 4 t.name)).1 = b := by
  obtain ⟨h1, h2, h3⟩ := do_in h
  have hb := BookOk.of h1
  rw [h3] at h ⊢
  rw [step3] at h ⊢
  unfold addTR at h ⊢
  dsimp only at h ⊢
  split
  · rename_i h4; rw [if_pos h4] at h
    split
    · rename_i h5; rw [if_pos h5] at h; cases h
    · rename_i h5; rw [if_neg h5] at h
      split
      · rename_i h6; rw [if_pos h6] at h; cases h
      · rename_i h6
        have hn : hasT b t.name = false := Bool.eq_false_iff.2 h5
        have hc := ok_addT hb h4 hn h6
        obtain ⟨c, hce⟩ : ∃ c, { b with tasks := insAt b.tasks (posT b t.name) t } = c := ⟨_, rfl⟩
        have hct : c.tasks = insAt b.tasks (posT b t.name) t := by rw [← hce]
        have hcb : c.binds = b.binds := by rw [← hce]
        have hhas : hasT c t.name = true := by
          show hasBy (fun x : Tsk => x.name) c.tasks t.name = true
          rw [hct]; exact has_iff.2 ⟨t, mem_insAt.2 (.inl rfl), rfl⟩
        dsimp only
        rw [hce] at hc ⊢
        have hco := hc.to
        refine ⟨by first | (rw [hct, insAt_len (show posT b t.name ≤ _ from pos_le)]; done) | rw [insAt_len (show posT b t.name ≤ _ from pos_le)], hb.tasks, ?_, ?_⟩
        · rw [do_eq hco h2, step3]
          unfold addTR
          rw [if_pos h4, if_pos hhas]
        · have hnb : hasB c t.name = false := by
            show hasBy (fun x : Bnd => x.task) c.binds t.name = false
            rw [hcb]
            refine has_niff.2 fun x hx e => ?_
            have h7 := (hb.bnd x hx).2
            rw [e] at h7
            have h8 : hasBy (fun x : Tsk => x.name) b.tasks t.name = false := hn
            rw [h7] at h8; cases h8
          have hfr : freeR c t.name = c := by unfold freeR; rw [hnb]; rfl
          have hpos : posT c t.name = posT b t.name := by
            show posBy (fun x : Tsk => x.name) c.tasks t.name = _
            rw [hct]; exact pos_ins
          have e : doR c (ordK 4 t.name) = (b, 0, ⟨#[]⟩) := by
            rw [do_eq hco (ordK_ok (.inr (.inl rfl))), stepK (.inl rfl)]
            unfold ofR
            rw [show (ordK 4 t.name).name = t.name from rfl, show (ordK 4 t.name).kind = 4 from rfl, if_pos hhas, if_pos rfl, hfr, hpos, hct, del_ins (show posT b t.name ≤ _ from pos_le), ← hce]
          rw [e]
          exact ⟨rfl, rfl⟩
  · rename_i h4; rw [if_neg h4] at h; exact absurd h h4
theorem can_bad {b : Bk} {task node : ByteArray} (h : ¬canA b task node = 0) : (doR b (ordB task node b.fence)).2.1 = canA b task node := by
  unfold canA at *
  unfold doR
  split
  · rename_i h1; rw [if_pos h1] at h
    rw [if_pos ordB_ok, step5]
    unfold placeR
    rw [if_neg (show ¬(ordB task node b.fence).fence < b.fence from Int.lt_irrefl _), show (ordB task node b.fence).name = task from rfl, show (ordB task node b.fence).on = node from rfl, if_neg h]
  · rfl
theorem can_in {b : Bk} {task node : ByteArray} (h : canA b task node = 0) : bookOk b = true ∧ canR b task node = 0 := by
  unfold canA at h
  split at h
  · exact ⟨by assumption, h⟩
  · cases h
theorem place_eq {b : Bk} {task node : ByteArray} (h : bookOk b = true) (hc : canR b task node = 0) : doR b (ordB task node b.fence) = ({ b with binds := insAt b.binds (posB b task) ⟨task, node⟩ }, 0, ⟨#[]⟩) := by
  rw [do_eq h ordB_ok, step5]
  unfold placeR
  rw [if_neg (show ¬(ordB task node b.fence).fence < b.fence from Int.lt_irrefl _), show (ordB task node b.fence).name = task from rfl, show (ordB task node b.fence).on = node from rfl, if_pos hc]
theorem can_good {b : Bk} {task node : ByteArray} (h : canA b task node = 0) : (doR b (ordB task node b.fence)).2.1 = 0 ∧ (doR (doR b (ordB task node b.fence)).1 (ordK 7 task)).2.2 = node ∧ canA (doR b (ordB task node b.fence)).1 task node = 7 ∧
    (doR (doR b (ordB task node b.fence)).1 (ordK 6 task)).2.1 = 0 ∧ (doR (doR b (ordB task node b.fence)).1 (ordK 6 task)).1 = b := by
  obtain ⟨h1, h2⟩ := can_in h
  have hb := BookOk.of h1
  rw [place_eq h1 h2]
  have hc := ok_place hb h2
  obtain ⟨t, n, g1, g2, g3, g4, g5, g6⟩ := can_zero h2
  obtain ⟨htm, htn⟩ := (find_iff hb.rt).1 g1
  obtain ⟨c, hce⟩ : ∃ c, { b with binds := insAt b.binds (posB b task) ⟨task, node⟩ } = c := ⟨_, rfl⟩
  have hcx : c.binds = insAt b.binds (posB b task) ⟨task, node⟩ := by rw [← hce]
  have hct : c.tasks = b.tasks := by rw [← hce]
  have hcn : c.nodes = b.nodes := by rw [← hce]
  dsimp only
  rw [hce] at hc ⊢
  have hco := hc.to
  have hhas : hasT c task = true := by
    show hasBy (fun x : Tsk => x.name) c.tasks task = true
    rw [hct]; exact has_iff.2 ⟨t, htm, htn⟩
  have hin : (⟨task, node⟩ : Bnd) ∈ c.binds := by rw [hcx]; exact mem_insAt.2 (.inl rfl)
  have hhb : hasB c task = true := has_iff (nm := fun x : Bnd => x.task) |>.2 ⟨_, hin, rfl⟩
  refine ⟨rfl, ?_, ?_, ?_⟩
  · rw [do_eq hco (ordK_ok (.inr (.inr (.inr rfl)))), stepK (.inr (.inr rfl))]
    unfold ofR
    rw [show (ordK 7 task).name = task from rfl, show (ordK 7 task).kind = 7 from rfl, if_pos hhas, if_neg (by decide), if_neg (by decide), if_pos rfl]
    unfold onR
    have e : c.binds.find? (fun x => decide (x.task = task)) = some ⟨task, node⟩ := (find_iff (nm := fun x : Bnd => x.task) hc.rb).2 ⟨hin, rfl⟩
    rw [e]
  · unfold canA
    rw [if_pos hco]
    unfold canR
    rw [hct, hcn, g1, g2]
    dsimp only
    rw [if_pos hhb]
  · have hpos : posB c task = posB b task := by
      show posBy (fun x : Bnd => x.task) c.binds task = _
      rw [hcx]; exact pos_ins (nm := fun x : Bnd => x.task) (x := (⟨task, node⟩ : Bnd))
    have e : doR c (ordK 6 task) = (b, 0, ⟨#[]⟩) := by
      rw [do_eq hco (ordK_ok (.inr (.inr (.inl rfl)))), stepK (.inr (.inl rfl))]
      unfold ofR freeR
      rw [show (ordK 6 task).name = task from rfl, show (ordK 6 task).kind = 6 from rfl, if_pos hhas, if_neg (by decide), if_pos rfl, if_pos hhb, if_pos hhb, hpos, hcx, del_ins (show posB b task ≤ _ from pos_le), ← hce]
    rw [e]
    exact ⟨rfl, rfl⟩
theorem place_in {b : Bk} {task node : ByteArray} (h : (doR b (ordB task node b.fence)).2.1 = 0) : bookOk b = true ∧ canR b task node = 0 := by
  obtain ⟨h1, h2, h3⟩ := do_in h
  refine ⟨h1, ?_⟩
  by_cases hc : canR b task node = 0
  · exact hc
  · have := can_bad (b := b) (task := task) (node := node) (by unfold canA; rw [if_pos h1]; exact hc)
    rw [h] at this
    unfold canA at this
    rw [if_pos h1] at this
    exact this.symm
theorem filter_one {l : List Tsk} {t : Tsk} (hr : Rising (fun x : Tsk => x.name) l) (ht : t ∈ l) : l.filter (fun x => decide (x.name = t.name)) = [t] := by
  obtain ⟨i, hi, rfl⟩ := List.mem_iff_getElem.1 ht
  have hp := rising_pw.1 hr
  have hs := get_split hi
  rw [hs, List.pairwise_append, List.pairwise_cons] at hp
  have e : l.filter (fun x => decide (x.name = l[i].name)) = (l.take i ++ (l[i] :: l.drop (i + 1))).filter (fun x => decide (x.name = l[i].name)) := by rw [← hs]
  rw [e, List.filter_append, List.filter_cons]
  have h1 : (l.take i).filter (fun x => decide (x.name = l[i].name)) = [] := by
    rw [List.filter_eq_nil_iff]
    intro a ha h
    have h2 := hp.2.2 a ha l[i] List.mem_cons_self
    rw [decide_eq_true_eq] at h
    rw [h, lt_irr] at h2; cases h2
  have h3 : (l.drop (i + 1)).filter (fun x => decide (x.name = l[i].name)) = [] := by
    rw [List.filter_eq_nil_iff]
    intro a ha h
    have h2 := hp.2.1.1 a ha
    rw [decide_eq_true_eq] at h
    rw [h, lt_irr] at h2; cases h2
  rw [h1, h3]; simp
def ndTo (b : Bk) (task : ByteArray) (k : Nat) : A3 := sumT ((b.tasks.take k).filter fun x => decide (x.name = task))
theorem ndTo_step {b : Bk} {task : ByteArray} {k : Nat} (hk : k < b.tasks.length) : ndTo b task (k + 1) = if b.tasks[k].name = task then A3.plus (ndTo b task k) b.tasks[k].needs else ndTo b task k := by
  unfold ndTo
  rw [List.take_succ_eq_append_getElem hk, List.filter_append]
  split
  · rename_i h
    simp only [List.filter_cons, h, decide_true, if_true, List.filter_nil]
    rw [sumT_app, sumT_cons]
    unfold A3.plus sumT; simp
  · rename_i h
    simp [List.filter_cons, h]
theorem used_law {b : Bk} {task node : ByteArray} (h : (usedR b node).2 = 0) (h2 : (doR b (ordB task node b.fence)).2.1 = 0) : (usedR (doR b (ordB task node b.fence)).1 node).2 = 0 ∧ A3.plus (usedR b node).1 (ndTo b task b.tasks.length) = (usedR (doR b (ordB task node b.fence)).1 node).1 ∧
    amtAll b.tasks ∧ b.tasks.length ≤ 32 ∧ (0 ≤ (usedR b node).1.a ∧ 0 ≤ (usedR b node).1.b ∧ 0 ≤ (usedR b node).1.c ∧ (usedR b node).1.a ≤ 1099511627776 * 32 ∧ (usedR b node).1.b ≤ 1099511627776 * 32 ∧ (usedR b node).1.c ≤ 1099511627776 * 32) := by
  obtain ⟨h1, hc⟩ := place_in h2
  have hb := BookOk.of h1
  have hok := ok_place hb hc
  rw [place_eq h1 hc]
  obtain ⟨t, n, g1, g2, g3, g4, g5, g6⟩ := can_zero hc
  obtain ⟨htm, htn⟩ := (find_iff hb.rt).1 g1
  obtain ⟨hnm, hnn⟩ := (find_iff hb.rn).1 g2
  have hw := hb.well n hnm
  have hw2 := hok.well n hnm
  rw [wellR_L, well_iff] at hw hw2
  have hn : hasN b node = true := has_iff (nm := fun x : Nod => x.name) |>.2 ⟨n, hnm, hnn⟩
  have hn2 : hasN { b with binds := insAt b.binds (posB b task) ⟨task, node⟩ } node = true := hn
  rw [hnn] at hw hw2
  unfold usedR
  rw [if_pos h1, if_pos hn, if_pos hok.to, if_pos hn2, sumR_good hw.few hw.amt, sumR_good hw2.few hw2.amt]
  have e : thereR b node = (b.binds.take (posB b task)).filterMap (thereF b node) ++ (b.binds.drop (posB b task)).filterMap (thereF b node) := (congrArg (fun x => thereR x node) (bk_eta (List.take_append_drop (posB b task) b.binds).symm)).trans there_app2
  have e2 : thereR { b with binds := insAt b.binds (posB b task) ⟨task, node⟩ } node = _ := there_bind g1
  have hs := sum_bnd hw.amt
  have hl := hw.few
  have hat : amtAll b.tasks := fun x hx => by
    have := hb.tsk x hx
    unfold tskWhy at this
    split at this
    · cases this
    · split at this
      · cases this
      · rename_i h5
        simp only [Bool.not_eq_false, Bool.and_eq_true] at h5
        exact h5.1
  refine ⟨rfl, ?_, hat, hb.tasks, by dsimp only; omega⟩
  dsimp only
  rw [e2, e, if_pos rfl, List.singleton_append, sumT_app, sumT_app, sumT_cons]
  have hnd : ndTo b task b.tasks.length = t.needs := by
    unfold ndTo
    rw [List.take_length, ← htn, filter_one hb.rt htm, sumT_cons]
    unfold sumT; simp
  rw [hnd]
  unfold A3.plus
  simp only [A3.mk.injEq]
  omega

end Go.Proofs.YtajpakifkinadaaGreatDoor
