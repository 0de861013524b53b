/- Walks of functions over a symbolic memory, printed by a program of the session. -/
import Derived.Test.YtmmokaockpghaaaGreatDoorBn
namespace Go.Proofs.YtmmokaockpghaaaGreatDoor
open Go.Sy
set_option linter.unusedSimpArgs false
set_option linter.unusedVariables false

section
variable {α : Type} {nm : α → ByteArray}
theorem rising_pw {l : List α} : Rising nm l ↔ l.Pairwise (fun a b => slt (nm a) (nm b) = true) := by
  rw [List.pairwise_iff_getElem]; exact ⟨fun h i j hi hj hij => h i j hi hj hij, fun h i j hi hj hij => h i j hi hj hij⟩
theorem risingB_of {l : List α} (h : Rising nm l) : risingB nm l = true := by
  unfold risingB
  refine List.all_eq_true.2 fun i hi => ?_
  rw [List.mem_range] at hi
  unfold risAt
  rw [List.getElem?_eq_getElem (show i < l.length by omega), List.getElem?_eq_getElem (show i + 1 < l.length by omega)]
  exact h i (i + 1) (by omega) (by omega) (by omega)
theorem mem_insAt {l : List α} {k : Nat} {x y : α} : y ∈ insAt l k x ↔ y = x ∨ y ∈ l := by
  unfold insAt
  rw [List.perm_middle.mem_iff, List.mem_cons, List.take_append_drop]
theorem pos_at {s : ByteArray} : ∀ (l : List α) (h : posBy nm l s < l.length), slt (nm l[posBy nm l s]) s = false := by
  intro l
  induction l with
  | nil => intro h; simp at h
  | cons a r ih =>
    intro h
    unfold posBy at h ⊢
    by_cases ha : slt (nm a) s = true
    · simp only [List.takeWhile_cons, ha, if_true, List.length_cons] at h ⊢
      have := ih (by unfold posBy; omega)
      unfold posBy at this
      simpa using this
    · simp only [List.takeWhile_cons, ha] at h ⊢
      simpa using ha
theorem tw_imp {p : α → Bool} {y : α} : ∀ l : List α, y ∈ l.takeWhile p → p y = true
  | [], h => by simp at h
  | a :: r, h => by
    rw [List.takeWhile_cons] at h
    split at h
    · rename_i ha
      rcases List.mem_cons.1 h with rfl | h
      · exact ha
      · exact tw_imp r h
    · cases h
theorem take_lt {l : List α} {s : ByteArray} {y : α} (hy : y ∈ l.take (posBy nm l s)) : slt (nm y) s = true := by
  have e : l.take (posBy nm l s) = l.takeWhile fun x => slt (nm x) s := (List.prefix_iff_eq_take.1 (List.takeWhile_prefix _)).symm
  rw [e] at hy
  exact tw_imp (p := fun x => slt (nm x) s) l hy
theorem drop_ge {l : List α} {s : ByteArray} {y : α} (hr : Rising nm l) (hy : y ∈ l.drop (posBy nm l s)) : slt (nm y) s = false := by
  obtain ⟨i, hi, rfl⟩ := List.mem_iff_getElem.1 hy
  rw [List.length_drop] at hi
  rw [List.getElem_drop]
  have h0 := pos_at (nm := nm) (s := s) l (by omega)
  rcases Nat.eq_zero_or_pos i with h | h
  · subst h; simpa using h0
  · rw [Bool.eq_false_iff]; intro h2
    have := lt_tr (hr (posBy nm l s) (posBy nm l s + i) (by omega) (by omega) (by omega)) h2
    rw [h0] at this; cases this
theorem has_iff {l : List α} {s : ByteArray} : hasBy nm l s = true ↔ ∃ x, x ∈ l ∧ nm x = s := by
  unfold hasBy; rw [List.any_eq_true]; simp
theorem has_niff {l : List α} {s : ByteArray} : hasBy nm l s = false ↔ ∀ x, x ∈ l → nm x ≠ s := by
  rw [Bool.eq_false_iff, ne_eq, has_iff]; simp
theorem drop_gt {l : List α} {s : ByteArray} {y : α} (hr : Rising nm l) (hn : hasBy nm l s = false) (hy : y ∈ l.drop (posBy nm l s)) : slt s (nm y) = true := by
  have h := drop_ge hr hy
  cases h2 : slt s (nm y)
  · exact absurd (lt_tot h h2) (has_niff.1 hn y (List.mem_of_mem_drop hy))
  · rfl
theorem ris_ins {l : List α} {x : α} (hr : Rising nm l) (hn : hasBy nm l (nm x) = false) : Rising nm (insAt l (posBy nm l (nm x)) x) := by
  have hp := rising_pw.1 hr
  rw [rising_pw]
  unfold insAt
  rw [List.pairwise_append, List.pairwise_cons]
  refine ⟨hp.sublist (List.take_sublist _ _), ⟨fun y hy => drop_gt hr hn hy, hp.sublist (List.drop_sublist _ _)⟩, fun a ha b hb => ?_⟩
  rcases List.mem_cons.1 hb with rfl | hb
  · exact take_lt ha
  · exact lt_tr (take_lt ha) (drop_gt hr hn hb)
theorem get_split {l : List α} {k : Nat} (hk : k < l.length) : l = l.take k ++ (l[k] :: l.drop (k + 1)) := by rw [← List.drop_eq_getElem_cons hk, List.take_append_drop]
theorem uniq {l : List α} {a b : α} (hr : Rising nm l) (ha : a ∈ l) (hb : b ∈ l) (e : nm a = nm b) : a = b := by
  obtain ⟨i, hi, rfl⟩ := List.mem_iff_getElem.1 ha
  obtain ⟨j, hj, rfl⟩ := List.mem_iff_getElem.1 hb
  rcases Nat.lt_trichotomy i j with h | h | h
  · have := hr i j hi hj h; rw [e, lt_irr] at this; cases this
  · subst h; rfl
  · have := hr j i hj hi h; rw [e, lt_irr] at this; cases this
theorem find_iff {l : List α} {s : ByteArray} {t : α} (hr : Rising nm l) : l.find? (fun x => decide (nm x = s)) = some t ↔ t ∈ l ∧ nm t = s := by
  constructor
  · intro h
    have h2 := List.find?_some h
    rw [decide_eq_true_eq] at h2
    exact ⟨List.mem_of_find?_eq_some h, h2⟩
  · rintro ⟨h, rfl⟩
    have hh : hasBy nm l (nm t) = true := has_iff.2 ⟨t, h, rfl⟩
    rw [find_get hr hh]
    obtain ⟨hk, e⟩ := has_get hr hh
    rw [uniq hr (List.getElem_mem hk) h e]
end

/-! what is on a node -/
theorem sumF (B : List Tsk) : ∀ z : A3, (B.foldl (fun x t => (⟨x.a + t.needs.a, x.b + t.needs.b, x.c + t.needs.c⟩ : A3)) z) = ⟨z.a + (sumT B).a, z.b + (sumT B).b, z.c + (sumT B).c⟩ := by
  induction B with
  | nil => intro z; unfold sumT; simp
  | cons t r ih =>
    intro z
    have h1 := ih ⟨z.a + t.needs.a, z.b + t.needs.b, z.c + t.needs.c⟩
    have h2 := ih ⟨0 + t.needs.a, 0 + t.needs.b, 0 + t.needs.c⟩
    unfold sumT at h1 h2 ⊢
    simp only [List.foldl_cons]
    rw [h1, h2]
    simp only [A3.mk.injEq]
    omega
theorem sumT_app (A B : List Tsk) : sumT (A ++ B) = ⟨(sumT A).a + (sumT B).a, (sumT A).b + (sumT B).b, (sumT A).c + (sumT B).c⟩ := by
  have := sumF B (sumT A)
  rw [← this]
  unfold sumT; rw [List.foldl_append]
theorem sumT_cons (t : Tsk) (B : List Tsk) : sumT (t :: B) = ⟨t.needs.a + (sumT B).a, t.needs.b + (sumT B).b, t.needs.c + (sumT B).c⟩ := by
  have := sumF B ⟨0 + t.needs.a, 0 + t.needs.b, 0 + t.needs.c⟩
  unfold sumT at this ⊢
  rw [List.foldl_cons, this]
  simp only [A3.mk.injEq]
  omega
def amtAll (L : List Tsk) : Prop := ∀ t ∈ L, t.needs.amt 1 = true
theorem sum_bnd : ∀ {L : List Tsk}, amtAll L → 0 ≤ (sumT L).a ∧ 0 ≤ (sumT L).b ∧ 0 ≤ (sumT L).c ∧ (sumT L).a ≤ 1099511627776 * (L.length : Int) ∧ (sumT L).b ≤ 1099511627776 * (L.length : Int) ∧ (sumT L).c ≤ 1099511627776 * (L.length : Int)
  | [], _ => by unfold sumT; simp
  | t :: r, h => by
    have h1 := sum_bnd (L := r) fun x hx => h x (List.mem_cons_of_mem _ hx)
    have h2 := A3.amt_out (h t List.mem_cons_self)
    rw [sumT_cons]
    simp only [List.length_cons]
    omega
theorem bear_symm (a b : Tsk) : bear a b = bear b a := by unfold bear; rw [Bool.and_comm]
def wellL (n : Nod) (L : List Tsk) : Bool := (decide ((sumR L).2 = 0) && room n (sumR L).1 ⟨0, 0, 0⟩) && fitTo n L L.length
theorem wellR_L {b : Bk} {n : Nod} : wellR b n = wellL n (thereR b n.name) := rfl
structure WellP (n : Nod) (L : List Tsk) : Prop where
  few : L.length ≤ 32
  amt : amtAll L
  has : n.has.amt 1 = true
  le : (sumT L).a ≤ n.has.a ∧ (sumT L).b ≤ n.has.b ∧ (sumT L).c ≤ n.has.c
  suit : ∀ t ∈ L, suits t n = true
  bear : L.Pairwise (fun u t => bear t u = true)
theorem sumR_good {L : List Tsk} (h1 : L.length ≤ 32) (h2 : amtAll L) : sumR L = (sumT L, 0) := by
  unfold sumR
  rw [if_neg]
  rintro (h | h)
  · omega
  · obtain ⟨t, ht, h3⟩ := List.any_eq_true.1 h
    simp [badT, h2 t ht] at h3
theorem sumR_zero {L : List Tsk} (h : (sumR L).2 = 0) : L.length ≤ 32 ∧ amtAll L := by
  unfold sumR at h
  split at h
  · cases h
  · rename_i h1
    rw [not_or] at h1
    refine ⟨by omega, fun t ht => ?_⟩
    cases h3 : t.needs.amt 1
    · exact absurd (List.any_eq_true.2 ⟨t, ht, by simp [badT, h3]⟩) h1.2
    · rfl
theorem amt_mk {x : A3} {k : Int} (h : 0 ≤ x.a ∧ 0 ≤ x.b ∧ 0 ≤ x.c ∧ x.a ≤ 1099511627776 * k ∧ x.b ≤ 1099511627776 * k ∧ x.c ≤ 1099511627776 * k) : x.amt k = true := by
  unfold A3.amt; exact decide_eq_true h
theorem fit_all {n : Nod} {L : List Tsk} : fitTo n L L.length = true ↔ (∀ t ∈ L, suits t n = true) ∧ L.Pairwise (fun u t => bear t u = true) := by
  unfold fitTo fitAt
  rw [List.all_eq_true, List.pairwise_iff_getElem]
  constructor
  · intro h
    have h1 : ∀ i (hi : i < L.length), suits L[i] n = true ∧ ∀ j (hj : j < i), bear L[i] (L[j]'(by omega)) = true := by
      intro i hi
      have := h i (List.mem_range.2 hi)
      rw [tskD hi, Bool.and_eq_true, Bool.not_eq_true', List.any_eq_false] at this
      refine ⟨this.1, fun j hj => ?_⟩
      have h3 := this.2 (L[j]'(by omega)) (by rw [List.mem_take_iff_getElem]; exact ⟨j, by omega, rfl⟩)
      simpa using h3
    refine ⟨fun t ht => ?_, fun i j hi hj hij => (h1 j hj).2 i hij⟩
    obtain ⟨i, hi, rfl⟩ := List.mem_iff_getElem.1 ht
    exact (h1 i hi).1
  · rintro ⟨h1, h2⟩ i hi
    rw [List.mem_range] at hi
    rw [tskD hi, Bool.and_eq_true, Bool.not_eq_true', List.any_eq_false]
    refine ⟨h1 _ (List.getElem_mem hi), fun u hu => ?_⟩
    rw [List.mem_take_iff_getElem] at hu
    obtain ⟨j, hj, rfl⟩ := hu
    simp [h2 j i (by omega) hi (by omega)]
theorem well_iff {n : Nod} {L : List Tsk} : wellL n L = true ↔ WellP n L := by
  unfold wellL
  rw [Bool.and_eq_true, Bool.and_eq_true, decide_eq_true_eq]
  constructor
  · rintro ⟨⟨h1, h2⟩, h3⟩
    obtain ⟨h4, h5⟩ := sumR_zero h1
    rw [sumR_good h4 h5] at h2
    unfold room at h2
    simp only [Bool.and_eq_true, decide_eq_true_eq] at h2
    obtain ⟨h6, h7⟩ := fit_all.1 h3
    exact ⟨h4, h5, h2.1.1.1, by have := h2.2; omega, h6, h7⟩
  · rintro ⟨h1, h2, h3, h4, h5, h6⟩
    have hb := sum_bnd h2
    refine ⟨⟨by rw [sumR_good h1 h2], ?_⟩, fit_all.2 ⟨h5, h6⟩⟩
    rw [sumR_good h1 h2]
    unfold room
    rw [h3, amt_mk (x := sumT L) (k := 32) (by omega), amt_mk (x := ⟨0, 0, 0⟩) (k := 1) (by decide)]
    simp only [Bool.true_and, decide_eq_true_eq]
    omega
theorem well_add {n : Nod} {t : Tsk} {A B : List Tsk} (h : WellP n (A ++ B)) (hl : (A ++ B).length < 32) (hs : suits t n = true) (hr : room n (sumR (A ++ B)).1 t.needs = true) (hb : (A ++ B).all (Go.Proofs.YtmmokaockpghaaaGreatDoor.bear t) = true) : WellP n (A ++ (t :: B)) := by
  rw [sumR_good h.few h.amt] at hr
  unfold room at hr
  simp only [Bool.and_eq_true, decide_eq_true_eq] at hr
  rw [List.all_eq_true] at hb
  have h1 := hr.2
  rw [sumT_app] at h1
  refine ⟨by simp at hl ⊢; omega, fun u hu => ?_, h.has, ?_, fun u hu => ?_, ?_⟩
  · rw [List.perm_middle.mem_iff, List.mem_cons] at hu
    rcases hu with rfl | hu
    · exact hr.1.2
    · exact h.amt u hu
  · rw [sumT_app, sumT_cons]; dsimp only at h1 ⊢; omega
  · rw [List.perm_middle.mem_iff, List.mem_cons] at hu
    rcases hu with rfl | hu
    · exact hs
    · exact h.suit u hu
  · have hp := h.bear
    rw [List.pairwise_append] at hp ⊢
    rw [List.pairwise_cons]
    refine ⟨hp.1, ⟨fun u hu => ?_, hp.2.1⟩, fun u hu v hv => ?_⟩
    · rw [bear_symm]; exact hb u (List.mem_append_right _ hu)
    · rcases List.mem_cons.1 hv with rfl | hv
      · exact hb u (List.mem_append_left _ hu)
      · exact hp.2.2 u hu v hv

theorem binds_few' {b : Bk} (h1 : b.tasks.length ≤ 32) (h2 : Rising (fun x : Bnd => x.task) b.binds) (h3 : ∀ x ∈ b.binds, hasBy (fun x : Tsk => x.name) b.tasks x.task = true) : b.binds.length ≤ 32 := by
  have := len_le_of_mem (b.binds.map fun x => x.task) (b.tasks.map fun x => x.name) (nodup_of h2) fun s hs => by
    obtain ⟨x, hx, rfl⟩ := List.mem_map.1 hs
    obtain ⟨t, ht, h5⟩ := has_iff.1 (h3 x hx)
    exact List.mem_map.2 ⟨t, ht, h5⟩
  simp only [List.length_map] at this
  omega
theorem BookOk.to {b : Bk} (h : BookOk b) : bookOk b = true := by
  unfold bookOk
  simp only [Bool.and_eq_true, Bool.not_eq_true', decide_eq_true_eq]
  refine ⟨h.nodes, h.tasks, risingB_of h.rn, risingB_of h.rt, risingB_of h.rb, ?_, ?_, ?_, ?_⟩
  · exact List.any_eq_false.2 fun n hn => by simp [badN, h.nod n hn]
  · exact List.any_eq_false.2 fun n hn => by simp [badK, h.tsk n hn]
  · exact List.any_eq_false.2 fun x hx => by simp [badX, h.bnd x hx]
  · exact List.any_eq_false.2 fun n hn => by simp [h.well n hn]
theorem nod_amt {n : Nod} (h : nodWhy n = 0) : n.has.amt 1 = true := by
  unfold nodWhy at h
  split at h
  · cases h
  · split at h
    · cases h
    · rename_i h2; simpa using h2
theorem there_app {b : Bk} {s : ByteArray} {A B M : List Bnd} : thereR { b with binds := A ++ (M ++ B) } s = A.filterMap (thereF b s) ++ (M.filterMap (thereF b s) ++ B.filterMap (thereF b s)) := by
  unfold thereR
  have e : thereF { b with binds := A ++ (M ++ B) } s = thereF b s := rfl
  rw [e]
  simp only [List.filterMap_append]
theorem there_app2 {b : Bk} {s : ByteArray} {A B : List Bnd} : thereR { b with binds := A ++ B } s = A.filterMap (thereF b s) ++ B.filterMap (thereF b s) := by
  unfold thereR
  have e : thereF { b with binds := A ++ B } s = thereF b s := rfl
  rw [e]
  simp only [List.filterMap_append]
theorem bk_eta {b : Bk} {l : List Bnd} (h : b.binds = l) : b = { b with binds := l } := by subst h; rfl
theorem can_zero {b : Bk} {task node : ByteArray} (h : canR b task node = 0) : ∃ t n, b.tasks.find? (fun t => decide (t.name = task)) = some t ∧ b.nodes.find? (fun n => decide (n.name = node)) = some n ∧ hasB b task = false ∧ suits t n = true ∧ room n (sumR (thereR b node)).1 t.needs = true ∧ (thereR b node).all (bear t) = true := by
  unfold canR at h
  split at h
  · rename_i t n h1 h2
    refine ⟨t, n, h1, h2, ?_⟩
    split at h
    · cases h
    · rename_i h3
      split at h
      · rename_i h4
        rw [Bool.and_eq_true, canT, Bool.and_eq_true] at h4
        exact ⟨by simpa using h3, h4.1.1, h4.1.2, h4.2⟩
      · cases h
  · cases h
theorem there_bind {b : Bk} {task node s : ByteArray} {t : Tsk} {A B : List Bnd} (ht : b.tasks.find? (fun t => decide (t.name = task)) = some t) : thereR { b with binds := A ++ (⟨task, node⟩ :: B) } s = A.filterMap (thereF b s) ++ ((if node = s then [t] else []) ++ B.filterMap (thereF b s)) := by
  have := there_app (b := b) (s := s) (A := A) (M := [⟨task, node⟩]) (B := B)
  rw [List.singleton_append] at this
  rw [this]
  congr 2
  by_cases h : node = s
  · simp [thereF, h, ht]
  · simp [thereF, h]
theorem ok_place {b : Bk} {task node : ByteArray} (h : BookOk b) (hc : canR b task node = 0) : BookOk { b with binds := insAt b.binds (posB b task) ⟨task, node⟩ } := by
  obtain ⟨t, n, h1, h2, h3, h4, h5, h6⟩ := can_zero hc
  obtain ⟨htm, htn⟩ := (find_iff h.rt).1 h1
  obtain ⟨hnm, hnn⟩ := (find_iff h.rn).1 h2
  have hr : Rising (fun x : Bnd => x.task) (insAt b.binds (posB b task) ⟨task, node⟩) := ris_ins (x := (⟨task, node⟩ : Bnd)) h.rb h3
  have hb : ∀ x ∈ insAt b.binds (posB b task) ⟨task, node⟩, hasBy (fun x : Nod => x.name) b.nodes x.node = true ∧ hasBy (fun x : Tsk => x.name) b.tasks x.task = true := fun x hx => by
    rcases mem_insAt.1 hx with rfl | hx
    · exact ⟨has_iff.2 ⟨n, hnm, hnn⟩, has_iff.2 ⟨t, htm, htn⟩⟩
    · exact h.bnd x hx
  have hl := binds_few' (b := { b with binds := insAt b.binds (posB b task) ⟨task, node⟩ }) h.tasks hr fun x hx => (hb x hx).2
  refine ⟨h.nodes, h.tasks, h.rn, h.rt, hr, h.nod, h.tsk, hb, fun m hm => ?_, hl⟩
  dsimp only at hl
  rw [insAt_len (show posB b task ≤ _ from pos_le)] at hl
  have hw := h.well m hm
  rw [wellR_L, well_iff] at hw ⊢
  have e : thereR b m.name = (b.binds.take (posB b task)).filterMap (thereF b m.name) ++ (b.binds.drop (posB b task)).filterMap (thereF b m.name) := (congrArg (fun x => thereR x m.name) (bk_eta (List.take_append_drop (posB b task) b.binds).symm)).trans there_app2
  have e2 : thereR { b with binds := insAt b.binds (posB b task) ⟨task, node⟩ } m.name = _ := there_bind h1
  rw [e2]
  by_cases hm2 : node = m.name
  · have hmn : n = m := uniq h.rn hnm hm (by rw [hnn, hm2])
    subst hmn
    have hlen : (thereR b n.name).length ≤ b.binds.length := List.length_filterMap_le _ _
    rw [if_pos hm2, List.singleton_append]
    rw [hm2] at h5 h6
    rw [e] at hw hlen h5 h6
    exact well_add hw (by omega) h4 h5 h6
  · rw [if_neg hm2, List.nil_append, ← e]; exact hw
def nod0' : Nod := ⟨⟨#[]⟩, ⟨0, 0, 0⟩, [], []⟩
def ordB (task node : ByteArray) (f : Int) : Ordr := ⟨5, nod0', task0', task, node, f⟩
def canA (b : Bk) (task node : ByteArray) : Int := if bookOk b = true then canR b task node else 10
def usedR (b : Bk) (s : ByteArray) : A3 × Int := if bookOk b = true then (if hasN b s = true then sumR (thereR b s) else (⟨0, 0, 0⟩, 6)) else (⟨0, 0, 0⟩, 10)
theorem do_eq {b : Bk} {o : Ordr} (h : bookOk b = true) (h2 : orderOk o = true) : doR b o = stepR b o := by unfold doR; rw [if_pos h, if_pos h2]
theorem ordB_ok {task node : ByteArray} {f : Int} : orderOk (ordB task node f) = true := rfl
theorem step5 {b : Bk} {task node : ByteArray} {f : Int} : stepR b (ordB task node f) = ((placeR b (ordB task node f)).1, (placeR b (ordB task node f)).2, ⟨#[]⟩) := rfl
theorem can_in {b : Bk} {task node : ByteArray} (h : canA b task node = 0) : bookOk b = true ∧ canR b task node = 0 := by
  unfold canA at h
  split at h
  · exact ⟨by assumption, h⟩
  · cases h
theorem place_eq {b : Bk} {task node : ByteArray} (h : bookOk b = true) (hc : canR b task node = 0) : doR b (ordB task node b.fence) = ({ b with binds := insAt b.binds (posB b task) ⟨task, node⟩ }, 0, ⟨#[]⟩) := by
  rw [do_eq h ordB_ok, step5]
  unfold placeR
  rw [if_neg (show ¬(ordB task node b.fence).fence < b.fence from Int.lt_irrefl _), show (ordB task node b.fence).name = task from rfl, show (ordB task node b.fence).on = node from rfl, if_pos hc]
end Go.Proofs.YtmmokaockpghaaaGreatDoor
