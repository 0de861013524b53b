/- Walks of functions over a symbolic memory, printed by a program of the session. -/
import Derived.Test.YtmmokaockpghaaaGreatDoorSa
import Derived.Test.YtmmokaockpghaaaGreatDoorQe
namespace Go.Proofs.YtmmokaockpghaaaGreatDoor
open Go.Sy
set_option linter.unusedSimpArgs false
set_option linter.unusedVariables false

/-! the best node -/
def candL (b : Bk) (task : ByteArray) : List Lod := (loadsR b).filter fun x => decide (canA b task x.node.name = 0)
def targetR (b : Bk) (t : Tsk) : Option ByteArray := if (bestR t (candL b t.name)).2 = 0 then some ((candL b t.name).getD (bestR t (candL b t.name)).1.toNat lod0).node.name else none
theorem cand_mem {b : Bk} {task : ByteArray} {x : Lod} : x ∈ candL b task ↔ x ∈ loadsR b ∧ canA b task x.node.name = 0 := by
  unfold candL; rw [List.mem_filter, decide_eq_true_eq]
theorem load_mem {b : Bk} {x : Lod} : x ∈ loadsR b ↔ ∃ n ∈ b.nodes, x = loadOf b n := by
  unfold loadsR; rw [List.mem_map]; exact ⟨fun ⟨n, h, e⟩ => ⟨n, h, e.symm⟩, fun ⟨n, h, e⟩ => ⟨n, h, e.symm⟩⟩
theorem target_can {b : Bk} {t : Tsk} {on : ByteArray} (h : targetR b t = some on) : canA b t.name on = 0 := by
  unfold targetR at h
  split at h
  · rename_i h1
    cases h
    have hi := bestR_in h1
    rw [lodD (show (bestR t (candL b t.name)).1.toNat < (candL b t.name).length by omega)]
    exact (cand_mem.1 (List.getElem_mem _)).2
  · cases h
theorem cand_right {b : Bk} (h : BookOk b) {t : Tsk} (ht : t ∈ b.tasks) {x : Lod} (hx : x ∈ candL b t.name) : lodWhy x = 0 ∧ (scoreR t x).2 = 0 := by
  obtain ⟨hl, hc⟩ := cand_mem.1 hx
  obtain ⟨n, hn, rfl⟩ := load_mem.1 hl
  obtain ⟨e, hw⟩ := used_node h hn
  have hb := used_bd h hn
  have h1 : lodWhy (loadOf b n) = 0 := (lodWhy_ok (l := loadOf b n) (h.nod n hn) (by unfold loadOf; dsimp only; omega)).symm
  refine ⟨h1, ?_⟩
  obtain ⟨_, hc2⟩ := can_in hc
  obtain ⟨t', n', g1, g2, g3, g4, g5, g6⟩ := can_zero hc2
  have hn' : n' = n := by
    have := (find_iff h.rn).1 g2
    exact uniq h.rn this.1 hn this.2
  have ht' : t' = t := by
    have := (find_iff h.rt).1 g1
    exact uniq h.rt this.1 ht this.2
  subst hn' ht'
  have g5 : room n' (sumR (thereR b n'.name)).1 t'.needs = true := g5
  rw [sumR_good hw.few hw.amt] at g5
  rw [scoreR_ok (or_zero (h.tsk _ ht) h1) (show suits t' (loadOf b n').node = true from g4) (by unfold loadOf; dsimp only; rw [e]; exact g5)]
theorem target_none {b : Bk} (h : BookOk b) {t : Tsk} (ht : t ∈ b.tasks) : targetR b t = none ↔ candL b t.name = [] := by
  constructor
  · intro hn
    cases e : candL b t.name with
    | nil => rfl
    | cons x r =>
      have hb : (bestR t (candL b t.name)).2 = 0 := bestR_iff.2 ⟨h.tsk t ht, fun y hy => (cand_right h ht hy).1, x, by rw [e]; exact List.mem_cons_self, (cand_right h ht (by rw [e]; exact List.mem_cons_self)).2⟩
      unfold targetR at hn
      rw [if_pos hb] at hn
      cases hn
  · intro e
    unfold targetR
    rw [if_neg fun hb => ?_]
    obtain ⟨_, _, x, hx, _⟩ := bestR_iff.1 hb
    rw [e] at hx; cases hx
theorem cand_free {b : Bk} {task : ByteArray} : candL b task = [] ↔ freeL b task = [] := by
  unfold candL freeL loadsR
  rw [List.map_eq_nil_iff, List.filter_eq_nil_iff, List.filter_eq_nil_iff]
  constructor
  · intro h n hn
    exact h _ (List.mem_map.2 ⟨n, hn, rfl⟩)
  · intro h x hx
    obtain ⟨n, hn, rfl⟩ := List.mem_map.1 hx
    exact h n hn
theorem cand_few {b : Bk} (h : BookOk b) {task : ByteArray} : (candL b task).length ≤ 16 := by
  unfold candL
  exact Nat.le_trans (List.length_filter_le _ _) (by rw [loads_len]; exact h.nodes)

/-! plans -/
def withF (f : Int) (o : Ordr) : Ordr := { o with fence := f }
def stepP (most : Nat) (s : Bk × List Ordr) (t : Tsk) : Bk × List Ordr := match targetR s.1 t with
  | none => s
  | some on => if s.2.length = most then s else ((doR s.1 (ordB t.name on s.1.fence)).1, s.2 ++ [ordB t.name on s.1.fence])
def planS (most : Nat) (b : Bk) (L : List Tsk) : Bk × List Ordr := L.foldl (stepP most) (b, [])
def planR (b : Bk) (most : Nat) : List Ordr × Int := if bookOk b = true then ((planS most b (waitR b)).2, 0) else ([], 10)
def planQ (b : Bk) (f : Int) : List Ordr × Int := ((planR b 8).1.map (withF f), (planR b 8).2)
def quietR (b : Bk) : Bool × Int := (decide ((planR b 1).2 = 0) && decide ((planR b 1).1.length = 0), (planR b 1).2)
theorem planS_step {most : Nat} {b : Bk} {L : List Tsk} {k : Nat} (hk : k < L.length) : planS most b (L.take (k + 1)) = stepP most (planS most b (L.take k)) L[k] := by
  unfold planS; rw [List.take_succ_eq_append_getElem hk, List.foldl_append]; rfl
theorem planS_end {most : Nat} {b : Bk} {L : List Tsk} {k : Nat} (hk : L.length ≤ k) : planS most b (L.take k) = planS most b L := by rw [List.take_of_length_le hk]
theorem stepP_none {most : Nat} {s : Bk × List Ordr} {t : Tsk} (h : targetR s.1 t = none) : stepP most s t = s := by unfold stepP; rw [h]
theorem stepP_full {most : Nat} {s : Bk × List Ordr} {t : Tsk} (h : s.2.length = most) : stepP most s t = s := by
  unfold stepP
  split
  · rfl
  · rw [if_pos h]
theorem stepP_some {most : Nat} {s : Bk × List Ordr} {t : Tsk} {on : ByteArray} (h : targetR s.1 t = some on) (h2 : ¬s.2.length = most) : stepP most s t = ((doR s.1 (ordB t.name on s.1.fence)).1, s.2 ++ [ordB t.name on s.1.fence]) := by
  unfold stepP; rw [h]; dsimp only; rw [if_neg h2]
theorem fold_full {most : Nat} : ∀ (L : List Tsk) (s : Bk × List Ordr), s.2.length = most → L.foldl (stepP most) s = s
  | [], _, _ => rfl
  | t :: L, s, h => by rw [List.foldl_cons, stepP_full h]; exact fold_full L s h
theorem planS_full {most : Nat} {b : Bk} {L : List Tsk} {k : Nat} (h : (planS most b (L.take k)).2.length = most) : planS most b L = planS most b (L.take k) := by
  have e : planS most b L = (L.drop k).foldl (stepP most) (planS most b (L.take k)) := by
    unfold planS
    rw [← List.foldl_append, List.take_append_drop]
  rw [e]; exact fold_full _ _ h
theorem place_at {b : Bk} {task node : ByteArray} {f : Int} (h : bookOk b = true) (hc : canR b task node = 0) (hf : b.fence ≤ f) : doR b (ordB task node f) = ({ b with binds := insAt b.binds (posB b task) ⟨task, node⟩ }, 0, ⟨#[]⟩) := by
  rw [do_eq h ordB_ok, step5]
  unfold placeR
  rw [if_neg (show ¬(ordB task node f).fence < b.fence from Int.not_lt.2 hf), show (ordB task node f).name = task from rfl, show (ordB task node f).on = node from rfl, if_pos hc]
theorem place_low {b : Bk} {task node : ByteArray} {f : Int} (h : bookOk b = true) (hf : f < b.fence) : doR b (ordB task node f) = (b, 14, ⟨#[]⟩) := by
  rw [do_eq h ordB_ok, step5]
  unfold placeR
  rw [if_pos (show (ordB task node f).fence < b.fence from hf)]
/-- What a plan's steps do, one by one. -/
inductive Run : Bk → List Ordr → Bk → Prop
  | nil {b : Bk} (h : bookOk b = true) : Run b [] b
  | snoc {b c : Bk} {l : List Ordr} {task on : ByteArray} (h : Run b l c) (hc : canR c task on = 0) (ht : hasT c task = true) : Run b (l ++ [ordB task on c.fence]) (doR c (ordB task on c.fence)).1
theorem Run.ok {b c : Bk} {l : List Ordr} (h : Run b l c) : bookOk c = true ∧ c.fence = b.fence ∧ c.tasks = b.tasks ∧ c.nodes = b.nodes ∧ c.binds.length = b.binds.length + l.length := by
  induction h with
  | nil h => exact ⟨h, rfl, rfl, rfl, rfl⟩
  | snoc h hc ht ih =>
    obtain ⟨h1, h2, h3, h4, h5⟩ := ih
    rw [place_eq h1 hc]
    refine ⟨(ok_place (BookOk.of h1) hc).to, h2, h3, h4, ?_⟩
    dsimp only
    rw [insAt_len (show posB _ _ ≤ _ from pos_le), List.length_append, h5]; rfl
def doAll (b : Bk) (l : List Ordr) : Bk := l.foldl (fun m o => (doR m o).1) b
theorem doAll_step {b : Bk} {l : List Ordr} {k : Nat} (hk : k < l.length) : doAll b (l.take (k + 1)) = (doR (doAll b (l.take k)) l[k]).1 := by
  unfold doAll; rw [List.take_succ_eq_append_getElem hk, List.foldl_append]; rfl
theorem doAll_end {b : Bk} {l : List Ordr} {k : Nat} (hk : l.length ≤ k) : doAll b (l.take k) = doAll b l := by rw [List.take_of_length_le hk]
theorem Run.all {b c : Bk} {l : List Ordr} {f : Int} (h : Run b l c) (hf : b.fence ≤ f) : doAll b (l.map (withF f)) = c ∧ ∀ k (hk : k < (l.map (withF f)).length), (doR (doAll b ((l.map (withF f)).take k)) (l.map (withF f))[k]).2.1 = 0 := by
  induction h with
  | nil h => exact ⟨rfl, fun k hk => absurd hk (by simp)⟩
  | @snoc c l task on h hc ht ih =>
    obtain ⟨i1, i2⟩ := ih
    obtain ⟨h1, h2, _⟩ := h.ok
    have e : withF f (ordB task on c.fence) = ordB task on f := rfl
    have hp := place_at h1 hc (show c.fence ≤ f by omega)
    rw [List.map_append, List.map_cons, List.map_nil, e]
    refine ⟨?_, fun k hk => ?_⟩
    · unfold doAll at i1 ⊢
      rw [List.foldl_append, i1]
      show (doR c (ordB task on f)).1 = _
      rw [hp, place_eq h1 hc]
    · rw [List.length_append, List.length_cons, List.length_nil] at hk
      by_cases hl : k < (l.map (withF f)).length
      · rw [List.take_append_of_le_length (by omega), List.getElem_append_left hl]
        exact i2 k hl
      · have hk2 : k = (l.map (withF f)).length := by omega
        subst hk2
        rw [List.take_left', List.getElem_append_right (Nat.le_refl _), i1]
        · simp only [Nat.sub_self, List.getElem_cons_zero]
          rw [hp]
        · rfl
theorem low_all {b : Bk} {f : Int} (hb : bookOk b = true) (hf : f < b.fence) : ∀ {l : List Ordr}, (∀ o ∈ l, ∃ t n, o = ordB t n f) → ∀ k, k ≤ l.length → doAll b (l.take k) = b
  | l, h, 0, _ => rfl
  | l, h, k + 1, hk => by
    rw [doAll_step (by omega), low_all hb hf h k (by omega)]
    obtain ⟨t, n, e⟩ := h l[k] (List.getElem_mem (by omega))
    rw [e, place_low hb hf]
theorem step_run {most : Nat} {b : Bk} {s : Bk × List Ordr} {t : Tsk} (h : Run b s.2 s.1) (hl : s.2.length ≤ most) : Run b (stepP most s t).2 (stepP most s t).1 ∧ (stepP most s t).2.length ≤ most ∧ s.2 <+: (stepP most s t).2 := by
  cases e : targetR s.1 t with
  | none => rw [stepP_none e]; exact ⟨h, hl, List.prefix_refl _⟩
  | some on =>
    by_cases h2 : s.2.length = most
    · rw [stepP_full h2]; exact ⟨h, hl, List.prefix_refl _⟩
    · rw [stepP_some e h2]
      have hc := target_can e
      exact ⟨.snoc h (can_in hc).2 (can_has hc).1, by rw [List.length_append]; simp; omega, List.prefix_append _ _⟩
theorem fold_run {most : Nat} {b : Bk} : ∀ (L : List Tsk) (s : Bk × List Ordr), Run b s.2 s.1 → s.2.length ≤ most → Run b (L.foldl (stepP most) s).2 (L.foldl (stepP most) s).1 ∧ (L.foldl (stepP most) s).2.length ≤ most ∧ s.2 <+: (L.foldl (stepP most) s).2
  | [], s, h, hl => ⟨h, hl, List.prefix_refl _⟩
  | t :: L, s, h, hl => by
    obtain ⟨h1, h2, h3⟩ := step_run (t := t) h hl
    obtain ⟨g1, g2, g3⟩ := fold_run L _ h1 h2
    rw [List.foldl_cons]
    exact ⟨g1, g2, h3.trans g3⟩
theorem plan_run {most : Nat} {b : Bk} (h : bookOk b = true) (L : List Tsk) : Run b (planS most b L).2 (planS most b L).1 ∧ (planS most b L).2.length ≤ most := by
  obtain ⟨h1, h2, _⟩ := fold_run (most := most) L (b, []) (.nil h) (Nat.zero_le _)
  exact ⟨h1, h2⟩
theorem plan_forms {most : Nat} {b : Bk} : ∀ (L : List Tsk) (s : Bk × List Ordr), (∀ o ∈ s.2, ∃ t n f, o = ordB t n f) → ∀ o ∈ (L.foldl (stepP most) s).2, ∃ t n f, o = ordB t n f
  | [], s, h => h
  | t :: L, s, h => by
    rw [List.foldl_cons]
    refine plan_forms (b := b) L _ ?_
    cases e : targetR s.1 t with
    | none => rw [stepP_none e]; exact h
    | some on =>
      by_cases h2 : s.2.length = most
      · rw [stepP_full h2]; exact h
      · rw [stepP_some e h2]
        intro o ho
        rcases List.mem_append.1 ho with ho | ho
        · exact h o ho
        · rw [List.mem_singleton.1 ho]; exact ⟨_, _, _, rfl⟩
theorem planQ_forms {b : Bk} {f : Int} : ∀ o ∈ (planQ b f).1, ∃ t n, o = ordB t n f := by
  intro o ho
  unfold planQ planR at ho
  dsimp only at ho
  obtain ⟨p, hp, rfl⟩ := List.mem_map.1 ho
  split at hp
  · obtain ⟨t, n, g, rfl⟩ := plan_forms (b := b) (waitR b) (b, []) (fun _ h => by cases h) p hp
    exact ⟨t, n, rfl⟩
  · cases hp
theorem planQ_len {b : Bk} {f : Int} : (planQ b f).1.length ≤ 8 := by
  unfold planQ planR
  dsimp only
  rw [List.length_map]
  split
  · exact (plan_run (by assumption) _).2
  · exact Nat.zero_le _
theorem planQ_why {b : Bk} {f : Int} : (planQ b f).2 = bookWhy b := by
  unfold planQ planR bookWhy
  dsimp only
  split <;> rfl
theorem quiet_why {b : Bk} : (quietR b).2 = bookWhy b := by
  unfold quietR planR bookWhy
  dsimp only
  split <;> rfl
theorem planQ_bad {b : Bk} {f : Int} (h : ¬bookOk b = true) : (planQ b f).1 = [] := by
  unfold planQ planR
  dsimp only
  rw [if_neg h]; rfl
theorem all_law {b : Bk} {f : Int} (h : bookOk b = true) : (b.fence ≤ f → (∀ k (hk : k < (planQ b f).1.length), (doR (doAll b ((planQ b f).1.take k)) (planQ b f).1[k]).2.1 = 0) ∧ (doAll b (planQ b f).1).binds.length = b.binds.length + (planQ b f).1.length) ∧
    (f < b.fence → ∀ k (hk : k < (planQ b f).1.length), (doR (doAll b ((planQ b f).1.take k)) (planQ b f).1[k]).2.1 = 14) := by
  refine ⟨fun hf => ?_, fun hf k hk => ?_⟩
  · have hr := (plan_run (most := 8) h (waitR b)).1
    obtain ⟨h1, h2⟩ := hr.all hf
    have e : (planQ b f).1 = (planS 8 b (waitR b)).2.map (withF f) := by unfold planQ planR; dsimp only; rw [if_pos h]
    rw [e]
    refine ⟨h2, ?_⟩
    rw [h1, List.length_map]
    exact hr.ok.2.2.2.2
  · rw [low_all h hf planQ_forms k (by omega)]
    obtain ⟨t, n, e⟩ := planQ_forms (planQ b f).1[k] (List.getElem_mem hk)
    rw [e, place_low h hf]
theorem doAll_ok {b : Bk} (h : bookOk b = true) : ∀ l : List Ordr, bookOk (doAll b l) = true ∧ (doAll b l).fence = b.fence := by
  intro l
  unfold doAll
  induction l generalizing b with
  | nil => exact ⟨h, rfl⟩
  | cons o r ih =>
    obtain ⟨h1, h2⟩ := ih (do_okB (o := o) h)
    exact ⟨h1, h2.trans (do_fence h)⟩
theorem plan_empty {most : Nat} (hm : 1 ≤ most) {b : Bk} : ∀ L : List Tsk, (L.foldl (stepP most) (b, [])).2 = [] ↔ ∀ t ∈ L, targetR b t = none
  | [] => by simp
  | t :: L => by
    rw [List.foldl_cons]
    cases e : targetR b t with
    | none =>
      rw [stepP_none (s := (b, [])) e, plan_empty hm L]
      exact ⟨fun h x hx => by rcases List.mem_cons.1 hx with rfl | hx; exact e; exact h x hx, fun h x hx => h x (List.mem_cons_of_mem _ hx)⟩
    | some on =>
      rw [stepP_some (s := (b, [])) e (by show ¬(0 = most); omega)]
      constructor
      · intro h
        have hp : ∀ (L : List Tsk) (s : Bk × List Ordr), s.2 <+: (L.foldl (stepP most) s).2 := by
          intro L
          induction L with
          | nil => exact fun s => List.prefix_refl _
          | cons u L ih =>
            intro s
            rw [List.foldl_cons]
            refine List.IsPrefix.trans ?_ (ih _)
            cases e2 : targetR s.1 u with
            | none => rw [stepP_none e2]; exact List.prefix_refl _
            | some on2 =>
              by_cases h2 : s.2.length = most
              · rw [stepP_full h2]; exact List.prefix_refl _
              · rw [stepP_some e2 h2]; exact List.prefix_append _ _
        have := hp L ((doR b (ordB t.name on b.fence)).1, [] ++ [ordB t.name on b.fence])
        rw [h] at this
        have := this.length_le
        simp at this
      · intro h
        rw [h t List.mem_cons_self] at e; cases e
theorem quiet_law {b : Bk} {f : Int} (h : bookOk b = true) : (quietR b).1 = decide ((planQ b f).1.length = 0) := by
  unfold quietR planQ planR planS
  dsimp only
  simp only [if_pos h, List.length_map]
  have h1 := plan_empty (most := 1) (by omega) (b := b) (waitR b)
  have h8 := plan_empty (most := 8) (by omega) (b := b) (waitR b)
  have : ((waitR b).foldl (stepP 1) (b, [])).2 = [] ↔ ((waitR b).foldl (stepP 8) (b, [])).2 = [] := h1.trans h8.symm
  simp only [decide_true, Bool.true_and]
  refine decide_eq_decide.2 ?_
  simp only [List.length_eq_zero_iff]
  exact this
theorem plan_first {most : Nat} (hm : 1 ≤ most) {b : Bk} {on : ByteArray} (L : List Tsk) (k : Nat) (hk : k < L.length) (h : ∀ j (hj : j < L.length), j < k → targetR b L[j] = none) (h2 : targetR b L[k] = some on) : ∃ r, (L.foldl (stepP most) (b, [])).2 = ordB L[k].name on b.fence :: r := by
  have e1 : (L.take k).foldl (stepP most) (b, []) = (b, []) := by
    have : ∀ M : List Tsk, (∀ t ∈ M, targetR b t = none) → M.foldl (stepP most) (b, []) = (b, []) := by
      intro M
      induction M with
      | nil => exact fun _ => rfl
      | cons t M ih =>
        intro hM
        rw [List.foldl_cons, stepP_none (s := (b, [])) (hM t List.mem_cons_self)]
        exact ih fun x hx => hM x (List.mem_cons_of_mem _ hx)
    refine this _ fun t ht => ?_
    rw [List.mem_take_iff_getElem] at ht
    obtain ⟨j, hj, rfl⟩ := ht
    exact h j (by omega) (by omega)
  have e2 : L.foldl (stepP most) (b, []) = (L.drop (k + 1)).foldl (stepP most) ((doR b (ordB L[k].name on b.fence)).1, [ordB L[k].name on b.fence]) := by
    have hs := get_split hk
    have : L.foldl (stepP most) (b, []) = (L.take k ++ (L[k] :: L.drop (k + 1))).foldl (stepP most) (b, []) := by rw [← hs]
    rw [this, List.foldl_append, e1, List.foldl_cons, stepP_some (s := (b, [])) h2 (by show ¬(0 = most); omega)]
    rfl
  rw [e2]
  have hp : ∀ (M : List Tsk) (s : Bk × List Ordr), s.2 <+: (M.foldl (stepP most) s).2 := by
    intro M
    induction M with
    | nil => exact fun s => List.prefix_refl _
    | cons u M ih =>
      intro s
      rw [List.foldl_cons]
      refine List.IsPrefix.trans ?_ (ih _)
      cases e2 : targetR s.1 u with
      | none => rw [stepP_none e2]; exact List.prefix_refl _
      | some on2 =>
        by_cases h2 : s.2.length = most
        · rw [stepP_full h2]; exact List.prefix_refl _
        · rw [stepP_some e2 h2]; exact List.prefix_append _ _
  obtain ⟨r, hr⟩ := hp (L.drop (k + 1)) ((doR b (ordB L[k].name on b.fence)).1, [ordB L[k].name on b.fence])
  exact ⟨r, hr.symm⟩

theorem idx_first {α : Type} {p : α → Bool} {l : List α} (h : ¬idxOf p l = -1) : ∃ i : Nat, ∃ hi : i < l.length, idxOf p l = (i : Int) ∧ p l[i] = true ∧ (l.take i).any p = false := by
  have ha : l.any p = true := by
    cases e : l.any p
    · exact absurd (idxOf_none e) h
    · rfl
  obtain ⟨x, hx, hp⟩ := List.any_eq_true.1 ha
  have hlt : l.findIdx p < l.length := List.findIdx_lt_length_of_exists ⟨x, hx, hp⟩
  refine ⟨l.findIdx p, hlt, by unfold idxOf; rw [if_pos ha], List.findIdx_getElem, ?_⟩
  rw [Bool.eq_false_iff]
  intro h2
  obtain ⟨y, hy, hpy⟩ := List.any_eq_true.1 h2
  rw [List.mem_take_iff_getElem] at hy
  obtain ⟨j, hj, rfl⟩ := hy
  have := List.not_of_lt_findIdx (p := p) (xs := l) (i := j) (by omega)
  rw [hpy] at this; simp at this
theorem filt_none {α : Type} {p : α → Bool} {l : List α} (h : idxOf p l = -1) : l.filter (fun x => !p x) = l := by
  rw [List.filter_eq_self]
  intro x hx
  have : l.any p = false := by
    rw [← idxOf_ge (p := p) (l := l), h]; rfl
  have := List.any_eq_false.1 this x hx
  simpa using this
theorem filt_take {α : Type} {p : α → Bool} {l : List α} (h : l.any p = false) : l.filter (fun x => !p x) = l := by
  rw [List.filter_eq_self]
  intro x hx
  have := List.any_eq_false.1 h x hx
  simpa using this
/-- What DeleteFunc keeps: the first i lie in their place, those from j on still are as they were. -/
def DelI {α : Type} (p : α → Bool) (l xs : List α) (i j : Nat) : Prop := xs.length = l.length ∧ i < j ∧ j ≤ l.length ∧ xs.take i = (l.take j).filter (fun x => !p x) ∧ xs.drop j = l.drop j
theorem DelI.start {α : Type} {p : α → Bool} {l : List α} {i : Nat} (hi : i < l.length) (hp : p l[i] = true) (h : (l.take i).any p = false) : DelI p l l i (i + 1) := by
  refine ⟨rfl, by omega, hi, ?_, rfl⟩
  rw [List.take_succ_eq_append_getElem hi, List.filter_append, filt_take h]; simp [hp]
theorem DelI.at {α : Type} {p : α → Bool} {l xs : List α} {i j : Nat} (h : DelI p l xs i j) (hj : j < l.length) : xs[j]? = some l[j] := by
  obtain ⟨h1, h2, h3, h4, h5⟩ := h
  have : (xs.drop j)[0]? = (l.drop j)[0]? := by rw [h5]
  rw [List.getElem?_drop, List.getElem?_drop] at this
  rw [Nat.add_zero] at this
  rw [this, List.getElem?_eq_getElem hj]
theorem DelI.skip {α : Type} {p : α → Bool} {l xs : List α} {i j : Nat} (h : DelI p l xs i j) (hj : j < l.length) (hp : p l[j] = true) : DelI p l xs i (j + 1) := by
  obtain ⟨h1, h2, h3, h4, h5⟩ := h
  refine ⟨h1, by omega, hj, ?_, ?_⟩
  · rw [List.take_succ_eq_append_getElem hj, List.filter_append, h4]; simp [hp]
  · rw [← List.drop_drop, ← List.drop_drop, h5]
theorem DelI.keep {α : Type} {p : α → Bool} {l xs : List α} {i j : Nat} (h : DelI p l xs i j) (hj : j < l.length) (hp : p l[j] = false) : DelI p l (xs.set i l[j]) (i + 1) (j + 1) := by
  obtain ⟨h1, h2, h3, h4, h5⟩ := h
  refine ⟨by rw [List.length_set, h1], by omega, hj, ?_, ?_⟩
  · rw [List.take_succ_eq_append_getElem hj, List.filter_append, ← h4, List.take_succ_eq_append_getElem (by rw [List.length_set]; omega), List.take_set_of_le (Nat.le_refl i)]
    simp [hp]
  · rw [List.drop_set_of_lt (by omega), ← List.drop_drop, ← List.drop_drop, h5]
theorem DelI.done {α : Type} {p : α → Bool} {l xs : List α} {i j : Nat} (h : DelI p l xs i j) (hj : ¬j < l.length) : i ≤ xs.length ∧ (l.filter fun x => !p x).length = i ∧ xs.take i = l.filter fun x => !p x := by
  obtain ⟨h1, h2, h3, h4, h5⟩ := h
  have e : l.take j = l := List.take_of_length_le (by omega)
  rw [e] at h4
  refine ⟨by omega, ?_, h4⟩
  rw [← h4, List.length_take]; omega
theorem dr_setX {α : Type} {R : Imm → List Value → α → Prop} {ws vs : List Value} {l : List α} {x : α} {k m : Nat} {I : Imm} (h : DR R m I ws l) (hk : k < l.length) (hv : vs.length = m) (hx : R I vs x) : DR R m I (setL ws (k * m) vs) (l.set k x) := by
  have e : l.set k x = l.take k ++ ([x] ++ l.drop (k + 1)) := by rw [List.singleton_append]; exact List.set_eq_take_append_cons_drop.trans (if_pos hk)
  have e2 : setL ws (k * m) vs = ws.take (k * m) ++ (vs ++ ws.drop ((k + 1) * m)) := by unfold setL; rw [hv, Nat.succ_mul]
  rw [e, e2]
  exact (h.take (Nat.le_of_lt hk)).append ((DR.single hv hx).append (h.drop (l := k + 1) hk))

set_option maxHeartbeats 1000000 in
set_option maxRecDepth 20000 in
theorem idxLod_ok {I : Imm} {O : Own} {v : Value} {l : List Lod} {p : Lod → Bool} {g : FuncId} {us : List Value} (hl : SlR LodR 9 I v l) (hg : callee Tryz.prog g = true) (hf : ∀ cs x, x ∈ l → LodR I cs x → Pure Tryz.prog g ([.agg ⟨cs⟩] ++ us) I O (.bool (p x))) :
    Pure Tryz.prog 212 [v, .func (.func g) #[] ⟨us⟩] I O (.int .i64 (idxOf p l)) := by
  have hl0 := hl
  obtain ⟨la, lcap, rfl, hl1, hl2, -⟩ := hl
  refine Go.Sy.Does.enter Tryz.func212 rfl Tryz.ntmps212 rfl ?_
  refine .seq <| .region <| .e (.assign rfl) rfl rfl <| .nil <| .go <| .seq ?_
  refine .seq <| .region <| .e (.move rfl) rfl rfl <| .e (.len sl31 rfl rfl) rfl rfl <| .e (.move rfl) rfl rfl <| .nil ?_
  refine .go <| .block ?_
  refine .loopM [4, 5, 8, 9, 10, 11, 12, 13, 14, 15, 16, 17, 18] (fun k => l.length - k) (fun k => k ≤ l.length ∧ (l.take k).any p = false) (fun k => [(8, .int .i64 k)]) (fun _ => _) (fun _ => _) (0) ⟨by omega, rfl⟩ ⟨rfl, trivial⟩ rfl rfl ?_
  intro k hk
  obtain ⟨hk, hw⟩ := hk
  refine .seq <| .region <| .e (.lss rfl rfl) rfl rfl <| .nil <| .go <| .seq ?_
  refine .split 9 rfl (fun h9 => ?_) (fun h9 => ?_)
  · skip
    replace h9 := of_decide_eq_true h9
    refine .cond_true rfl <| .skip <| .go <| .seq <| .block <| .seq ?_
    refine .region <| .e (.move rfl) rfl rfl <| .e (.assign rfl) rfl rfl <| .nil <| .go <| .seq ?_
    refine .region <| .e (.move rfl) rfl rfl <| .e (.move rfl) rfl rfl <| .e (.move rfl) rfl rfl ?_
    obtain ⟨eb14, eo14, cs14, hd14, hat14, hr14⟩ := SlR.at_ hl0 (k := k) (by omega)
    cases hd14
    refine .e (.indexAddrL sl31 rfl rfl rfl (by omega)) rfl rfl <| .e (.loadIA ag47 sz47 rfl hat14 (LodR.len hr14)) rfl rfl <| .on rfl <| .callP hg rfl rfl rfl (hf _ _ (List.getElem_mem (by omega)) hr14) <| .nil <| .go ?_
    refine .split 16 rfl (fun h16 => ?_) (fun h16 => ?_)
    · skip
      refine .cond_true rfl <| .seq <| .region <| .e (.move rfl) rfl rfl <| .e (.assign rfl) rfl rfl <| .nil ?_
      refine .go <| .ret <| .blk_ret <| .ret <| .ret <| .blk_ret ?_
      refine .ret ?_
      refine Post.retE rfl rfl ?_
      exact congrArg (Value.int .i64) (idxOf_some (by omega) hw (by simpa using h16)).symm
    · skip
      refine .cond_false rfl <| .skip <| .blk_normal <| .go <| .region <| .e (.add rfl rfl (by first | exact wrap_succ (by omega) | exact IntWalk.i64_in _ (by omega) | exact rfl)) rfl rfl ?_
      refine .e (.move rfl) rfl rfl <| .nil ?_
      exact .mid (k + 1) ⟨by omega, by omega, any_take_step (by omega) hw (by simpa using h16)⟩ ⟨rfl, trivial⟩ rfl rfl (.pre 13 rfl (.app rfl .base))
  · skip
    replace h9 := of_decide_eq_false h9
    refine .cond_false rfl <| .exit <| .exit <| .exit <| .blk_exit <| .go ?_
    refine .seq <| .region <| .e (.assign rfl) rfl rfl <| .nil <| .go <| .ret ?_
    refine Post.retE rfl rfl ?_
    exact congrArg (Value.int .i64) (idxOf_none (any_take_all (by omega) hw)).symm

set_option maxHeartbeats 1000000 in
set_option maxRecDepth 20000 in
theorem ixStr_ok {I : Imm} {O : Own} {v : Value} {l : List ByteArray} {s : ByteArray} (hl : StrsR I v l) :
    Pure Tryz.prog 213 [v, .string s] I O (.int .i64 (idxOf (fun x => decide (x = s)) l)) := by
  have hl0 := hl
  obtain ⟨la, lcap, rfl, hl1, hl2, -⟩ := hl
  refine Go.Sy.Does.enter Tryz.func213 rfl Tryz.ntmps213 rfl ?_
  refine .seq <| .region <| .e (.assign rfl) rfl rfl <| .nil <| .go <| .seq ?_
  refine .seq <| .region <| .e (.move rfl) rfl rfl <| .e (.len sl34 rfl rfl) rfl rfl <| .e (.move rfl) rfl rfl <| .nil ?_
  refine .go <| .block ?_
  refine .loopM [4, 5, 8, 9, 10, 11, 12, 13, 14, 15, 16, 17, 18] (fun k => l.length - k) (fun k => k ≤ l.length ∧ (l.take k).any (fun x => decide (x = s)) = false) (fun k => [(8, .int .i64 k)]) (fun _ => _) (fun _ => _) (0) ⟨by omega, rfl⟩ ⟨rfl, trivial⟩ rfl rfl ?_
  intro k hk
  obtain ⟨hk, hw⟩ := hk
  refine .seq <| .region <| .e (.lss rfl rfl) rfl rfl <| .nil <| .go <| .seq ?_
  refine .split 9 rfl (fun h9 => ?_) (fun h9 => ?_)
  · skip
    replace h9 := of_decide_eq_true h9
    refine .cond_true rfl <| .skip <| .go <| .seq <| .block <| .seq ?_
    refine .region <| .e (.move rfl) rfl rfl <| .e (.assign rfl) rfl rfl <| .nil <| .go <| .seq ?_
    refine .region <| .e (.move rfl) rfl rfl <| .e (.move rfl) rfl rfl <| .e (.move rfl) rfl rfl ?_
    obtain ⟨eb14, eo14, cs14, hd14, hat14, hr14⟩ := SlR.at_ hl0 (k := k) (by omega)
    cases hd14
    obtain ⟨rfl, -⟩ := hr14
    refine .e (.indexAddrL sl34 rfl rfl rfl (by omega)) rfl rfl <| .e (.loadI ag9 rfl (hat14.cell (j := 0) rfl)) rfl rfl <| .e (.streq rfl rfl) rfl rfl <| .nil <| .go ?_
    refine .split 16 rfl (fun h16 => ?_) (fun h16 => ?_)
    · skip
      replace h16 := of_decide_eq_true h16
      refine .cond_true rfl <| .seq <| .region <| .e (.move rfl) rfl rfl <| .e (.assign rfl) rfl rfl <| .nil ?_
      refine .go <| .ret <| .blk_ret <| .ret <| .ret <| .blk_ret ?_
      refine .ret ?_
      refine Post.retE rfl rfl ?_
      exact congrArg (Value.int .i64) (idxOf_some (by omega) hw (by first | exact decide_eq_true h16 | exact decide_eq_true h16.symm)).symm
    · skip
      replace h16 := of_decide_eq_false h16
      refine .cond_false rfl <| .skip <| .blk_normal <| .go <| .region <| .e (.add rfl rfl (by first | exact wrap_succ (by omega) | exact IntWalk.i64_in _ (by omega) | exact rfl)) rfl rfl ?_
      refine .e (.move rfl) rfl rfl <| .nil ?_
      exact .mid (k + 1) ⟨by omega, by omega, any_take_step (by omega) hw (by first | exact decide_eq_false h16 | exact decide_eq_false fun e => h16 e.symm)⟩ ⟨rfl, trivial⟩ rfl rfl (.pre 13 rfl (.app rfl .base))
  · skip
    replace h9 := of_decide_eq_false h9
    refine .cond_false rfl <| .exit <| .exit <| .exit <| .blk_exit <| .go ?_
    refine .seq <| .region <| .e (.assign rfl) rfl rfl <| .nil <| .go <| .ret ?_
    refine Post.retE rfl rfl ?_
    exact congrArg (Value.int .i64) (idxOf_none (any_take_all (by omega) hw)).symm

set_option maxHeartbeats 1000000 in
set_option maxRecDepth 20000 in
theorem hasStr_ok {I : Imm} {O : Own} {v : Value} {l : List ByteArray} {s : ByteArray} (hl : StrsR I v l) :
    Pure Tryz.prog 178 [v, .string s] I O (.bool (l.any fun x => decide (x = s))) := by
  refine Go.Sy.Does.enter Tryz.func178 rfl Tryz.ntmps178 rfl ?_
  refine .seq <| .region <| .e (.assign rfl) rfl rfl <| .nil <| .go <| .seq ?_
  refine .region <| .e (.move rfl) rfl rfl <| .e (.move rfl) rfl rfl <| .on rfl <| .callP cal213 rfl rfl rfl (ixStr_ok hl) <| .e (.geq rfl rfl) rfl rfl <| .e (.assign rfl) rfl rfl ?_
  refine .nil <| .go <| .ret ?_
  refine Post.retE rfl rfl ?_
  exact congrArg Value.bool idxOf_ge

set_option maxHeartbeats 1000000 in
set_option maxRecDepth 20000 in
theorem targ1_ok {I : Imm} {O : Own} {lc : List Value} {x : Lod} {v : Value} {F : List ByteArray} {cb : Nat} (hc : Has O cb (.cells ⟨[v]⟩ 34 (0, 0))) (hF : StrsR I v F) (hx : LodR I lc x) :
    Pure Tryz.prog 177 [.agg ⟨lc⟩, .pointer (some ⟨cb, 0, none⟩)] I O (.bool (!F.any fun y => decide (y = x.node.name))) := by
  have hx0 := hx
  obtain ⟨zl, zt, rfl, hzl, hzt⟩ := hx.ex
  obtain ⟨_, _, rfl, -⟩ := hzl
  obtain ⟨_, _, rfl, -⟩ := hzt
  have hF0 := hF
  obtain ⟨fa, fc, rfl, -⟩ := hF
  refine Go.Sy.Does.enter Tryz.func177 rfl Tryz.ntmps177 rfl ?_
  refine .seq <| .region <| .on rfl <| .box rfl rfl rfl fun c1 _ _ => .e (.assign rfl) rfl rfl <| .nil <| .go ?_
  refine .seq <| .region <| .e (.load ag34 rfl (.there <| hc) rfl) rfl rfl <| .e (.fieldAddr fo47_0 rfl) rfl rfl <| .e (.fieldAddr fo45_0 rfl) rfl rfl <| .e (.load ag9 rfl .here rfl) rfl rfl ?_
  refine .on rfl <| .callP cal178 rfl rfl rfl (hasStr_ok hF0) <| .e (.not rfl) rfl rfl <| .e (.assign rfl) rfl rfl <| .nil <| .go <| .ret ?_
  refine .tail ?_
  refine Post.retE rfl rfl ?_
  rfl

theorem own_same {cs ws : List Value} {n m cap b : Nat} {T : TypeId} (hn : n ≤ cap) (hc : cs.length = cap * m) (hw : cs.take (n * m) = ws) (hl : ws.length = n * m) (hm : cap ≤ 9223372036854775807) : OwnS m (.slice (some ⟨b, 0, none⟩) n cap) n ws [(b, .cells ⟨cs⟩ T (0, 0))] := .inr ⟨b, cap, cs, T, rfl, rfl, hn, hc, hw, hl, hm⟩

set_option maxHeartbeats 8000000 in
set_option maxRecDepth 20000 in
theorem delfLod_ok {I : Imm} {O : Own} {ad : Option Addr} {cap : Nat} {l : List Lod} {ws : List Value} {ob : Own} (ho : OwnS 9 (.slice ad l.length cap) l.length ws ob) (hd : DR LodR 9 I ws l) {p : Lod → Bool} {g : FuncId} {cb : Nat} {X : Obj} (hg : callee Tryz.prog g = true) (hc : Has O cb X) (hf : ∀ {J : Imm} {B : Own}, I.le J → Has B cb X → ∀ cs x, LodR J cs x → Pure Tryz.prog g ([.agg ⟨cs⟩] ++ [.pointer (some ⟨cb, 0, none⟩)]) J B (.bool (p x))) (hL : l.length ≤ 1000) :
    Go.Sy.Does Tryz.prog 176 [.slice ad l.length cap, .func (.func g) #[] ⟨[.pointer (some ⟨cb, 0, none⟩)]⟩] I (ob ++ O) (fun u I' O' => I' = I ∧ ∃ ws' ob', OwnS 9 u (l.filter fun x => !p x).length ws' ob' ∧ DR LodR 9 I ws' (l.filter fun x => !p x) ∧ O' = ob' ++ O) := by
  refine Go.Sy.Does.enter Tryz.func176 rfl Tryz.ntmps176 rfl ?_
  refine .seq <| .region <| .e (.assign rfl) rfl rfl <| .nil <| .go <| .seq ?_
  refine .region <| .e (.move rfl) rfl rfl <| .e (.move rfl) rfl rfl ?_
  refine .lend ho fun J hJ hJs hJt => ?_
  refine .on rfl <| .callP cal212 rfl rfl rfl (idxLod_ok (hJs (R := LodR) (hd.mono fun _ _ h => h.mono hJ) rfl) hg (fun cs x _ hx => hf hJ (hc) cs x hx)) <| .e (.assign rfl) rfl rfl <| .nil <| .go <| .seq <| .seq ?_
  refine .region ?_
  refine .thaw hJt ?_
  refine .e (.move rfl) rfl rfl <| .e (.eql rfl rfl) rfl rfl <| .nil <| .go ?_
  refine .split 12 rfl (fun h12 => ?_) (fun h12 => ?_)
  · skip
    replace h12 := of_decide_eq_true h12
    refine .cond_true rfl <| .seq <| .region <| .e (.move rfl) rfl rfl <| .e (.assign rfl) rfl rfl <| .nil ?_
    refine .go <| .ret <| .ret ?_
    refine Post.rets rfl (.tmp rfl .nil) rfl (Imm.le_refl _) (fun w h => h) ?_
    rw [filt_none h12]
    exact ⟨rfl, _, ob, ho, hd, rfl⟩
  · skip
    replace h12 := of_decide_eq_false h12
    obtain ⟨i, hil, hie, hip, hin⟩ := idx_first h12
    refine .cond_false rfl <| .skip <| .go <| .seq <| .seq <| .region ?_
    refine .e (.move rfl) rfl rfl <| .e (.add rfl rfl ((congrArg (fun z : Int => IntKind.i64.wrap (z + 1)) hie).trans (wrap_succ (by omega)))) rfl rfl <| .e (.assign rfl) rfl rfl <| .nil <| .go <| .block ?_
    refine .loopM [5, 6, 7, 16, 17, 18, 19, 20, 21, 22, 23, 24, 25, 26, 27, 28, 29, 30, 31, 32, 33, 34, 35] (fun s => l.length - s.2.1) (fun s => OwnS 9 (.slice ad l.length cap) l.length s.2.2.2.1 s.2.2.2.2 ∧ DR LodR 9 I s.2.2.2.1 s.2.2.1 ∧ DelI p l s.2.2.1 s.1 s.2.1) (fun s => [(5, .int .i64 s.1), (6, .int .i64 s.2.1)]) (fun _ => _) (fun s => s.2.2.2.2 ++ _) (((i, i + 1, l, ws, ob) : Nat × Nat × List Lod × List Value × Own)) ⟨ho, hd, DelI.start hil hip hin⟩ ⟨(by show some _ = some _; rw [hie]), rfl, trivial⟩ rfl rfl ?_
    intro ⟨i, j, xs, ws, ob⟩ hk
    dsimp only at hk ⊢
    obtain ⟨ho, hd, hI⟩ := hk
    have hij := hI.2.1
    have hjl := hI.2.2.1
    have hxl := hI.1
    refine .seq <| .seq <| .region <| .e (.move rfl) rfl rfl <| .e (.move rfl) rfl rfl <| .e (.len sl31 rfl rfl) rfl rfl ?_
    refine .e (.lss rfl rfl) rfl rfl <| .nil <| .go ?_
    refine .split 19 rfl (fun h19 => ?_) (fun h19 => ?_)
    · skip
      replace h19 := of_decide_eq_true h19
      refine .cond_true rfl <| .skip <| .go <| .seq <| .block <| .seq ?_
      refine .region ?_
      have hde := hd.2 j l[j] (hI.at (by omega))
      obtain ⟨lv_, tv_, hce, hlv_, htv_⟩ := hde.ex
      rw [hce] at hde
      obtain ⟨_, _, rfl, -⟩ := hlv_
      obtain ⟨_, _, rfl, -⟩ := htv_
      obtain ⟨_, h0, _, _⟩ | ⟨bL, capL, csL, TL, hv5, rfl, hc1, hc2, hc3, hc4, hc5⟩ := ho
      · omega
      cases hv5
      have hoL := own_same hc1 hc2 hc3 hc4 hc5 (b := bL) (T := TL)
      have hjm : j * 9 + 9 ≤ l.length * 9 := by omega
      simp only [@List.singleton_append (Nat × Obj)]
      refine .e (.move rfl) rfl rfl <| .e (.move rfl) rfl rfl <| .e (.indexAddrL sl31 rfl rfl rfl (by omega)) rfl rfl <| .e ((EV.cast (.loadP ag47 sz47 rfl .here (Nat.ble_eq_true_of_le (show 0 + j * 9 + 9 ≤ csL.length by rw [hc2]; omega))) (congrArg (fun x => Value.agg ⟨x⟩) (part_of hc3 (by omega) hce)))) rfl rfl <| .on rfl <| .alloc zr47 rfl fun c1 _ _ => .on rfl <| .storeW sz47 rfl rfl rfl rfl rfl rfl .here ?_
      refine .nil <| .go <| .seq <| .region <| .e (.move rfl) rfl rfl <| .e (.loadW ag47 sz47 rfl .here rfl) rfl rfl ?_
      refine .on rfl <| .callP hg rfl rfl rfl (hf (Imm.le_refl _) (.there <| .there <| hc) _ _ hde) <| .e (.not rfl) rfl rfl <| .nil <| .go ?_
      refine .split 29 rfl (fun h29 => ?_) (fun h29 => ?_)
      · skip
        refine .cond_true rfl <| .seq <| .region <| .e (.move rfl) rfl rfl <| .e (.move rfl) rfl rfl <| .e (.loadW ag47 sz47 rfl .here rfl) rfl rfl ?_
        refine .e (.indexAddrL sl31 rfl rfl rfl (by omega)) rfl rfl <| .on rfl <| .store sz47 rfl rfl rfl rfl rfl (Nat.ble_eq_true_of_le (show 0 + i * 9 + 9 ≤ csL.length by rw [hc2]; omega)) (.there <| .here) <| .nil <| .go <| .region <| .e (.move rfl) rfl rfl ?_
        refine .e (.add rfl rfl (wrap_succ (by omega))) rfl rfl <| .e (.assign rfl) rfl rfl <| .nil <| .blk_normal <| .go <| .region ?_
        refine .e (.move rfl) rfl rfl <| .e (.add rfl rfl (wrap_succ (by omega))) rfl rfl <| .e (.assign rfl) rfl rfl <| .nil ?_
        refine .tail ?_
        exact .mid ((i + 1, j + 1, xs.set i l[j], _, _)) ⟨by dsimp only; omega, own_setE hc3 (by omega) hc1 hc2 hc4 (LodR.len hde) hc5, dr_setX hd (by omega) (LodR.len hde) hde, hI.keep (by omega) (by simpa using h29)⟩ ⟨rfl, rfl, trivial⟩ rfl rfl (.pre 25 rfl (.app rfl .base))
      · skip
        refine .cond_false rfl <| .skip <| .blk_normal <| .go <| .region <| .e (.move rfl) rfl rfl ?_
        refine .e (.add rfl rfl (wrap_succ (by omega))) rfl rfl <| .e (.assign rfl) rfl rfl <| .nil ?_
        refine .tail ?_
        exact .mid ((i, j + 1, xs, _, _)) ⟨by dsimp only; omega, hoL, hd, hI.skip (by omega) (by simpa using h29)⟩ ⟨rfl, rfl, trivial⟩ rfl rfl (.pre 18 rfl (.app rfl .base))
    · skip
      replace h19 := of_decide_eq_false h19
      refine .cond_false rfl <| .exit <| .exit <| .exit <| .blk_exit <| .go ?_
      refine .seq <| .region <| .e (.move rfl) rfl rfl <| .e (.move rfl) rfl rfl <| .e (.sliceL sl31 rfl rfl rfl (by omega)) rfl rfl ?_
      have hdn := hI.done (by omega)
      have hcp := ho.capLe
      have hoT := ho.takeN (h := i) (by omega)
      refine .on rfl <| .clear Tryz.underlying31 zv47 rfl rfl rfl rfl .front hoT (Nat.le_refl _) (by omega) (by omega) rfl fun ob33 ho33 => .nil <| .go <| .seq <| .region <| .e (.move rfl) rfl rfl ?_
      refine .e (.move rfl) rfl rfl <| .e (.sliceHn sl31 rfl rfl rfl (by omega)) rfl rfl <| .e (.assign rfl) rfl rfl <| .nil <| .go <| .ret ?_
      refine Post.rets rfl (.tmp rfl .nil) rfl (Imm.le_refl _) (fun w h => h) ?_
      have hdT := hd.take (show i ≤ xs.length by omega)
      rw [hdn.2.2] at hdT
      rw [hdn.2.1]
      exact ⟨rfl, _, ob33, ho33, hdT, rfl⟩

theorem StrsR.mono {I J : Imm} {v : Value} {l : List ByteArray} (hI : I.le J) (h : StrsR I v l) : StrsR J v l := SlR.mono (R := StrR) (I := I) (J := J) (fun _ _ h => h) hI h
theorem cand_filt {b : Bk} {s : ByteArray} : (loadsR b).filter (fun x => !(!(freeL b s).any fun y => decide (y = x.node.name))) = candL b s := by
  unfold candL
  refine List.filter_congr fun x hx => ?_
  obtain ⟨n, hn, rfl⟩ := load_mem.1 hx
  rw [Bool.not_not]
  exact free_any hn
def targV (b : Bk) (t : Tsk) : Value := .tuple ⟨[.string ((targetR b t).getD ⟨#[]⟩), .bool (targetR b t).isSome]⟩
theorem targ_no {b : Bk} {t : Tsk} (h : ¬(bestR t (candL b t.name)).2 = 0) : Value.tuple ⟨[.string ⟨#[]⟩, .bool false]⟩ = targV b t := by
  unfold targV targetR; rw [if_neg h]; rfl
theorem targ_yes {b : Bk} {t : Tsk} {j : Nat} (h : (bestR t (candL b t.name)).2 = 0) (hj : (bestR t (candL b t.name)).1 = (j : Int)) (hl : j < (candL b t.name).length) : Value.tuple ⟨[.string (candL b t.name)[j].node.name, .bool true]⟩ = targV b t := by
  unfold targV targetR; rw [if_pos h, hj, Int.toNat_natCast, lodD hl]; rfl
theorem target_nm {b : Bk} (h : BookOk b) {t : Tsk} : ((targetR b t).getD ⟨#[]⟩).size ≤ 32 := by
  cases e : targetR b t with
  | none => exact (by decide : (0 : Nat) ≤ 32)
  | some on =>
    have hc := target_can e
    obtain ⟨_, hc2⟩ := can_in hc
    obtain ⟨t', n', g1, g2, _⟩ := can_zero hc2
    have g := (find_iff h.rn).1 g2
    have := nod_nm (h.nod n' g.1)
    rw [g.2] at this
    exact this
theorem tsk_nm {t : Tsk} (h : tskWhy t = 0) : t.name.size ≤ 32 := by
  unfold tskWhy at h
  split at h
  · cases h
  · rename_i h1
    have h2 : isName t.name = true := by simp_all
    unfold isName at h2
    simp only [Bool.and_eq_true, decide_eq_true_eq] at h2
    exact h2.2
theorem strOk32 {s : ByteArray} (h : s.size ≤ 32) : StrOk s := by unfold StrOk; omega
theorem stepP_yes {most : Nat} {s : Bk × List Ordr} {t : Tsk} (h : (targetR s.1 t).isSome = true) (h2 : ¬s.2.length = most) : stepP most s t = ((doR s.1 (ordB t.name ((targetR s.1 t).getD ⟨#[]⟩) s.1.fence)).1, s.2 ++ [ordB t.name ((targetR s.1 t).getD ⟨#[]⟩) s.1.fence]) := by
  obtain ⟨on, e⟩ := Option.isSome_iff_exists.1 h
  rw [e]; exact stepP_some e h2
theorem ordr_ones {I : Imm} {cs : List Value} {o : Ordr} (h : OrdrR I cs o) : Go.Sy.ones cs = true := by
  obtain ⟨a, b, c, d, rfl, hn, h1, h2, ht, h3, h4⟩ := h.ex
  obtain ⟨_, _, rfl, -⟩ := h1
  obtain ⟨_, _, rfl, -⟩ := h2
  obtain ⟨_, _, rfl, -⟩ := h3
  obtain ⟨_, _, rfl, -⟩ := h4
  rfl

set_option maxHeartbeats 8000000 in
set_option maxRecDepth 20000 in
theorem target_ok {I : Imm} {O : Own} {kc : List Value} {b : Bk} (hk : BkR I kc b) {tc : List Value} {t : Tsk} (hok : BookOk b) (ht : TskR I tc t) :
    Go.Sy.Does Tryz.prog 132 [.agg ⟨kc⟩, .agg ⟨tc⟩] I O (fun u I' O' => u = targV b t ∧ O' = O) := by
  have hk0 := hk
  obtain ⟨nv, tv, bv, rfl, hnv, htv, hbv⟩ := hk.ex
  have hnv0 := hnv
  have htv0 := htv
  have hbv0 := hbv
  obtain ⟨na, ncap, rfl, hn1, hn2, -⟩ := hnv
  obtain ⟨ta, tcap, rfl, ht1, ht2, -⟩ := htv
  obtain ⟨ba, bcap, rfl, hb1, hb2, -⟩ := hbv
  have ht0 := ht
  obtain ⟨tw, tb, rfl, htw, htb⟩ := ht.ex
  have htw0 := htw
  obtain ⟨wa, wcap, rfl, hw1, hw2, -⟩ := htw
  have htb0 := htb
  obtain ⟨ba, bcap, rfl, hb1, hb2, -⟩ := htb
  refine Go.Sy.Does.enter Tryz.func132 rfl Tryz.ntmps132 rfl ?_
  refine .seq <| .region <| .on rfl <| .box rfl rfl rfl fun c1 _ _ => .on rfl <| .box rfl rfl rfl fun c2 _ _ => .e (.assign rfl) rfl rfl <| .e (.assign rfl) rfl rfl ?_
  refine .nil <| .go <| .seq <| .region <| .e (.loadW ag27 sz27 rfl (.there <| .here) rfl) rfl rfl <| .e (.fieldAddr fo42_0 rfl) rfl rfl ?_
  refine .e (.load ag9 rfl .here rfl) rfl rfl <| .on rfl <| .call cal18 rfl rfl rfl (freeF hk0) fun v17 I17 O17 hI17 hK17 => ?_
  obtain ⟨W, e, hW⟩ : ∃ W e, freeQ b t.name = (W, e) := ⟨_, _, rfl⟩
  rw [hW] at hK17
  dsimp only at hK17
  obtain ⟨rfl, u17, rfl, hl17⟩ := hK17
  have hl170 := hl17
  obtain ⟨la17, lc17, rfl, hl171, hl172, -⟩ := hl17
  have hW1 := freeQ_list (b := b) (task := t.name)
  rw [hW] at hW1
  dsimp only at hW1
  subst hW1
  refine .e (.move rfl) rfl rfl <| .e (.extract rfl rfl) rfl rfl <| .e (.extract rfl rfl) rfl rfl <| .on rfl <| .alloc zr34 rfl fun c3 _ _ => .on rfl <| .storeW sz34 rfl rfl rfl rfl rfl rfl .here <| .e (.assign rfl) rfl rfl ?_
  refine .nil <| .go <| .seq <| .region <| .e (.loadW ag27 sz27 rfl (.there <| .there <| .here) rfl) rfl rfl <| .on rfl <| .call cal16 rfl rfl rfl (loads_ok (hk0.mono hI17)) fun v22 I22 O22 hI22 hK22 => ?_
  rw [show loadsQ b = (loadsR b, 0) by unfold loadsQ; rw [if_pos hok.to]] at hK22
  dsimp only at hK22
  obtain ⟨u22, ws22, ob22, rfl, ho22, hd22, rfl⟩ := hK22
  obtain ⟨ad22, cap22, rfl⟩ := ho22.form
  have hll : (loadsR b).length ≤ 16 := by rw [loads_len]; exact hok.nodes
  refine .e (.move rfl) rfl rfl <| .e (.extract rfl rfl) rfl rfl <| .e (.extract rfl rfl) rfl rfl <| .e (.assign rfl) rfl rfl <| .e (.assign rfl) rfl rfl <| .nil ?_
  refine .go <| .seq <| .region <| .e (.move rfl) rfl rfl <| .e (.makeFunc rfl rfl) rfl rfl <| .on rfl <| .call cal176 rfl rfl rfl (delfLod_ok (p := fun x => !(freeL b t.name).any fun y => decide (y = x.node.name)) ho22 hd22 cal177 .here (fun hJ hc _ _ hx => targ1_ok hc (StrsR.mono (Imm.le_trans hI22 hJ) hl170) hx) (by omega)) fun v27 I27 O27 hI27 hK27 => ?_
  rw [cand_filt] at hK27
  obtain ⟨hq27, ws27, ob27, ho27, hd27, rfl⟩ := hK27
  replace hq27 := hq27.symm
  subst hq27
  obtain ⟨ad27, cap27, rfl⟩ := ho27.form
  refine .e (.assign rfl) rfl rfl <| .nil <| .go <| .seq <| .region ?_
  refine .freezeS ho27 fun K hK hKs => ?_
  have hl27 : LodsR K _ (candL b t.name) := hKs (R := LodR) (hd27.mono fun _ _ h => h.mono hK) rfl
  refine .e (.loadW ag42 sz42 rfl (.there <| .here) rfl) rfl rfl <| .e (.move rfl) rfl rfl <| .on rfl <| .callP cal37 rfl rfl rfl (Best_ok (ht0.mono (Imm.le_trans (Imm.le_trans hI17 hI22) hK)) hl27) <| .e (.move rfl) rfl rfl <| .e (.extract rfl rfl) rfl rfl <| .e (.extract rfl rfl) rfl rfl ?_
  refine .e (.assign rfl) rfl rfl <| .e (.assign rfl) rfl rfl <| .nil <| .go <| .seq <| .seq ?_
  refine .region <| .e (.move rfl) rfl rfl <| .e (.neq rfl rfl) rfl rfl <| .nil <| .go ?_
  refine .split 35 rfl (fun h35 => ?_) (fun h35 => ?_)
  · skip
    first | replace h35 := of_decide_eq_false ((Bool.not_eq_true' _).mp h35) | replace h35 := of_decide_eq_false (by simpa using h35)
    refine .cond_true rfl <| .seq <| .region <| .e (.assign rfl) rfl rfl <| .e (.assign rfl) rfl rfl <| .nil ?_
    refine .go <| .ret <| .ret ?_
    refine Post.rets rfl (.tmp rfl (.tmp rfl .nil)) rfl (Imm.le_trans (Imm.le_trans hI17 hI22) hK) (fun w h => (Sat.tail (Sat.tail (Sat.tail h)))) ?_
    exact ⟨targ_no h35, rfl⟩
  · skip
    first | replace h35 := of_decide_eq_true ((Bool.not_eq_false' _).mp h35) | replace h35 := of_decide_eq_true (by simpa using h35)
    have hbi := bestR_in h35
    obtain ⟨j, hj⟩ : ∃ j : Nat, (bestR t (candL b t.name)).1 = (j : Int) := ⟨_, (Int.toNat_of_nonneg hbi.1).symm⟩
    have hjl : j < (candL b t.name).length := by omega
    refine .cond_false rfl <| .skip <| .go <| .seq <| .region <| .e (.move rfl) rfl rfl ?_
    refine .e (.move rfl) rfl rfl ?_
    obtain ⟨eb38, eo38, cs38, hd38, hat38, hr38⟩ := SlR.at_ hl27 (k := j) hjl
    cases hd38
    have hx38 := hr38
    obtain ⟨xv38, yv38, rfl, hxv38, hyv38⟩ := hr38.ex
    obtain ⟨xa38, xc38, rfl, -⟩ := hxv38
    obtain ⟨ya38, yc38, rfl, -⟩ := hyv38
    refine .e (.indexAddrL sl31 rfl rfl hj hjl) rfl rfl <| .e (.fieldAddr fo47_0 rfl) rfl rfl <| .e (.fieldAddr fo45_0 rfl) rfl rfl <| .e (.loadI ag9 rfl (hat38.cell (j := 0) rfl)) rfl rfl <| .e (.assign rfl) rfl rfl <| .e (.assign rfl) rfl rfl ?_
    refine .nil <| .go <| .ret ?_
    refine Post.rets rfl (.tmp rfl (.tmp rfl .nil)) rfl (Imm.le_trans (Imm.le_trans hI17 hI22) hK) (fun w h => (Sat.tail (Sat.tail (Sat.tail h)))) ?_
    exact ⟨targ_yes h35 hj hjl, rfl⟩

theorem W_task {b : Bk} (h : BookOk b) {k : Nat} (hk : k < (waitR b).length) : (waitR b)[k].name.size ≤ 32 := tsk_nm (h.tsk _ ((wait_mem h).1 (List.getElem_mem hk)).1)
theorem planR_ok {b : Bk} {most : Nat} (h : bookOk b = true) : planR b most = ((planS most b (waitR b)).2, 0) := by unfold planR; rw [if_pos h]
theorem planR_no {b : Bk} {most : Nat} (h : ¬bookOk b = true) : planR b most = ([], 10) := by unfold planR; rw [if_neg h]
theorem wait_no {b : Bk} {W : List Tsk} {e : Int} (h : waitQ b = (W, e)) (h0 : ¬e = 0) : ¬bookOk b = true ∧ e = 10 := by
  unfold waitQ at h
  split at h
  · cases h; exact absurd rfl h0
  · rename_i h1; cases h; exact ⟨h1, rfl⟩

set_option maxHeartbeats 16000000 in
set_option maxRecDepth 20000 in
theorem plan_ok {I : Imm} {O : Own} {kc : List Value} {b : Bk} (hk : BkR I kc b) {most : Nat} (hmost : most ≤ 8) :
    Go.Sy.Does Tryz.prog 80 [.agg ⟨kc⟩, .int .i64 (most : Nat)] I O (fun u I' O' => ∃ v ws ob, u = .tuple ⟨[v, .int .i64 (planR b most).2]⟩ ∧ OwnS 19 v (planR b most).1.length ws ob ∧ DR OrdrR 19 I' ws (planR b most).1 ∧ O' = ob ++ O) := by
  have hk0 := hk
  obtain ⟨nv, tv, bv, rfl, hnv, htv, hbv⟩ := hk.ex
  have hnv0 := hnv
  have htv0 := htv
  have hbv0 := hbv
  obtain ⟨na, ncap, rfl, hn1, hn2, -⟩ := hnv
  obtain ⟨ta, tcap, rfl, ht1, ht2, -⟩ := htv
  obtain ⟨ba, bcap, rfl, hb1, hb2, -⟩ := hbv
  refine Go.Sy.Does.enter Tryz.func80 rfl Tryz.ntmps80 rfl ?_
  refine .seq <| .region <| .on rfl <| .box rfl rfl rfl fun c1 _ _ => .e (.assign rfl) rfl rfl <| .e (.assign rfl) rfl rfl <| .nil ?_
  refine .go <| .scope <| .seq <| .region <| .e (.loadW ag27 sz27 rfl .here rfl) rfl rfl <| .on rfl <| .call cal14 rfl rfl rfl (waitF hk0) fun v16 I16 O16 hI16 hK16 => ?_
  obtain ⟨W, e, hW⟩ : ∃ W e, waitQ b = (W, e) := ⟨_, _, rfl⟩
  rw [hW] at hK16
  dsimp only at hK16
  obtain ⟨rfl, u16, rfl, hl16⟩ := hK16
  have hl160 := hl16
  obtain ⟨la16, lc16, rfl, hl161, hl162, -⟩ := hl16
  refine .e (.move rfl) rfl rfl <| .e (.extract rfl rfl) rfl rfl <| .e (.extract rfl rfl) rfl rfl <| .e (.assign rfl) rfl rfl <| .e (.assign rfl) rfl rfl <| .nil ?_
  refine .go <| .seq <| .seq <| .region <| .e (.move rfl) rfl rfl <| .e (.neq rfl rfl) rfl rfl ?_
  refine .nil <| .go ?_
  refine .split 20 rfl (fun h20 => ?_) (fun h20 => ?_)
  · skip
    first | replace h20 := of_decide_eq_false ((Bool.not_eq_true' _).mp h20) | replace h20 := of_decide_eq_false (by simpa using h20)
    refine .cond_true rfl <| .seq <| .region <| .e (.move rfl) rfl rfl <| .e (.assign rfl) rfl rfl <| .e (.assign rfl) rfl rfl ?_
    refine .nil <| .go <| .ret <| .ret <| .sc_ret ?_
    refine Post.rets rfl (.tmp rfl (.tmp rfl .nil)) rfl hI16 (fun w h => (Sat.tail h)) ?_
    obtain ⟨hnb, rfl⟩ := wait_no hW h20
    rw [planR_no hnb]
    exact ⟨_, [], [], rfl, OwnS.nil, DR.nil, rfl⟩
  · skip
    first | replace h20 := of_decide_eq_true ((Bool.not_eq_false' _).mp h20) | replace h20 := of_decide_eq_true (by simpa using h20)
    obtain ⟨hok, rfl⟩ := waitQ_in hW h20
    have hWl := wait_few hok
    refine .cond_false rfl <| .skip <| .go <| .seq <| .region <| .e (.assign rfl) rfl rfl ?_
    refine .nil <| .go <| .seq <| .label <| .go <| .seq ?_
    refine .seq <| .region <| .e (.move rfl) rfl rfl <| .e (.len sl23 rfl rfl) rfl rfl <| .e (.move rfl) rfl rfl <| .nil ?_
    refine .go <| .block ?_
    refine .loopM [8, 10, 11, 12, 13, 24, 25, 26, 27, 28, 29, 30, 31, 32, 33, 34, 35, 36, 37, 38, 39, 40, 41, 42, 43, 44, 45, 46, 47, 48, 49, 50, 51, 52, 53, 54, 55, 56, 57, 58] (fun s => (waitR b).length - s.1) (fun s => s.1 ≤ (waitR b).length ∧ OwnS 19 s.2.1 (planS most b ((waitR b).take s.1)).2.length s.2.2.1 s.2.2.2.1 ∧ DR OrdrR 19 s.2.2.2.2.2 s.2.2.1 (planS most b ((waitR b).take s.1)).2 ∧ BkR s.2.2.2.2.2 s.2.2.2.2.1 (planS most b ((waitR b).take s.1)).1 ∧ I.le s.2.2.2.2.2 ∧ Imm.le I16 s.2.2.2.2.2) (fun s => [(24, .int .i64 s.1), (8, s.2.1)]) (fun s => s.2.2.2.2.2) (fun s => s.2.2.2.1 ++ ((c1, .cells ⟨s.2.2.2.2.1⟩ 27 (0, 0)) :: _)) (((0, .slice none 0 0, [], [], _, I16) : Nat × Value × List Value × Own × List Value × Imm)) ⟨Nat.zero_le _, OwnS.nil, DR.nil, hk0.mono hI16, hI16, Imm.le_refl _⟩ ⟨rfl, rfl, trivial⟩ rfl rfl ?_
    intro ⟨k, vL, wsL, obL, kcL, J⟩ hkI
    dsimp only at hkI ⊢
    obtain ⟨hkk, hoL, hdL, hm, hJ, hJ2⟩ := hkI
    have hrun := plan_run (most := most) hok.to ((waitR b).take k)
    obtain ⟨m, out, hmE⟩ : ∃ m out, planS most b ((waitR b).take k) = (m, out) := ⟨_, _, rfl⟩
    rw [hmE] at hoL hdL hm hrun
    dsimp only at hoL hdL hm hrun
    have hmo := hrun.1.ok
    have hokm := BookOk.of hmo.1
    obtain ⟨adL, capL, rfl⟩ := hoL.form
    have hm0 := hm
    obtain ⟨nm_, tm_, bm_, rfl, xn_, xt_, xb_⟩ := hm.ex
    obtain ⟨_, _, rfl, -⟩ := xn_
    obtain ⟨_, _, rfl, -⟩ := xt_
    obtain ⟨_, _, rfl, -⟩ := xb_
    have hlJ : TsksR J _ (waitR b) := TsksR.mono hJ2 hl160
    refine .seq <| .region <| .e (.lss rfl rfl) rfl rfl <| .nil <| .go <| .seq ?_
    refine .split 25 rfl (fun h25 => ?_) (fun h25 => ?_)
    · skip
      replace h25 := of_decide_eq_true h25
      refine .cond_true rfl <| .skip <| .go <| .seq <| .block <| .seq ?_
      refine .region ?_
      obtain ⟨eb26, eo26, cs26, hd26, hat26, hr26⟩ := SlR.at_ hlJ (k := k) (by omega)
      cases hd26
      have ht26 := hr26
      obtain ⟨xw26, xb26, rfl, hxw26, hxb26⟩ := hr26.ex
      obtain ⟨xa26, xc26, rfl, -⟩ := hxw26
      obtain ⟨xd26, xe26, rfl, -⟩ := hxb26
      refine .e (.indexAddrL sl23 rfl rfl rfl (by omega)) rfl rfl <| .e (.loadIA ag42 sz42 rfl hat26 rfl) rfl rfl <| .on rfl <| .alloc zr42 rfl fun c2 _ _ => .on rfl <| .storeW sz42 rfl rfl rfl rfl rfl rfl .here <| .nil <| .go ?_
      refine .seq <| .region <| .e (.loadW ag27 sz27 rfl (.there <| .app <| .here) rfl) rfl rfl <| .e (.loadW ag42 sz42 rfl .here rfl) rfl rfl <| .on rfl <| .call cal132 rfl rfl rfl (target_ok hm0 hokm ht26) fun v31 I31 O31 hI31 hK31 => ?_
      obtain ⟨rfl, rfl⟩ := hK31
      unfold targV
      refine .e (.move rfl) rfl rfl <| .e (.extract rfl rfl) rfl rfl <| .e (.extract rfl rfl) rfl rfl <| .e (.assign rfl) rfl rfl <| .e (.assign rfl) rfl rfl <| .nil ?_
      refine .go <| .seq <| .block <| .seq <| .region <| .e (.move rfl) rfl rfl ?_
      refine .e (.not rfl) rfl rfl <| .e (.assign rfl) rfl rfl <| .nil <| .go ?_
      refine .split 34 rfl (fun h34 => ?_) (fun h34 => ?_)
      · skip
        have hTn : targetR m (waitR b)[k] = none := by simpa using h34
        refine .cond_true rfl <| .exit <| .blk_other rfl <| .exit <| .blk_exit <| .go ?_
        refine .region <| .e (.add rfl rfl (by first | exact wrap_succ (by omega) | exact IntWalk.i64_in _ (by omega) | exact rfl)) rfl rfl <| .e (.move rfl) rfl rfl <| .nil ?_
        refine .tail ?_
        have e5 : planS most b ((waitR b).take (k + 1)) = (m, out) := by rw [planS_step (most := most) (b := b) (show k < (waitR b).length by omega), hmE]; exact stepP_none (s := (m, out)) hTn
        exact .mid ((k + 1, _, wsL, obL, _, I31)) ⟨by dsimp only; omega, by dsimp only; omega, by dsimp only; rw [e5]; exact hoL, by dsimp only; rw [e5]; exact hdL.mono fun _ _ h => OrdrR.mono hI31 h, by dsimp only; rw [e5]; exact hm0.mono hI31, (Imm.le_trans hJ hI31), Imm.le_trans hJ2 hI31⟩ ⟨rfl, rfl, trivial⟩ rfl rfl (.pre 19 rfl (.app rfl .base))
      · skip
        have hTy : (targetR m (waitR b)[k]).isSome = true := by simpa using h34
        refine .cond_false rfl <| .seq <| .region <| .e (.move rfl) rfl rfl <| .e (.len sl66 rfl rfl) rfl rfl <| .e (.move rfl) rfl rfl ?_
        refine .e (.eql rfl rfl) rfl rfl <| .e (.assign rfl) rfl rfl <| .nil <| .go ?_
        refine .split 37 rfl (fun h37 => ?_) (fun h37 => ?_)
        · skip
          replace h37 := of_decide_eq_true h37
          have hfull : out.length = most := by first | omega | (have := of_decide_eq_true h37; omega)
          refine .cond_true rfl <| .exit <| .blk_other rfl <| .exit <| .blk_other rfl <| .exit ?_
          refine .exit <| .blk_exit <| .go <| .seq <| .region <| .e (.move rfl) rfl rfl ?_
          refine .e (.assign rfl) rfl rfl <| .e (.assign rfl) rfl rfl <| .nil <| .go <| .ret <| .sc_ret ?_
          refine .tail ?_
          refine .front1 (.app <| .here) ?_
          refine .tail ?_
          refine Post.rets rfl (.tmp rfl (.tmp rfl .nil)) rfl (Imm.le_trans hJ hI31) (fun w h => h) ?_
          have e9 : planS most b (waitR b) = (m, out) := by rw [← hmE]; exact planS_full (by rw [hmE]; exact hfull)
          rw [planR_ok hok.to, e9]
          exact ⟨_, _, obL, rfl, hoL, hdL.mono fun _ _ h => OrdrR.mono hI31 h, rfl⟩
        · skip
          replace h37 := of_decide_eq_false h37
          have hnf : ¬out.length = most := by first | omega | (have := of_decide_eq_false h37; omega)
          have hlo : out.length ≤ 8 := Nat.le_trans hrun.2 hmost
          refine .cond_false rfl <| .skip <| .blk_normal <| .go <| .seq <| .region ?_
          refine .e (.fieldAddr fo42_0 rfl) rfl rfl <| .e (.load ag9 rfl .here rfl) rfl rfl <| .e (.move rfl) rfl rfl <| .e (.fieldAddr fo27_3 rfl) rfl rfl <| .e (.load ag25 rfl (.there <| .app <| .here) rfl) rfl rfl <| .e (.build bs65 zv65 rfl rfl) rfl rfl ?_
          refine .on rfl <| .alloc zr65 rfl fun c3 _ _ => .on rfl <| .storeW sz65 rfl rfl rfl rfl rfl rfl .here <| .nil <| .go <| .seq <| .region ?_
          refine .e (.loadW ag27 sz27 rfl (.there <| .there <| .app <| .here) rfl) rfl rfl <| .e (.loadW ag65 sz65 rfl .here rfl) rfl rfl <| .on rfl <| .call cal27 rfl rfl rfl (doF (o := ordB (waitR b)[k].name ((targetR m (waitR b)[k]).getD ⟨#[]⟩) m.fence) (hm0.mono hI31) (ordBR (f := m.fence) (strOk32 (W_task hok (show k < (waitR b).length by omega))) (strOk32 (target_nm hokm)) hm0.fence (by have := W_task hok (show k < (waitR b).length by omega); have := target_nm hokm (t := (waitR b)[k]); omega)).1 (ordBR (I := I) (f := m.fence) (strOk32 (W_task hok (show k < (waitR b).length by omega))) (strOk32 (target_nm hokm)) hm0.fence (by have := W_task hok (show k < (waitR b).length by omega); have := target_nm hokm (t := (waitR b)[k]); omega)).2) fun v51 I51 O51 hI51 hK51 => ?_
          obtain ⟨rfl, cs51, rfl, hb51⟩ := hK51
          have hb510 := hb51
          obtain ⟨nv51, tv51, bv51, rfl, hn51, ht51, hx51⟩ := hb51.ex
          obtain ⟨_, _, rfl, -⟩ := hn51
          obtain ⟨_, _, rfl, htl51, -⟩ := ht51
          obtain ⟨_, _, rfl, -⟩ := hx51
          refine .e (.move rfl) rfl rfl <| .e (.extract rfl rfl) rfl rfl <| .e (.extract rfl rfl) rfl rfl <| .on rfl <| .storeW sz27 rfl rfl rfl rfl rfl rfl (.there <| .there <| .app <| .here) <| .nil <| .go ?_
          refine .region <| .e (.move rfl) rfl rfl <| .e (.loadW ag65 sz65 rfl .here rfl) rfl rfl <| .on rfl <| .buildSlice Tryz.underlying66 sz65 (by decide) (by decide) zv65 rfl rfl rfl rfl rfl fun c4 _ _ => .on rfl <| .append Tryz.underlying66 Tryz.underlying66 sz65 by65 zv65 rfl rfl rfl (.there <| .there <| .there <| .front) hoL ((OwnS.made (k := 19) rfl (by decide)).src (I := _) .here) rfl rfl (by omega) (by omega) rfl fun v57 ob57 ho57 => .e (.assign rfl) rfl rfl ?_
          refine .nil <| .blk_normal <| .go <| .region <| .e (.add rfl rfl (by first | exact wrap_succ (by omega) | exact IntWalk.i64_in _ (by omega) | exact rfl)) rfl rfl <| .e (.move rfl) rfl rfl ?_
          refine .nil ?_
          refine .front1 (.app <| .here) ?_
          refine .tail ?_
          refine .front1 (.app <| .here) ?_
          refine .tail ?_
          refine .front1 (.app <| .here) ?_
          refine .tail ?_
          have e5 : planS most b ((waitR b).take (k + 1)) = ((doR m (ordB (waitR b)[k].name ((targetR m (waitR b)[k]).getD ⟨#[]⟩) m.fence)).1, out ++ [ordB (waitR b)[k].name ((targetR m (waitR b)[k]).getD ⟨#[]⟩) m.fence]) := by rw [planS_step (most := most) (b := b) (show k < (waitR b).length by omega), hmE]; exact stepP_yes (s := (m, out)) hTy hnf
          exact .mid ((k + 1, _, _, _, _, I51)) ⟨by dsimp only; omega, by dsimp only; omega, by dsimp only; rw [e5]; dsimp only; rw [List.length_append]; exact ho57, by dsimp only; rw [e5]; exact (hdL.mono fun _ _ h => OrdrR.mono (Imm.le_trans hI31 hI51) h).append (DR.single rfl (ordBR (f := m.fence) (strOk32 (W_task hok (show k < (waitR b).length by omega))) (strOk32 (target_nm hokm)) hm0.fence (by have := W_task hok (show k < (waitR b).length by omega); have := target_nm hokm (t := (waitR b)[k]); omega)).1), by dsimp only; rw [e5]; exact hb510, (Imm.le_trans (Imm.le_trans hJ hI31) hI51), Imm.le_trans hJ2 (Imm.le_trans hI31 hI51)⟩ ⟨rfl, rfl, trivial⟩ rfl rfl (.pre 43 rfl (.app rfl .base))
    · skip
      replace h25 := of_decide_eq_false h25
      refine .cond_false rfl <| .exit <| .exit <| .exit <| .blk_exit <| .go ?_
      refine .seq <| .region <| .e (.move rfl) rfl rfl <| .e (.assign rfl) rfl rfl <| .e (.assign rfl) rfl rfl <| .nil ?_
      refine .go <| .ret <| .sc_ret ?_
      refine .front1 (.app <| .here) ?_
      refine .tail ?_
      refine Post.rets rfl (.tmp rfl (.tmp rfl .nil)) rfl hJ (fun w h => h) ?_
      have e9 : planS most b (waitR b) = (m, out) := by rw [← hmE, planS_end (most := most) (b := b) (show (waitR b).length ≤ k by omega)]
      rw [planR_ok hok.to, e9]
      exact ⟨_, _, obL, rfl, hoL, hdL.mono fun _ _ h => OrdrR.mono (Imm.le_refl _) h, rfl⟩

end Go.Proofs.YtmmokaockpghaaaGreatDoor
