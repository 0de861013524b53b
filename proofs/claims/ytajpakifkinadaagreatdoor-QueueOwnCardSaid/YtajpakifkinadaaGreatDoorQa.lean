/- Walks of functions over a symbolic memory, printed by a program of the session. -/
import Derived.Test.YtajpakifkinadaaGreatDoorBp
import Derived.Test.YtajpakifkinadaaGreatDoorSyX
import Derived.Test.YtajpakifkinadaaGreatDoorSyY
import Derived.Test.YtajpakifkinadaaGreatDoorCmpT
import Derived.Test.YtajpakifkinadaaGreatDoorSort
namespace Go.Proofs.YtajpakifkinadaaGreatDoor
open Go.Sy
set_option linter.unusedSimpArgs false
set_option linter.unusedVariables false

/-! who waits -/
def aheadB (x y : Tsk) : Bool := decide (y.rank < x.rank) || (decide (x.rank = y.rank) && slt x.name y.name)
def insW (out : List Tsk) (t : Tsk) : List Tsk := out.takeWhile (fun u => aheadB u t) ++ (t :: out.dropWhile (fun u => aheadB u t))
def freeT (b : Bk) : List Tsk := b.tasks.filter fun t => !hasB b t.name
def waitR (b : Bk) : List Tsk := (freeT b).foldl insW []
def waitQ (b : Bk) : List Tsk × Int := if bookOk b = true then (waitR b, 0) else ([], 10)
theorem ahead_iff {x y : Tsk} : aheadB x y = true ↔ y.rank < x.rank ∨ (x.rank = y.rank ∧ slt x.name y.name = true) := by unfold aheadB; simp
theorem ahead_tr {x y z : Tsk} (h : aheadB x y = true) (h2 : aheadB y z = true) : aheadB x z = true := by
  rw [ahead_iff] at *
  rcases h with h | ⟨h, h3⟩
  · rcases h2 with h2 | ⟨h2, _⟩
    · exact .inl (by omega)
    · exact .inl (by omega)
  · rcases h2 with h2 | ⟨h2, h4⟩
    · exact .inl (by omega)
    · exact .inr ⟨by omega, lt_tr h3 h4⟩
theorem ahead_irr (x : Tsk) : aheadB x x = false := by
  rw [Bool.eq_false_iff]; intro h; rw [ahead_iff] at h
  rcases h with h | ⟨_, h⟩
  · omega
  · rw [lt_irr] at h; cases h
theorem ahead_tot {x y : Tsk} (h : aheadB x y = false) (h2 : aheadB y x = false) : x.name = y.name := by
  rw [Bool.eq_false_iff, ne_eq, ahead_iff, not_or, not_and] at h h2
  have e : x.rank = y.rank := by omega
  refine lt_tot ?_ ?_
  · simpa using h.2 e
  · simpa using h2.2 e.symm
theorem ins_perm {out : List Tsk} {t : Tsk} : (insW out t).Perm (t :: out) := by
  unfold insW
  refine List.perm_middle.trans ?_
  rw [List.takeWhile_append_dropWhile]
theorem dw_head {α : Type} {p : α → Bool} : ∀ (l : List α) (a : α) (r : List α), l.dropWhile p = a :: r → p a = false
  | [], a, r, h => by simp at h
  | x :: l, a, r, h => by
    rw [List.dropWhile_cons] at h
    split at h
    · exact dw_head l a r h
    · rename_i hx; cases h; simpa using hx
theorem ins_pw {out : List Tsk} {t : Tsk} (hp : out.Pairwise (fun x y => aheadB x y = true)) (hn : ∀ x ∈ out, x.name ≠ t.name) : (insW out t).Pairwise (fun x y => aheadB x y = true) := by
  have hs : out.takeWhile (fun u => aheadB u t) ++ out.dropWhile (fun u => aheadB u t) = out := List.takeWhile_append_dropWhile
  have hp2 : (out.takeWhile (fun u => aheadB u t) ++ out.dropWhile (fun u => aheadB u t)).Pairwise (fun x y => aheadB x y = true) := by rw [hs]; exact hp
  rw [List.pairwise_append] at hp2
  have hd : ∀ y ∈ out.dropWhile (fun u => aheadB u t), aheadB t y = true := by
    intro y hy
    cases e : out.dropWhile (fun u => aheadB u t) with
    | nil => rw [e] at hy; cases hy
    | cons a r =>
      have ha := dw_head _ _ _ e
      have ham : a ∈ out := (List.dropWhile_sublist _).mem (by rw [e]; exact List.mem_cons_self)
      have hta : aheadB t a = true := by
        cases h : aheadB t a
        · exact absurd (ahead_tot ha h) (hn a ham)
        · rfl
      rw [e] at hy hp2
      rcases List.mem_cons.1 hy with rfl | hy
      · exact hta
      · exact ahead_tr hta ((List.pairwise_cons.1 hp2.2.1).1 y hy)
  unfold insW
  rw [List.pairwise_append, List.pairwise_cons]
  refine ⟨hp2.1, ⟨hd, hp2.2.1⟩, fun a ha y hy => ?_⟩
  rcases List.mem_cons.1 hy with e | hy
  · rw [e]; exact tw_imp (p := fun u => aheadB u t) out ha
  · exact hp2.2.2 a ha y hy
theorem fold_ins : ∀ (L out : List Tsk), out.Pairwise (fun x y => aheadB x y = true) → (out ++ L).Pairwise (fun x y => x.name ≠ y.name) → (L.foldl insW out).Pairwise (fun x y => aheadB x y = true) ∧ (L.foldl insW out).Perm (out ++ L)
  | [], out, h, _ => ⟨h, by simp⟩
  | t :: L, out, h, hn => by
    rw [List.pairwise_append, List.pairwise_cons] at hn
    obtain ⟨h1, ⟨h2, h3⟩, h4⟩ := hn
    have hins := ins_pw h fun x hx => h4 x hx t List.mem_cons_self
    have hpm := @ins_perm out t
    have hn2 : (insW out t ++ L).Pairwise (fun x y => x.name ≠ y.name) := by
      rw [List.pairwise_append]
      refine ⟨(hpm.pairwise_iff (R := fun x y : Tsk => x.name ≠ y.name) (fun h => h.symm)).2 (List.pairwise_cons.2 ⟨fun x hx => (h4 x hx t List.mem_cons_self).symm, h1⟩), h3, fun x hx y hy => ?_⟩
      rw [hpm.mem_iff] at hx
      rcases List.mem_cons.1 hx with e | hx
      · rw [e]; exact h2 y hy
      · exact h4 x hx y (List.mem_cons_of_mem _ hy)
    obtain ⟨g1, g2⟩ := fold_ins L (insW out t) hins hn2
    exact ⟨g1, g2.trans ((hpm.append_right L).trans List.perm_middle.symm)⟩
theorem ris_ne {α : Type} {nm : α → ByteArray} {l : List α} (h : Rising nm l) : l.Pairwise (fun x y => nm x ≠ nm y) := (rising_pw.1 h).imp fun hs e => by rw [e, lt_irr] at hs; cases hs
theorem free_ne {b : Bk} (h : BookOk b) : (freeT b).Pairwise (fun x y => x.name ≠ y.name) := (ris_ne h.rt).sublist List.filter_sublist
theorem wait_pw {b : Bk} (h : BookOk b) : (waitR b).Pairwise (fun x y => aheadB x y = true) ∧ (waitR b).Perm (freeT b) :=
  fold_ins (freeT b) [] List.Pairwise.nil (by rw [List.nil_append]; exact free_ne h)
theorem sort_eq {b : Bk} (h : BookOk b) {l : List Tsk} (hp : l.Perm (freeT b)) (hs : ∀ i j (hi : i < l.length) (hj : j < l.length), i < j → aheadB l[j] l[i] = false) : l = waitR b := by
  obtain ⟨h1, h2⟩ := wait_pw h
  have hpn : l.Pairwise (fun x y => x.name ≠ y.name) := (hp.pairwise_iff (R := fun x y : Tsk => x.name ≠ y.name) (fun h => h.symm)).2 (free_ne h)
  have hl : l.Pairwise (fun x y => aheadB x y = true) := by
    rw [List.pairwise_iff_getElem] at hpn ⊢
    intro i j hi hj hij
    cases e : aheadB l[i] l[j]
    · exact absurd (ahead_tot e (hs i j hi hj hij)) (hpn i j hi hj hij)
    · rfl
  exact List.Perm.eq_of_pairwise (le := fun x y => aheadB x y = true) (fun a c _ _ h1 h2 => absurd (ahead_tr h1 h2) (by rw [ahead_irr]; decide)) hl h1 (hp.trans h2.symm)
theorem wait_mem {b : Bk} (h : BookOk b) {t : Tsk} : t ∈ waitR b ↔ t ∈ b.tasks ∧ hasB b t.name = false := by
  rw [(wait_pw h).2.mem_iff]; unfold freeT; rw [List.mem_filter]; simp
theorem wait_few {b : Bk} (h : BookOk b) : (waitR b).length ≤ 32 := by
  rw [(wait_pw h).2.length_eq]; exact Nat.le_trans (List.length_filter_le _ _) h.tasks
theorem wait_adj {b : Bk} (h : BookOk b) {i : Nat} (h1 : 1 ≤ i) (hi : i < (waitR b).length) : aheadB ((waitR b)[i - 1]'(by omega)) (waitR b)[i] = true := (List.pairwise_iff_getElem.1 (wait_pw h).1) _ _ _ _ (by omega)
theorem cnt_by {α : Type} {nm : α → ByteArray} (s : ByteArray) : ∀ {l : List α}, l.Pairwise (fun x y => nm x ≠ nm y) → l.countP (fun x => decide (nm x = s)) = if hasBy nm l s = true then 1 else 0
  | [], _ => by unfold hasBy; simp
  | x :: r, h => by
    rw [List.pairwise_cons] at h
    have ih := cnt_by s h.2
    rw [List.countP_cons, ih]
    unfold hasBy
    rw [List.any_cons]
    by_cases e : nm x = s
    · have h0 : r.any (fun x => decide (nm x = s)) = false := List.any_eq_false.2 fun y hy => by
        have := h.1 y hy
        rw [e] at this
        simpa using this.symm
      rw [h0]; simp [e]
    · simp [e]
theorem wait_cnt {b : Bk} (h : BookOk b) {t : Tsk} (ht : t ∈ b.tasks) : (waitR b).countP (fun x => decide (x.name = t.name)) + b.binds.countP (fun x => decide (x.task = t.name)) = 1 := by
  have hc := cnt_by (nm := fun x : Tsk => x.name) t.name (ris_ne h.rt)
  rw [if_pos (has_iff.2 ⟨t, ht, rfl⟩)] at hc
  rw [cnt_by (nm := fun x : Bnd => x.task) t.name (ris_ne h.rb), (wait_pw h).2.countP_eq]
  unfold freeT
  rw [List.countP_filter]
  cases hb : hasBy (fun x : Bnd => x.task) b.binds t.name
  · have e : b.tasks.countP (fun a => decide (a.name = t.name) && !hasB b a.name) = b.tasks.countP (fun a => decide (a.name = t.name)) := by
      refine List.countP_congr fun x _ => ?_
      by_cases e : x.name = t.name
      · have : hasB b t.name = false := hb
        simp [e, this]
      · simp [e]
    rw [e, hc]; rfl
  · have e : b.tasks.countP (fun a => decide (a.name = t.name) && !hasB b a.name) = 0 := by
      rw [List.countP_eq_zero]
      intro x _ hx
      simp only [Bool.and_eq_true, decide_eq_true_eq, Bool.not_eq_true'] at hx
      rw [hx.1] at hx
      have : hasB b t.name = true := hb
      rw [this] at hx; cases hx.2
    rw [e]; rfl
theorem bound_perm {b : Bk} (h : BookOk b) : ((b.tasks.filter fun t => hasB b t.name).map (fun t => t.name)).Perm (b.binds.map fun x => x.task) := by
  have hr : Rising (fun t : Tsk => t.name) (b.tasks.filter fun t => hasB b t.name) := rising_pw.2 ((rising_pw.1 h.rt).sublist List.filter_sublist)
  rw [List.perm_ext_iff_of_nodup (nodup_of hr) (nodup_of h.rb)]
  intro s
  rw [List.mem_map, List.mem_map]
  constructor
  · rintro ⟨t, ht, rfl⟩
    rw [List.mem_filter] at ht
    exact has_iff.1 ht.2
  · rintro ⟨x, hx, rfl⟩
    obtain ⟨t, ht, e⟩ := has_iff.1 (h.bnd x hx).2
    refine ⟨t, List.mem_filter.2 ⟨ht, ?_⟩, e⟩
    rw [e]; exact has_iff (nm := fun x : Bnd => x.task) |>.2 ⟨x, hx, rfl⟩
theorem len_split {α : Type} (p : α → Bool) : ∀ l : List α, (l.filter fun x => !p x).length + (l.filter p).length = l.length
  | [] => rfl
  | x :: r => by
    have := len_split p r
    rw [List.filter_cons, List.filter_cons]
    cases p x <;> simp <;> omega
theorem wait_len {b : Bk} (h : BookOk b) : (waitR b).length + b.binds.length = b.tasks.length := by
  rw [(wait_pw h).2.length_eq]
  have h1 := (bound_perm h).length_eq
  rw [List.length_map, List.length_map] at h1
  rw [← h1]
  exact len_split (fun t : Tsk => hasB b t.name) b.tasks
theorem cnt_step {α : Type} {p : α → Bool} {l : List α} {k : Nat} (hk : k < l.length) : (l.take (k + 1)).countP p = (l.take k).countP p + if p l[k] = true then 1 else 0 := by
  rw [List.take_succ_eq_append_getElem hk, List.countP_append, List.countP_cons, List.countP_nil]; omega
theorem cnt_le {α : Type} {p : α → Bool} {l : List α} {k : Nat} : (l.take k).countP p ≤ k := Nat.le_trans List.countP_le_length (by rw [List.length_take]; omega)
theorem cnt_all {α : Type} {p : α → Bool} {l : List α} {k : Nat} (hk : l.length ≤ k) : (l.take k).countP p = l.countP p := by rw [List.take_of_length_le hk]

/-! how full the nodes are -/
def loadOf (b : Bk) (n : Nod) : Lod := ⟨n, (usedR b n.name).1⟩
def loadsR (b : Bk) : List Lod := b.nodes.map (loadOf b)
def loadsQ (b : Bk) : List Lod × Int := if bookOk b = true then (loadsR b, 0) else ([], 10)
theorem loads_len {b : Bk} : (loadsR b).length = b.nodes.length := by unfold loadsR; rw [List.length_map]
theorem used_node {b : Bk} (h : BookOk b) {n : Nod} (hn : n ∈ b.nodes) : usedR b n.name = (sumT (thereR b n.name), 0) ∧ WellP n (thereR b n.name) := by
  have hw := h.well n hn
  rw [wellR_L, well_iff] at hw
  refine ⟨?_, hw⟩
  unfold usedR
  rw [if_pos h.to, if_pos (show hasN b n.name = true from has_iff.2 ⟨n, hn, rfl⟩), sumR_good hw.few hw.amt]
theorem used_bd {b : Bk} (h : BookOk b) {n : Nod} (hn : n ∈ b.nodes) : (0 ≤ (usedR b n.name).1.a ∧ (usedR b n.name).1.a ≤ n.has.a ∧ n.has.a ≤ 1099511627776) ∧ (0 ≤ (usedR b n.name).1.b ∧ (usedR b n.name).1.b ≤ n.has.b ∧ n.has.b ≤ 1099511627776) ∧ (0 ≤ (usedR b n.name).1.c ∧ (usedR b n.name).1.c ≤ n.has.c ∧ n.has.c ≤ 1099511627776) := by
  obtain ⟨e, hw⟩ := used_node h hn
  have h1 := sum_bnd hw.amt
  have h2 := hw.le
  have h3 := A3.amt_out hw.has
  rw [e]
  dsimp only
  omega
def zA : A3 := ⟨0, 0, 0⟩
def pA (x y : A3) : A3 := ⟨x.a + y.a, x.b + y.b, x.c + y.c⟩
theorem pA_z (x : A3) : pA x zA = x := by unfold pA zA; simp
theorem z_pA (x : A3) : pA zA x = x := by unfold pA zA; simp
def sumZ {α : Type} (f : α → A3) : List α → A3
  | [] => zA
  | x :: r => pA (f x) (sumZ f r)
theorem sumT_z : ∀ L : List Tsk, sumT L = sumZ (fun t => t.needs) L
  | [] => rfl
  | t :: r => by rw [sumT_cons, sumT_z r]; rfl
theorem sumT_ap (A B : List Tsk) : sumT (A ++ B) = pA (sumT A) (sumT B) := sumT_app A B
theorem sumT_fm {α : Type} (f : α → List Tsk) : ∀ l : List α, sumT (l.flatMap f) = sumZ (fun x => sumT (f x)) l
  | [] => rfl
  | x :: r => by rw [List.flatMap_cons, sumT_ap, sumT_fm f r]; rfl
theorem sumZ_add {α : Type} (f g : α → A3) : ∀ l : List α, sumZ (fun x => pA (f x) (g x)) l = pA (sumZ f l) (sumZ g l)
  | [] => rfl
  | x :: r => by
    unfold sumZ
    rw [sumZ_add f g r]
    unfold pA
    simp only [A3.mk.injEq]
    omega
theorem sumZ_congr {α : Type} {f g : α → A3} : ∀ {l : List α}, (∀ x ∈ l, f x = g x) → sumZ f l = sumZ g l
  | [], _ => rfl
  | x :: r, h => by unfold sumZ; rw [h x List.mem_cons_self, sumZ_congr fun y hy => h y (List.mem_cons_of_mem _ hy)]
theorem sumZ_zero {α : Type} {f : α → A3} : ∀ {l : List α}, (∀ x ∈ l, f x = zA) → sumZ f l = zA
  | [], _ => rfl
  | x :: r, h => by unfold sumZ; rw [h x List.mem_cons_self, sumZ_zero fun y hy => h y (List.mem_cons_of_mem _ hy), pA_z]
theorem sumZ_find {α : Type} {nm : α → ByteArray} (s : ByteArray) (f : α → A3) : ∀ {l : List α}, l.Pairwise (fun x y => nm x ≠ nm y) → sumZ (fun x => if nm x = s then f x else zA) l = match l.find? (fun x => decide (nm x = s)) with | some x => f x | none => zA
  | [], _ => rfl
  | x :: r, h => by
    rw [List.pairwise_cons] at h
    have ih := sumZ_find s f h.2
    unfold sumZ
    by_cases e : nm x = s
    · have h0 : sumZ (fun x => if nm x = s then f x else zA) r = zA := sumZ_zero fun y hy => if_neg fun e2 => h.1 y hy (e.trans e2.symm)
      rw [h0, pA_z]
      simp [e]
    · rw [ih]
      simp [e, z_pA]
def onAt (b : Bk) (t : Tsk) : List Tsk := (b.binds.filter fun x => decide (x.task = t.name)).map fun _ => t
def onT (b : Bk) : List Tsk := b.tasks.flatMap (onAt b)
def needX (l : List Tsk) (x : Bnd) : A3 := match l.find? (fun t => decide (t.name = x.task)) with | some t => t.needs | none => zA
def thF (l : List Tsk) (s : ByteArray) (x : Bnd) : Option Tsk := if x.node = s then l.find? (fun t => decide (t.name = x.task)) else none
theorem nodes_sum {N : List Nod} {l : List Tsk} (hN : N.Pairwise (fun x y => x.name ≠ y.name)) : ∀ {B : List Bnd}, (∀ x ∈ B, hasBy (fun n : Nod => n.name) N x.node = true) → sumZ (fun n => sumT (B.filterMap (thF l n.name))) N = sumZ (needX l) B
  | [], _ => sumZ_zero fun _ _ => rfl
  | x :: B, h => by
    have ih := nodes_sum (l := l) hN (B := B) fun y hy => h y (List.mem_cons_of_mem _ hy)
    have e : ∀ n ∈ N, sumT ((x :: B).filterMap (thF l n.name)) = pA (if n.name = x.node then needX l x else zA) (sumT (B.filterMap (thF l n.name))) := by
      intro n _
      rw [List.filterMap_cons]
      unfold thF needX
      by_cases e : n.name = x.node
      · rw [if_pos e, if_pos e.symm]
        cases l.find? (fun t => decide (t.name = x.task)) with
        | none => exact (z_pA _).symm
        | some t => exact sumT_cons t _
      · rw [if_neg e, if_neg (fun h => e h.symm)]; exact (z_pA _).symm
    rw [sumZ_congr e, sumZ_add, ih, sumZ_find (nm := fun n : Nod => n.name) x.node (fun _ => needX l x) hN]
    obtain ⟨n, hn, e2⟩ := has_iff.1 (h x List.mem_cons_self)
    cases hf : N.find? (fun n => decide (n.name = x.node)) with
    | none => exact absurd e2 (by simpa using List.find?_eq_none.1 hf n hn)
    | some m => rfl
theorem tasks_sum {l : List Tsk} (hl : l.Pairwise (fun x y => x.name ≠ y.name)) : ∀ {B : List Bnd}, sumZ (fun t => sumT ((B.filter fun x => decide (x.task = t.name)).map fun _ => t)) l = sumZ (needX l) B
  | [] => sumZ_zero fun _ _ => rfl
  | x :: B => by
    have ih := tasks_sum hl (B := B)
    have e : ∀ t ∈ l, sumT (((x :: B).filter fun x => decide (x.task = t.name)).map fun _ => t) = pA (if t.name = x.task then t.needs else zA) (sumT ((B.filter fun x => decide (x.task = t.name)).map fun _ => t)) := by
      intro t _
      rw [List.filter_cons]
      by_cases e : t.name = x.task
      · rw [if_pos e, if_pos (by simp [e]), List.map_cons]; exact sumT_cons t _
      · rw [if_neg e, if_neg (by simpa using fun h => e h.symm)]; exact (z_pA _).symm
    rw [sumZ_congr e, sumZ_add, ih, sumZ_find (nm := fun t : Tsk => t.name) x.task (fun t => t.needs) hl]
    have e9 : sumZ (needX l) (x :: B) = pA (needX l x) (sumZ (needX l) B) := rfl
    rw [e9]
    unfold needX
    cases l.find? (fun t => decide (t.name = x.task)) <;> rfl
def allTo (b : Bk) (k : Nat) : A3 := sumT ((b.nodes.take k).flatMap fun n => thereR b n.name)
theorem allTo_step {b : Bk} {k : Nat} (hk : k < b.nodes.length) : allTo b (k + 1) = pA (allTo b k) (sumT (thereR b b.nodes[k].name)) := by
  unfold allTo
  rw [List.take_succ_eq_append_getElem hk, List.flatMap_append, sumT_ap]
  congr 1
  simp
theorem loads_law {b : Bk} (h : BookOk b) : allTo b b.nodes.length = sumT (onT b) := by
  have e1 : allTo b b.nodes.length = sumZ (needX b.tasks) b.binds := by
    unfold allTo
    rw [List.take_length, sumT_fm]
    exact nodes_sum (ris_ne h.rn) fun x hx => (h.bnd x hx).1
  have e2 : sumT (onT b) = sumZ (needX b.tasks) b.binds := by
    unfold onT
    rw [sumT_fm]
    exact tasks_sum (ris_ne h.rt)
  rw [e1, e2]
def onTo (b : Bk) (k : Nat) : List Tsk := (b.tasks.take k).flatMap (onAt b)
def onTo2 (b : Bk) (k j : Nat) : List Tsk := onTo b k ++ ((b.binds.take j).filter fun x => decide (x.task = (b.tasks.getD k task0').name)).map fun _ => b.tasks.getD k task0'
theorem onTo_step {b : Bk} {k j : Nat} (hk : k < b.tasks.length) (hj : b.binds.length ≤ j) : onTo b (k + 1) = onTo2 b k j := by
  unfold onTo2 onTo onAt
  rw [List.take_succ_eq_append_getElem hk, List.flatMap_append, tskD hk, List.take_of_length_le hj]
  simp
theorem onTo2_zero {b : Bk} {k : Nat} : onTo2 b k 0 = onTo b k := by unfold onTo2; simp
theorem onTo2_step {b : Bk} {k j : Nat} (hk : k < b.tasks.length) (hj : j < b.binds.length) : onTo2 b k (j + 1) = if b.binds[j].task = b.tasks[k].name then onTo2 b k j ++ [b.tasks[k]] else onTo2 b k j := by
  unfold onTo2
  rw [List.take_succ_eq_append_getElem hj, List.filter_append, tskD hk]
  by_cases e : b.binds[j].task = b.tasks[k].name
  · rw [if_pos e]; simp [e]
  · rw [if_neg e]; simp [e]
theorem onTo_end {b : Bk} {k : Nat} (hk : b.tasks.length ≤ k) : onTo b k = onT b := by unfold onTo onT; rw [List.take_of_length_le hk]
theorem onAt_few {b : Bk} (h : BookOk b) (t : Tsk) : (onAt b t).length ≤ 1 := by
  unfold onAt
  rw [List.length_map, ← List.countP_eq_length_filter, cnt_by (nm := fun x : Bnd => x.task) t.name (ris_ne h.rb)]
  split <;> omega
theorem fm_few {α β : Type} {f : α → List β} (hf : ∀ x, (f x).length ≤ 1) : ∀ l : List α, (l.flatMap f).length ≤ l.length
  | [] => Nat.le_refl _
  | x :: r => by rw [List.flatMap_cons, List.length_append, List.length_cons]; have := fm_few hf r; have := hf x; omega
theorem onTo2_few {b : Bk} (h : BookOk b) (k j : Nat) : (onTo2 b k j).length ≤ 64 := by
  have h1 := fm_few (onAt_few h) (b.tasks.take k)
  have h2 := List.length_filter_le (fun x : Bnd => decide (x.task = (b.tasks.getD k task0').name)) (b.binds.take j)
  have h3 := h.tasks
  have h4 := h.binds
  rw [List.length_take] at h1 h2
  unfold onTo2 onTo
  rw [List.length_append, List.length_map]
  omega
theorem tsk_amt {t : Tsk} (h : tskWhy t = 0) : t.needs.amt 1 = true := by
  unfold tskWhy at h
  split at h
  · cases h
  · split at h
    · cases h
    · rename_i h5
      simp only [Bool.not_eq_false, Bool.and_eq_true] at h5
      exact h5.1
theorem onT_sum {b : Bk} (h : BookOk b) : sumR (onT b) = (sumT (onT b), 0) := by
  refine sumR_good (Nat.le_trans (fm_few (onAt_few h) _) h.tasks) fun t ht => ?_
  unfold onT onAt at ht
  rw [List.mem_flatMap] at ht
  obtain ⟨u, hu, h2⟩ := ht
  obtain ⟨x, _, rfl⟩ := List.mem_map.1 h2
  exact tsk_amt (h.tsk _ hu)

/-! on which nodes one can be -/
def freeL (b : Bk) (task : ByteArray) : List ByteArray := (b.nodes.filter fun n => decide (canA b task n.name = 0)).map fun n => n.name
def freeQ (b : Bk) (task : ByteArray) : List ByteArray × Int := if bookOk b = true then (if hasT b task = true then (if hasB b task = true then ([], 7) else (freeL b task, 0)) else ([], 6)) else ([], 10)
theorem free_any {b : Bk} {task : ByteArray} {n : Nod} (hn : n ∈ b.nodes) : (freeL b task).any (fun f => decide (f = n.name)) = decide (canA b task n.name = 0) := by
  unfold freeL
  rw [List.any_map, Bool.eq_iff_iff, List.any_eq_true, decide_eq_true_eq]
  constructor
  · rintro ⟨m, hm, e⟩
    rw [List.mem_filter, decide_eq_true_eq] at hm
    have e : m.name = n.name := by simpa using e
    rw [← e]; exact hm.2
  · intro h
    exact ⟨n, List.mem_filter.2 ⟨hn, decide_eq_true h⟩, by simp⟩
theorem free_do {b : Bk} {task node : ByteArray} : decide ((doR b (ordB task node b.fence)).2.1 = 0) = decide (canA b task node = 0) := by
  by_cases h : canA b task node = 0
  · rw [(can_good h).1, h]
  · rw [can_bad h]
theorem can_has {b : Bk} {task node : ByteArray} (h : canA b task node = 0) : hasT b task = true ∧ hasB b task = false := by
  obtain ⟨_, h2⟩ := can_in h
  obtain ⟨t, n, g1, g2, g3, _⟩ := can_zero h2
  refine ⟨?_, g3⟩
  have hm := List.mem_of_find?_eq_some g1
  have hs := List.find?_some g1
  rw [decide_eq_true_eq] at hs
  exact has_iff.2 ⟨t, hm, hs⟩
theorem freeQ_list {b : Bk} {task : ByteArray} : (freeQ b task).1 = freeL b task := by
  have no : ∀ (h : ∀ n, ¬canA b task n = 0), freeL b task = [] := fun h => by
    unfold freeL
    have : b.nodes.filter (fun n => decide (canA b task n.name = 0)) = [] := by
      rw [List.filter_eq_nil_iff]; intro n _; simpa using h n.name
    rw [this]; rfl
  unfold freeQ
  split
  · split
    · split
      · rename_i h; exact (no fun n hn => by rw [(can_has hn).2] at h; cases h).symm
      · rfl
    · rename_i h; exact (no fun n hn => h (can_has hn).1).symm
  · rename_i h; exact (no fun n hn => h (can_in hn).1).symm
def freeTo (b : Bk) (task : ByteArray) (k : Nat) : List ByteArray := ((b.nodes.take k).filter fun n => decide (canA b task n.name = 0)).map fun n => n.name
theorem freeTo_step {b : Bk} {task : ByteArray} {k : Nat} (hk : k < b.nodes.length) : freeTo b task (k + 1) = if canA b task b.nodes[k].name = 0 then freeTo b task k ++ [b.nodes[k].name] else freeTo b task k := by
  unfold freeTo
  rw [List.take_succ_eq_append_getElem hk, List.filter_append, List.map_append]
  by_cases e : canA b task b.nodes[k].name = 0
  · rw [if_pos e]; simp [e]
  · rw [if_neg e]; simp [e]
theorem freeTo_end {b : Bk} {task : ByteArray} {k : Nat} (hk : b.nodes.length ≤ k) : freeTo b task k = freeL b task := by unfold freeTo freeL; rw [List.take_of_length_le hk]
theorem freeTo_len {b : Bk} {task : ByteArray} {k : Nat} : (freeTo b task k).length ≤ k := by
  unfold freeTo
  rw [List.length_map]
  have := List.length_filter_le (fun n : Nod => decide (canA b task n.name = 0)) (b.nodes.take k)
  rw [List.length_take] at this; omega
theorem waitQ_in {b : Bk} {W : List Tsk} {e : Int} (h : waitQ b = (W, e)) (h0 : e = 0) : BookOk b ∧ W = waitR b := by
  unfold waitQ at h
  split at h
  · rename_i h1; cases h; exact ⟨BookOk.of h1, rfl⟩
  · cases h; cases h0
theorem waitQ_out {b : Bk} {W : List Tsk} {e : Int} (h : waitQ b = (W, e)) (h0 : ¬e = 0) : W = [] ∧ e = bookWhy b := by
  unfold waitQ at h
  unfold bookWhy
  split at h
  · cases h; exact absurd rfl h0
  · rename_i h1; cases h; rw [if_neg h1]; exact ⟨rfl, rfl⟩
theorem loadsQ_in {b : Bk} {W : List Lod} {e : Int} (h : loadsQ b = (W, e)) (h0 : e = 0) : BookOk b ∧ W = loadsR b := by
  unfold loadsQ at h
  split at h
  · rename_i h1; cases h; exact ⟨BookOk.of h1, rfl⟩
  · cases h; cases h0
theorem loadsQ_out {b : Bk} {W : List Lod} {e : Int} (h : loadsQ b = (W, e)) (h0 : ¬e = 0) : W = [] := by
  unfold loadsQ at h
  split at h
  · cases h; exact absurd rfl h0
  · cases h; rfl
theorem freeQ_in {b : Bk} {t : ByteArray} {W : List ByteArray} {e : Int} (h : freeQ b t = (W, e)) (h0 : e = 0) : BookOk b ∧ W = freeL b t := by
  have h2 := freeQ_list (b := b) (task := t)
  rw [h] at h2
  refine ⟨?_, h2⟩
  unfold freeQ at h
  split at h
  · rename_i h1; exact BookOk.of h1
  · cases h; cases h0
theorem freeQ_out {b : Bk} {t : ByteArray} {W : List ByteArray} {e : Int} (h : freeQ b t = (W, e)) (h0 : ¬e = 0) : W = [] := by
  unfold freeQ at h
  split at h
  · split at h
    · split at h
      · cases h; rfl
      · cases h; exact absurd rfl h0
    · cases h; rfl
  · cases h; rfl
theorem any_step {α : Type} {p : α → Bool} {l : List α} {j : Nat} (hj : j < l.length) : (l.take (j + 1)).any p = ((l.take j).any p || p l[j]) := by
  rw [List.take_succ_eq_append_getElem hj, List.any_append]; simp
theorem free_eqv {b : Bk} {t : ByteArray} {n : Nod} {j : Nat} (hn : n ∈ b.nodes) (hj : (freeL b t).length ≤ j) : ((freeL b t).take j).any (fun f => decide (f = n.name)) = decide ((doR b (ordB t n.name b.fence)).2.1 = 0) := by
  rw [List.take_of_length_le hj, free_any hn, free_do]
theorem nod_nm {n : Nod} (h : nodWhy n = 0) : n.name.size ≤ 32 := by
  unfold nodWhy at h
  split at h
  · cases h
  · rename_i h1
    have h2 : isName n.name = true := by simpa using h1
    unfold isName at h2
    simp only [Bool.and_eq_true, decide_eq_true_eq] at h2
    exact h2.2
theorem load_bd {b : Bk} (h : BookOk b) {n : Nod} (hn : n ∈ b.nodes) : (0 ≤ (loadOf b n).used.a ∧ (loadOf b n).used.a ≤ (loadOf b n).node.has.a ∧ (loadOf b n).node.has.a ≤ 1099511627776) ∧ (0 ≤ (loadOf b n).used.b ∧ (loadOf b n).used.b ≤ (loadOf b n).node.has.b ∧ (loadOf b n).node.has.b ≤ 1099511627776) ∧ (0 ≤ (loadOf b n).used.c ∧ (loadOf b n).used.c ≤ (loadOf b n).node.has.c ∧ (loadOf b n).node.has.c ≤ 1099511627776) := used_bd h hn
theorem allTo_load {b : Bk} (h : BookOk b) {k : Nat} (hk : k < b.nodes.length) : allTo b (k + 1) = pA (allTo b k) (loadOf b b.nodes[k]).used := by
  rw [allTo_step hk]
  have := (used_node h (List.getElem_mem hk)).1
  unfold loadOf
  rw [this]
theorem allTo_bd {b : Bk} (h : BookOk b) : ∀ k, k ≤ b.nodes.length → (0 ≤ (allTo b k).a ∧ (allTo b k).a ≤ 1099511627776 * (k : Int)) ∧ (0 ≤ (allTo b k).b ∧ (allTo b k).b ≤ 1099511627776 * (k : Int)) ∧ (0 ≤ (allTo b k).c ∧ (allTo b k).c ≤ 1099511627776 * (k : Int))
  | 0, _ => by unfold allTo sumT; simp
  | k + 1, hk => by
    have h1 := allTo_bd h k (by omega)
    have h2 := load_bd h (List.getElem_mem (show k < b.nodes.length by omega))
    rw [allTo_load h (by omega)]
    unfold pA
    dsimp only
    omega
theorem loads_get {b : Bk} {k : Nat} (hk : k < (loadsR b).length) : (loadsR b)[k] = loadOf b (b.nodes[k]'(by rw [loads_len] at hk; exact hk)) := by simp [loadsR]

theorem slt_def (a b : ByteArray) : Op.bytesLess a.toList b.toList = slt a b := rfl
abbrev TC : Type := { p : Tsk × Value × Value // Go.Sy.one p.2.1 ∧ Go.Sy.one p.2.2 }
instance : Inhabited TC := ⟨⟨(task0', .slice none 0 0, .slice none 0 0), trivial, trivial⟩⟩
def encT (p : TC) : List Value := p.1.1.cells p.1.2.1 p.1.2.2
def cfT (p q : TC) : Int := orZ (cmpZ q.1.1.rank p.1.1.rank) (cmpSS p.1.1.name q.1.1.name)
theorem ltT (p q : TC) : Go.Proofs.ltOf cfT p q = aheadB p.1.1 q.1.1 := by
  unfold Go.Proofs.ltOf cfT orZ cmpZ cmpSS aheadB
  rw [slt_def]
  generalize p.1.1.rank = x; generalize q.1.1.rank = y; generalize p.1.1.name = s; generalize q.1.1.name = u
  by_cases h1 : y < x
  · simp [h1]
  · by_cases h2 : x < y
    · simp [h1, h2]; omega
    · have e : x = y := by omega
      subst e
      cases h3 : slt s u
      · simp
        split <;> decide
      · simp
theorem ahead_ntr {x y z : Tsk} (h : aheadB x y = false) (h2 : aheadB y z = false) : aheadB x z = false := by
  rw [Bool.eq_false_iff]
  intro h3
  cases h4 : aheadB y x
  · have e := ahead_tot h h4
    rw [Bool.eq_false_iff, ne_eq, ahead_iff, not_or] at h h4
    have e2 : x.rank = y.rank := by omega
    rw [Bool.eq_false_iff] at h2
    apply h2
    rw [ahead_iff] at h3 ⊢
    rw [← e, ← e2]; exact h3
  · have := ahead_tr h4 h3
    rw [h2] at this; cases this
theorem swoT : Go.Sort.SWO (Go.Proofs.ltOf cfT) where
  irrefl x := by rw [ltT]; exact ahead_irr _
  trans x y z h1 h2 := by rw [ltT] at *; exact ahead_tr h1 h2
  ntrans x y z h1 h2 := by rw [ltT] at *; exact ahead_ntr h1 h2
theorem encT_len (p : TC) : (encT p).length = 9 := rfl
theorem encT_one (p : TC) : ∀ v ∈ encT p, v.oneCell' = true := by
  intro v hv
  have hw := p.2.1
  have hb := p.2.2
  unfold encT Tsk.cells at hv
  simp only [List.mem_cons, List.not_mem_nil, or_false] at hv
  rcases hv with rfl | rfl | rfl | rfl | rfl | rfl | rfl | rfl | rfl
  all_goals first | rfl | skip
  · generalize p.1.2.1 = u at hw ⊢
    cases u <;> first | exact hw.elim | rfl
  · generalize p.1.2.2 = u at hb ⊢
    cases u <;> first | exact hb.elim | rfl
theorem dr_split {I : Imm} : ∀ {l : List Tsk} {ws : List Value}, DR TskR 9 I ws l → ∃ D : List TC, ws = D.flatMap encT ∧ D.map (fun p => p.1.1) = l ∧ ∀ p ∈ D, TskR I (encT p) p.1.1
  | [], ws, h => ⟨[], by have := h.1; simpa using this, rfl, fun _ h => by cases h⟩
  | t :: l, ws, h => by
    have h1 := h.2 0 t rfl
    obtain ⟨wv, bv, e, hw, hb⟩ := id h1.ex
    have h2 := h.drop (l := 1) (by simp)
    obtain ⟨D, e1, e2, e3⟩ := dr_split h2
    rw [Nat.zero_mul, List.drop_zero] at e h1
    refine ⟨⟨(t, wv, bv), hw.isSl, hb.isSl⟩ :: D, ?_, ?_, ?_⟩
    · rw [List.flatMap_cons, ← e1]
      show ws = t.cells wv bv ++ _
      rw [← e, Nat.one_mul, List.take_append_drop]
    · rw [List.map_cons, e2]; rfl
    · intro p hp
      rcases List.mem_cons.1 hp with rfl | hp
      · show TskR I (t.cells wv bv) t
        rw [← e]; exact h1
      · exact e3 p hp
theorem dr_join {I : Imm} : ∀ {D : List TC}, (∀ p ∈ D, TskR I (encT p) p.1.1) → DR TskR 9 I (D.flatMap encT) (D.map fun p => p.1.1)
  | [], _ => DR.nil
  | p :: D, h => by
    rw [List.flatMap_cons, List.map_cons]
    exact (DR.single (encT_len p) (h p List.mem_cons_self)).append (dr_join fun q hq => h q (List.mem_cons_of_mem _ hq))
theorem free_nilW {b : Bk} (h : freeT b = []) : waitR b = [] := by unfold waitR; rw [h]; rfl
theorem sortT_ok {I : Imm} {O : Own} {b : Bk} (hok : BookOk b) {ad : Option Addr} {cap : Nat} {ws : List Value} {ob : Own} (ho : OwnS 9 (.slice ad (freeT b).length cap) (freeT b).length ws ob) (hd : DR TskR 9 I ws (freeT b)) :
    Go.Sy.Does Tryz.prog 28 [.slice ad (freeT b).length cap, .func (.func 29) #[] #[]] I (ob ++ O) fun u I' O' => I' = I ∧ u = .tuple ⟨[]⟩ ∧ ∃ ws' ob', OwnS 9 (.slice ad (freeT b).length cap) (waitR b).length ws' ob' ∧ DR TskR 9 I ws' (waitR b) ∧ O' = ob' ++ O := by
  have hwl : (waitR b).length = (freeT b).length := (wait_pw hok).2.length_eq
  rcases ho with ⟨e, h0, hw, rfl⟩ | ⟨c, cap', cs, T, e, rfl, hmc, hcl, htk, hwsl, hcap⟩
  · rw [Value.slice.injEq] at e
    obtain ⟨rfl, -, rfl⟩ := e
    rw [h0] at hwl ⊢
    have hf : freeT b = [] := List.length_eq_zero_iff.1 h0
    refine (Pure.sortNone Tryz.sortTask (P := Tryz.prog)).mono ?_
    rintro u I' O' ⟨rfl, rfl, rfl⟩
    rw [free_nilW hf]
    exact ⟨rfl, rfl, [], [], .inl ⟨rfl, rfl, rfl, rfl⟩, DR.nil, rfl⟩
  · rw [Value.slice.injEq] at e
    obtain ⟨rfl, -, rfl⟩ := e
    obtain ⟨D, e1, e2, e3⟩ := dr_split hd
    have hlen : D.toArray.size = (freeT b).length := by rw [← e2]; simp
    have hfl : (freeT b).length ≤ 32 := by rw [← hwl]; exact wait_few hok
    have key := Does.sortFunc (P := Tryz.prog) (enc := encT) (k := 9) (I := I) (O := O) (b := c) (cap := cap) (cs := cs) (T := T) (d := D.toArray) Tryz.sortTask (fun w => Go.Sy.run_isAgg ag34) (fun w => Go.Sy.run_sizeOf sz34) encT_len encT_one cfT swoT (g := 29) (cb := []) (fun args w => Go.Sy.run_call cal29)
      (fun x y w => ahead' _ _ _ _ _ _ _ _ _ _ _ _ _ _ _ _ _ _ x.2.1 x.2.2 y.2.1 y.2.2 w) (by rw [hlen, htk]; exact e1) (by rw [hlen, hcl]; exact Nat.mul_le_mul_right 9 hmc) (by omega)
    rw [hlen] at key
    refine key.mono ?_
    rintro u I' O' ⟨rfl, rfl, d', hp, hs, rfl⟩
    have hdl : d'.size = (freeT b).length := by rw [← hlen]; simpa using hp.length_eq
    have hR : ∀ p ∈ d'.toList, TskR I' (encT p) p.1.1 := fun p hpm => e3 p (by have := hp.mem_iff.1 hpm; simpa using this)
    have hl : d'.toList.map (fun p => p.1.1) = waitR b := by
      refine sort_eq hok ?_ ?_
      · rw [← e2]; exact (hp.map _).trans (by simp)
      · intro i j hi hj hij
        rw [List.length_map] at hi hj
        have h1 := hs i j hij (by rw [← hdl]; simpa using hj)
        rw [ltT] at h1
        rw [getElem!_pos d' j (by simpa using hj), getElem!_pos d' i (by simpa using hi)] at h1
        simpa using h1
    have hJ := dr_join hR
    rw [hl] at hJ
    have hwl2 : (d'.toList.flatMap encT).length = (waitR b).length * 9 := hJ.1
    have hle : (d'.toList.flatMap encT).length ≤ cs.length := by rw [hwl2, hwl, hcl]; exact Nat.mul_le_mul_right 9 hmc
    refine ⟨rfl, rfl, d'.toList.flatMap encT, _, .inr ⟨c, cap, _, T, by rw [hwl], rfl, by omega, ?_, ?_, hwl2, hcap⟩, hJ, rfl⟩
    · rw [setL_length (by omega), hcl]
    · unfold setL
      rw [List.take_zero, List.nil_append, List.take_left' hwl2]

end Go.Proofs.YtajpakifkinadaaGreatDoor
