/- Walks of functions over a symbolic memory, printed by a program of the session. -/
import Derived.Test.YtajpakifkinadaaGreatDoorFm
import Derived.Test.YtajpakifkinadaaGreatDoorBq
import Derived.Test.YtajpakifkinadaaGreatDoorOpe2
namespace Go.Proofs.YtajpakifkinadaaGreatDoor
open Go.Sy
set_option linter.unusedSimpArgs false
set_option linter.unusedVariables false

def ixN (b : Bk) (s : ByteArray) : Int := idxOf (fun x : Nod => decide (x.name = s)) b.nodes
def ixT (b : Bk) (s : ByteArray) : Int := idxOf (fun x : Tsk => decide (x.name = s)) b.tasks
section
variable {α : Type} {nm : α → ByteArray}
theorem ix_pos {l : List α} {s : ByteArray} (hr : Rising nm l) (h : hasBy nm l s = true) : idxOf (fun x => decide (nm x = s)) l = (posBy nm l s : Int) := by
  obtain ⟨hk, hs⟩ := has_get hr h
  refine idxOf_some hk ?_ (by simpa using hs)
  rw [List.any_eq_false]
  intro x hx h2
  have h3 := take_lt hx
  rw [decide_eq_true_eq] at h2
  rw [h2, lt_irr] at h3; cases h3
theorem ix_neg {l : List α} {s : ByteArray} (h : hasBy nm l s = false) : idxOf (fun x => decide (nm x = s)) l = -1 := idxOf_none h
theorem ix_lt {l : List α} {s : ByteArray} : decide (idxOf (fun x => decide (nm x = s)) l < 0) = !hasBy nm l s := by
  have h := idxOf_ge (p := fun x : α => decide (nm x = s)) (l := l)
  unfold hasBy
  rw [← h, ← decide_not]
  exact decide_eq_decide.2 (by omega)
/-- each and its order behind the one ahead, up to k -/
def adjOk (nm : α → ByteArray) (bad : α → Bool) (l : List α) (i : Nat) : Bool := match l[i]? with
  | some x => !bad x && (decide (i = 0) || match l[i - 1]? with | some y => slt (nm y) (nm x) | none => true)
  | none => true
def adjTo (nm : α → ByteArray) (bad : α → Bool) (l : List α) (k : Nat) : Bool := (List.range k).all (adjOk nm bad l)
theorem adjOk_at {bad : α → Bool} {l : List α} {i : Nat} (hi : i < l.length) : adjOk nm bad l i = (!bad l[i] && (decide (i = 0) || slt (nm (l[i - 1]'(by omega))) (nm l[i]))) := by
  unfold adjOk
  rw [List.getElem?_eq_getElem hi, List.getElem?_eq_getElem (show i - 1 < l.length by omega)]
theorem adj_step {bad : α → Bool} {l : List α} {k : Nat} (h : adjTo nm bad l k = true) (h2 : adjOk nm bad l k = true) : adjTo nm bad l (k + 1) = true := by
  unfold adjTo at *; rw [List.range_succ, List.all_append, h]; simp [h2]
theorem adj_end {bad : α → Bool} {l : List α} : adjTo nm bad l l.length = (!l.any bad && risingB nm l) := by
  rw [Bool.eq_iff_iff, Bool.and_eq_true]
  unfold adjTo
  rw [List.all_eq_true]
  constructor
  · intro h
    have h1 : ∀ i (hi : i < l.length), bad l[i] = false ∧ (i = 0 ∨ slt (nm (l[i - 1]'(by omega))) (nm l[i]) = true) := fun i hi => by
      have := h i (List.mem_range.2 hi)
      rw [adjOk_at hi] at this
      simpa using this
    refine ⟨?_, ?_⟩
    · rw [Bool.not_eq_true', List.any_eq_false]
      intro x hx
      obtain ⟨i, hi, rfl⟩ := List.mem_iff_getElem.1 hx
      simp [(h1 i hi).1]
    · unfold risingB
      rw [List.all_eq_true]
      intro i hi
      rw [List.mem_range] at hi
      unfold risAt
      rw [List.getElem?_eq_getElem (show i < l.length by omega), List.getElem?_eq_getElem (show i + 1 < l.length by omega)]
      exact (h1 (i + 1) (by omega)).2.resolve_left (by omega)
  · rintro ⟨h1, h2⟩ i hi
    rw [List.mem_range] at hi
    rw [adjOk_at hi]
    rw [Bool.not_eq_true', List.any_eq_false] at h1
    have h3 := h1 l[i] (List.getElem_mem hi)
    rcases Nat.eq_zero_or_pos i with h | h
    · have h4 : bad l[i] = false := by simpa using h3
      rw [h4]; simp [h]
    · have := rising_of h2 (i - 1) i (by omega) hi (by omega)
      simp [h3, this]
theorem adj_bad {bad : α → Bool} {l : List α} {k : Nat} (hk : k < l.length) (h : adjOk nm bad l k = false) : adjTo nm bad l l.length = false := by
  rw [Bool.eq_false_iff]; intro h2
  unfold adjTo at h2
  have := List.all_eq_true.1 h2 k (List.mem_range.2 hk)
  rw [h] at this; cases this
end
def listedB (b : Bk) : Bool := decide (b.nodes.length ≤ 16) && (decide (b.tasks.length ≤ 32) && (adjTo (fun x : Nod => x.name) badN b.nodes b.nodes.length && (adjTo (fun x : Tsk => x.name) badK b.tasks b.tasks.length && adjTo (fun x : Bnd => x.task) (badX b) b.binds b.binds.length)))
theorem listed_ok {b : Bk} : bookOk b = (listedB b && !b.nodes.any fun n => !wellR b n) := by
  unfold bookOk listedB
  rw [adj_end, adj_end, adj_end]
  cases decide (b.nodes.length ≤ 16) <;> cases decide (b.tasks.length ≤ 32) <;> cases b.nodes.any badN <;> cases b.tasks.any badK <;> cases b.binds.any (badX b) <;> cases risingB (fun x : Nod => x.name) b.nodes <;> cases risingB (fun x : Tsk => x.name) b.tasks <;> cases risingB (fun x : Bnd => x.task) b.binds <;> rfl
structure Listed (b : Bk) : Prop where
  nodes : b.nodes.length ≤ 16
  tasks : b.tasks.length ≤ 32
  rt : Rising (fun x : Tsk => x.name) b.tasks
  nod : ∀ n ∈ b.nodes, nodWhy n = 0
  bnd : ∀ x ∈ b.binds, hasBy (fun x : Tsk => x.name) b.tasks x.task = true
  binds : b.binds.length ≤ 32
theorem Listed.of {b : Bk} (h : listedB b = true) : Listed b := by
  unfold listedB at h
  rw [adj_end, adj_end, adj_end] at h
  simp only [Bool.and_eq_true, Bool.not_eq_true', decide_eq_true_eq] at h
  obtain ⟨h1, h2, ⟨h3, h4⟩, ⟨h5, h6⟩, h7, h8⟩ := h
  refine ⟨h1, h2, rising_of h6, fun n hn => ?_, fun x hx => ?_, binds_few h2 h8 h7⟩
  · simpa [badN] using List.any_eq_false.1 h3 n hn
  · have := List.any_eq_false.1 h7 x hx
    simp only [badX, Bool.or_eq_true, Bool.not_eq_true', not_or, Bool.not_eq_false] at this
    exact this.2
theorem Listed.ok {b : Bk} (h : BookOk b) : Listed b := ⟨h.nodes, h.tasks, h.rt, h.nod, fun x hx => (h.bnd x hx).2, h.binds⟩

theorem on_take {b : Bk} {s : ByteArray} {k : Nat} (hk : k < b.binds.length) (hw : (b.binds.take k).any (fun x => decide (x.task = s)) = false) (h : b.binds[k].task = s) : onR b s = b.binds[k].node := by
  unfold onR
  have e : b.binds.find? (fun x => decide (x.task = s)) = some b.binds[k] := by
    have hs := get_split hk
    have e2 : b.binds.find? (fun x => decide (x.task = s)) = (b.binds.take k ++ (b.binds[k] :: b.binds.drop (k + 1))).find? (fun x => decide (x.task = s)) := by rw [← hs]
    rw [e2, List.find?_append, List.find?_cons]
    have e3 : (b.binds.take k).find? (fun x => decide (x.task = s)) = none := by
      rw [List.find?_eq_none]
      intro x hx h2
      have := List.any_eq_false.1 hw x hx
      exact this h2
    rw [e3]; simp [h]
  rw [e]
theorem on_none {b : Bk} {s : ByteArray} (hw : b.binds.any (fun x => decide (x.task = s)) = false) : onR b s = ⟨#[]⟩ := by
  unfold onR
  have e : b.binds.find? (fun x => decide (x.task = s)) = none := by
    rw [List.find?_eq_none]
    intro x hx
    exact List.any_eq_false.1 hw x hx
  rw [e]

def leA (x y : A3) : Prop := x.a ≤ y.a ∧ x.b ≤ y.b ∧ x.c ≤ y.c
theorem well_ref {n : Nod} {L : List Tsk} (hn : nodWhy n = 0) : wellL n L = true ↔ (leA (sumR L).1 n.has ∧ fitTo n L L.length = true ∧ (sumR L).2 = 0) := by
  unfold wellL leA
  rw [Bool.and_eq_true, Bool.and_eq_true, decide_eq_true_eq]
  constructor
  · rintro ⟨⟨h1, h2⟩, h3⟩
    unfold room at h2
    simp only [Bool.and_eq_true, decide_eq_true_eq] at h2
    exact ⟨by have := h2.2; omega, h3, h1⟩
  · rintro ⟨h1, h2, h3⟩
    refine ⟨⟨h3, ?_⟩, h2⟩
    obtain ⟨h4, h5⟩ := sumR_zero h3
    have hb := sum_bnd h5
    rw [sumR_good h4 h5] at h1 ⊢
    dsimp only at h1 ⊢
    unfold room
    rw [nod_amt hn, amt_mk (x := sumT L) (k := 32) (by omega), amt_mk (x := ⟨0, 0, 0⟩) (k := 1) (by decide)]
    simp only [Bool.true_and, decide_eq_true_eq]
    omega
theorem well_refN {n : Nod} {L : List Tsk} (hn : nodWhy n = 0) (h : ¬(leA (sumR L).1 n.has ∧ fitTo n L L.length = true ∧ (sumR L).2 = 0)) : wellL n L = false := Bool.eq_false_iff.2 fun h2 => h ((well_ref hn).1 h2)
theorem bear_take {t : Tsk} {M : List Tsk} {j : Nat} (h : (M.take j).all (bear t) = true) (hj : j < M.length) (hb : bear t M[j] = true) : (M.take (j + 1)).all (bear t) = true := by
  rw [List.take_succ_eq_append_getElem hj, List.all_append, h]; simp [hb]
theorem fitAt_ref {n : Nod} {L : List Tsk} {k : Nat} (hk : k < L.length) (h : suits L[k] n = true) (h2 : (L.take k).all (bear L[k]) = true) : fitAt n L k = true := by
  unfold fitAt
  rw [tskD hk, h]
  rw [List.all_eq_true] at h2
  simp only [Bool.true_and, Bool.not_eq_true', List.any_eq_false]
  intro u hu
  simp [h2 u hu]
theorem fitAt_refN {n : Nod} {L : List Tsk} {k j : Nat} (hk : k < L.length) (hj : j < (L.take k).length) (h : bear L[k] ((L.take k)[j]) = false) : fitAt n L k = false := by
  unfold fitAt
  rw [tskD hk, Bool.and_eq_false_iff]
  refine .inr ?_
  rw [Bool.not_eq_false', List.any_eq_true]
  exact ⟨_, List.getElem_mem hj, by rw [h]; rfl⟩
theorem fitAt_refS {n : Nod} {L : List Tsk} {k : Nat} (hk : k < L.length) (h : suits L[k] n = false) : fitAt n L k = false := by
  unfold fitAt; rw [tskD hk, h]; rfl

theorem isName_ne {s : ByteArray} (h : isName s = true) : s ≠ ⟨#[]⟩ := by
  rw [isName_eq] at h
  simp only [Bool.and_eq_true, Bool.not_eq_true', decide_eq_false_iff_not] at h
  exact h.1.1
theorem nod_named {n : Nod} (h : nodWhy n = 0) : n.name ≠ ⟨#[]⟩ := by
  unfold nodWhy at h
  split at h
  · cases h
  · rename_i h1; exact isName_ne (by simpa using h1)
theorem on_ne {b : Bk} {s : ByteArray} (h : BookOk b) : (!decide (onR b s = ⟨#[]⟩)) = hasB b s := by
  cases hb : hasB b s
  · rw [onR_no hb]; rfl
  · rw [onR_has h.rb hb, Bool.not_eq_true', decide_eq_false_iff_not]
    obtain ⟨m, hm, e⟩ := has_iff.1 (h.bnd _ (List.getElem_mem (has_get h.rb hb).1)).1
    rw [← e]
    exact nod_named (h.nod m hm)
theorem used_ref {b : Bk} {s : ByteArray} (h : BookOk b) (hs : hasN b s = true) : (sumR (thereR b s)).2 = 0 := by
  obtain ⟨n, hn, rfl⟩ := has_iff.1 hs
  have := h.well n hn
  rw [wellR_L, well_iff] at this
  rw [sumR_good this.few this.amt]

theorem kind_cases {k : Int} (h : U8 k) : k = 1 ∨ k = 2 ∨ k = 3 ∨ k = 4 ∨ k = 5 ∨ k = 6 ∨ k = 7 ∨ k = 0 ∨ 8 ≤ k := by unfold U8 at h; omega

theorem can_keep {a : Bool} {p : Tsk → Bool} {L : List Tsk} {k : Nat} (h : (a && (L.take k).all p) = false) : (a && (L.take (k + 1)).all p) = false := by
  rw [Bool.and_eq_false_iff] at h ⊢
  refine h.imp id fun h => ?_
  rw [Bool.eq_false_iff] at h ⊢
  refine fun h2 => h (List.all_eq_true.2 fun x hx => List.all_eq_true.1 h2 x ?_)
  rw [List.mem_take_iff_getElem] at hx ⊢
  obtain ⟨j, hj, e⟩ := hx
  exact ⟨j, by omega, e⟩
theorem can_next {a : Bool} {p : Tsk → Bool} {L : List Tsk} {k : Nat} (hk : k < L.length) (h : (a && (L.take k).all p) = true) : (a && (L.take (k + 1)).all p) = p L[k] := by
  rw [Bool.and_eq_true] at h
  rw [List.take_succ_eq_append_getElem hk, List.all_append, h.1, h.2]; simp

set_option maxHeartbeats 1000000 in
set_option maxRecDepth 20000 in
theorem rCopyNode_ok {I : Imm} {O : Own} {nc : List Value} {n : Nod} (hn : NodR I nc n) (hL1 : n.labels.length * 32 ≤ 140737488351232) (hL2 : n.taints.length * 32 ≤ 140737488351232) :
    Go.Sy.Does Tryz.prog 13 [.agg ⟨nc⟩] I O (fun u I' O' => ∃ cs, u = .agg ⟨cs⟩ ∧ NodR I' cs n ∧ O' = O) := by
  have hn0 := hn
  obtain ⟨nl, nt, rfl, hnl, hnt⟩ := hn.ex
  have hnl0 := hnl
  obtain ⟨la, lcap, rfl, hl1, hl2, -⟩ := hnl
  have hnt0 := hnt
  obtain ⟨ta, tcap, rfl, ht1, ht2, -⟩ := hnt
  obtain ⟨wsA, hsA, hdA⟩ := SlR.src (B := []) (fun _ _ h => prLen h) hnl0
  refine Go.Sy.Does.enter Tryz.func13 rfl Tryz.ntmps13 rfl ?_
  refine .seq <| .region <| .on rfl <| .box rfl rfl rfl fun c1 _ _ => .on rfl <| .alloc zr32 rfl fun c2 _ _ => .nil <| .go ?_
  refine .seq <| .region <| .on rfl <| .buildSlice Tryz.underlying30 sz45 (by decide) (by decide) zv45 rfl rfl rfl rfl rfl fun c3 _ _ => .e (.fieldAddr fo32_2 rfl) rfl rfl <| .e (.load ag30 rfl (.there <| .there <| .here) rfl) rfl rfl <| .on rfl <| .append Tryz.underlying30 Tryz.underlying30 sz45 by45 zv45 rfl rfl rfl .here (OwnS.made rfl (by decide)) hsA.any hdA.1 (hdA.ones (by decide) fun _ _ h => PrR.ones h) (by omega) (by omega) rfl fun v6 ob6 ho6 => ?_
  refine .freezeS ho6 fun K hK hKs => ?_
  have hy5 : PrsR K _ n.labels := hKs (R := PrR) (hdA.mono fun _ _ h => h) (by omega)
  have hy50 := hy5
  obtain ⟨ya5, yc5, rfl, -⟩ := hy5
  obtain ⟨wsB, hsB, hdB⟩ := SlR.src (B := []) (fun _ _ h => prLen h) (PrsR.mono hK hnt0)
  refine .e (.fieldAddr fo32_2 rfl) rfl rfl <| .on rfl <| .store sz30 rfl rfl rfl rfl rfl rfl (.there <| .here) <| .nil <| .go <| .seq <| .region ?_
  refine .on rfl <| .buildSlice Tryz.underlying30 sz45 (by decide) (by decide) zv45 rfl rfl rfl rfl rfl fun c4 _ _ => .e (.fieldAddr fo32_3 rfl) rfl rfl <| .e (.load ag30 rfl (.there <| .there <| .here) rfl) rfl rfl <| .on rfl <| .append Tryz.underlying30 Tryz.underlying30 sz45 by45 zv45 rfl rfl rfl .here (OwnS.made rfl (by decide)) hsB.any hdB.1 (hdB.ones (by decide) fun _ _ h => PrR.ones h) (by omega) (by omega) rfl fun v11 ob11 ho11 => ?_
  refine .freezeS ho11 fun M hM hMs => ?_
  have hy8 : PrsR M _ n.taints := hMs (R := PrR) (hdB.mono fun _ _ h => h) (by omega)
  have hy80 := hy8
  obtain ⟨ya8, yc8, rfl, -⟩ := hy8
  refine .e (.fieldAddr fo32_3 rfl) rfl rfl <| .on rfl <| .store sz30 rfl rfl rfl rfl rfl rfl (.there <| .here) <| .nil <| .go <| .seq <| .region ?_
  refine .e (.loadW ag32 sz32 rfl (.there <| .here) rfl) rfl rfl <| .on rfl <| .storeW sz32 rfl rfl rfl rfl rfl rfl .here <| .nil <| .go <| .ret ?_
  refine Post.rets rfl (.agg rfl ag32 sz32 .here rfl .nil) rfl (Imm.le_trans hK hM) (fun w h => (Sat.tail (Sat.tail h))) ?_
  exact ⟨_, rfl, ⟨⟨_, _, rfl, hy50.mono hM, hy80⟩, hn0.name, hn0.has⟩, rfl⟩

set_option maxHeartbeats 1000000 in
set_option maxRecDepth 20000 in
theorem rCopyTask_ok {I : Imm} {O : Own} {tc : List Value} {t : Tsk} (ht : TskR I tc t) (hL1 : t.wants.length * 32 ≤ 140737488351232) (hL2 : t.bears.length * 32 ≤ 140737488351232) :
    Go.Sy.Does Tryz.prog 14 [.agg ⟨tc⟩] I O (fun u I' O' => ∃ cs, u = .agg ⟨cs⟩ ∧ TskR I' cs t ∧ O' = O) := by
  have ht0 := ht
  obtain ⟨tw, tb, rfl, htw, htb⟩ := ht.ex
  have htw0 := htw
  obtain ⟨wa, wcap, rfl, hw1, hw2, -⟩ := htw
  have htb0 := htb
  obtain ⟨ba, bcap, rfl, hb1, hb2, -⟩ := htb
  obtain ⟨wsA, hsA, hdA⟩ := SlR.src (B := []) (fun _ _ h => prLen h) htw0
  refine Go.Sy.Does.enter Tryz.func14 rfl Tryz.ntmps14 rfl ?_
  refine .seq <| .region <| .on rfl <| .box rfl rfl rfl fun c1 _ _ => .on rfl <| .alloc zr34 rfl fun c2 _ _ => .nil <| .go ?_
  refine .seq <| .region <| .on rfl <| .buildSlice Tryz.underlying30 sz45 (by decide) (by decide) zv45 rfl rfl rfl rfl rfl fun c3 _ _ => .e (.fieldAddr fo34_2 rfl) rfl rfl <| .e (.load ag30 rfl (.there <| .there <| .here) rfl) rfl rfl <| .on rfl <| .append Tryz.underlying30 Tryz.underlying30 sz45 by45 zv45 rfl rfl rfl .here (OwnS.made rfl (by decide)) hsA.any hdA.1 (hdA.ones (by decide) fun _ _ h => PrR.ones h) (by omega) (by omega) rfl fun v6 ob6 ho6 => ?_
  refine .freezeS ho6 fun K hK hKs => ?_
  have hy5 : PrsR K _ t.wants := hKs (R := PrR) (hdA.mono fun _ _ h => h) (by omega)
  have hy50 := hy5
  obtain ⟨ya5, yc5, rfl, -⟩ := hy5
  obtain ⟨wsB, hsB, hdB⟩ := SlR.src (B := []) (fun _ _ h => prLen h) (PrsR.mono hK htb0)
  refine .e (.fieldAddr fo34_2 rfl) rfl rfl <| .on rfl <| .store sz30 rfl rfl rfl rfl rfl rfl (.there <| .here) <| .nil <| .go <| .seq <| .region ?_
  refine .on rfl <| .buildSlice Tryz.underlying30 sz45 (by decide) (by decide) zv45 rfl rfl rfl rfl rfl fun c4 _ _ => .e (.fieldAddr fo34_3 rfl) rfl rfl <| .e (.load ag30 rfl (.there <| .there <| .here) rfl) rfl rfl <| .on rfl <| .append Tryz.underlying30 Tryz.underlying30 sz45 by45 zv45 rfl rfl rfl .here (OwnS.made rfl (by decide)) hsB.any hdB.1 (hdB.ones (by decide) fun _ _ h => PrR.ones h) (by omega) (by omega) rfl fun v11 ob11 ho11 => ?_
  refine .freezeS ho11 fun M hM hMs => ?_
  have hy8 : PrsR M _ t.bears := hMs (R := PrR) (hdB.mono fun _ _ h => h) (by omega)
  have hy80 := hy8
  obtain ⟨ya8, yc8, rfl, -⟩ := hy8
  refine .e (.fieldAddr fo34_3 rfl) rfl rfl <| .on rfl <| .store sz30 rfl rfl rfl rfl rfl rfl (.there <| .here) <| .nil <| .go <| .seq <| .region ?_
  refine .e (.loadW ag34 sz34 rfl (.there <| .here) rfl) rfl rfl <| .on rfl <| .storeW sz34 rfl rfl rfl rfl rfl rfl .here <| .nil <| .go <| .ret ?_
  refine Post.rets rfl (.agg rfl ag34 sz34 .here rfl .nil) rfl (Imm.le_trans hK hM) (fun w h => (Sat.tail (Sat.tail h))) ?_
  exact ⟨_, rfl, ⟨⟨_, _, rfl, hy50.mono hM, hy80⟩, ht0.name, ht0.needs, ht0.group, ht0.apart, ht0.rank⟩, rfl⟩

set_option maxHeartbeats 16000000 in
set_option maxRecDepth 20000 in
theorem rbCopy_ok {I : Imm} {O : Own} {kc : List Value} {b : Bk} (hk : BkR I kc b) (hM : BkM b) :
    Go.Sy.Does Tryz.prog 6 [.agg ⟨kc⟩] I O (fun u I' O' => ∃ nv tv bv on ot ob, u = .agg ⟨b.cells nv tv bv⟩ ∧ BkO I' b nv tv bv on ot ob ∧ O' = on ++ (ot ++ (ob ++ O))) := by
  have hk0 := hk
  obtain ⟨nv, tv, bv, rfl, hnv, htv, hbv⟩ := hk.ex
  have hnv0 := hnv
  have htv0 := htv
  have hbv0 := hbv
  obtain ⟨na, ncap, rfl, hn1, hn2, -⟩ := hnv
  obtain ⟨ta, tcap, rfl, ht1, ht2, -⟩ := htv
  obtain ⟨ba, bcap, rfl, hb1, hb2, -⟩ := hbv
  have hf := hk0.fence
  have hM1 := hM.n
  have hM2 := hM.t
  have hM3 := hM.x
  refine Go.Sy.Does.enter Tryz.func6 rfl Tryz.ntmps6 rfl ?_
  refine .seq <| .region <| .on rfl <| .box rfl rfl rfl fun c1 _ _ => .on rfl <| .alloc zr27 rfl fun c2 _ _ => .nil <| .go ?_
  refine .seq <| .region <| .e (.fieldAddr fo27_3 rfl) rfl rfl <| .e (.load ag25 rfl (.there <| .here) rfl) rfl rfl <| .e (.build bs27 zv27 rfl rfl) rfl rfl <| .on rfl <| .alloc zr27 rfl fun c3 _ _ => ?_
  refine .on rfl <| .storeW sz27 rfl rfl rfl rfl rfl rfl .here <| .nil <| .go <| .seq <| .seq <| .region ?_
  refine .e (.fieldAddr fo27_0 rfl) rfl rfl <| .e (.load ag22 rfl (.there <| .there <| .here) rfl) rfl rfl <| .e (.len sl22 rfl rfl) rfl rfl <| .e (.move rfl) rfl rfl <| .nil <| .go ?_
  refine .block ?_
  refine .loopM [5, 14, 15, 16, 17, 18, 19, 20, 21, 22, 23, 24, 25] (fun s => b.nodes.length - s.1) (fun s => s.1 ≤ b.nodes.length ∧ OwnS 6 s.2.1 s.1 s.2.2.1 s.2.2.2.1 ∧ DR NodR 6 s.2.2.2.2 s.2.2.1 (b.nodes.take s.1) ∧ Imm.le I s.2.2.2.2) (fun s => [(14, .int .i64 s.1)]) (fun s => s.2.2.2.2) (fun s => s.2.2.2.1 ++ ((c3, .cells ⟨[s.2.1, .slice none 0 0, .slice none 0 0, .int .u64 b.fence]⟩ 27 (0, 0)) :: _)) (((0, .slice none 0 0, [], [], I) : Nat × Value × List Value × Own × Imm)) ⟨Nat.zero_le _, OwnS.nil, DR.nil, Imm.le_refl _⟩ ⟨rfl, trivial⟩ rfl rfl ?_
  intro ⟨kn, vnL, wsnL, obnL, Jn⟩ hkn
  dsimp only at hkn ⊢
  obtain ⟨hkn, honL, hdnL, hJn⟩ := hkn
  obtain ⟨adnL, capnL, rfl⟩ := honL.form
  refine .seq <| .region <| .e (.lss rfl rfl) rfl rfl <| .nil <| .go <| .seq ?_
  refine .split 15 rfl (fun h15 => ?_) (fun h15 => ?_)
  · skip
    replace h15 := of_decide_eq_true h15
    refine .cond_true rfl <| .skip <| .go <| .seq <| .block <| .seq ?_
    refine .region ?_
    obtain ⟨eb16, eo16, cs16, hd16, hat16, hr16⟩ := SlR.at_ (NodsR.mono hJn hnv0) (k := kn) (by omega)
    cases hd16
    have hn16 := hr16
    obtain ⟨xf16, xg16, rfl, hxf16, hxg16⟩ := hr16.ex
    obtain ⟨xh16, xi16, rfl, -⟩ := hxf16
    obtain ⟨xj16, xk16, rfl, -⟩ := hxg16
    refine .e (.indexAddrL sl22 rfl rfl rfl (by omega)) rfl rfl <| .e (.loadIA ag32 sz32 rfl hat16 rfl) rfl rfl <| .on rfl <| .alloc zr32 rfl fun c4 _ _ => .on rfl <| .storeW sz32 rfl rfl rfl rfl rfl rfl .here <| .nil <| .go ?_
    refine .draw [(c3, _), (c4, _)] mixed (.cons (.there <| .app <| .here) (.cons .here .nil)) ?_
    refine .t 0 rfl (.fieldAddr fo27_0 rfl) rfl rfl (by kernel_rfl) <| .t 1 rfl (.load ag22 rfl .here rfl) rfl rfl (by kernel_rfl) <| .t 2 rfl (.loadW ag32 sz32 rfl (.there <| .here) rfl) rfl rfl (by kernel_rfl) <| .one (i := 3) (by kernel_rfl) rfl rfl <| .call cal13 rfl rfl rfl (rCopyNode_ok hn16 (hM.nl _ (List.getElem_mem (by omega))).1 (hM.nl _ (List.getElem_mem (by omega))).2) fun v21 I21 O21 hI21 hK21 => ?_
    obtain ⟨cs21, hq21, hR21, rfl⟩ := hK21
    replace hq21 := hq21.symm
    subst hq21
    have hR21' := hR21
    obtain ⟨lv21, tv21, rfl, hl21, ht21⟩ := hR21'.ex
    obtain ⟨_, _, rfl, -⟩ := hl21
    obtain ⟨_, _, rfl, -⟩ := ht21
    refine ⟨(.cons (.there <| .app <| .here) (.cons .here .nil)), hI21, ?_⟩
    refine .one (i := 4) (by kernel_rfl) rfl rfl <| .buildSlice Tryz.underlying22 sz32 (by decide) (by decide) zv32 rfl rfl rfl rfl rfl fun c5 _ _ => ?_
    refine ⟨(.cons (.there <| .there <| .app <| .here) (.cons (.there <| .here) .nil)), hI21, ?_⟩
    refine .one (i := 5) (by kernel_rfl) rfl rfl <| .append Tryz.underlying22 Tryz.underlying22 sz32 by32 zv32 rfl rfl rfl (.there <| .there <| .front) honL ((OwnS.made (k := 6) rfl (by decide)).src (I := _) .here) rfl rfl (by omega) (by omega) rfl fun v23 ob23 ho23 => ?_
    refine ⟨(.cons (.app <| .there <| .there <| .here) (.cons (.app <| .there <| .here) .nil)), hI21, ?_⟩
    refine .t 6 rfl (.fieldAddr fo27_0 rfl) rfl rfl (by kernel_rfl) ?_
    obtain ⟨ad23, cap23, rfl⟩ := ho23.form
    refine .late (i := 7) (by kernel_rfl) (by kernel_rfl) (by kernel_rfl) rfl rfl <| .store sz22 rfl rfl rfl rfl rfl rfl (.app <| .there <| .there <| .here) <| .blk_normal <| .go <| .region <| .e (.add rfl rfl (by first | exact wrap_succ (by omega) | exact IntWalk.i64_in _ (by omega) | exact rfl)) rfl rfl <| .e (.move rfl) rfl rfl ?_
    refine .nil ?_
    refine .front1 (.app <| .here) ?_
    refine .tail ?_
    refine .front1 (.app <| .here) ?_
    refine .tail ?_
    exact .mid ((kn + 1, _, _, _, I21)) ⟨by dsimp only; omega, by dsimp only; omega, ho23, (by rw [List.take_succ_eq_append_getElem (show kn < b.nodes.length by omega)]; exact (hdnL.mono fun _ _ h => NodR.mono hI21 h).append (DR.single rfl hR21)), Imm.le_trans hJn hI21⟩ ⟨rfl, trivial⟩ rfl rfl (.pre 14 rfl (.app rfl .base))
  · skip
    replace h15 := of_decide_eq_false h15
    refine .cond_false rfl <| .exit <| .exit <| .exit <| .blk_exit <| .go ?_
    refine .seq <| .seq <| .region <| .e (.fieldAddr fo27_1 rfl) rfl rfl <| .e (.load ag23 rfl (.app <| .there <| .there <| .here) rfl) rfl rfl <| .e (.len sl23 rfl rfl) rfl rfl ?_
    refine .e (.move rfl) rfl rfl <| .nil <| .go <| .block ?_
    have ekn : kn = b.nodes.length := by omega
    subst ekn
    rw [List.take_length] at hdnL
    refine .loopM [7, 29, 30, 31, 32, 33, 34, 35, 36, 37, 38, 39, 40] (fun s => b.tasks.length - s.1) (fun s => s.1 ≤ b.tasks.length ∧ OwnS 9 s.2.1 s.1 s.2.2.1 s.2.2.2.1 ∧ DR TskR 9 s.2.2.2.2 s.2.2.1 (b.tasks.take s.1) ∧ Imm.le Jn s.2.2.2.2) (fun s => [(29, .int .i64 s.1)]) (fun s => s.2.2.2.2) (fun s => s.2.2.2.1 ++ (obnL ++ ((c3, .cells ⟨[.slice adnL b.nodes.length capnL, s.2.1, .slice none 0 0, .int .u64 b.fence]⟩ 27 (0, 0)) :: _))) (((0, .slice none 0 0, [], [], Jn) : Nat × Value × List Value × Own × Imm)) ⟨Nat.zero_le _, OwnS.nil, DR.nil, Imm.le_refl _⟩ ⟨rfl, trivial⟩ rfl rfl ?_
    intro ⟨kt, vtL, wstL, obtL, Jt⟩ hkt
    dsimp only at hkt ⊢
    obtain ⟨hkt, hotL, hdtL, hJt⟩ := hkt
    obtain ⟨adtL, captL, rfl⟩ := hotL.form
    refine .seq <| .region <| .e (.lss rfl rfl) rfl rfl <| .nil <| .go <| .seq ?_
    refine .split 30 rfl (fun h30 => ?_) (fun h30 => ?_)
    · skip
      replace h30 := of_decide_eq_true h30
      refine .cond_true rfl <| .skip <| .go <| .seq <| .block <| .seq ?_
      refine .region ?_
      obtain ⟨eb31, eo31, cs31, hd31, hat31, hr31⟩ := SlR.at_ (TsksR.mono (Imm.le_trans hJn hJt) htv0) (k := kt) (by omega)
      cases hd31
      have ht31 := hr31
      obtain ⟨xw31, xb31, rfl, hxw31, hxb31⟩ := hr31.ex
      obtain ⟨xa31, xc31, rfl, -⟩ := hxw31
      obtain ⟨xd31, xe31, rfl, -⟩ := hxb31
      refine .e (.indexAddrL sl23 rfl rfl rfl (by omega)) rfl rfl <| .e (.loadIA ag34 sz34 rfl hat31 rfl) rfl rfl <| .on rfl <| .alloc zr34 rfl fun c6 _ _ => .on rfl <| .storeW sz34 rfl rfl rfl rfl rfl rfl .here <| .nil <| .go ?_
      refine .draw [(c3, _), (c6, _)] mixed (.cons (.there <| .app <| .app <| .here) (.cons .here .nil)) ?_
      refine .t 0 rfl (.fieldAddr fo27_1 rfl) rfl rfl (by kernel_rfl) <| .t 1 rfl (.load ag23 rfl .here rfl) rfl rfl (by kernel_rfl) <| .t 2 rfl (.loadW ag34 sz34 rfl (.there <| .here) rfl) rfl rfl (by kernel_rfl) <| .one (i := 3) (by kernel_rfl) rfl rfl <| .call cal14 rfl rfl rfl (rCopyTask_ok ht31 (hM.tl _ (List.getElem_mem (by omega))).1 (hM.tl _ (List.getElem_mem (by omega))).2) fun v36 I36 O36 hI36 hK36 => ?_
      obtain ⟨cs36, hq36, hR36, rfl⟩ := hK36
      replace hq36 := hq36.symm
      subst hq36
      have hR36' := hR36
      obtain ⟨lv36, tv36, rfl, hl36, ht36⟩ := hR36'.ex
      obtain ⟨_, _, rfl, -⟩ := hl36
      obtain ⟨_, _, rfl, -⟩ := ht36
      refine ⟨(.cons (.there <| .app <| .app <| .here) (.cons .here .nil)), hI36, ?_⟩
      refine .one (i := 4) (by kernel_rfl) rfl rfl <| .buildSlice Tryz.underlying23 sz34 (by decide) (by decide) zv34 rfl rfl rfl rfl rfl fun c7 _ _ => ?_
      refine ⟨(.cons (.there <| .there <| .app <| .app <| .here) (.cons (.there <| .here) .nil)), hI36, ?_⟩
      refine .one (i := 5) (by kernel_rfl) rfl rfl <| .append Tryz.underlying23 Tryz.underlying23 sz34 by34 zv34 rfl rfl rfl (.there <| .there <| .front) hotL ((OwnS.made (k := 9) rfl (by decide)).src (I := _) .here) rfl rfl (by omega) (by omega) rfl fun v38 ob38 ho38 => ?_
      refine ⟨(.cons (.app <| .there <| .there <| .app <| .here) (.cons (.app <| .there <| .here) .nil)), hI36, ?_⟩
      refine .t 6 rfl (.fieldAddr fo27_1 rfl) rfl rfl (by kernel_rfl) ?_
      obtain ⟨ad38, cap38, rfl⟩ := ho38.form
      refine .late (i := 7) (by kernel_rfl) (by kernel_rfl) (by kernel_rfl) rfl rfl <| .store sz23 rfl rfl rfl rfl rfl rfl (.app <| .there <| .there <| .app <| .here) <| .blk_normal <| .go <| .region <| .e (.add rfl rfl (by first | exact wrap_succ (by omega) | exact IntWalk.i64_in _ (by omega) | exact rfl)) rfl rfl <| .e (.move rfl) rfl rfl ?_
      refine .nil ?_
      refine .front1 (.app <| .here) ?_
      refine .tail ?_
      refine .front1 (.app <| .here) ?_
      refine .tail ?_
      exact .mid ((kt + 1, _, _, _, I36)) ⟨by dsimp only; omega, by dsimp only; omega, ho38, (by rw [List.take_succ_eq_append_getElem (show kt < b.tasks.length by omega)]; exact (hdtL.mono fun _ _ h => TskR.mono hI36 h).append (DR.single rfl hR36)), Imm.le_trans hJt hI36⟩ ⟨rfl, trivial⟩ rfl rfl (.pre 14 rfl (.app rfl .base))
    · skip
      replace h30 := of_decide_eq_false h30
      refine .cond_false rfl <| .exit <| .exit <| .exit <| .blk_exit <| .go ?_
      refine .seq <| .region <| .e (.fieldAddr fo27_2 rfl) rfl rfl <| .e (.load ag24 rfl (.app <| .app <| .here) rfl) rfl rfl <| .e (.fieldAddr fo27_2 rfl) rfl rfl <| .e (.load ag24 rfl (.app <| .app <| .there <| .there <| .here) rfl) rfl rfl ?_
      have ekt : kt = b.tasks.length := by omega
      subst ekt
      obtain ⟨wsX, hsX, hdX⟩ := SlR.src (B := []) (fun _ _ h => BndR.len h) (BndsR.mono (Imm.le_trans hJn hJt) hbv0)
      refine .on rfl <| .append Tryz.underlying24 Tryz.underlying24 sz47 by47 zv47 rfl rfl rfl .nil OwnS.nil hsX.any hdX.1 (hdX.ones (by decide) fun _ _ h => BndR.ones h) (by omega) (by omega) rfl fun v45 ob45 ho45 => ?_
      rw [Nat.zero_add] at ho45
      obtain ⟨ad45, cap45, rfl⟩ := ho45.form
      refine .e (.fieldAddr fo27_2 rfl) rfl rfl <| .on rfl <| .store sz24 rfl rfl rfl rfl rfl rfl (.app <| .app <| .app <| .here) <| .nil <| .go <| .seq <| .region ?_
      refine .e (.loadW ag27 sz27 rfl (.app <| .app <| .app <| .here) rfl) rfl rfl <| .on rfl <| .storeW sz27 rfl rfl rfl rfl rfl rfl (.app <| .app <| .app <| .there <| .here) <| .nil <| .go <| .ret ?_
      refine .front (.app <| .front) ?_
      refine .front (.app <| .app <| .front) ?_
      refine Post.rets rfl (.agg rfl ag27 sz27 (.app <| .app <| .app <| .there <| .here) rfl .nil) rfl (Imm.le_trans hJn hJt) (fun w h => (Sat.tail (Sat.rem (Sat.tail (Sat.rem (Sat.tail (Sat.rem h (Rem.app <| Rem.app <| Rem.app <| Rem.here))) (Rem.app <| Rem.app <| Rem.app <| Rem.here))) (Rem.app <| Rem.app <| Rem.app <| Rem.here)))) ?_
      rw [List.take_length] at hdtL
      exact ⟨_, _, _, obnL, obtL, ob45, rfl, ⟨⟨_, honL, hdnL.mono fun _ _ h => h.mono hJt⟩, ⟨_, hotL, hdtL⟩, ⟨_, ho45, hdX⟩, hf⟩, rfl⟩

theorem bkM_of {b : Bk} (h : BkZ (fun b n => n * b ≤ reachBytes) (fun n => n ≤ reachBytes) b) : BkM b := by
  have hr : reachBytes ≤ 140737488351232 := by decide
  refine ⟨Nat.le_trans h.nodes.1 hr, Nat.le_trans h.tasks.1 hr, Nat.le_trans h.binds.1 hr, fun n hn => ⟨Nat.le_trans (h.nodes.2 n hn).labels.1 hr, Nat.le_trans (h.nodes.2 n hn).taints.1 hr⟩, fun t ht => ⟨Nat.le_trans (h.tasks.2 t ht).wants.1 hr, Nat.le_trans (h.tasks.2 t ht).bears.1 hr⟩⟩

theorem rcopyF {I : Imm} {O : Own} {kc : List Value} {b : Bk} (hk : BkR I kc b) (hM : BkM b) : Go.Sy.Does Tryz.prog 6 [.agg ⟨kc⟩] I O (FB (fun cs => .agg ⟨cs⟩) b O) := frzBk (U := fun cs => .agg ⟨cs⟩) (rbCopy_ok hk hM)

set_option maxHeartbeats 16000000 in
set_option maxRecDepth 20000 in
theorem BookOwn_ok {I : Imm} {O : Own} {kc : List Value} {b : Bk} (hk : BkR I kc b) (hM : BkM b) {oc : List Value} {o : Ordr} (ho : OrdrR I oc o) (hS : OrdS o) :
    Pure Tryz.prog 3 [.agg ⟨kc⟩, .agg ⟨oc⟩] I O (.bool true) := by
  have hk0 := hk
  obtain ⟨nv, tv, bv, rfl, hnv, htv, hbv⟩ := hk.ex
  have hnv0 := hnv
  have htv0 := htv
  have hbv0 := hbv
  obtain ⟨na, ncap, rfl, hn1, hn2, -⟩ := hnv
  obtain ⟨ta, tcap, rfl, ht1, ht2, -⟩ := htv
  obtain ⟨ba, bcap, rfl, hb1, hb2, -⟩ := hbv
  have ho0 := ho
  obtain ⟨lv, tv, wv, bv, rfl, hon, holv, hotv, hot, howv, hobv⟩ := ho.ex
  have hkd := ho0.kind
  obtain ⟨olva, olvc, rfl, -⟩ := holv
  obtain ⟨otva, otvc, rfl, -⟩ := hotv
  obtain ⟨owva, owvc, rfl, -⟩ := howv
  obtain ⟨obva, obvc, rfl, -⟩ := hobv
  refine Go.Sy.Does.enter Tryz.func3 rfl Tryz.ntmps3 rfl ?_
  refine .seq <| .region <| .on rfl <| .box rfl rfl rfl fun c1 _ _ => .on rfl <| .box rfl rfl rfl fun c2 _ _ => .e (.assign rfl) rfl rfl <| .nil ?_
  refine .go <| .seq <| .seq <| .region <| .on rfl <| .callP cal5 rfl rfl rfl (lives_ok) <| .e (.not rfl) rfl rfl ?_
  refine .nil <| .go <| .cond_false rfl <| .skip <| .go <| .seq ?_
  refine .region <| .e (.loadW ag27 sz27 rfl (.there <| .here) rfl) rfl rfl <| .on rfl <| .call cal6 rfl rfl rfl (rcopyF hk0 hM) fun v15 K O15 hI15 hK15 => ?_
  obtain ⟨rfl, cs15, rfl, hb15⟩ := hK15
  have hb150 := hb15
  obtain ⟨nv15, tv15, bv15, rfl, hn15, ht15, hx15⟩ := hb15.ex
  obtain ⟨_, _, rfl, -⟩ := hn15
  obtain ⟨_, _, rfl, htl15, -⟩ := ht15
  obtain ⟨_, _, rfl, -⟩ := hx15
  have hIK := hI15
  refine .on rfl <| .alloc zr27 rfl fun c3 _ _ => .on rfl <| .storeW sz27 rfl rfl rfl rfl rfl rfl .here <| .nil <| .go <| .seq <| .region ?_
  refine .e (.loadW ag27 sz27 rfl (.there <| .there <| .here) rfl) rfl rfl <| .e (.loadW ag36 sz36 rfl (.there <| .here) rfl) rfl rfl <| .on rfl <| .call cal7 rfl rfl rfl (bDoF_ok (hk0.mono hIK) (ho0.mono hIK) hS) fun v19 I19 O19 hI19 hK19 => ?_
  generalize doR b o = R at hK19
  obtain ⟨nvR, tvR, bvR, obN, obT, obB, rfl, hk19, rfl⟩ := hK19
  obtain ⟨⟨wsN, hoN, hdN⟩, ⟨wsT, hoT, hdT⟩, ⟨wsB, hoB, hdB⟩, hfR⟩ := hk19
  obtain ⟨adN, capN, rfl⟩ := hoN.form
  obtain ⟨adT, capT, rfl⟩ := hoT.form
  obtain ⟨adB, capB, rfl⟩ := hoB.form
  have hxN := RowY.nod hdN
  have hxT := RowZ.of hdT
  have hzT := hoT.lenLe
  have hzB := hoB.lenLe
  have hzN := hoN.lenLe
  refine .e (.move rfl) rfl rfl <| .e (.extract rfl rfl) rfl rfl <| .e (.extract rfl rfl) rfl rfl <| .on rfl <| .alloc zr27 rfl fun c4 _ _ => .on rfl <| .alloc zr41 rfl fun c5 _ _ => .on rfl <| .storeW sz27 rfl rfl rfl rfl rfl rfl (.there <| .here) ?_
  refine .on rfl <| .storeW sz41 rfl rfl rfl rfl rfl rfl .here <| .nil <| .go <| .seq <| .seq <| .region ?_
  refine .e (.fieldAddr fo27_0 rfl) rfl rfl <| .e (.load ag22 rfl (.there <| .here) rfl) rfl rfl <| .e (.len sl22 rfl rfl) rfl rfl <| .e (.move rfl) rfl rfl <| .nil <| .go ?_
  refine .block ?_
  refine .front (.there <| .there <| .front) ?_
  refine .loopM [8, 9, 25, 26, 27, 28, 29, 30, 31, 32, 33, 34, 35, 36, 37, 38, 39, 40, 41, 42, 43, 44, 45, 46, 47, 48, 49, 50, 51, 52, 53] (fun s => R.1.nodes.length - s.1) (fun s => s.1 ≤ R.1.nodes.length ∧ OwnS 6 (.slice adN R.1.nodes.length capN) R.1.nodes.length s.2.1 s.2.2.1 ∧ RowY 6 4 K s.2.2.2 R.1.nodes.length s.2.1 ∧ K.le s.2.2.2 ∧ I.le s.2.2.2) (fun s => [(25, .int .i64 s.1)]) (fun s => s.2.2.2) (fun s => s.2.2.1 ++ _) (((0, wsN, obN, I19) : Nat × List Value × Own × Imm)) ⟨Nat.zero_le _, hoN, hxN, hI19, (Imm.le_trans hIK hI19)⟩ ⟨rfl, trivial⟩ rfl rfl ?_
  intro ⟨k, wsA, obA, J1⟩ hk
  dsimp only at hk ⊢
  obtain ⟨hk, hoA, hxA, hKJ1, hJ1⟩ := hk
  refine .seq <| .region <| .e (.lss rfl rfl) rfl rfl <| .nil <| .go <| .seq ?_
  refine .split 26 rfl (fun h26 => ?_) (fun h26 => ?_)
  · skip
    replace h26 := of_decide_eq_true h26
    refine .cond_true rfl <| .skip <| .go <| .seq <| .block <| .seq ?_
    refine .region ?_
    obtain ⟨_, h0, _, _⟩ | ⟨bA, cpA, csA, TA, hv5, rfl, hc1, hc2, hc3, hc4, hc5⟩ := hoA
    · omega
    cases hv5
    simp only [@List.singleton_append (Nat × Obj)]
    have hclA : k * 6 + 6 ≤ csA.length := by have := Nat.mul_le_mul_right 6 hc1; omega
    obtain ⟨mvA, hceA, hfrA⟩ := hxA.2 k (by omega)
    obtain ⟨madA, mmA, mcapA, rfl⟩ := hfrA.isSl
    have hm4A := cellY hc3 hceA
    refine .e (.move rfl) rfl rfl <| .e (.assign rfl) rfl rfl <| .nil <| .go <| .seq <| .region ?_
    refine .e (.fieldAddr fo27_0 rfl) rfl rfl <| .e (.load ag22 rfl (.there <| .there <| .here) rfl) rfl rfl <| .e (.move rfl) rfl rfl <| .e (.indexAddrL sl22 rfl rfl rfl (by omega)) rfl rfl <| .e (.fieldAddr fo32_0 rfl) rfl rfl <| .on rfl <| .store sz9 rfl rfl rfl rfl rfl (Nat.ble_eq_true_of_le (by simp; omega)) .here ?_
    refine .nil <| .go <| .seq <| .region ?_
    have hoAN := own_setY (T := TA) (b := bA) (q := 0) (.string ⟨#[115, 112, 111, 105, 108, 116]⟩) hc3 (show k < R.1.nodes.length by omega) (by decide) hc1 hc2 hc4 hc5
    have hm4N := cell_setY (v := .string ⟨#[115, 112, 111, 105, 108, 116]⟩) (m := 6) (p := 4) (q := 0) (by decide) (by decide) (by decide) (show k * 6 + 0 < csA.length by omega) hm4A
    refine .e (.fieldAddr fo27_0 rfl) rfl rfl <| .e (.load ag22 rfl (.there <| .there <| .here) rfl) rfl rfl <| .e (.move rfl) rfl rfl <| .e (.indexAddrL sl22 rfl rfl rfl (by omega)) rfl rfl <| .e (.fieldAddr fo32_2 rfl) rfl rfl <| .e (.load ag30 rfl .here ((List.getElem?_toArray).trans hm4N)) rfl rfl ?_
    refine .e (.len sl30 rfl rfl) rfl rfl <| .e (.move rfl) rfl rfl <| .nil <| .go <| .block ?_
    refine .loopM [9, 40, 41, 42, 43, 44, 45, 46, 47, 48, 49, 50, 51, 52] (fun s => mmA - s.1) (fun s => s.1 ≤ mmA ∧ K.le s.2 ∧ I.le s.2 ∧ Turned K J1 s.2) (fun s => [(40, .int .i64 s.1)]) (fun s => s.2) (fun _ => _) (((0, J1) : Nat × Imm)) ⟨Nat.zero_le _, hKJ1, hJ1, Turned.le (Imm.le_refl _)⟩ ⟨rfl, trivial⟩ rfl rfl ?_
    intro ⟨q, J2⟩ hq
    dsimp only at hq ⊢
    obtain ⟨hq, hKJ2, hJ2, hTJ2⟩ := hq
    refine .seq <| .region <| .e (.lss rfl rfl) rfl rfl <| .nil <| .go <| .seq ?_
    refine .split 41 rfl (fun h41 => ?_) (fun h41 => ?_)
    · skip
      replace h41 := of_decide_eq_true h41
      refine .cond_true rfl <| .skip <| .go <| .seq <| .block <| .seq ?_
      refine .region <| .e (.move rfl) rfl rfl <| .e (.assign rfl) rfl rfl <| .nil <| .go <| .region ?_
      refine .e (.fieldAddr fo27_0 rfl) rfl rfl <| .e (.load ag22 rfl (.there <| .there <| .here) rfl) rfl rfl ?_
      obtain ⟨mb, mcs, mT, hmd, hmI, hmJ, hml, hm63⟩ := FrK.at_ (q := q) (hfrA.turn hTJ2) (by omega)
      have hmN : I mb = none := by
        cases e : I mb with
        | none => rfl
        | some o => rw [hIK.row _ _ e] at hmI; cases hmI
      subst hmd
      refine .e (.move rfl) rfl rfl <| .e (.indexAddrL sl22 rfl rfl rfl (by omega)) rfl rfl <| .e (.fieldAddr fo32_2 rfl) rfl rfl <| .e (.load ag30 rfl .here ((List.getElem?_toArray).trans hm4N)) rfl rfl <| .e (.move rfl) rfl rfl <| .e (.indexAddrL sl30 rfl rfl rfl (by omega)) rfl rfl ?_
      refine .e (.fieldAddr fo45_0 rfl) rfl rfl ?_
      refine .melt hmJ ?_
      refine .on rfl <| .store sz9 rfl rfl rfl rfl rfl (Nat.ble_eq_true_of_le (by simp; omega)) .here <| .nil <| .blk_normal <| .go <| .region <| .e (.add rfl rfl (by first | exact wrap_succ (by omega) | exact IntWalk.i64_in _ (by omega) | exact rfl)) rfl rfl ?_
      refine .e (.move rfl) rfl rfl <| .nil ?_
      refine .freeze fun G hG hGb => ?_
      exact .mid ((q + 1, G)) ⟨by dsimp only; omega, by dsimp only; omega, Imm.le_trans (Imm.le_erase hKJ2 hmI) hG, Imm.le_trans (Imm.le_erase hJ2 hmN) hG, hTJ2.trans (Turned.one hmJ (by rw [setL_length (by simp; omega)]) hG hGb)⟩ ⟨rfl, trivial⟩ rfl rfl (.pre 15 rfl (.app rfl .base))
    · skip
      replace h41 := of_decide_eq_false h41
      refine .cond_false rfl <| .exit <| .exit <| .exit <| .blk_exit <| .blk_normal ?_
      refine .go <| .region <| .e (.add rfl rfl (by first | exact wrap_succ (by omega) | exact IntWalk.i64_in _ (by omega) | exact rfl)) rfl rfl <| .e (.move rfl) rfl rfl <| .nil ?_
      exact .mid ((k + 1, _, _, J2)) ⟨by dsimp only; omega, by dsimp only; omega, hoAN, (hxA.set_ _ (by decide) (by decide) (by decide)).turn hTJ2, hKJ2, hJ2⟩ ⟨rfl, trivial⟩ rfl rfl (.pre 4 rfl (.app rfl (.del rfl (.pre 17 rfl (.app rfl .base)))))
  · skip
    replace h26 := of_decide_eq_false h26
    refine .cond_false rfl <| .exit <| .exit <| .exit <| .blk_exit <| .go ?_
    refine .seq <| .seq <| .region <| .e (.fieldAddr fo27_1 rfl) rfl rfl <| .e (.load ag23 rfl (.app <| .there <| .here) rfl) rfl rfl <| .e (.len sl23 rfl rfl) rfl rfl ?_
    refine .e (.move rfl) rfl rfl <| .nil <| .go <| .block ?_
    refine .front (.app <| .there <| .there <| .front) ?_
    refine .loopM [10, 57, 58, 59, 60, 61, 62, 63, 64, 65, 66, 67, 68, 69] (fun s => R.1.tasks.length - s.1) (fun s => s.1 ≤ R.1.tasks.length ∧ OwnS 9 (.slice adT R.1.tasks.length capT) R.1.tasks.length s.2.1 s.2.2 ∧ RowZ R.1.tasks.length s.2.1) (fun s => [(57, .int .i64 s.1)]) (fun _ => _) (fun s => s.2.2 ++ _) (((0, wsT, obT) : Nat × List Value × Own)) ⟨Nat.zero_le _, hoT, hxT⟩ ⟨rfl, trivial⟩ rfl rfl ?_
    intro ⟨k, wsD, obD⟩ hk
    dsimp only at hk ⊢
    obtain ⟨hk, hoD, hxD⟩ := hk
    refine .seq <| .region <| .e (.lss rfl rfl) rfl rfl <| .nil <| .go <| .seq ?_
    refine .split 58 rfl (fun h58 => ?_) (fun h58 => ?_)
    · skip
      replace h58 := of_decide_eq_true h58
      refine .cond_true rfl <| .skip <| .go <| .seq <| .block <| .seq ?_
      refine .region ?_
      obtain ⟨_, h0, _, _⟩ | ⟨bD, cpD, csD, TD, hv5, rfl, hc1, hc2, hc3, hc4, hc5⟩ := hoD
      · omega
      cases hv5
      simp only [@List.singleton_append (Nat × Obj)]
      have hclD : k * 9 + 9 ≤ csD.length := by have := Nat.mul_le_mul_right 9 hc1; omega
      obtain ⟨zD, hzD⟩ := hxD.2 k (by omega)
      have hm8D := cellY hc3 hzD
      refine .e (.move rfl) rfl rfl <| .e (.assign rfl) rfl rfl <| .nil <| .go <| .region <| .e (.fieldAddr fo27_1 rfl) rfl rfl ?_
      refine .e (.load ag23 rfl (.there <| .app <| .there <| .here) rfl) rfl rfl <| .e (.move rfl) rfl rfl <| .e (.indexAddrL sl23 rfl rfl rfl (by omega)) rfl rfl <| .e (.fieldAddr fo34_6 rfl) rfl rfl <| .e (.load (v := .int .i64 zD) ag3 rfl .here ((List.getElem?_toArray).trans hm8D)) rfl rfl <| .e (.add rfl rfl rfl) rfl rfl ?_
      refine .e (.indexAddrL sl23 rfl rfl rfl (by omega)) rfl rfl <| .e (.fieldAddr fo34_6 rfl) rfl rfl <| .on rfl <| .store sz3 rfl rfl rfl rfl rfl (Nat.ble_eq_true_of_le (by simp; omega)) .here <| .nil <| .blk_normal <| .go ?_
      refine .region ?_
      have hoDN := own_setY (T := TD) (b := bD) (q := 8) (.int .i64 (IntKind.i64.wrap (zD + 5))) hc3 (show k < R.1.tasks.length by omega) (by decide) hc1 hc2 hc4 hc5
      refine .e (.add rfl rfl (by first | exact wrap_succ (by omega) | exact IntWalk.i64_in _ (by omega) | exact rfl)) rfl rfl <| .e (.move rfl) rfl rfl <| .nil ?_
      exact .mid ((k + 1, _, _)) ⟨by dsimp only; omega, by dsimp only; omega, hoDN, hxD.set_ _⟩ ⟨rfl, trivial⟩ rfl rfl (.pre 15 rfl (.app rfl .base))
    · skip
      replace h58 := of_decide_eq_false h58
      refine .cond_false rfl <| .exit <| .exit <| .exit <| .blk_exit <| .go ?_
      refine .seq <| .seq <| .region <| .e (.fieldAddr fo27_2 rfl) rfl rfl <| .e (.load ag24 rfl (.app <| .app <| .there <| .here) rfl) rfl rfl <| .e (.len sl24 rfl rfl) rfl rfl ?_
      refine .e (.move rfl) rfl rfl <| .nil <| .go <| .block ?_
      refine .front (.app <| .app <| .there <| .there <| .front) ?_
      refine .loopM [11, 73, 74, 75, 76, 77, 78, 79, 80, 81] (fun s => R.1.binds.length - s.1) (fun s => s.1 ≤ R.1.binds.length ∧ OwnS 2 (.slice adB R.1.binds.length capB) R.1.binds.length s.2.1 s.2.2) (fun s => [(73, .int .i64 s.1)]) (fun _ => _) (fun s => s.2.2 ++ _) (((0, wsB, obB) : Nat × List Value × Own)) ⟨Nat.zero_le _, hoB⟩ ⟨rfl, trivial⟩ rfl rfl ?_
      intro ⟨k, wsE, obE⟩ hk
      dsimp only at hk ⊢
      obtain ⟨hk, hoE⟩ := hk
      refine .seq <| .region <| .e (.lss rfl rfl) rfl rfl <| .nil <| .go <| .seq ?_
      refine .split 74 rfl (fun h74 => ?_) (fun h74 => ?_)
      · skip
        replace h74 := of_decide_eq_true h74
        refine .cond_true rfl <| .skip <| .go <| .seq <| .block <| .seq ?_
        refine .region ?_
        obtain ⟨_, h0, _, _⟩ | ⟨bE, cpE, csE, TE, hv5, rfl, hc1, hc2, hc3, hc4, hc5⟩ := hoE
        · omega
        cases hv5
        simp only [@List.singleton_append (Nat × Obj)]
        have hclE : k * 2 + 2 ≤ csE.length := by have := Nat.mul_le_mul_right 2 hc1; omega
        refine .e (.move rfl) rfl rfl <| .e (.assign rfl) rfl rfl <| .nil <| .go <| .region <| .e (.fieldAddr fo27_2 rfl) rfl rfl ?_
        refine .e (.load ag24 rfl (.there <| .app <| .app <| .there <| .here) rfl) rfl rfl <| .e (.move rfl) rfl rfl <| .e (.indexAddrL sl24 rfl rfl rfl (by omega)) rfl rfl <| .e (.fieldAddr fo47_1 rfl) rfl rfl <| .on rfl <| .store sz9 rfl rfl rfl rfl rfl (Nat.ble_eq_true_of_le (by simp; omega)) .here <| .nil ?_
        refine .blk_normal <| .go <| .region ?_
        have hoEN := own_setY (T := TE) (b := bE) (q := 1) (.string ⟨#[115, 112, 111, 105, 108, 116]⟩) hc3 (show k < R.1.binds.length by omega) (by decide) hc1 hc2 hc4 hc5
        refine .e (.add rfl rfl (by first | exact wrap_succ (by omega) | exact IntWalk.i64_in _ (by omega) | exact rfl)) rfl rfl <| .e (.move rfl) rfl rfl <| .nil ?_
        exact .mid ((k + 1, _, _)) ⟨by dsimp only; omega, by dsimp only; omega, hoEN⟩ ⟨rfl, trivial⟩ rfl rfl (.pre 11 rfl (.app rfl .base))
      · skip
        replace h74 := of_decide_eq_false h74
        refine .cond_false rfl <| .exit <| .exit <| .exit <| .blk_exit <| .go ?_
        refine .seq <| .region <| .e (.loadW ag27 sz27 rfl (.app <| .app <| .app <| .there <| .there <| .there <| .there <| .here) rfl) rfl rfl <| .e (.loadW ag27 sz27 rfl (.app <| .app <| .app <| .there <| .there <| .here) rfl) rfl rfl <| .on rfl <| .callP cal8 rfl rfl rfl ((sameBk_ok (hk0.mono hJ1) (hb150.mono hKJ1)).cast (congrArg Value.bool (decide_eq_true (rfl)))) <| .e (.assign rfl) rfl rfl ?_
        refine .nil <| .go <| .ret ?_
        refine .drop <| .drop <| .drop <| .tail <| .tail <| .tail ?_
        refine .tail <| .tail ?_
        refine .back hJ1 ?_
        refine Post.retE rfl rfl ?_
        rfl

end Go.Proofs.YtajpakifkinadaaGreatDoor
