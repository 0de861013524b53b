/- Walks of functions over a symbolic memory, printed by a program of the session. -/
import Derived.Test.YtcojkkndmholaaaGreatDoorBo
namespace Go.Proofs.YtcojkkndmholaaaGreatDoor
open Go.Sy
set_option linter.unusedSimpArgs false
set_option linter.unusedVariables false

def ixN (b : Bk) (s : ByteArray) : Int := idxOf (fun x : Nod => decide (x.name = s)) b.nodes
def ixT (b : Bk) (s : ByteArray) : Int := idxOf (fun x : Tsk => decide (x.name = s)) b.tasks
section
variable {α : Type} {nm : α → ByteArray}
theorem ix_pos {l : List α} {s : ByteArray} (hr : Rising nm l) (h : hasBy nm l s = true) : idxOf (fun x => decide (nm x = s)) l = (posBy nm l s : Int) := by
  obtain ⟨hk, hs⟩ := has_get hr h
  refine idxOf_some hk ?_ (by simpa using hs)
  rw [List.any_eq_false]
  intro x hx h2
  have h3 := take_lt hx
  rw [decide_eq_true_eq] at h2
  rw [h2, lt_irr] at h3; cases h3
theorem ix_neg {l : List α} {s : ByteArray} (h : hasBy nm l s = false) : idxOf (fun x => decide (nm x = s)) l = -1 := idxOf_none h
theorem ix_lt {l : List α} {s : ByteArray} : decide (idxOf (fun x => decide (nm x = s)) l < 0) = !hasBy nm l s := by
  have h := idxOf_ge (p := fun x : α => decide (nm x = s)) (l := l)
  unfold hasBy
  rw [← h, ← decide_not]
  exact decide_eq_decide.2 (by omega)
/-- each and its order behind the one ahead, up to k -/
def adjOk (nm : α → ByteArray) (bad : α → Bool) (l : List α) (i : Nat) : Bool := match l[i]? with
  | some x => !bad x && (decide (i = 0) || match l[i - 1]? with | some y => slt (nm y) (nm x) | none => true)
  | none => true
def adjTo (nm : α → ByteArray) (bad : α → Bool) (l : List α) (k : Nat) : Bool := (List.range k).all (adjOk nm bad l)
theorem adjOk_at {bad : α → Bool} {l : List α} {i : Nat} (hi : i < l.length) : adjOk nm bad l i = (!bad l[i] && (decide (i = 0) || slt (nm (l[i - 1]'(by omega))) (nm l[i]))) := by
  unfold adjOk
  rw [List.getElem?_eq_getElem hi, List.getElem?_eq_getElem (show i - 1 < l.length by omega)]
theorem adj_step {bad : α → Bool} {l : List α} {k : Nat} (h : adjTo nm bad l k = true) (h2 : adjOk nm bad l k = true) : adjTo nm bad l (k + 1) = true := by
  unfold adjTo at *; rw [List.range_succ, List.all_append, h]; simp [h2]
theorem adj_end {bad : α → Bool} {l : List α} : adjTo nm bad l l.length = (!l.any bad && risingB nm l) := by
  rw [Bool.eq_iff_iff, Bool.and_eq_true]
  unfold adjTo
  rw [List.all_eq_true]
  constructor
  · intro h
    have h1 : ∀ i (hi : i < l.length), bad l[i] = false ∧ (i = 0 ∨ slt (nm (l[i - 1]'(by omega))) (nm l[i]) = true) := fun i hi => by
      have := h i (List.mem_range.2 hi)
      rw [adjOk_at hi] at this
      simpa using this
    refine ⟨?_, ?_⟩
    · rw [Bool.not_eq_true', List.any_eq_false]
      intro x hx
      obtain ⟨i, hi, rfl⟩ := List.mem_iff_getElem.1 hx
      simp [(h1 i hi).1]
    · unfold risingB
      rw [List.all_eq_true]
      intro i hi
      rw [List.mem_range] at hi
      unfold risAt
      rw [List.getElem?_eq_getElem (show i < l.length by omega), List.getElem?_eq_getElem (show i + 1 < l.length by omega)]
      exact (h1 (i + 1) (by omega)).2.resolve_left (by omega)
  · rintro ⟨h1, h2⟩ i hi
    rw [List.mem_range] at hi
    rw [adjOk_at hi]
    rw [Bool.not_eq_true', List.any_eq_false] at h1
    have h3 := h1 l[i] (List.getElem_mem hi)
    rcases Nat.eq_zero_or_pos i with h | h
    · have h4 : bad l[i] = false := by simpa using h3
      rw [h4]; simp [h]
    · have := rising_of h2 (i - 1) i (by omega) hi (by omega)
      simp [h3, this]
theorem adj_bad {bad : α → Bool} {l : List α} {k : Nat} (hk : k < l.length) (h : adjOk nm bad l k = false) : adjTo nm bad l l.length = false := by
  rw [Bool.eq_false_iff]; intro h2
  unfold adjTo at h2
  have := List.all_eq_true.1 h2 k (List.mem_range.2 hk)
  rw [h] at this; cases this
end
def listedB (b : Bk) : Bool := decide (b.nodes.length ≤ 16) && (decide (b.tasks.length ≤ 32) && (adjTo (fun x : Nod => x.name) badN b.nodes b.nodes.length && (adjTo (fun x : Tsk => x.name) badK b.tasks b.tasks.length && adjTo (fun x : Bnd => x.task) (badX b) b.binds b.binds.length)))
theorem listed_ok {b : Bk} : bookOk b = (listedB b && !b.nodes.any fun n => !wellR b n) := by
  unfold bookOk listedB
  rw [adj_end, adj_end, adj_end]
  cases decide (b.nodes.length ≤ 16) <;> cases decide (b.tasks.length ≤ 32) <;> cases b.nodes.any badN <;> cases b.tasks.any badK <;> cases b.binds.any (badX b) <;> cases risingB (fun x : Nod => x.name) b.nodes <;> cases risingB (fun x : Tsk => x.name) b.tasks <;> cases risingB (fun x : Bnd => x.task) b.binds <;> rfl
structure Listed (b : Bk) : Prop where
  nodes : b.nodes.length ≤ 16
  tasks : b.tasks.length ≤ 32
  rt : Rising (fun x : Tsk => x.name) b.tasks
  nod : ∀ n ∈ b.nodes, nodWhy n = 0
  bnd : ∀ x ∈ b.binds, hasBy (fun x : Tsk => x.name) b.tasks x.task = true
  binds : b.binds.length ≤ 32
theorem Listed.of {b : Bk} (h : listedB b = true) : Listed b := by
  unfold listedB at h
  rw [adj_end, adj_end, adj_end] at h
  simp only [Bool.and_eq_true, Bool.not_eq_true', decide_eq_true_eq] at h
  obtain ⟨h1, h2, ⟨h3, h4⟩, ⟨h5, h6⟩, h7, h8⟩ := h
  refine ⟨h1, h2, rising_of h6, fun n hn => ?_, fun x hx => ?_, binds_few h2 h8 h7⟩
  · simpa [badN] using List.any_eq_false.1 h3 n hn
  · have := List.any_eq_false.1 h7 x hx
    simp only [badX, Bool.or_eq_true, Bool.not_eq_true', not_or, Bool.not_eq_false] at this
    exact this.2
theorem Listed.ok {b : Bk} (h : BookOk b) : Listed b := ⟨h.nodes, h.tasks, h.rt, h.nod, fun x hx => (h.bnd x hx).2, h.binds⟩

set_option maxHeartbeats 1000000 in
set_option maxRecDepth 20000 in
theorem rixN_ok {I : Imm} {O : Own} {kc : List Value} {b : Bk} (hk : BkR I kc b) {s : ByteArray} :
    Pure Tryz.prog 67 [.agg ⟨kc⟩, .string s] I O (.int .i64 (ixN b s)) := by
  have hk0 := hk
  obtain ⟨nv, tv, bv, rfl, hnv, htv, hbv⟩ := hk.ex
  have hnv0 := hnv
  have htv0 := htv
  have hbv0 := hbv
  obtain ⟨na, ncap, rfl, hn1, hn2, -⟩ := hnv
  obtain ⟨ta, tcap, rfl, ht1, ht2, -⟩ := htv
  obtain ⟨ba, bcap, rfl, hb1, hb2, -⟩ := hbv
  refine Go.Sy.Does.enter Tryz.func67 rfl Tryz.ntmps67 rfl ?_
  refine .seq <| .region <| .on rfl <| .box rfl rfl rfl fun c1 _ _ => .e (.assign rfl) rfl rfl <| .nil <| .go ?_
  refine .seq <| .seq <| .region <| .e (.fieldAddr fo27_0 rfl) rfl rfl <| .e (.load ag22 rfl .here rfl) rfl rfl <| .e (.len sl22 rfl rfl) rfl rfl ?_
  refine .e (.move rfl) rfl rfl <| .nil <| .go <| .block ?_
  refine .loopM [4, 5, 6, 10, 11, 12, 13, 14, 15, 16, 17, 18, 19, 20] (fun k => b.nodes.length - k) (fun k => k ≤ b.nodes.length ∧ (b.nodes.take k).any (fun x : Nod => decide (x.name = s)) = false) (fun k => [(10, .int .i64 k)]) (fun _ => _) (fun _ => _) (0) ⟨Nat.zero_le _, rfl⟩ ⟨rfl, trivial⟩ rfl rfl ?_
  intro k hk
  obtain ⟨hk, hw⟩ := hk
  refine .seq <| .region <| .e (.lss rfl rfl) rfl rfl <| .nil <| .go <| .seq ?_
  refine .split 11 rfl (fun h11 => ?_) (fun h11 => ?_)
  · skip
    replace h11 := of_decide_eq_true h11
    refine .cond_true rfl <| .skip <| .go <| .seq <| .block <| .seq ?_
    refine .region <| .e (.move rfl) rfl rfl ?_
    obtain ⟨eb13, eo13, cs13, hd13, hat13, hr13⟩ := SlR.at_ hnv0 (k := k) (by omega)
    cases hd13
    have hn13 := hr13
    obtain ⟨xf13, xg13, rfl, hxf13, hxg13⟩ := hr13.ex
    obtain ⟨xh13, xi13, rfl, -⟩ := hxf13
    obtain ⟨xj13, xk13, rfl, -⟩ := hxg13
    refine .e (.indexAddrL sl22 rfl rfl rfl (by omega)) rfl rfl <| .e (.loadIA ag32 sz32 rfl hat13 rfl) rfl rfl <| .on rfl <| .alloc zr32 rfl fun c2 _ _ => .e (.assign rfl) rfl rfl <| .on rfl <| .storeW sz32 rfl rfl rfl rfl rfl rfl .here <| .nil ?_
    refine .go <| .seq <| .region <| .e (.fieldAddr fo32_0 rfl) rfl rfl <| .e (.load ag9 rfl .here rfl) rfl rfl <| .e (.move rfl) rfl rfl ?_
    refine .e (.streq rfl rfl) rfl rfl <| .nil <| .go ?_
    refine .split 18 rfl (fun h18 => ?_) (fun h18 => ?_)
    · skip
      replace h18 := of_decide_eq_true h18
      refine .cond_true rfl <| .seq <| .region <| .e (.move rfl) rfl rfl <| .e (.assign rfl) rfl rfl <| .nil ?_
      refine .go <| .ret <| .blk_ret <| .ret <| .ret <| .blk_ret ?_
      refine .ret ?_
      refine .tail <| .tail ?_
      refine Post.retE rfl rfl ?_
      exact congrArg (Value.int .i64) (idxOf_some (by omega) hw (decide_eq_true h18)).symm
    · skip
      replace h18 := of_decide_eq_false h18
      refine .cond_false rfl <| .skip <| .blk_normal <| .go <| .region <| .e (.add rfl rfl (by first | exact wrap_succ (by omega) | exact IntWalk.i64_in _ (by omega) | exact rfl)) rfl rfl ?_
      refine .e (.move rfl) rfl rfl <| .nil ?_
      refine .tail ?_
      exact .mid (k + 1) ⟨by omega, by omega, any_take_step (by omega) hw (decide_eq_false h18)⟩ ⟨rfl, trivial⟩ rfl rfl (.pre 14 rfl (.app rfl .base))
  · skip
    replace h11 := of_decide_eq_false h11
    refine .cond_false rfl <| .exit <| .exit <| .exit <| .blk_exit <| .go ?_
    refine .seq <| .region <| .e (.assign rfl) rfl rfl <| .nil <| .go <| .ret ?_
    refine .tail ?_
    refine Post.retE rfl rfl ?_
    exact congrArg (Value.int .i64) (idxOf_none (any_take_all (by omega) hw)).symm

set_option maxHeartbeats 1000000 in
set_option maxRecDepth 20000 in
theorem rixT_ok {I : Imm} {O : Own} {kc : List Value} {b : Bk} (hk : BkR I kc b) {s : ByteArray} :
    Pure Tryz.prog 38 [.agg ⟨kc⟩, .string s] I O (.int .i64 (ixT b s)) := by
  have hk0 := hk
  obtain ⟨nv, tv, bv, rfl, hnv, htv, hbv⟩ := hk.ex
  have hnv0 := hnv
  have htv0 := htv
  have hbv0 := hbv
  obtain ⟨na, ncap, rfl, hn1, hn2, -⟩ := hnv
  obtain ⟨ta, tcap, rfl, ht1, ht2, -⟩ := htv
  obtain ⟨ba, bcap, rfl, hb1, hb2, -⟩ := hbv
  refine Go.Sy.Does.enter Tryz.func38 rfl Tryz.ntmps38 rfl ?_
  refine .seq <| .region <| .on rfl <| .box rfl rfl rfl fun c1 _ _ => .e (.assign rfl) rfl rfl <| .nil <| .go ?_
  refine .seq <| .seq <| .region <| .e (.fieldAddr fo27_1 rfl) rfl rfl <| .e (.load ag23 rfl .here rfl) rfl rfl <| .e (.len sl23 rfl rfl) rfl rfl ?_
  refine .e (.move rfl) rfl rfl <| .nil <| .go <| .block ?_
  refine .loopM [4, 5, 6, 10, 11, 12, 13, 14, 15, 16, 17, 18, 19, 20] (fun k => b.tasks.length - k) (fun k => k ≤ b.tasks.length ∧ (b.tasks.take k).any (fun x : Tsk => decide (x.name = s)) = false) (fun k => [(10, .int .i64 k)]) (fun _ => _) (fun _ => _) (0) ⟨Nat.zero_le _, rfl⟩ ⟨rfl, trivial⟩ rfl rfl ?_
  intro k hk
  obtain ⟨hk, hw⟩ := hk
  refine .seq <| .region <| .e (.lss rfl rfl) rfl rfl <| .nil <| .go <| .seq ?_
  refine .split 11 rfl (fun h11 => ?_) (fun h11 => ?_)
  · skip
    replace h11 := of_decide_eq_true h11
    refine .cond_true rfl <| .skip <| .go <| .seq <| .block <| .seq ?_
    refine .region <| .e (.move rfl) rfl rfl ?_
    obtain ⟨eb13, eo13, cs13, hd13, hat13, hr13⟩ := SlR.at_ htv0 (k := k) (by omega)
    cases hd13
    have ht13 := hr13
    obtain ⟨xw13, xb13, rfl, hxw13, hxb13⟩ := hr13.ex
    obtain ⟨xa13, xc13, rfl, -⟩ := hxw13
    obtain ⟨xd13, xe13, rfl, -⟩ := hxb13
    refine .e (.indexAddrL sl23 rfl rfl rfl (by omega)) rfl rfl <| .e (.loadIA ag34 sz34 rfl hat13 rfl) rfl rfl <| .on rfl <| .alloc zr34 rfl fun c2 _ _ => .e (.assign rfl) rfl rfl <| .on rfl <| .storeW sz34 rfl rfl rfl rfl rfl rfl .here <| .nil ?_
    refine .go <| .seq <| .region <| .e (.fieldAddr fo34_0 rfl) rfl rfl <| .e (.load ag9 rfl .here rfl) rfl rfl <| .e (.move rfl) rfl rfl ?_
    refine .e (.streq rfl rfl) rfl rfl <| .nil <| .go ?_
    refine .split 18 rfl (fun h18 => ?_) (fun h18 => ?_)
    · skip
      replace h18 := of_decide_eq_true h18
      refine .cond_true rfl <| .seq <| .region <| .e (.move rfl) rfl rfl <| .e (.assign rfl) rfl rfl <| .nil ?_
      refine .go <| .ret <| .blk_ret <| .ret <| .ret <| .blk_ret ?_
      refine .ret ?_
      refine .tail <| .tail ?_
      refine Post.retE rfl rfl ?_
      exact congrArg (Value.int .i64) (idxOf_some (by omega) hw (decide_eq_true h18)).symm
    · skip
      replace h18 := of_decide_eq_false h18
      refine .cond_false rfl <| .skip <| .blk_normal <| .go <| .region <| .e (.add rfl rfl (by first | exact wrap_succ (by omega) | exact IntWalk.i64_in _ (by omega) | exact rfl)) rfl rfl ?_
      refine .e (.move rfl) rfl rfl <| .nil ?_
      refine .tail ?_
      exact .mid (k + 1) ⟨by omega, by omega, any_take_step (by omega) hw (decide_eq_false h18)⟩ ⟨rfl, trivial⟩ rfl rfl (.pre 14 rfl (.app rfl .base))
  · skip
    replace h11 := of_decide_eq_false h11
    refine .cond_false rfl <| .exit <| .exit <| .exit <| .blk_exit <| .go ?_
    refine .seq <| .region <| .e (.assign rfl) rfl rfl <| .nil <| .go <| .ret ?_
    refine .tail ?_
    refine Post.retE rfl rfl ?_
    exact congrArg (Value.int .i64) (idxOf_none (any_take_all (by omega) hw)).symm

theorem on_take {b : Bk} {s : ByteArray} {k : Nat} (hk : k < b.binds.length) (hw : (b.binds.take k).any (fun x => decide (x.task = s)) = false) (h : b.binds[k].task = s) : onR b s = b.binds[k].node := by
  unfold onR
  have e : b.binds.find? (fun x => decide (x.task = s)) = some b.binds[k] := by
    have hs := get_split hk
    have e2 : b.binds.find? (fun x => decide (x.task = s)) = (b.binds.take k ++ (b.binds[k] :: b.binds.drop (k + 1))).find? (fun x => decide (x.task = s)) := by rw [← hs]
    rw [e2, List.find?_append, List.find?_cons]
    have e3 : (b.binds.take k).find? (fun x => decide (x.task = s)) = none := by
      rw [List.find?_eq_none]
      intro x hx h2
      have := List.any_eq_false.1 hw x hx
      exact this h2
    rw [e3]; simp [h]
  rw [e]
theorem on_none {b : Bk} {s : ByteArray} (hw : b.binds.any (fun x => decide (x.task = s)) = false) : onR b s = ⟨#[]⟩ := by
  unfold onR
  have e : b.binds.find? (fun x => decide (x.task = s)) = none := by
    rw [List.find?_eq_none]
    intro x hx
    exact List.any_eq_false.1 hw x hx
  rw [e]

set_option maxHeartbeats 1000000 in
set_option maxRecDepth 20000 in
theorem rOn_ok {I : Imm} {O : Own} {kc : List Value} {b : Bk} (hk : BkR I kc b) {s : ByteArray} :
    Pure Tryz.prog 39 [.agg ⟨kc⟩, .string s] I O (.string (onR b s)) := by
  have hk0 := hk
  obtain ⟨nv, tv, bv, rfl, hnv, htv, hbv⟩ := hk.ex
  have hnv0 := hnv
  have htv0 := htv
  have hbv0 := hbv
  obtain ⟨na, ncap, rfl, hn1, hn2, -⟩ := hnv
  obtain ⟨ta, tcap, rfl, ht1, ht2, -⟩ := htv
  obtain ⟨ba, bcap, rfl, hb1, hb2, -⟩ := hbv
  refine Go.Sy.Does.enter Tryz.func39 rfl Tryz.ntmps39 rfl ?_
  refine .seq <| .region <| .on rfl <| .box rfl rfl rfl fun c1 _ _ => .e (.assign rfl) rfl rfl <| .nil <| .go ?_
  refine .seq <| .seq <| .region <| .e (.fieldAddr fo27_2 rfl) rfl rfl <| .e (.load ag24 rfl .here rfl) rfl rfl <| .e (.len sl24 rfl rfl) rfl rfl ?_
  refine .e (.move rfl) rfl rfl <| .nil <| .go <| .block ?_
  refine .loopM [4, 6, 10, 11, 12, 13, 14, 15, 16, 17, 18, 19, 20] (fun k => b.binds.length - k) (fun k => k ≤ b.binds.length ∧ (b.binds.take k).any (fun x : Bnd => decide (x.task = s)) = false) (fun k => [(10, .int .i64 k)]) (fun _ => _) (fun _ => _) (0) ⟨Nat.zero_le _, rfl⟩ ⟨rfl, trivial⟩ rfl rfl ?_
  intro k hk
  obtain ⟨hk, hw⟩ := hk
  refine .seq <| .region <| .e (.lss rfl rfl) rfl rfl <| .nil <| .go <| .seq ?_
  refine .split 11 rfl (fun h11 => ?_) (fun h11 => ?_)
  · skip
    replace h11 := of_decide_eq_true h11
    refine .cond_true rfl <| .skip <| .go <| .seq <| .block <| .seq ?_
    refine .region ?_
    obtain ⟨eb12, eo12, cs12, hd12, hat12, hr12⟩ := SlR.at_ hbv0 (k := k) (by omega)
    cases hd12
    have hx12 := hr12
    obtain ⟨rfl, hx12a, hx12b⟩ := hr12
    refine .e (.indexAddrL sl24 rfl rfl rfl (by omega)) rfl rfl <| .e (.loadIA ag56 sz56 rfl hat12 rfl) rfl rfl <| .on rfl <| .alloc zr56 rfl fun c2 _ _ => .on rfl <| .storeW sz56 rfl rfl rfl rfl rfl rfl .here <| .nil <| .go ?_
    refine .seq <| .region <| .e (.fieldAddr fo56_0 rfl) rfl rfl <| .e (.load ag9 rfl .here rfl) rfl rfl <| .e (.move rfl) rfl rfl <| .e (.streq rfl rfl) rfl rfl ?_
    refine .nil <| .go ?_
    refine .split 17 rfl (fun h17 => ?_) (fun h17 => ?_)
    · skip
      replace h17 := of_decide_eq_true h17
      refine .cond_true rfl <| .seq <| .region <| .e (.fieldAddr fo56_1 rfl) rfl rfl <| .e (.load ag9 rfl .here rfl) rfl rfl <| .e (.assign rfl) rfl rfl ?_
      refine .nil <| .go <| .ret <| .blk_ret <| .ret <| .ret ?_
      refine .blk_ret <| .ret ?_
      refine .tail <| .tail ?_
      refine Post.retE rfl rfl ?_
      exact congrArg Value.string (on_take (by omega) hw h17).symm
    · skip
      replace h17 := of_decide_eq_false h17
      refine .cond_false rfl <| .skip <| .blk_normal <| .go <| .region <| .e (.add rfl rfl (by first | exact wrap_succ (by omega) | exact IntWalk.i64_in _ (by omega) | exact rfl)) rfl rfl ?_
      refine .e (.move rfl) rfl rfl <| .nil ?_
      refine .tail ?_
      exact .mid (k + 1) ⟨by omega, by omega, any_take_step (by omega) hw (decide_eq_false h17)⟩ ⟨rfl, trivial⟩ rfl rfl (.pre 12 rfl (.app rfl .base))
  · skip
    replace h11 := of_decide_eq_false h11
    refine .cond_false rfl <| .exit <| .exit <| .exit <| .blk_exit <| .go ?_
    refine .seq <| .region <| .e (.assign rfl) rfl rfl <| .nil <| .go <| .ret ?_
    refine .tail ?_
    refine Post.retE rfl rfl ?_
    exact congrArg Value.string (on_none (any_take_all (by omega) hw)).symm

set_option maxHeartbeats 1000000 in
set_option maxRecDepth 20000 in
theorem rthere_ok {I : Imm} {O : Own} {kc : List Value} {b : Bk} (hk : BkR I kc b) {s : ByteArray} (hT : Listed b) :
    Go.Sy.Does Tryz.prog 85 [.agg ⟨kc⟩, .string s] I O (fun u I' O' => O' = O ∧ TsksR I' u (thereR b s)) := by
  have hk0 := hk
  obtain ⟨nv, tv, bv, rfl, hnv, htv, hbv⟩ := hk.ex
  have hnv0 := hnv
  have htv0 := htv
  have hbv0 := hbv
  obtain ⟨na, ncap, rfl, hn1, hn2, -⟩ := hnv
  obtain ⟨ta, tcap, rfl, ht1, ht2, -⟩ := htv
  obtain ⟨ba, bcap, rfl, hb1, hb2, -⟩ := hbv
  have hbl := hT.binds
  refine Go.Sy.Does.enter Tryz.func85 rfl Tryz.ntmps85 rfl ?_
  refine .seq <| .region <| .on rfl <| .box rfl rfl rfl fun c1 _ _ => .e (.assign rfl) rfl rfl <| .nil <| .go ?_
  refine .seq <| .region <| .e (.assign rfl) rfl rfl <| .nil <| .go <| .seq ?_
  refine .seq <| .region <| .e (.fieldAddr fo27_2 rfl) rfl rfl <| .e (.load ag24 rfl .here rfl) rfl rfl <| .e (.len sl24 rfl rfl) rfl rfl <| .e (.move rfl) rfl rfl ?_
  refine .nil <| .go <| .block ?_
  refine .loopM [5, 7, 11, 12, 13, 14, 15, 16, 17, 18, 19, 20, 21, 22, 23, 24, 25, 26, 27, 28, 29, 30] (fun s' => b.binds.length - s'.1) (fun s' => s'.1 ≤ b.binds.length ∧ OwnS 9 s'.2.1 (thereTo b s s'.1).length s'.2.2.1 s'.2.2.2 ∧ DR TskR 9 I s'.2.2.1 (thereTo b s s'.1)) (fun s' => [(11, .int .i64 s'.1), (5, s'.2.1)]) (fun _ => _) (fun s' => s'.2.2.2 ++ _) (((0, .slice none 0 0, [], []) : Nat × Value × List Value × Own)) ⟨Nat.zero_le _, OwnS.nil, DR.nil⟩ ⟨rfl, rfl, trivial⟩ rfl rfl ?_
  intro ⟨k, vL, wsL, obL⟩ hk
  dsimp only at hk ⊢
  obtain ⟨hkk, hoL, hdL⟩ := hk
  obtain ⟨adL, capL, rfl⟩ := hoL.form
  have hlen := there_len (b := b) (s := s) (k := k)
  refine .seq <| .region <| .e (.lss rfl rfl) rfl rfl <| .nil <| .go <| .seq ?_
  refine .split 12 rfl (fun h12 => ?_) (fun h12 => ?_)
  · skip
    replace h12 := of_decide_eq_true h12
    refine .cond_true rfl <| .skip <| .go <| .seq <| .block <| .seq ?_
    refine .region ?_
    obtain ⟨eb13, eo13, cs13, hd13, hat13, hr13⟩ := SlR.at_ hbv0 (k := k) (by omega)
    cases hd13
    have hx13 := hr13
    obtain ⟨rfl, hx13a, hx13b⟩ := hr13
    refine .e (.indexAddrL sl24 rfl rfl rfl (by omega)) rfl rfl <| .e (.loadIA ag56 sz56 rfl hat13 rfl) rfl rfl <| .on rfl <| .alloc zr56 rfl fun c2 _ _ => .on rfl <| .storeW sz56 rfl rfl rfl rfl rfl rfl .here <| .nil <| .go ?_
    refine .seq <| .region <| .e (.fieldAddr fo56_1 rfl) rfl rfl <| .e (.load ag9 rfl .here rfl) rfl rfl <| .e (.move rfl) rfl rfl <| .e (.streq rfl rfl) rfl rfl ?_
    refine .nil <| .go ?_
    refine .split 18 rfl (fun h18 => ?_) (fun h18 => ?_)
    · skip
      replace h18 := of_decide_eq_true h18
      have hh := hT.bnd _ (List.getElem_mem (show k < b.binds.length by omega))
      have hx25 : ixT b b.binds[k].task = (posBy (fun x : Tsk => x.name) b.tasks b.binds[k].task : Int) := ix_pos hT.rt hh
      refine .cond_true rfl ?_
      refine .draw [(c1, _), (c2, _)] mixed (.cons (.there <| .app <| .here) (.cons .here .nil)) ?_
      refine .t 0 rfl (.move rfl) rfl rfl (by kernel_rfl) <| .t 1 rfl (.fieldAddr fo27_1 rfl) rfl rfl (by kernel_rfl) <| .t 2 rfl (.load ag23 rfl .here rfl) rfl rfl (by kernel_rfl) <| .t 3 rfl (.loadW ag27 sz27 rfl .here rfl) rfl rfl (by kernel_rfl) <| .t 4 rfl (.fieldAddr fo56_0 rfl) rfl rfl (by kernel_rfl) <| .t 5 rfl (.load ag9 rfl (.there <| .here) rfl) rfl rfl (by kernel_rfl) ?_
      refine .one (i := 6) (by kernel_rfl) rfl rfl <| .callP cal38 rfl rfl rfl (rixT_ok hk0) ?_
      refine ⟨(.cons (.there <| .app <| .here) (.cons .here .nil)), Imm.le_refl _, ?_⟩
      obtain ⟨eb26, eo26, cs26, hd26, hat26, hr26⟩ := SlR.at_ htv0 (k := posBy (fun x : Tsk => x.name) b.tasks (b.binds[k]'(by omega)).task) (has_get hT.rt hh).1
      cases hd26
      have ht26 := hr26
      obtain ⟨xw26, xb26, rfl, hxw26, hxb26⟩ := hr26.ex
      obtain ⟨xa26, xc26, rfl, -⟩ := hxw26
      obtain ⟨xd26, xe26, rfl, -⟩ := hxb26
      refine .t 7 rfl (.indexAddrL sl23 rfl rfl hx25 (has_get hT.rt hh).1) rfl rfl (by kernel_rfl) <| .t 8 rfl (.loadIA ag34 sz34 rfl hat26 rfl) rfl rfl (by kernel_rfl) <| .one (i := 9) (by kernel_rfl) rfl rfl <| .buildSlice Tryz.underlying23 sz34 (by decide) (by decide) zv34 rfl rfl rfl rfl rfl fun c3 _ _ => ?_
      refine ⟨(.cons (.there <| .there <| .app <| .here) (.cons (.there <| .here) .nil)), Imm.le_refl _, ?_⟩
      refine .one (i := 10) (by kernel_rfl) rfl rfl <| .append Tryz.underlying23 Tryz.underlying23 sz34 by34 zv34 rfl rfl rfl (.there <| .there <| .front) hoL ((OwnS.made (k := 9) rfl (by decide)).src (I := _) .here) rfl rfl (by omega) (by omega) rfl fun v29 ob29 ho29 => ?_
      refine ⟨(.cons (.app <| .there <| .there <| .here) (.cons (.app <| .there <| .here) .nil)), Imm.le_refl _, ?_⟩
      refine .t 11 rfl (.assign rfl) rfl rfl (by kernel_rfl) <| .done (by kernel_rfl) <| .blk_normal <| .go <| .region <| .e (.add rfl rfl (by first | exact wrap_succ (by omega) | exact IntWalk.i64_in _ (by omega) | exact rfl)) rfl rfl ?_
      refine .e (.move rfl) rfl rfl <| .nil ?_
      refine .front1 (.app <| .here) ?_
      refine .tail ?_
      refine .front1 (.app <| .here) ?_
      refine .tail ?_
      have e5 := there_yes (s := s) (k := k) (by omega) hT.rt hh h18
      have e6 : (thereTo b s (k + 1)).length = (thereTo b s k).length + 1 := by rw [e5, List.length_append]; rfl
      exact .mid ((k + 1, _, _, _)) ⟨by dsimp only; omega, by dsimp only; omega, by dsimp only; rw [e6]; exact ho29, by dsimp only; rw [e5]; exact hdL.append (DR.single rfl ht26)⟩ ⟨rfl, rfl, trivial⟩ rfl rfl (.pre 24 rfl (.app rfl .base))
    · skip
      replace h18 := of_decide_eq_false h18
      refine .cond_false rfl <| .skip <| .blk_normal <| .go <| .region <| .e (.add rfl rfl (by first | exact wrap_succ (by omega) | exact IntWalk.i64_in _ (by omega) | exact rfl)) rfl rfl ?_
      refine .e (.move rfl) rfl rfl <| .nil ?_
      refine .tail ?_
      have e5 := there_no (s := s) (k := k) (by omega) (.inr h18)
      exact .mid ((k + 1, _, wsL, obL)) ⟨by dsimp only; omega, by dsimp only; omega, by dsimp only; rw [e5]; exact hoL, by dsimp only; rw [e5]; exact hdL⟩ ⟨rfl, rfl, trivial⟩ rfl rfl (.pre 12 rfl (.app rfl .base))
  · skip
    replace h12 := of_decide_eq_false h12
    refine .cond_false rfl <| .exit <| .exit <| .exit <| .blk_exit <| .go ?_
    refine .seq <| .region <| .e (.move rfl) rfl rfl <| .e (.assign rfl) rfl rfl <| .nil <| .go ?_
    refine .ret ?_
    refine .freezeS hoL fun K hK hKs => ?_
    have hy : TsksR K _ (thereTo b s k) := hKs (R := TskR) (hdL.mono fun _ _ h => h.mono hK) rfl
    have ee := there_end (b := b) (s := s) (k := k) (by omega)
    refine Post.rets rfl (.tmp rfl .nil) rfl hK (fun w h => (Sat.tail h)) ?_
    refine ⟨rfl, ?_⟩
    rw [← ee]
    exact hy

end Go.Proofs.YtcojkkndmholaaaGreatDoor
