/- Walks of functions over a symbolic memory, printed by a program of the session. -/
import Derived.Test.YtmmokaockpghaaaGreatDoorBo
import Derived.Test.YtmmokaockpghaaaGreatDoorFacts
namespace Go.Proofs.YtmmokaockpghaaaGreatDoor
open Go.Sy
set_option linter.unusedSimpArgs false
set_option linter.unusedVariables false

def ixN (b : Bk) (s : ByteArray) : Int := idxOf (fun x : Nod => decide (x.name = s)) b.nodes
def ixT (b : Bk) (s : ByteArray) : Int := idxOf (fun x : Tsk => decide (x.name = s)) b.tasks
section
variable {α : Type} {nm : α → ByteArray}
theorem ix_pos {l : List α} {s : ByteArray} (hr : Rising nm l) (h : hasBy nm l s = true) : idxOf (fun x => decide (nm x = s)) l = (posBy nm l s : Int) := by
  obtain ⟨hk, hs⟩ := has_get hr h
  refine idxOf_some hk ?_ (by simpa using hs)
  rw [List.any_eq_false]
  intro x hx h2
  have h3 := take_lt hx
  rw [decide_eq_true_eq] at h2
  rw [h2, lt_irr] at h3; cases h3
theorem ix_lt {l : List α} {s : ByteArray} : decide (idxOf (fun x => decide (nm x = s)) l < 0) = !hasBy nm l s := by
  have h := idxOf_ge (p := fun x : α => decide (nm x = s)) (l := l)
  unfold hasBy
  rw [← h, ← decide_not]
  exact decide_eq_decide.2 (by omega)
/-- each and its order behind the one ahead, up to k -/
def adjOk (nm : α → ByteArray) (bad : α → Bool) (l : List α) (i : Nat) : Bool := match l[i]? with
  | some x => !bad x && (decide (i = 0) || match l[i - 1]? with | some y => slt (nm y) (nm x) | none => true)
  | none => true
def adjTo (nm : α → ByteArray) (bad : α → Bool) (l : List α) (k : Nat) : Bool := (List.range k).all (adjOk nm bad l)
theorem adjOk_at {bad : α → Bool} {l : List α} {i : Nat} (hi : i < l.length) : adjOk nm bad l i = (!bad l[i] && (decide (i = 0) || slt (nm (l[i - 1]'(by omega))) (nm l[i]))) := by
  unfold adjOk
  rw [List.getElem?_eq_getElem hi, List.getElem?_eq_getElem (show i - 1 < l.length by omega)]
theorem adj_step {bad : α → Bool} {l : List α} {k : Nat} (h : adjTo nm bad l k = true) (h2 : adjOk nm bad l k = true) : adjTo nm bad l (k + 1) = true := by
  unfold adjTo at *; rw [List.range_succ, List.all_append, h]; simp [h2]
theorem adj_end {bad : α → Bool} {l : List α} : adjTo nm bad l l.length = (!l.any bad && risingB nm l) := by
  rw [Bool.eq_iff_iff, Bool.and_eq_true]
  unfold adjTo
  rw [List.all_eq_true]
  constructor
  · intro h
    have h1 : ∀ i (hi : i < l.length), bad l[i] = false ∧ (i = 0 ∨ slt (nm (l[i - 1]'(by omega))) (nm l[i]) = true) := fun i hi => by
      have := h i (List.mem_range.2 hi)
      rw [adjOk_at hi] at this
      simpa using this
    refine ⟨?_, ?_⟩
    · rw [Bool.not_eq_true', List.any_eq_false]
      intro x hx
      obtain ⟨i, hi, rfl⟩ := List.mem_iff_getElem.1 hx
      simp [(h1 i hi).1]
    · unfold risingB
      rw [List.all_eq_true]
      intro i hi
      rw [List.mem_range] at hi
      unfold risAt
      rw [List.getElem?_eq_getElem (show i < l.length by omega), List.getElem?_eq_getElem (show i + 1 < l.length by omega)]
      exact (h1 (i + 1) (by omega)).2.resolve_left (by omega)
  · rintro ⟨h1, h2⟩ i hi
    rw [List.mem_range] at hi
    rw [adjOk_at hi]
    rw [Bool.not_eq_true', List.any_eq_false] at h1
    have h3 := h1 l[i] (List.getElem_mem hi)
    rcases Nat.eq_zero_or_pos i with h | h
    · have h4 : bad l[i] = false := by simpa using h3
      rw [h4]; simp [h]
    · have := rising_of h2 (i - 1) i (by omega) hi (by omega)
      simp [h3, this]
theorem adj_bad {bad : α → Bool} {l : List α} {k : Nat} (hk : k < l.length) (h : adjOk nm bad l k = false) : adjTo nm bad l l.length = false := by
  rw [Bool.eq_false_iff]; intro h2
  unfold adjTo at h2
  have := List.all_eq_true.1 h2 k (List.mem_range.2 hk)
  rw [h] at this; cases this
end
def listedB (b : Bk) : Bool := decide (b.nodes.length ≤ 16) && (decide (b.tasks.length ≤ 32) && (adjTo (fun x : Nod => x.name) badN b.nodes b.nodes.length && (adjTo (fun x : Tsk => x.name) badK b.tasks b.tasks.length && adjTo (fun x : Bnd => x.task) (badX b) b.binds b.binds.length)))
theorem listed_ok {b : Bk} : bookOk b = (listedB b && !b.nodes.any fun n => !wellR b n) := by
  unfold bookOk listedB
  rw [adj_end, adj_end, adj_end]
  cases decide (b.nodes.length ≤ 16) <;> cases decide (b.tasks.length ≤ 32) <;> cases b.nodes.any badN <;> cases b.tasks.any badK <;> cases b.binds.any (badX b) <;> cases risingB (fun x : Nod => x.name) b.nodes <;> cases risingB (fun x : Tsk => x.name) b.tasks <;> cases risingB (fun x : Bnd => x.task) b.binds <;> rfl
structure Listed (b : Bk) : Prop where
  nodes : b.nodes.length ≤ 16
  tasks : b.tasks.length ≤ 32
  rt : Rising (fun x : Tsk => x.name) b.tasks
  nod : ∀ n ∈ b.nodes, nodWhy n = 0
  bnd : ∀ x ∈ b.binds, hasBy (fun x : Tsk => x.name) b.tasks x.task = true
  binds : b.binds.length ≤ 32
theorem Listed.of {b : Bk} (h : listedB b = true) : Listed b := by
  unfold listedB at h
  rw [adj_end, adj_end, adj_end] at h
  simp only [Bool.and_eq_true, Bool.not_eq_true', decide_eq_true_eq] at h
  obtain ⟨h1, h2, ⟨h3, h4⟩, ⟨h5, h6⟩, h7, h8⟩ := h
  refine ⟨h1, h2, rising_of h6, fun n hn => ?_, fun x hx => ?_, binds_few h2 h8 h7⟩
  · simpa [badN] using List.any_eq_false.1 h3 n hn
  · have := List.any_eq_false.1 h7 x hx
    simp only [badX, Bool.or_eq_true, Bool.not_eq_true', not_or, Bool.not_eq_false] at this
    exact this.2
theorem Listed.ok {b : Bk} (h : BookOk b) : Listed b := ⟨h.nodes, h.tasks, h.rt, h.nod, fun x hx => (h.bnd x hx).2, h.binds⟩

set_option maxHeartbeats 1000000 in
set_option maxRecDepth 20000 in
theorem rixN_ok {I : Imm} {O : Own} {kc : List Value} {b : Bk} (hk : BkR I kc b) {s : ByteArray} :
  Pure Tryz.prog 106 [.agg ⟨kc⟩, .string s] I O (.int .i64 (ixN b s)) := by
 have hk0 := hk
 obtain ⟨nv, tv, bv, rfl, hnv, htv, hbv⟩ := hk.ex
 have hnv0 := hnv
 have htv0 := htv
 have hbv0 := hbv
 obtain ⟨na, ncap, rfl, hn1, hn2, -⟩ := hnv
 obtain ⟨ta, tcap, rfl, ht1, ht2, -⟩ := htv
 obtain ⟨ba, bcap, rfl, hb1, hb2, -⟩ := hbv
 refine Go.Sy.Does.enter Tryz.func106 rfl Tryz.ntmps106 rfl ?_
 refine .seq <| .region <| .on rfl <| .box rfl rfl rfl fun c1 _ _ => .a rfl <| .nil <| .go ?_
 refine .seq <| .seq <| .region <| .f (.fieldAddr fo27_0 rfl) <| .f (.load ag22 rfl .here rfl) <| .f (.len sl22 rfl rfl) ?_
 refine .m rfl <| .nil <| .go <| .block ?_
 refine .loopM [4, 5, 6, 10, 11, 12, 13, 14, 15, 16, 17, 18, 19, 20] (fun k => b.nodes.length - k) (fun k => k ≤ b.nodes.length ∧ (b.nodes.take k).any (fun x : Nod => decide (x.name = s)) = false) (fun k => [(10, .int .i64 k)]) (fun _ => _) (fun _ => _) (0) ⟨Nat.zero_le _, rfl⟩ ⟨rfl, trivial⟩ rfl rfl ?_
 intro k hk
 obtain ⟨hk, hw⟩ := hk
 refine .seq <| .region <| .f (.lss rfl rfl) <| .nil <| .go <| .seq ?_
 refine .sd 11 rfl (fun h11 => ?_) (fun h11 => ?_)
 ·
  refine .cond_true rfl <| .skip <| .go <| .seq <| .block <| .seq ?_
  refine .region <| .m rfl ?_
  obtain ⟨eb13, eo13, cs13, hd13, hat13, hr13⟩ := SlR.at_ hnv0 (k := k) (by omega)
  cases hd13
  have hn13 := hr13
  obtain ⟨xf13, xg13, rfl, hxf13, hxg13⟩ := hr13.ex
  obtain ⟨xh13, xi13, rfl, -⟩ := hxf13
  obtain ⟨xj13, xk13, rfl, -⟩ := hxg13
  refine .f (.indexAddrL sl22 rfl rfl rfl (by omega)) <| .f (.loadIA ag45 sz45 rfl hat13 rfl) <| .on rfl <| .alloc zr45 rfl fun c2 _ _ => .a rfl <| .on rfl <| .storeW sz45 rfl rfl rfl rfl rfl rfl .here <| .nil ?_
  refine .go <| .seq <| .region <| .f (.fieldAddr fo45_0 rfl) <| .f (.load ag9 rfl .here rfl) <| .m rfl ?_
  refine .f (.streq rfl rfl) <| .nil <| .go ?_
  refine .sd 18 rfl (fun h18 => ?_) (fun h18 => ?_)
  ·
   refine .cond_true rfl <| .seq <| .region <| .m rfl <| .a rfl <| .nil ?_
   refine .go <| .ret <| .blk_ret <| .ret <| .ret <| .blk_ret ?_
   refine .ret ?_
   refine .tail <| .tail ?_
   refine Post.retE rfl rfl ?_
   exact congrArg (Value.int .i64) (idxOf_some (by omega) hw (decide_eq_true h18)).symm
  ·
   refine .cond_false rfl <| .skip <| .blk_normal <| .go <| .region <| .f (.add rfl rfl (by first | exact wrap_succ (by omega) | exact IntWalk.i64_in _ (by omega) | exact rfl)) ?_
   refine .m rfl <| .nil ?_
   refine .tail ?_
   exact .mid (k + 1) ⟨by omega, by omega, any_take_step (by omega) hw (decide_eq_false h18)⟩ ⟨rfl, trivial⟩ rfl rfl (.pre 14 rfl (.app rfl .base))
 ·
  refine .cond_false rfl <| .exit <| .exit <| .exit <| .blk_exit <| .go ?_
  refine .seq <| .region <| .a rfl <| .nil <| .go <| .ret ?_
  refine .tail ?_
  refine Post.retE rfl rfl ?_
  exact congrArg (Value.int .i64) (idxOf_none (any_take_all (by omega) hw)).symm

set_option maxHeartbeats 1000000 in
set_option maxRecDepth 20000 in
theorem rixT_ok {I : Imm} {O : Own} {kc : List Value} {b : Bk} (hk : BkR I kc b) {s : ByteArray} :
  Pure Tryz.prog 52 [.agg ⟨kc⟩, .string s] I O (.int .i64 (ixT b s)) := by
 have hk0 := hk
 obtain ⟨nv, tv, bv, rfl, hnv, htv, hbv⟩ := hk.ex
 have hnv0 := hnv
 have htv0 := htv
 have hbv0 := hbv
 obtain ⟨na, ncap, rfl, hn1, hn2, -⟩ := hnv
 obtain ⟨ta, tcap, rfl, ht1, ht2, -⟩ := htv
 obtain ⟨ba, bcap, rfl, hb1, hb2, -⟩ := hbv
 refine Go.Sy.Does.enter Tryz.func52 rfl Tryz.ntmps52 rfl ?_
 refine .seq <| .region <| .on rfl <| .box rfl rfl rfl fun c1 _ _ => .a rfl <| .nil <| .go ?_
 refine .seq <| .seq <| .region <| .f (.fieldAddr fo27_1 rfl) <| .f (.load ag23 rfl .here rfl) <| .f (.len sl23 rfl rfl) ?_
 refine .m rfl <| .nil <| .go <| .block ?_
 refine .loopM [4, 5, 6, 10, 11, 12, 13, 14, 15, 16, 17, 18, 19, 20] (fun k => b.tasks.length - k) (fun k => k ≤ b.tasks.length ∧ (b.tasks.take k).any (fun x : Tsk => decide (x.name = s)) = false) (fun k => [(10, .int .i64 k)]) (fun _ => _) (fun _ => _) (0) ⟨Nat.zero_le _, rfl⟩ ⟨rfl, trivial⟩ rfl rfl ?_
 intro k hk
 obtain ⟨hk, hw⟩ := hk
 refine .seq <| .region <| .f (.lss rfl rfl) <| .nil <| .go <| .seq ?_
 refine .sd 11 rfl (fun h11 => ?_) (fun h11 => ?_)
 ·
  refine .cond_true rfl <| .skip <| .go <| .seq <| .block <| .seq ?_
  refine .region <| .m rfl ?_
  obtain ⟨eb13, eo13, cs13, hd13, hat13, hr13⟩ := SlR.at_ htv0 (k := k) (by omega)
  cases hd13
  have ht13 := hr13
  obtain ⟨xw13, xb13, rfl, hxw13, hxb13⟩ := hr13.ex
  obtain ⟨xa13, xc13, rfl, -⟩ := hxw13
  obtain ⟨xd13, xe13, rfl, -⟩ := hxb13
  refine .f (.indexAddrL sl23 rfl rfl rfl (by omega)) <| .f (.loadIA ag42 sz42 rfl hat13 rfl) <| .on rfl <| .alloc zr42 rfl fun c2 _ _ => .a rfl <| .on rfl <| .storeW sz42 rfl rfl rfl rfl rfl rfl .here <| .nil ?_
  refine .go <| .seq <| .region <| .f (.fieldAddr fo42_0 rfl) <| .f (.load ag9 rfl .here rfl) <| .m rfl ?_
  refine .f (.streq rfl rfl) <| .nil <| .go ?_
  refine .sd 18 rfl (fun h18 => ?_) (fun h18 => ?_)
  ·
   refine .cond_true rfl <| .seq <| .region <| .m rfl <| .a rfl <| .nil ?_
   refine .go <| .ret <| .blk_ret <| .ret <| .ret <| .blk_ret ?_
   refine .ret ?_
   refine .tail <| .tail ?_
   refine Post.retE rfl rfl ?_
   exact congrArg (Value.int .i64) (idxOf_some (by omega) hw (decide_eq_true h18)).symm
  ·
   refine .cond_false rfl <| .skip <| .blk_normal <| .go <| .region <| .f (.add rfl rfl (by first | exact wrap_succ (by omega) | exact IntWalk.i64_in _ (by omega) | exact rfl)) ?_
   refine .m rfl <| .nil ?_
   refine .tail ?_
   exact .mid (k + 1) ⟨by omega, by omega, any_take_step (by omega) hw (decide_eq_false h18)⟩ ⟨rfl, trivial⟩ rfl rfl (.pre 14 rfl (.app rfl .base))
 ·
  refine .cond_false rfl <| .exit <| .exit <| .exit <| .blk_exit <| .go ?_
  refine .seq <| .region <| .a rfl <| .nil <| .go <| .ret ?_
  refine .tail ?_
  refine Post.retE rfl rfl ?_
  exact congrArg (Value.int .i64) (idxOf_none (any_take_all (by omega) hw)).symm

theorem on_take {b : Bk} {s : ByteArray} {k : Nat} (hk : k < b.binds.length) (hw : (b.binds.take k).any (fun x => decide (x.task = s)) = false) (h : b.binds[k].task = s) : onR b s = b.binds[k].node := by
  unfold onR
  have e : b.binds.find? (fun x => decide (x.task = s)) = some b.binds[k] := by
    have hs := get_split hk
    have e2 : b.binds.find? (fun x => decide (x.task = s)) = (b.binds.take k ++ (b.binds[k] :: b.binds.drop (k + 1))).find? (fun x => decide (x.task = s)) := by rw [← hs]
    rw [e2, List.find?_append, List.find?_cons]
    have e3 : (b.binds.take k).find? (fun x => decide (x.task = s)) = none := by
      rw [List.find?_eq_none]
      intro x hx h2
      have := List.any_eq_false.1 hw x hx
      exact this h2
    rw [e3]; simp [h]
  rw [e]
theorem on_none {b : Bk} {s : ByteArray} (hw : b.binds.any (fun x => decide (x.task = s)) = false) : onR b s = ⟨#[]⟩ := by
  unfold onR
  have e : b.binds.find? (fun x => decide (x.task = s)) = none := by
    rw [List.find?_eq_none]
    intro x hx
    exact List.any_eq_false.1 hw x hx
  rw [e]

set_option maxHeartbeats 1000000 in
set_option maxRecDepth 20000 in
theorem rOn_ok {I : Imm} {O : Own} {kc : List Value} {b : Bk} (hk : BkR I kc b) {s : ByteArray} :
  Pure Tryz.prog 44 [.agg ⟨kc⟩, .string s] I O (.string (onR b s)) := by
 have hk0 := hk
 obtain ⟨nv, tv, bv, rfl, hnv, htv, hbv⟩ := hk.ex
 have hnv0 := hnv
 have htv0 := htv
 have hbv0 := hbv
 obtain ⟨na, ncap, rfl, hn1, hn2, -⟩ := hnv
 obtain ⟨ta, tcap, rfl, ht1, ht2, -⟩ := htv
 obtain ⟨ba, bcap, rfl, hb1, hb2, -⟩ := hbv
 refine Go.Sy.Does.enter Tryz.func44 rfl Tryz.ntmps44 rfl ?_
 refine .seq <| .region <| .on rfl <| .box rfl rfl rfl fun c1 _ _ => .a rfl <| .nil <| .go ?_
 refine .seq <| .seq <| .region <| .f (.fieldAddr fo27_2 rfl) <| .f (.load ag24 rfl .here rfl) <| .f (.len sl24 rfl rfl) ?_
 refine .m rfl <| .nil <| .go <| .block ?_
 refine .loopM [4, 6, 10, 11, 12, 13, 14, 15, 16, 17, 18, 19, 20] (fun k => b.binds.length - k) (fun k => k ≤ b.binds.length ∧ (b.binds.take k).any (fun x : Bnd => decide (x.task = s)) = false) (fun k => [(10, .int .i64 k)]) (fun _ => _) (fun _ => _) (0) ⟨Nat.zero_le _, rfl⟩ ⟨rfl, trivial⟩ rfl rfl ?_
 intro k hk
 obtain ⟨hk, hw⟩ := hk
 refine .seq <| .region <| .f (.lss rfl rfl) <| .nil <| .go <| .seq ?_
 refine .sd 11 rfl (fun h11 => ?_) (fun h11 => ?_)
 ·
  refine .cond_true rfl <| .skip <| .go <| .seq <| .block <| .seq ?_
  refine .region ?_
  obtain ⟨eb12, eo12, cs12, hd12, hat12, hr12⟩ := SlR.at_ hbv0 (k := k) (by omega)
  cases hd12
  have hx12 := hr12
  obtain ⟨rfl, hx12a, hx12b⟩ := hr12
  refine .f (.indexAddrL sl24 rfl rfl rfl (by omega)) <| .f (.loadIA ag51 sz51 rfl hat12 rfl) <| .on rfl <| .alloc zr51 rfl fun c2 _ _ => .on rfl <| .storeW sz51 rfl rfl rfl rfl rfl rfl .here <| .nil <| .go ?_
  refine .seq <| .region <| .f (.fieldAddr fo51_0 rfl) <| .f (.load ag9 rfl .here rfl) <| .m rfl <| .f (.streq rfl rfl) ?_
  refine .nil <| .go ?_
  refine .sd 17 rfl (fun h17 => ?_) (fun h17 => ?_)
  ·
   refine .cond_true rfl <| .seq <| .region <| .f (.fieldAddr fo51_1 rfl) <| .f (.load ag9 rfl .here rfl) <| .a rfl ?_
   refine .nil <| .go <| .ret <| .blk_ret <| .ret <| .ret ?_
   refine .blk_ret <| .ret ?_
   refine .tail <| .tail ?_
   refine Post.retE rfl rfl ?_
   exact congrArg Value.string (on_take (by omega) hw h17).symm
  ·
   refine .cond_false rfl <| .skip <| .blk_normal <| .go <| .region <| .f (.add rfl rfl (by first | exact wrap_succ (by omega) | exact IntWalk.i64_in _ (by omega) | exact rfl)) ?_
   refine .m rfl <| .nil ?_
   refine .tail ?_
   exact .mid (k + 1) ⟨by omega, by omega, any_take_step (by omega) hw (decide_eq_false h17)⟩ ⟨rfl, trivial⟩ rfl rfl (.pre 12 rfl (.app rfl .base))
 ·
  refine .cond_false rfl <| .exit <| .exit <| .exit <| .blk_exit <| .go ?_
  refine .seq <| .region <| .a rfl <| .nil <| .go <| .ret ?_
  refine .tail ?_
  refine Post.retE rfl rfl ?_
  exact congrArg Value.string (on_none (any_take_all (by omega) hw)).symm

set_option maxHeartbeats 1000000 in
set_option maxRecDepth 20000 in
theorem rthere_ok {I : Imm} {O : Own} {kc : List Value} {b : Bk} (hk : BkR I kc b) {s : ByteArray} (hT : Listed b) :
  Go.Sy.Does Tryz.prog 158 [.agg ⟨kc⟩, .string s] I O (fun u I' O' => O' = O ∧ TsksR I' u (thereR b s)) := by
 have hk0 := hk
 obtain ⟨nv, tv, bv, rfl, hnv, htv, hbv⟩ := hk.ex
 have hnv0 := hnv
 have htv0 := htv
 have hbv0 := hbv
 obtain ⟨na, ncap, rfl, hn1, hn2, -⟩ := hnv
 obtain ⟨ta, tcap, rfl, ht1, ht2, -⟩ := htv
 obtain ⟨ba, bcap, rfl, hb1, hb2, -⟩ := hbv
 have hbl := hT.binds
 refine Go.Sy.Does.enter Tryz.func158 rfl Tryz.ntmps158 rfl ?_
 refine .seq <| .region <| .on rfl <| .box rfl rfl rfl fun c1 _ _ => .a rfl <| .nil <| .go ?_
 refine .seq <| .region <| .a rfl <| .nil <| .go <| .seq ?_
 refine .seq <| .region <| .f (.fieldAddr fo27_2 rfl) <| .f (.load ag24 rfl .here rfl) <| .f (.len sl24 rfl rfl) <| .m rfl ?_
 refine .nil <| .go <| .block ?_
 refine .loopM [5, 7, 11, 12, 13, 14, 15, 16, 17, 18, 19, 20, 21, 22, 23, 24, 25, 26, 27, 28, 29, 30] (fun s' => b.binds.length - s'.1) (fun s' => s'.1 ≤ b.binds.length ∧ OwnS 9 s'.2.1 (thereTo b s s'.1).length s'.2.2.1 s'.2.2.2 ∧ DR TskR 9 I s'.2.2.1 (thereTo b s s'.1)) (fun s' => [(11, .int .i64 s'.1), (5, s'.2.1)]) (fun _ => _) (fun s' => s'.2.2.2 ++ _) (((0, .slice none 0 0, [], []) : Nat × Value × List Value × Own)) ⟨Nat.zero_le _, OwnS.nil, DR.nil⟩ ⟨rfl, rfl, trivial⟩ rfl rfl ?_
 intro ⟨k, vL, wsL, obL⟩ hk
 dsimp only at hk ⊢
 obtain ⟨hkk, hoL, hdL⟩ := hk
 obtain ⟨adL, capL, rfl⟩ := hoL.form
 have hlen := there_len (b := b) (s := s) (k := k)
 refine .seq <| .region <| .f (.lss rfl rfl) <| .nil <| .go <| .seq ?_
 refine .sd 12 rfl (fun h12 => ?_) (fun h12 => ?_)
 ·
  refine .cond_true rfl <| .skip <| .go <| .seq <| .block <| .seq ?_
  refine .region ?_
  obtain ⟨eb13, eo13, cs13, hd13, hat13, hr13⟩ := SlR.at_ hbv0 (k := k) (by omega)
  cases hd13
  have hx13 := hr13
  obtain ⟨rfl, hx13a, hx13b⟩ := hr13
  refine .f (.indexAddrL sl24 rfl rfl rfl (by omega)) <| .f (.loadIA ag51 sz51 rfl hat13 rfl) <| .on rfl <| .alloc zr51 rfl fun c2 _ _ => .on rfl <| .storeW sz51 rfl rfl rfl rfl rfl rfl .here <| .nil <| .go ?_
  refine .seq <| .region <| .f (.fieldAddr fo51_1 rfl) <| .f (.load ag9 rfl .here rfl) <| .m rfl <| .f (.streq rfl rfl) ?_
  refine .nil <| .go ?_
  refine .sd 18 rfl (fun h18 => ?_) (fun h18 => ?_)
  ·
   have hh := hT.bnd _ (List.getElem_mem (show k < b.binds.length by omega))
   have hx25 : ixT b b.binds[k].task = (posBy (fun x : Tsk => x.name) b.tasks b.binds[k].task : Int) := ix_pos hT.rt hh
   refine .cond_true rfl ?_
   refine .draw [(c1, _), (c2, _)] mixed (.cons (.there <| .app <| .here) (.cons .here .nil)) ?_
   refine .u 0 rfl (.move rfl) <| .u 1 rfl (.fieldAddr fo27_1 rfl) <| .u 2 rfl (.load ag23 rfl .here rfl) <| .u 3 rfl (.loadW ag27 sz27 rfl .here rfl) <| .u 4 rfl (.fieldAddr fo51_0 rfl) <| .u 5 rfl (.load ag9 rfl (.there <| .here) rfl) ?_
   refine .one (i := 6) (by kernel_rfl) rfl rfl <| .callP cal52 rfl rfl rfl (rixT_ok hk0) ?_
   refine ⟨(.cons (.there <| .app <| .here) (.cons .here .nil)), Imm.le_refl _, ?_⟩
   obtain ⟨eb26, eo26, cs26, hd26, hat26, hr26⟩ := SlR.at_ htv0 (k := posBy (fun x : Tsk => x.name) b.tasks (b.binds[k]'(by omega)).task) (has_get hT.rt hh).1
   cases hd26
   have ht26 := hr26
   obtain ⟨xw26, xb26, rfl, hxw26, hxb26⟩ := hr26.ex
   obtain ⟨xa26, xc26, rfl, -⟩ := hxw26
   obtain ⟨xd26, xe26, rfl, -⟩ := hxb26
   refine .u 7 rfl (.indexAddrL sl23 rfl rfl hx25 (has_get hT.rt hh).1) <| .u 8 rfl (.loadIA ag42 sz42 rfl hat26 rfl) <| .one (i := 9) (by kernel_rfl) rfl rfl <| .buildSlice Tryz.underlying23 sz42 (by decide) (by decide) zv42 rfl rfl rfl rfl rfl fun c3 _ _ => ?_
   refine ⟨(.cons (.there <| .there <| .app <| .here) (.cons (.there <| .here) .nil)), Imm.le_refl _, ?_⟩
   refine .one (i := 10) (by kernel_rfl) rfl rfl <| .append Tryz.underlying23 Tryz.underlying23 sz42 by42 zv42 rfl rfl rfl (.there <| .there <| .front) hoL ((OwnS.made (k := 9) rfl (by decide)).src (I := _) .here) rfl rfl (by omega) (by omega) rfl fun v29 ob29 ho29 => ?_
   refine ⟨(.cons (.app <| .there <| .there <| .here) (.cons (.app <| .there <| .here) .nil)), Imm.le_refl _, ?_⟩
   refine .u 11 rfl (.assign rfl) <| .done (by kernel_rfl) <| .blk_normal <| .go <| .region <| .f (.add rfl rfl (by first | exact wrap_succ (by omega) | exact IntWalk.i64_in _ (by omega) | exact rfl)) ?_
   refine .m rfl <| .nil ?_
   refine .front1 (.app <| .here) ?_
   refine .tail ?_
   refine .front1 (.app <| .here) ?_
   refine .tail ?_
   have e5 := there_yes (s := s) (k := k) (by omega) hT.rt hh h18
   have e6 : (thereTo b s (k + 1)).length = (thereTo b s k).length + 1 := by rw [e5, List.length_append]; rfl
   exact .mid ((k + 1, _, _, _)) ⟨by dsimp only; omega, by dsimp only; omega, by dsimp only; rw [e6]; exact ho29, by dsimp only; rw [e5]; exact hdL.append (DR.single rfl ht26)⟩ ⟨rfl, rfl, trivial⟩ rfl rfl (.pre 24 rfl (.app rfl .base))
  ·
   refine .cond_false rfl <| .skip <| .blk_normal <| .go <| .region <| .f (.add rfl rfl (by first | exact wrap_succ (by omega) | exact IntWalk.i64_in _ (by omega) | exact rfl)) ?_
   refine .m rfl <| .nil ?_
   refine .tail ?_
   have e5 := there_no (s := s) (k := k) (by omega) (.inr h18)
   exact .mid ((k + 1, _, wsL, obL)) ⟨by dsimp only; omega, by dsimp only; omega, by dsimp only; rw [e5]; exact hoL, by dsimp only; rw [e5]; exact hdL⟩ ⟨rfl, rfl, trivial⟩ rfl rfl (.pre 12 rfl (.app rfl .base))
 ·
  refine .cond_false rfl <| .exit <| .exit <| .exit <| .blk_exit <| .go ?_
  refine .seq <| .region <| .m rfl <| .a rfl <| .nil <| .go ?_
  refine .ret ?_
  refine .freezeS hoL fun K hK hKs => ?_
  have hy : TsksR K _ (thereTo b s k) := hKs (R := TskR) (hdL.mono fun _ _ h => h.mono hK) rfl
  have ee := there_end (b := b) (s := s) (k := k) (by omega)
  refine Post.rets rfl (.tmp rfl .nil) rfl hK (fun w h => (Sat.tail h)) ?_
  refine ⟨rfl, ?_⟩
  rw [← ee]
  exact hy

def leA (x y : A3) : Prop := x.a ≤ y.a ∧ x.b ≤ y.b ∧ x.c ≤ y.c
theorem well_ref {n : Nod} {L : List Tsk} (hn : nodWhy n = 0) : wellL n L = true ↔ (leA (sumR L).1 n.has ∧ fitTo n L L.length = true ∧ (sumR L).2 = 0) := by
  unfold wellL leA
  rw [Bool.and_eq_true, Bool.and_eq_true, decide_eq_true_eq]
  constructor
  · rintro ⟨⟨h1, h2⟩, h3⟩
    unfold room at h2
    simp only [Bool.and_eq_true, decide_eq_true_eq] at h2
    exact ⟨by have := h2.2; omega, h3, h1⟩
  · rintro ⟨h1, h2, h3⟩
    refine ⟨⟨h3, ?_⟩, h2⟩
    obtain ⟨h4, h5⟩ := sumR_zero h3
    have hb := sum_bnd h5
    rw [sumR_good h4 h5] at h1 ⊢
    dsimp only at h1 ⊢
    unfold room
    rw [nod_amt hn, amt_mk (x := sumT L) (k := 32) (by omega), amt_mk (x := ⟨0, 0, 0⟩) (k := 1) (by decide)]
    simp only [Bool.true_and, decide_eq_true_eq]
    omega
theorem well_refN {n : Nod} {L : List Tsk} (hn : nodWhy n = 0) (h : ¬(leA (sumR L).1 n.has ∧ fitTo n L L.length = true ∧ (sumR L).2 = 0)) : wellL n L = false := Bool.eq_false_iff.2 fun h2 => h ((well_ref hn).1 h2)
theorem bear_take {t : Tsk} {M : List Tsk} {j : Nat} (h : (M.take j).all (bear t) = true) (hj : j < M.length) (hb : bear t M[j] = true) : (M.take (j + 1)).all (bear t) = true := by
  rw [List.take_succ_eq_append_getElem hj, List.all_append, h]; simp [hb]
theorem fitAt_ref {n : Nod} {L : List Tsk} {k : Nat} (hk : k < L.length) (h : suits L[k] n = true) (h2 : (L.take k).all (bear L[k]) = true) : fitAt n L k = true := by
  unfold fitAt
  rw [tskD hk, h]
  rw [List.all_eq_true] at h2
  simp only [Bool.true_and, Bool.not_eq_true', List.any_eq_false]
  intro u hu
  simp [h2 u hu]
theorem fitAt_refN {n : Nod} {L : List Tsk} {k j : Nat} (hk : k < L.length) (hj : j < (L.take k).length) (h : bear L[k] ((L.take k)[j]) = false) : fitAt n L k = false := by
 unfold fitAt
 rw [tskD hk, Bool.and_eq_false_iff]
 refine .inr ?_
 rw [Bool.not_eq_false', List.any_eq_true]
 exact ⟨_, List.getElem_mem hj, by rw [h]; rfl⟩
theorem fitAt_refS {n : Nod} {L : List Tsk} {k : Nat} (hk : k < L.length) (h : suits L[k] n = false) : fitAt n L k = false := by
  unfold fitAt; rw [tskD hk, h]; rfl

set_option maxHeartbeats 8000000 in
set_option maxRecDepth 20000 in
theorem rnode_ok {I : Imm} {O : Own} {kc : List Value} {b : Bk} (hk : BkR I kc b) {nc : List Value} {n : Nod} (hn : NodR I nc n) (hT : Listed b) (hw : nodWhy n = 0) :
  Pure Tryz.prog 105 [.agg ⟨kc⟩, .agg ⟨nc⟩] I O (.bool (wellR b n)) := by
 have hk0 := hk
 obtain ⟨nv, tv, bv, rfl, hnv, htv, hbv⟩ := hk.ex
 have hnv0 := hnv
 have htv0 := htv
 have hbv0 := hbv
 obtain ⟨na, ncap, rfl, hn1, hn2, -⟩ := hnv
 obtain ⟨ta, tcap, rfl, ht1, ht2, -⟩ := htv
 obtain ⟨ba, bcap, rfl, hb1, hb2, -⟩ := hbv
 have hn0 := hn
 obtain ⟨xl, xt, rfl, hxl, hxt⟩ := hn.ex
 obtain ⟨xla, xlc, rfl, -⟩ := hxl
 obtain ⟨xta, xtc, rfl, -⟩ := hxt
 obtain ⟨L, hL⟩ : ∃ L, thereR b n.name = L := ⟨_, rfl⟩
 refine Go.Sy.Does.enter Tryz.func105 rfl Tryz.ntmps105 rfl ?_
 refine .seq <| .region <| .on rfl <| .box rfl rfl rfl fun c1 _ _ => .on rfl <| .box rfl rfl rfl fun c2 _ _ => .a rfl <| .nil ?_
 refine .go <| .seq <| .region <| .f (.loadW ag27 sz27 rfl (.there <| .here) rfl) <| .f (.fieldAddr fo45_0 rfl) <| .f (.load ag9 rfl .here rfl) ?_
 refine .on rfl <| .call cal158 rfl rfl rfl (rthere_ok hk0 hT) fun v17 I17 O17 hI17 hK17 => ?_
 obtain ⟨rfl, hl17⟩ := hK17
 rw [hL] at hl17
 have hl170 := hl17
 obtain ⟨la17, lc17, rfl, hl171, hl172, -⟩ := hl17
 refine .a rfl <| .nil <| .go <| .seq <| .region <| .m rfl ?_
 refine .on rfl <| .callP cal159 rfl rfl rfl (rSum_ok hl170) <| .m rfl <| .f (.extract rfl rfl) <| .f (.extract rfl rfl) <| .on rfl <| .alloc zr39 rfl fun c3 _ _ => .on rfl <| .storeW sz39 rfl rfl rfl rfl rfl rfl .here ?_
 refine .a rfl <| .nil <| .go <| .seq <| .seq <| .region ?_
 refine .f (.fieldAddr fo45_1 rfl) <| .f (.loadP ag39 sz39 rfl (.there <| .here) rfl) <| .m rfl <| .nil <| .go <| .block ?_
 refine .unroll 3 <| .seq <| .region <| .f (.lss rfl rfl) <| .nil <| .go ?_
 refine .seq <| .cond_true rfl <| .skip <| .go <| .seq <| .block ?_
 refine .seq <| .region <| .m rfl <| .f (.index (j := 0) ar39 ag2 rfl rfl rfl (by first | decide | omega) rfl) <| .a rfl <| .a rfl ?_
 refine .nil <| .go <| .seq <| .region <| .m rfl <| .f (.indexAddrA (j := 0) ar39 rfl rfl rfl (by first | decide | omega)) ?_
 refine .f (.load ag2 rfl .here rfl) <| .m rfl <| .f (.gtr rfl rfl) <| .nil <| .go ?_
 refine .sd 33 rfl (fun h33 => ?_) (fun h33 => ?_)
 ·
  refine .cond_true rfl <| .seq <| .region <| .a rfl <| .nil <| .go ?_
  refine .ret <| .blk_ret <| .ret <| .ret <| .blk_ret <| .ret ?_
  refine .tail <| .tail <| .tail ?_
  refine .back hI17 ?_
  refine Post.retE rfl rfl ?_
  refine congrArg Value.bool ?_
  rw [wellR_L, hL]
  refine (well_refN hw ?_).symm
  rintro ⟨g1, g2, g3⟩
  unfold leA at g1
  omega
 ·
  refine .cond_false rfl <| .skip <| .blk_normal <| .go <| .region <| .f (.add (c := 1) rfl rfl (by decide)) ?_
  refine .m rfl <| .nil <| .again <| .seq <| .region <| .f (.lss rfl rfl) ?_
  refine .nil <| .go <| .seq <| .cond_true rfl <| .skip <| .go ?_
  refine .seq <| .block <| .seq <| .region <| .m rfl <| .f (.index (j := 1) ar39 ag2 rfl rfl rfl (by first | decide | omega) rfl) ?_
  refine .a rfl <| .a rfl <| .nil <| .go <| .seq <| .region ?_
  refine .m rfl <| .f (.indexAddrA (j := 1) ar39 rfl rfl rfl (by first | decide | omega)) <| .f (.load ag2 rfl .here rfl) <| .m rfl <| .f (.gtr rfl rfl) <| .nil ?_
  refine .go ?_
  refine .sd 33 rfl (fun h33_2 => ?_) (fun h33_2 => ?_)
  ·
   refine .cond_true rfl <| .seq <| .region <| .a rfl <| .nil <| .go ?_
   refine .ret <| .blk_ret <| .ret <| .ret <| .blk_ret <| .ret ?_
   refine .tail <| .tail <| .tail ?_
   refine .back hI17 ?_
   refine Post.retE rfl rfl ?_
   refine congrArg Value.bool ?_
   rw [wellR_L, hL]
   refine (well_refN hw ?_).symm
   rintro ⟨g1, g2, g3⟩
   unfold leA at g1
   omega
  ·
   refine .cond_false rfl <| .skip <| .blk_normal <| .go <| .region <| .f (.add (c := 2) rfl rfl (by decide)) ?_
   refine .m rfl <| .nil <| .again <| .seq <| .region <| .f (.lss rfl rfl) ?_
   refine .nil <| .go <| .seq <| .cond_true rfl <| .skip <| .go ?_
   refine .seq <| .block <| .seq <| .region <| .m rfl <| .f (.index (j := 2) ar39 ag2 rfl rfl rfl (by first | decide | omega) rfl) ?_
   refine .a rfl <| .a rfl <| .nil <| .go <| .seq <| .region ?_
   refine .m rfl <| .f (.indexAddrA (j := 2) ar39 rfl rfl rfl (by first | decide | omega)) <| .f (.load ag2 rfl .here rfl) <| .m rfl <| .f (.gtr rfl rfl) <| .nil ?_
   refine .go ?_
   refine .sd 33 rfl (fun h33_3 => ?_) (fun h33_3 => ?_)
   ·
    refine .cond_true rfl <| .seq <| .region <| .a rfl <| .nil <| .go ?_
    refine .ret <| .blk_ret <| .ret <| .ret <| .blk_ret <| .ret ?_
    refine .tail <| .tail <| .tail ?_
    refine .back hI17 ?_
    refine Post.retE rfl rfl ?_
    refine congrArg Value.bool ?_
    rw [wellR_L, hL]
    refine (well_refN hw ?_).symm
    rintro ⟨g1, g2, g3⟩
    unfold leA at g1
    omega
   ·
    refine .cond_false rfl <| .skip <| .blk_normal <| .go <| .region <| .f (.add (c := 3) rfl rfl (by decide)) ?_
    refine .m rfl <| .nil <| .again <| .seq <| .region <| .f (.lss rfl rfl) ?_
    refine .nil <| .go <| .seq <| .cond_false rfl <| .exit <| .exit ?_
    refine .exit <| .blk_exit <| .go <| .seq <| .seq <| .region ?_
    refine .m rfl <| .f (.len sl23 rfl rfl) <| .m rfl <| .nil <| .go <| .block ?_
    refine .loopM [4, 10, 11, 13, 37, 38, 39, 40, 41, 42, 43, 44, 45, 46, 47, 48, 49, 50, 51, 52, 53, 54, 55, 56, 57, 58, 59] (fun k => L.length - k) (fun k => k ≤ L.length ∧ fitTo n L k = true) (fun k => [(37, .int .i64 k)]) (fun _ => _) (fun _ => _) (0) ⟨Nat.zero_le _, rfl⟩ ⟨rfl, trivial⟩ rfl rfl ?_
    intro kk hk
    obtain ⟨hkk, hfit⟩ := hk
    refine .seq <| .region <| .f (.lss rfl rfl) <| .nil <| .go <| .seq ?_
    refine .sd 38 rfl (fun h38 => ?_) (fun h38 => ?_)
    ·
     refine .cond_true rfl <| .skip <| .go <| .seq <| .block <| .seq ?_
     refine .region <| .m rfl ?_
     obtain ⟨eb40, eo40, cs40, hd40, hat40, hr40⟩ := SlR.at_ hl170 (k := kk) (by omega)
     cases hd40
     have ht40 := hr40
     obtain ⟨xw40, xb40, rfl, hxw40, hxb40⟩ := hr40.ex
     obtain ⟨xa40, xc40, rfl, -⟩ := hxw40
     obtain ⟨xd40, xe40, rfl, -⟩ := hxb40
     have hjl : (L.take kk).length = kk := by rw [List.length_take]; omega
     have hlt := SlR.takeN (h := kk) hl170 (by omega)
     refine .f (.indexAddrL sl23 rfl rfl rfl (by omega)) <| .f (.loadIA ag42 sz42 rfl hat40 rfl) <| .on rfl <| .alloc zr42 rfl fun c4 _ _ => .a rfl <| .on rfl <| .storeW sz42 rfl rfl rfl rfl rfl rfl .here <| .nil ?_
     refine .go <| .seq <| .seq <| .region <| .f (.loadW ag42 sz42 rfl .here rfl) <| .f (.loadW ag45 sz45 rfl (.there <| .there <| .here) rfl) ?_
     refine .on rfl <| .callP cal160 rfl rfl rfl (rSuits_ok ht40 (hn0.mono hI17)) <| .f (.not rfl) <| .nil <| .go ?_
     refine .split 45 rfl (fun h45 => ?_) (fun h45 => ?_)
     ·
      refine .cond_true rfl <| .seq <| .region <| .a rfl <| .nil <| .go ?_
      refine .ret <| .ret <| .blk_ret <| .ret <| .ret <| .blk_ret ?_
      refine .ret ?_
      refine .tail <| .tail <| .tail <| .tail ?_
      refine .back hI17 ?_
      refine Post.retE rfl rfl ?_
      refine congrArg Value.bool ?_
      rw [wellR_L, hL]
      refine (well_refN hw ?_).symm
      rintro ⟨g1, g2, g3⟩
      rw [fit_bad (show kk < L.length by omega) (fitAt_refS (show kk < L.length by omega) (by simpa using h45))] at g2
      cases g2
     ·
      refine .cond_false rfl <| .skip <| .go <| .seq <| .region <| .m rfl ?_
      refine .m rfl <| .f (.sliceHn sl23 rfl rfl rfl (by omega)) <| .f (.len sl23 rfl rfl) <| .m rfl <| .nil <| .go ?_
      refine .block ?_
      refine .loopM [4, 13, 50, 51, 52, 53, 54, 55, 56, 57, 58] (fun k => kk - k) (fun k => k ≤ kk ∧ ((L.take kk).take k).all (bear L[kk]) = true) (fun k => [(50, .int .i64 k)]) (fun _ => _) (fun _ => _) (0) ⟨Nat.zero_le _, by simp⟩ ⟨rfl, trivial⟩ rfl rfl ?_
      intro j hj
      obtain ⟨hjj, hbj⟩ := hj
      refine .seq <| .region <| .f (.lss rfl rfl) <| .nil <| .go <| .seq ?_
      refine .sd 51 rfl (fun h51 => ?_) (fun h51 => ?_)
      ·
       refine .cond_true rfl <| .skip <| .go <| .seq <| .block <| .seq ?_
       refine .region ?_
       obtain ⟨eb52, eo52, cs52, hd52, hat52, hr52⟩ := SlR.at_ hlt (k := j) (by first | omega | (rw [hjl]; omega))
       cases hd52
       have ht52 := hr52
       obtain ⟨xw52, xb52, rfl, hxw52, hxb52⟩ := hr52.ex
       obtain ⟨xa52, xc52, rfl, -⟩ := hxw52
       obtain ⟨xd52, xe52, rfl, -⟩ := hxb52
       refine .f (.indexAddrL sl23 rfl rfl rfl (by first | omega | (rw [hjl]; omega))) <| .f (.loadIA ag42 sz42 rfl hat52 rfl) <| .on rfl <| .alloc zr42 rfl fun c5 _ _ => .on rfl <| .storeW sz42 rfl rfl rfl rfl rfl rfl .here <| .nil <| .go ?_
       refine .seq <| .region <| .f (.loadW ag42 sz42 rfl (.there <| .here) rfl) <| .f (.loadW ag42 sz42 rfl .here rfl) <| .on rfl <| .callP cal161 rfl rfl rfl (rBear_ok ht40 ht52) <| .f (.not rfl) ?_
       refine .nil <| .go ?_
       refine .split 57 rfl (fun h57 => ?_) (fun h57 => ?_)
       ·
        refine .cond_true rfl <| .seq <| .region <| .a rfl <| .nil <| .go ?_
        refine .ret <| .blk_ret <| .ret <| .ret <| .blk_ret <| .blk_ret ?_
        refine .ret <| .ret <| .blk_ret <| .ret ?_
        refine .tail <| .tail <| .tail <| .tail <| .tail ?_
        refine .back hI17 ?_
        refine Post.retE rfl rfl ?_
        refine congrArg Value.bool ?_
        rw [wellR_L, hL]
        refine (well_refN hw ?_).symm
        rintro ⟨g1, g2, g3⟩
        rw [fit_bad (show kk < L.length by omega) (fitAt_refN (show kk < L.length by omega) (show j < (L.take kk).length by rw [hjl]; omega) (by simpa using h57))] at g2
        cases g2
       ·
        refine .cond_false rfl <| .skip <| .blk_normal <| .go <| .region <| .f (.add rfl rfl (by first | exact wrap_succ (by omega) | exact IntWalk.i64_in _ (by omega) | exact rfl)) ?_
        refine .m rfl <| .nil ?_
        refine .tail ?_
        exact .mid (j + 1) ⟨by omega, by omega, bear_take hbj (by rw [hjl]; omega) (by simpa using h57)⟩ ⟨rfl, trivial⟩ rfl rfl (.pre 12 rfl (.app rfl .base))
      ·
       refine .cond_false rfl <| .exit <| .exit <| .exit <| .blk_exit <| .blk_normal ?_
       refine .go <| .region <| .f (.add rfl rfl (by first | exact wrap_succ (by omega) | exact IntWalk.i64_in _ (by omega) | exact rfl)) <| .m rfl <| .nil ?_
       refine .tail ?_
       exact .mid (kk + 1) ⟨by omega, by omega, fit_step hfit (fitAt_ref (show kk < L.length by omega) (by simpa using h45) (by have e : j = (L.take kk).length := (by omega); rw [e, List.take_length] at hbj; exact hbj))⟩ ⟨rfl, trivial⟩ rfl rfl (.pre 4 rfl (.app rfl (.del rfl (.pre 17 rfl (.app rfl .base)))))
    ·
     refine .cond_false rfl <| .exit <| .exit <| .exit <| .blk_exit <| .go ?_
     refine .seq <| .region <| .m rfl <| .f (.eql rfl rfl) <| .a rfl <| .nil ?_
     refine .go <| .ret ?_
     refine .tail <| .tail <| .tail ?_
     refine .back hI17 ?_
     refine Post.retE rfl rfl ?_
     refine congrArg Value.bool ?_
     rw [wellR_L, hL]
     have ek : kk = L.length := by omega
     subst ek
     rw [Bool.eq_iff_iff, decide_eq_true_eq, well_ref hw]
     unfold leA
     exact ⟨fun h => ⟨by omega, hfit, h⟩, fun h => h.2.2⟩

theorem isName_ne {s : ByteArray} (h : isName s = true) : s ≠ ⟨#[]⟩ := by
  rw [isName_eq] at h
  simp only [Bool.and_eq_true, Bool.not_eq_true', decide_eq_false_iff_not] at h
  exact h.1.1
theorem nod_named {n : Nod} (h : nodWhy n = 0) : n.name ≠ ⟨#[]⟩ := by
  unfold nodWhy at h
  split at h
  · cases h
  · rename_i h1; exact isName_ne (by simpa using h1)
theorem on_ne {b : Bk} {s : ByteArray} (h : BookOk b) : (!decide (onR b s = ⟨#[]⟩)) = hasB b s := by
  cases hb : hasB b s
  · rw [onR_no hb]; rfl
  · rw [onR_has h.rb hb, Bool.not_eq_true', decide_eq_false_iff_not]
    obtain ⟨m, hm, e⟩ := has_iff.1 (h.bnd _ (List.getElem_mem (has_get h.rb hb).1)).1
    rw [← e]
    exact nod_named (h.nod m hm)
theorem used_ref {b : Bk} {s : ByteArray} (h : BookOk b) (hs : hasN b s = true) : (sumR (thereR b s)).2 = 0 := by
  obtain ⟨n, hn, rfl⟩ := has_iff.1 hs
  have := h.well n hn
  rw [wellR_L, well_iff] at this
  rw [sumR_good this.few this.amt]

set_option maxHeartbeats 16000000 in
set_option maxRecDepth 20000 in
theorem listed_okR {I : Imm} {O : Own} {kc : List Value} {b : Bk} (hk : BkR I kc b) :
  Pure Tryz.prog 104 [.agg ⟨kc⟩] I O (.bool (listedB b)) := by
 have hk0 := hk
 obtain ⟨nv, tv, bv, rfl, hnv, htv, hbv⟩ := hk.ex
 have hnv0 := hnv
 have htv0 := htv
 have hbv0 := hbv
 obtain ⟨na, ncap, rfl, hn1, hn2, -⟩ := hnv
 obtain ⟨ta, tcap, rfl, ht1, ht2, -⟩ := htv
 obtain ⟨ba, bcap, rfl, hb1, hb2, -⟩ := hbv
 refine Go.Sy.Does.enter Tryz.func104 rfl Tryz.ntmps104 rfl ?_
 refine .seq <| .region <| .on rfl <| .box rfl rfl rfl fun c1 _ _ => .a rfl <| .nil <| .go ?_
 refine .seq <| .seq <| .region <| .f (.fieldAddr fo27_0 rfl) <| .f (.load ag22 rfl .here rfl) <| .f (.len sl22 rfl rfl) ?_
 refine .f (.gtr rfl rfl) <| .m rfl ?_
 refine .sd 13 rfl (fun h13 => ?_) (fun h13 => ?_)
 ·
  refine .z <| .z <| .z <| .z <| .f (.pickT rfl rfl) <| .nil ?_
  refine .go <| .cond_true rfl <| .seq <| .region <| .a rfl <| .nil ?_
  refine .go <| .ret <| .ret ?_
  refine .tail ?_
  refine Post.retE rfl rfl ?_
  refine congrArg Value.bool ?_
  unfold listedB
  rw [decide_eq_false (show ¬b.nodes.length ≤ 16 by omega)]
  simp
 ·
  refine .f (.fieldAddr fo27_1 rfl) <| .f (.load ag23 rfl .here rfl) <| .f (.len sl23 rfl rfl) <| .f (.gtr rfl rfl) <| .f (.pickF rfl rfl) <| .nil ?_
  refine .go ?_
  refine .sd 18 rfl (fun h18 => ?_) (fun h18 => ?_)
  ·
   refine .cond_true rfl <| .seq <| .region <| .a rfl <| .nil <| .go ?_
   refine .ret <| .ret ?_
   refine .tail ?_
   refine Post.retE rfl rfl ?_
   refine congrArg Value.bool ?_
   unfold listedB
   rw [decide_eq_false (show ¬b.tasks.length ≤ 32 by omega)]
   simp
  ·
   refine .cond_false rfl <| .skip <| .go <| .seq <| .seq <| .region ?_
   refine .f (.fieldAddr fo27_0 rfl) <| .f (.load ag22 rfl .here rfl) <| .f (.len sl22 rfl rfl) <| .m rfl <| .nil <| .go ?_
   refine .block ?_
   refine .loopM [2, 3, 4, 22, 23, 24, 25, 26, 27, 28, 29, 30, 31, 32, 33, 34, 35, 36, 37, 38, 39, 40, 41, 42, 43, 44, 45, 46] (fun k => b.nodes.length - k) (fun k => k ≤ b.nodes.length ∧ adjTo (fun x : Nod => x.name) badN b.nodes k = true) (fun k => [(22, .int .i64 k)]) (fun _ => _) (fun _ => _) (0) ⟨Nat.zero_le _, rfl⟩ ⟨rfl, trivial⟩ rfl rfl ?_
   intro k22 hk22
   obtain ⟨hk22, hw22⟩ := hk22
   refine .seq <| .region <| .f (.lss rfl rfl) <| .nil <| .go <| .seq ?_
   refine .sd 23 rfl (fun h23 => ?_) (fun h23 => ?_)
   ·
    refine .cond_true rfl <| .skip <| .go <| .seq <| .block <| .seq ?_
    refine .region <| .m rfl ?_
    obtain ⟨eb25, eo25, cs25, hd25, hat25, hr25⟩ := SlR.at_ hnv0 (k := k22) (by omega)
    cases hd25
    have hn25 := hr25
    obtain ⟨xf25, xg25, rfl, hxf25, hxg25⟩ := hr25.ex
    obtain ⟨xh25, xi25, rfl, -⟩ := hxf25
    obtain ⟨xj25, xk25, rfl, -⟩ := hxg25
    refine .f (.indexAddrL sl22 rfl rfl rfl (by omega)) <| .f (.loadIA ag45 sz45 rfl hat25 rfl) <| .on rfl <| .alloc zr45 rfl fun c2 _ _ => .a rfl <| .on rfl <| .storeW sz45 rfl rfl rfl rfl rfl rfl .here <| .nil ?_
    refine .go <| .seq ?_
    refine .draw [(c2, _), (c1, _)] mixed (.cons .here (.cons (.there <| .here) .nil)) ?_
    refine .u 0 rfl (.loadW ag45 sz45 rfl .here rfl) <| .one (i := 1) (by kernel_rfl) rfl rfl <| .callP cal156 rfl rfl rfl (rCheckNode_ok hn25) ?_
    refine ⟨(.cons .here (.cons (.there <| .here) .nil)), Imm.le_refl _, ?_⟩
    refine .u 2 rfl (.neq rfl rfl) <| .u 3 rfl (.move rfl) ?_
    refine .split 30 rfl (fun h30 => ?_) (fun h30 => ?_)
    ·
     first | replace h30 := of_decide_eq_false ((Bool.not_eq_true' _).mp h30) | replace h30 := of_decide_eq_false (by simpa using h30)
     refine .s 4 rfl rfl rfl (by kernel_rfl) <| .s 5 rfl rfl rfl (by kernel_rfl) <| .s 6 rfl rfl rfl (by kernel_rfl) <| .s 7 rfl rfl rfl (by kernel_rfl) <| .s 8 rfl rfl rfl (by kernel_rfl) <| .s 9 rfl rfl rfl (by kernel_rfl) ?_
     refine .s 10 rfl rfl rfl (by kernel_rfl) <| .s 11 rfl rfl rfl (by kernel_rfl) <| .s 12 rfl rfl rfl (by kernel_rfl) <| .s 13 rfl rfl rfl (by kernel_rfl) <| .s 14 rfl rfl rfl (by kernel_rfl) <| .s 15 rfl rfl rfl (by kernel_rfl) ?_
     refine .s 16 rfl rfl rfl (by kernel_rfl) <| .s 17 rfl rfl rfl (by kernel_rfl) <| .u 18 rfl (.pickT rfl rfl) <| .done (by kernel_rfl) <| .go <| .cond_true rfl ?_
     refine .seq <| .region <| .a rfl <| .nil <| .go <| .ret ?_
     refine .blk_ret <| .ret <| .ret <| .blk_ret <| .ret ?_
     refine .tail <| .tail ?_
     refine Post.retE rfl rfl ?_
     refine congrArg Value.bool ?_
     unfold listedB
     rw [adj_bad (nm := fun x : Nod => x.name) (bad := badN) (show k22 < b.nodes.length by omega) (by rw [adjOk_at (show k22 < b.nodes.length by omega)]; simp_all [badN, badK, badX])]
     simp
    ·
     first | replace h30 := of_decide_eq_true ((Bool.not_eq_false' _).mp h30) | replace h30 := of_decide_eq_true (by simpa using h30)
     refine .u 4 rfl (.move rfl) <| .u 5 rfl (.gtr rfl rfl) <| .u 6 rfl (.move rfl) ?_
     refine .sd 33 rfl (fun h33 => ?_) (fun h33 => ?_)
     ·
      have hz22 : ¬k22 = 0 := by omega
      refine .u 7 rfl (.fieldAddr fo27_0 rfl) <| .u 8 rfl (.load ag22 rfl (.there <| .here) rfl) <| .u 9 rfl (.move rfl) <| .u 10 rfl (.sub rfl rfl rfl) ?_
      have hm37 : IntKind.i64.wrap ((k22 : Int) - 1) = ((k22 - 1 : Nat) : Int) := wrap_pred (by omega) (by omega)
      obtain ⟨eb38, eo38, cs38, hd38, hat38, hr38⟩ := SlR.at_ hnv0 (k := k22 - 1) (by omega)
      cases hd38
      have hn38 := hr38
      obtain ⟨xf38, xg38, rfl, hxf38, hxg38⟩ := hr38.ex
      obtain ⟨xh38, xi38, rfl, -⟩ := hxf38
      obtain ⟨xj38, xk38, rfl, -⟩ := hxg38
      refine .u 11 rfl (.indexAddrL sl22 rfl rfl hm37 (by omega)) <| .u 12 rfl (.fieldAddr fo45_0 rfl) <| .u 13 rfl (.loadI ag9 rfl (hat38.cell (j := 0) rfl)) <| .u 14 rfl (.fieldAddr fo45_0 rfl) <| .u 15 rfl (.load ag9 rfl .here rfl) <| .u 16 rfl (.strge rfl rfl) ?_
      refine .u 17 rfl (.pickT rfl rfl) <| .u 18 rfl (.pickF rfl rfl) <| .done (by kernel_rfl) <| .go ?_
      refine .split 45 rfl (fun h45 => ?_) (fun h45 => ?_)
      ·
       refine .cond_true rfl <| .seq <| .region <| .a rfl <| .nil <| .go ?_
       refine .ret <| .blk_ret <| .ret <| .ret <| .blk_ret <| .ret ?_
       refine .tail <| .tail ?_
       refine Post.retE rfl rfl ?_
       refine congrArg Value.bool ?_
       unfold listedB
       rw [adj_bad (nm := fun x : Nod => x.name) (bad := badN) (show k22 < b.nodes.length by omega) (by rw [adjOk_at (show k22 < b.nodes.length by omega)]; simp_all [badN, badK, badX])]
       simp
      ·
       refine .cond_false rfl <| .skip <| .blk_normal <| .go <| .region <| .f (.add rfl rfl (by first | exact wrap_succ (by omega) | exact IntWalk.i64_in _ (by omega) | exact rfl)) ?_
       refine .m rfl <| .nil ?_
       refine .tail ?_
       exact .mid (k22 + 1) ⟨by omega, by omega, adj_step hw22 (by rw [adjOk_at (show k22 < b.nodes.length by omega)]; simp_all [badN, badK, badX])⟩ ⟨rfl, trivial⟩ rfl rfl (.pre 31 rfl (.app rfl .base))
     ·
      have hz22 : k22 = 0 := by omega
      refine .s 7 rfl rfl rfl (by kernel_rfl) <| .s 8 rfl rfl rfl (by kernel_rfl) <| .s 9 rfl rfl rfl (by kernel_rfl) <| .s 10 rfl rfl rfl (by kernel_rfl) <| .s 11 rfl rfl rfl (by kernel_rfl) <| .s 12 rfl rfl rfl (by kernel_rfl) ?_
      refine .s 13 rfl rfl rfl (by kernel_rfl) <| .s 14 rfl rfl rfl (by kernel_rfl) <| .s 15 rfl rfl rfl (by kernel_rfl) <| .s 16 rfl rfl rfl (by kernel_rfl) <| .u 17 rfl (.pickF rfl rfl) <| .u 18 rfl (.pickF rfl rfl) ?_
      refine .done (by kernel_rfl) <| .go <| .cond_false rfl <| .skip <| .blk_normal <| .go ?_
      refine .region <| .f (.add rfl rfl (by first | exact wrap_succ (by omega) | exact IntWalk.i64_in _ (by omega) | exact rfl)) <| .m rfl <| .nil ?_
      refine .tail ?_
      exact .mid (k22 + 1) ⟨by omega, by omega, adj_step hw22 (by rw [adjOk_at (show k22 < b.nodes.length by omega)]; simp_all [badN, badK, badX])⟩ ⟨rfl, trivial⟩ rfl rfl (.pre 30 rfl (.app rfl .base))
   ·
    refine .cond_false rfl <| .exit <| .exit <| .exit <| .blk_exit <| .go ?_
    refine .seq <| .seq <| .region <| .f (.fieldAddr fo27_1 rfl) <| .f (.load ag23 rfl .here rfl) <| .f (.len sl23 rfl rfl) ?_
    refine .m rfl <| .nil <| .go <| .block ?_
    refine .loopM [2, 5, 6, 50, 51, 52, 53, 54, 55, 56, 57, 58, 59, 60, 61, 62, 63, 64, 65, 66, 67, 68, 69, 70, 71, 72, 73, 74] (fun k => b.tasks.length - k) (fun k => k ≤ b.tasks.length ∧ adjTo (fun x : Tsk => x.name) badK b.tasks k = true) (fun k => [(50, .int .i64 k)]) (fun _ => _) (fun _ => _) (0) ⟨Nat.zero_le _, rfl⟩ ⟨rfl, trivial⟩ rfl rfl ?_
    intro k50 hk50
    obtain ⟨hk50, hw50⟩ := hk50
    refine .seq <| .region <| .f (.lss rfl rfl) <| .nil <| .go <| .seq ?_
    refine .sd 51 rfl (fun h51 => ?_) (fun h51 => ?_)
    ·
     refine .cond_true rfl <| .skip <| .go <| .seq <| .block <| .seq ?_
     refine .region <| .m rfl ?_
     obtain ⟨eb53, eo53, cs53, hd53, hat53, hr53⟩ := SlR.at_ htv0 (k := k50) (by omega)
     cases hd53
     have ht53 := hr53
     obtain ⟨xw53, xb53, rfl, hxw53, hxb53⟩ := hr53.ex
     obtain ⟨xa53, xc53, rfl, -⟩ := hxw53
     obtain ⟨xd53, xe53, rfl, -⟩ := hxb53
     refine .f (.indexAddrL sl23 rfl rfl rfl (by omega)) <| .f (.loadIA ag42 sz42 rfl hat53 rfl) <| .on rfl <| .alloc zr42 rfl fun c3 _ _ => .a rfl <| .on rfl <| .storeW sz42 rfl rfl rfl rfl rfl rfl .here <| .nil ?_
     refine .go <| .seq ?_
     refine .draw [(c3, _), (c1, _)] mixed (.cons .here (.cons (.there <| .here) .nil)) ?_
     refine .u 0 rfl (.loadW ag42 sz42 rfl .here rfl) <| .one (i := 1) (by kernel_rfl) rfl rfl <| .callP cal157 rfl rfl rfl (rCheckTask_ok ht53) ?_
     refine ⟨(.cons .here (.cons (.there <| .here) .nil)), Imm.le_refl _, ?_⟩
     refine .u 2 rfl (.neq rfl rfl) <| .u 3 rfl (.move rfl) ?_
     refine .split 58 rfl (fun h58 => ?_) (fun h58 => ?_)
     ·
      first | replace h58 := of_decide_eq_false ((Bool.not_eq_true' _).mp h58) | replace h58 := of_decide_eq_false (by simpa using h58)
      refine .s 4 rfl rfl rfl (by kernel_rfl) <| .s 5 rfl rfl rfl (by kernel_rfl) <| .s 6 rfl rfl rfl (by kernel_rfl) <| .s 7 rfl rfl rfl (by kernel_rfl) <| .s 8 rfl rfl rfl (by kernel_rfl) <| .s 9 rfl rfl rfl (by kernel_rfl) ?_
      refine .s 10 rfl rfl rfl (by kernel_rfl) <| .s 11 rfl rfl rfl (by kernel_rfl) <| .s 12 rfl rfl rfl (by kernel_rfl) <| .s 13 rfl rfl rfl (by kernel_rfl) <| .s 14 rfl rfl rfl (by kernel_rfl) <| .s 15 rfl rfl rfl (by kernel_rfl) ?_
      refine .s 16 rfl rfl rfl (by kernel_rfl) <| .s 17 rfl rfl rfl (by kernel_rfl) <| .u 18 rfl (.pickT rfl rfl) <| .done (by kernel_rfl) <| .go <| .cond_true rfl ?_
      refine .seq <| .region <| .a rfl <| .nil <| .go <| .ret ?_
      refine .blk_ret <| .ret <| .ret <| .blk_ret <| .ret ?_
      refine .tail <| .tail ?_
      refine Post.retE rfl rfl ?_
      refine congrArg Value.bool ?_
      unfold listedB
      rw [adj_bad (nm := fun x : Tsk => x.name) (bad := badK) (show k50 < b.tasks.length by omega) (by rw [adjOk_at (show k50 < b.tasks.length by omega)]; simp_all [badN, badK, badX])]
      simp
     ·
      first | replace h58 := of_decide_eq_true ((Bool.not_eq_false' _).mp h58) | replace h58 := of_decide_eq_true (by simpa using h58)
      refine .u 4 rfl (.move rfl) <| .u 5 rfl (.gtr rfl rfl) <| .u 6 rfl (.move rfl) ?_
      refine .sd 61 rfl (fun h61 => ?_) (fun h61 => ?_)
      ·
       have hz50 : ¬k50 = 0 := by omega
       refine .u 7 rfl (.fieldAddr fo27_1 rfl) <| .u 8 rfl (.load ag23 rfl (.there <| .here) rfl) <| .u 9 rfl (.move rfl) <| .u 10 rfl (.sub rfl rfl rfl) ?_
       have hm65 : IntKind.i64.wrap ((k50 : Int) - 1) = ((k50 - 1 : Nat) : Int) := wrap_pred (by omega) (by omega)
       obtain ⟨eb66, eo66, cs66, hd66, hat66, hr66⟩ := SlR.at_ htv0 (k := k50 - 1) (by omega)
       cases hd66
       have ht66 := hr66
       obtain ⟨xw66, xb66, rfl, hxw66, hxb66⟩ := hr66.ex
       obtain ⟨xa66, xc66, rfl, -⟩ := hxw66
       obtain ⟨xd66, xe66, rfl, -⟩ := hxb66
       refine .u 11 rfl (.indexAddrL sl23 rfl rfl hm65 (by omega)) <| .u 12 rfl (.fieldAddr fo42_0 rfl) <| .u 13 rfl (.loadI ag9 rfl (hat66.cell (j := 0) rfl)) <| .u 14 rfl (.fieldAddr fo42_0 rfl) <| .u 15 rfl (.load ag9 rfl .here rfl) <| .u 16 rfl (.strge rfl rfl) ?_
       refine .u 17 rfl (.pickT rfl rfl) <| .u 18 rfl (.pickF rfl rfl) <| .done (by kernel_rfl) <| .go ?_
       refine .split 73 rfl (fun h73 => ?_) (fun h73 => ?_)
       ·
        refine .cond_true rfl <| .seq <| .region <| .a rfl <| .nil <| .go ?_
        refine .ret <| .blk_ret <| .ret <| .ret <| .blk_ret <| .ret ?_
        refine .tail <| .tail ?_
        refine Post.retE rfl rfl ?_
        refine congrArg Value.bool ?_
        unfold listedB
        rw [adj_bad (nm := fun x : Tsk => x.name) (bad := badK) (show k50 < b.tasks.length by omega) (by rw [adjOk_at (show k50 < b.tasks.length by omega)]; simp_all [badN, badK, badX])]
        simp
       ·
        refine .cond_false rfl <| .skip <| .blk_normal <| .go <| .region <| .f (.add rfl rfl (by first | exact wrap_succ (by omega) | exact IntWalk.i64_in _ (by omega) | exact rfl)) ?_
        refine .m rfl <| .nil ?_
        refine .tail ?_
        exact .mid (k50 + 1) ⟨by omega, by omega, adj_step hw50 (by rw [adjOk_at (show k50 < b.tasks.length by omega)]; simp_all [badN, badK, badX])⟩ ⟨rfl, trivial⟩ rfl rfl (.pre 31 rfl (.app rfl .base))
      ·
       have hz50 : k50 = 0 := by omega
       refine .s 7 rfl rfl rfl (by kernel_rfl) <| .s 8 rfl rfl rfl (by kernel_rfl) <| .s 9 rfl rfl rfl (by kernel_rfl) <| .s 10 rfl rfl rfl (by kernel_rfl) <| .s 11 rfl rfl rfl (by kernel_rfl) <| .s 12 rfl rfl rfl (by kernel_rfl) ?_
       refine .s 13 rfl rfl rfl (by kernel_rfl) <| .s 14 rfl rfl rfl (by kernel_rfl) <| .s 15 rfl rfl rfl (by kernel_rfl) <| .s 16 rfl rfl rfl (by kernel_rfl) <| .u 17 rfl (.pickF rfl rfl) <| .u 18 rfl (.pickF rfl rfl) ?_
       refine .done (by kernel_rfl) <| .go <| .cond_false rfl <| .skip <| .blk_normal <| .go ?_
       refine .region <| .f (.add rfl rfl (by first | exact wrap_succ (by omega) | exact IntWalk.i64_in _ (by omega) | exact rfl)) <| .m rfl <| .nil ?_
       refine .tail ?_
       exact .mid (k50 + 1) ⟨by omega, by omega, adj_step hw50 (by rw [adjOk_at (show k50 < b.tasks.length by omega)]; simp_all [badN, badK, badX])⟩ ⟨rfl, trivial⟩ rfl rfl (.pre 30 rfl (.app rfl .base))
    ·
     refine .cond_false rfl <| .exit <| .exit <| .exit <| .blk_exit <| .go ?_
     refine .seq <| .seq <| .region <| .f (.fieldAddr fo27_2 rfl) <| .f (.load ag24 rfl .here rfl) <| .f (.len sl24 rfl rfl) ?_
     refine .m rfl <| .nil <| .go <| .block ?_
     refine .loopM [2, 7, 8, 78, 79, 80, 81, 82, 83, 84, 85, 86, 87, 88, 89, 90, 91, 92, 93, 94, 95, 96, 97, 98, 99, 100, 101, 102, 103, 104, 105, 106, 107, 108, 109, 110, 111] (fun k => b.binds.length - k) (fun k => k ≤ b.binds.length ∧ adjTo (fun x : Bnd => x.task) (badX b) b.binds k = true) (fun k => [(78, .int .i64 k)]) (fun _ => _) (fun _ => _) (0) ⟨Nat.zero_le _, rfl⟩ ⟨rfl, trivial⟩ rfl rfl ?_
     intro k78 hk78
     obtain ⟨hk78, hw78⟩ := hk78
     refine .seq <| .region <| .f (.lss rfl rfl) <| .nil <| .go <| .seq ?_
     refine .sd 79 rfl (fun h79 => ?_) (fun h79 => ?_)
     ·
      refine .cond_true rfl <| .skip <| .go <| .seq <| .block <| .seq ?_
      refine .region <| .m rfl ?_
      obtain ⟨eb81, eo81, cs81, hd81, hat81, hr81⟩ := SlR.at_ hbv0 (k := k78) (by omega)
      cases hd81
      have hx81 := hr81
      obtain ⟨rfl, hx81a, hx81b⟩ := hr81
      refine .f (.indexAddrL sl24 rfl rfl rfl (by omega)) <| .f (.loadIA ag51 sz51 rfl hat81 rfl) <| .on rfl <| .alloc zr51 rfl fun c4 _ _ => .a rfl <| .on rfl <| .storeW sz51 rfl rfl rfl rfl rfl rfl .here <| .nil ?_
      refine .go <| .seq ?_
      refine .draw [(c1, _), (c4, _)] mixed (.cons (.there <| .here) (.cons .here .nil)) ?_
      refine .u 0 rfl (.loadW ag27 sz27 rfl .here rfl) <| .u 1 rfl (.fieldAddr fo51_0 rfl) <| .u 2 rfl (.load ag9 rfl (.there <| .here) rfl) <| .one (i := 3) (by kernel_rfl) rfl rfl <| .callP cal52 rfl rfl rfl (rixT_ok hk0) ?_
      refine ⟨(.cons (.there <| .here) (.cons .here .nil)), Imm.le_refl _, ?_⟩
      refine .u 4 rfl ((EV.cast (.lss rfl rfl) (congrArg Value.bool (ix_lt (nm := fun x : Tsk => x.name))))) <| .u 5 rfl (.move rfl) ?_
      refine .split 88 rfl (fun h88 => ?_) (fun h88 => ?_)
      ·
       refine .s 6 rfl rfl rfl (by kernel_rfl) <| .s 7 rfl rfl rfl (by kernel_rfl) <| .s 8 rfl rfl rfl (by kernel_rfl) <| .none_ (i := 9) (by kernel_rfl) rfl rfl rfl <| .s 10 rfl rfl rfl (by kernel_rfl) <| .u 11 rfl (.pickT rfl rfl) ?_
       refine .u 12 rfl (.move rfl) <| .s 13 rfl rfl rfl (by kernel_rfl) <| .s 14 rfl rfl rfl (by kernel_rfl) <| .s 15 rfl rfl rfl (by kernel_rfl) <| .s 16 rfl rfl rfl (by kernel_rfl) <| .s 17 rfl rfl rfl (by kernel_rfl) ?_
       refine .s 18 rfl rfl rfl (by kernel_rfl) <| .s 19 rfl rfl rfl (by kernel_rfl) <| .s 20 rfl rfl rfl (by kernel_rfl) <| .s 21 rfl rfl rfl (by kernel_rfl) <| .s 22 rfl rfl rfl (by kernel_rfl) <| .s 23 rfl rfl rfl (by kernel_rfl) ?_
       refine .s 24 rfl rfl rfl (by kernel_rfl) <| .s 25 rfl rfl rfl (by kernel_rfl) <| .s 26 rfl rfl rfl (by kernel_rfl) <| .u 27 rfl (.pickT rfl rfl) <| .done (by kernel_rfl) <| .go ?_
       refine .cond_true rfl <| .seq <| .region <| .a rfl <| .nil <| .go ?_
       refine .ret <| .blk_ret <| .ret <| .ret <| .blk_ret <| .ret ?_
       refine .tail <| .tail ?_
       refine Post.retE rfl rfl ?_
       refine congrArg Value.bool ?_
       unfold listedB
       rw [adj_bad (nm := fun x : Bnd => x.task) (bad := (badX b)) (show k78 < b.binds.length by omega) (by rw [adjOk_at (show k78 < b.binds.length by omega)]; simp_all [badN, badK, badX])]
       simp
      ·
       refine .u 6 rfl (.loadW ag27 sz27 rfl .here rfl) <| .u 7 rfl (.fieldAddr fo51_1 rfl) <| .u 8 rfl (.load ag9 rfl (.there <| .here) rfl) <| .one (i := 9) (by kernel_rfl) rfl rfl <| .callP cal106 rfl rfl rfl (rixN_ok hk0) ?_
       refine ⟨(.cons (.there <| .here) (.cons .here .nil)), Imm.le_refl _, ?_⟩
       refine .u 10 rfl ((EV.cast (.lss rfl rfl) (congrArg Value.bool (ix_lt (nm := fun x : Nod => x.name))))) <| .u 11 rfl (.pickF rfl rfl) <| .u 12 rfl (.move rfl) ?_
       refine .split 95 rfl (fun h95 => ?_) (fun h95 => ?_)
       ·
        refine .s 13 rfl rfl rfl (by kernel_rfl) <| .s 14 rfl rfl rfl (by kernel_rfl) <| .s 15 rfl rfl rfl (by kernel_rfl) <| .s 16 rfl rfl rfl (by kernel_rfl) <| .s 17 rfl rfl rfl (by kernel_rfl) <| .s 18 rfl rfl rfl (by kernel_rfl) ?_
        refine .s 19 rfl rfl rfl (by kernel_rfl) <| .s 20 rfl rfl rfl (by kernel_rfl) <| .s 21 rfl rfl rfl (by kernel_rfl) <| .s 22 rfl rfl rfl (by kernel_rfl) <| .s 23 rfl rfl rfl (by kernel_rfl) <| .s 24 rfl rfl rfl (by kernel_rfl) ?_
        refine .s 25 rfl rfl rfl (by kernel_rfl) <| .s 26 rfl rfl rfl (by kernel_rfl) <| .u 27 rfl (.pickT rfl rfl) <| .done (by kernel_rfl) <| .go <| .cond_true rfl ?_
        refine .seq <| .region <| .a rfl <| .nil <| .go <| .ret ?_
        refine .blk_ret <| .ret <| .ret <| .blk_ret <| .ret ?_
        refine .tail <| .tail ?_
        refine Post.retE rfl rfl ?_
        refine congrArg Value.bool ?_
        unfold listedB
        rw [adj_bad (nm := fun x : Bnd => x.task) (bad := (badX b)) (show k78 < b.binds.length by omega) (by rw [adjOk_at (show k78 < b.binds.length by omega)]; simp_all [badN, badK, badX])]
        simp
       ·
        refine .u 13 rfl (.move rfl) <| .u 14 rfl (.gtr rfl rfl) <| .u 15 rfl (.move rfl) ?_
        refine .sd 98 rfl (fun h98 => ?_) (fun h98 => ?_)
        ·
         have hz78 : ¬k78 = 0 := by omega
         refine .u 16 rfl (.fieldAddr fo27_2 rfl) <| .u 17 rfl (.load ag24 rfl .here rfl) <| .u 18 rfl (.move rfl) <| .u 19 rfl (.sub rfl rfl rfl) ?_
         have hm102 : IntKind.i64.wrap ((k78 : Int) - 1) = ((k78 - 1 : Nat) : Int) := wrap_pred (by omega) (by omega)
         obtain ⟨eb103, eo103, cs103, hd103, hat103, hr103⟩ := SlR.at_ hbv0 (k := k78 - 1) (by omega)
         cases hd103
         have hx103 := hr103
         obtain ⟨rfl, hx103a, hx103b⟩ := hr103
         refine .u 20 rfl (.indexAddrL sl24 rfl rfl hm102 (by omega)) <| .u 21 rfl (.fieldAddr fo51_0 rfl) <| .u 22 rfl (.loadI ag9 rfl (hat103.cell (j := 0) rfl)) <| .u 23 rfl (.fieldAddr fo51_0 rfl) <| .u 24 rfl (.load ag9 rfl (.there <| .here) rfl) <| .u 25 rfl (.strge rfl rfl) ?_
         refine .u 26 rfl (.pickT rfl rfl) <| .u 27 rfl (.pickF rfl rfl) <| .done (by kernel_rfl) <| .go ?_
         refine .split 110 rfl (fun h110 => ?_) (fun h110 => ?_)
         ·
          refine .cond_true rfl <| .seq <| .region <| .a rfl <| .nil <| .go ?_
          refine .ret <| .blk_ret <| .ret <| .ret <| .blk_ret <| .ret ?_
          refine .tail <| .tail ?_
          refine Post.retE rfl rfl ?_
          refine congrArg Value.bool ?_
          unfold listedB
          rw [adj_bad (nm := fun x : Bnd => x.task) (bad := (badX b)) (show k78 < b.binds.length by omega) (by rw [adjOk_at (show k78 < b.binds.length by omega)]; simp_all [badN, badK, badX])]
          simp
         ·
          refine .cond_false rfl <| .skip <| .blk_normal <| .go <| .region <| .f (.add rfl rfl (by first | exact wrap_succ (by omega) | exact IntWalk.i64_in _ (by omega) | exact rfl)) ?_
          refine .m rfl <| .nil ?_
          refine .tail ?_
          exact .mid (k78 + 1) ⟨by omega, by omega, adj_step hw78 (by rw [adjOk_at (show k78 < b.binds.length by omega)]; simp_all [badN, badK, badX])⟩ ⟨rfl, trivial⟩ rfl rfl (.pre 41 rfl (.app rfl .base))
        ·
         have hz78 : k78 = 0 := by omega
         refine .s 16 rfl rfl rfl (by kernel_rfl) <| .s 17 rfl rfl rfl (by kernel_rfl) <| .s 18 rfl rfl rfl (by kernel_rfl) <| .s 19 rfl rfl rfl (by kernel_rfl) <| .s 20 rfl rfl rfl (by kernel_rfl) <| .s 21 rfl rfl rfl (by kernel_rfl) ?_
         refine .s 22 rfl rfl rfl (by kernel_rfl) <| .s 23 rfl rfl rfl (by kernel_rfl) <| .s 24 rfl rfl rfl (by kernel_rfl) <| .s 25 rfl rfl rfl (by kernel_rfl) <| .u 26 rfl (.pickF rfl rfl) <| .u 27 rfl (.pickF rfl rfl) ?_
         refine .done (by kernel_rfl) <| .go <| .cond_false rfl <| .skip <| .blk_normal <| .go ?_
         refine .region <| .f (.add rfl rfl (by first | exact wrap_succ (by omega) | exact IntWalk.i64_in _ (by omega) | exact rfl)) <| .m rfl <| .nil ?_
         refine .tail ?_
         exact .mid (k78 + 1) ⟨by omega, by omega, adj_step hw78 (by rw [adjOk_at (show k78 < b.binds.length by omega)]; simp_all [badN, badK, badX])⟩ ⟨rfl, trivial⟩ rfl rfl (.pre 40 rfl (.app rfl .base))
     ·
      refine .cond_false rfl <| .exit <| .exit <| .exit <| .blk_exit <| .go ?_
      refine .seq <| .region <| .a rfl <| .nil <| .go <| .ret ?_
      refine .tail ?_
      refine Post.retE rfl rfl ?_
      refine congrArg Value.bool ?_
      unfold listedB
      have e1 : k22 = b.nodes.length := by omega
      have e2 : k50 = b.tasks.length := by omega
      have e3 : k78 = b.binds.length := by omega
      rw [e1] at hw22
      rw [e2] at hw50
      rw [e3] at hw78
      rw [hw22, hw50, hw78, decide_eq_true (show b.nodes.length ≤ 16 by omega), decide_eq_true (show b.tasks.length ≤ 32 by omega)]
      rfl

set_option maxHeartbeats 1000000 in
set_option maxRecDepth 20000 in
theorem rbCheck_ok {I : Imm} {O : Own} {kc : List Value} {b : Bk} (hk : BkR I kc b) :
  Pure Tryz.prog 43 [.agg ⟨kc⟩] I O (.int .i64 (bookWhy b)) := by
 have hk0 := hk
 obtain ⟨nv, tv, bv, rfl, hnv, htv, hbv⟩ := hk.ex
 have hnv0 := hnv
 have htv0 := htv
 have hbv0 := hbv
 obtain ⟨na, ncap, rfl, hn1, hn2, -⟩ := hnv
 obtain ⟨ta, tcap, rfl, ht1, ht2, -⟩ := htv
 obtain ⟨ba, bcap, rfl, hb1, hb2, -⟩ := hbv
 refine Go.Sy.Does.enter Tryz.func43 rfl Tryz.ntmps43 rfl ?_
 refine .seq <| .region <| .on rfl <| .box rfl rfl rfl fun c1 _ _ => .a rfl <| .nil <| .go ?_
 refine .seq <| .seq <| .region <| .f (.loadW ag27 sz27 rfl .here rfl) <| .on rfl <| .callP cal104 rfl rfl rfl (listed_okR hk0) <| .f (.not rfl) ?_
 refine .nil <| .go ?_
 refine .split 7 rfl (fun h7 => ?_) (fun h7 => ?_)
 ·
  refine .cond_true rfl <| .seq <| .region <| .a rfl <| .nil <| .go ?_
  refine .ret <| .ret ?_
  refine .tail ?_
  refine Post.retE rfl rfl ?_
  refine congrArg (Value.int .i64) ?_
  unfold bookWhy
  rw [listed_ok]
  rw [(Bool.not_eq_true' _).mp h7]
  rfl
 ·
  have hlB := (Bool.not_eq_false' _).mp h7
  have hT := Listed.of hlB
  refine .cond_false rfl <| .skip <| .go <| .seq <| .seq <| .region ?_
  refine .f (.fieldAddr fo27_0 rfl) <| .f (.load ag22 rfl .here rfl) <| .f (.len sl22 rfl rfl) <| .m rfl <| .nil <| .go ?_
  refine .block ?_
  refine .loopM [2, 4, 11, 12, 13, 14, 15, 16, 17, 18, 19] (fun k => b.nodes.length - k) (fun k => k ≤ b.nodes.length ∧ (b.nodes.take k).any (fun n => !wellR b n) = false) (fun k => [(11, .int .i64 k)]) (fun _ => _) (fun _ => _) (0) ⟨Nat.zero_le _, rfl⟩ ⟨rfl, trivial⟩ rfl rfl ?_
  intro k hk
  obtain ⟨hkk, hw⟩ := hk
  refine .seq <| .region <| .f (.lss rfl rfl) <| .nil <| .go <| .seq ?_
  refine .sd 12 rfl (fun h12 => ?_) (fun h12 => ?_)
  ·
   refine .cond_true rfl <| .skip <| .go <| .seq <| .block <| .seq ?_
   refine .region ?_
   obtain ⟨eb13, eo13, cs13, hd13, hat13, hr13⟩ := SlR.at_ hnv0 (k := k) (by omega)
   cases hd13
   have hn13 := hr13
   obtain ⟨xf13, xg13, rfl, hxf13, hxg13⟩ := hr13.ex
   obtain ⟨xh13, xi13, rfl, -⟩ := hxf13
   obtain ⟨xj13, xk13, rfl, -⟩ := hxg13
   refine .f (.indexAddrL sl22 rfl rfl rfl (by omega)) <| .f (.loadIA ag45 sz45 rfl hat13 rfl) <| .on rfl <| .alloc zr45 rfl fun c2 _ _ => .on rfl <| .storeW sz45 rfl rfl rfl rfl rfl rfl .here <| .nil <| .go ?_
   refine .seq <| .region <| .f (.loadW ag27 sz27 rfl (.there <| .here) rfl) <| .f (.loadW ag45 sz45 rfl .here rfl) <| .on rfl <| .callP cal105 rfl rfl rfl (rnode_ok hk0 hn13 hT (hT.nod _ (List.getElem_mem (by omega)))) <| .f (.not rfl) ?_
   refine .nil <| .go ?_
   refine .split 18 rfl (fun h18 => ?_) (fun h18 => ?_)
   ·
    refine .cond_true rfl <| .seq <| .region <| .a rfl <| .nil <| .go ?_
    refine .ret <| .blk_ret <| .ret <| .ret <| .blk_ret <| .ret ?_
    refine .tail <| .tail ?_
    refine Post.retE rfl rfl ?_
    refine congrArg (Value.int .i64) ?_
    unfold bookWhy
    rw [listed_ok]
    rw [hlB, List.any_eq_true.2 ⟨_, List.getElem_mem (show k < b.nodes.length by omega), h18⟩]
    rfl
   ·
    refine .cond_false rfl <| .skip <| .blk_normal <| .go <| .region <| .f (.add rfl rfl (by first | exact wrap_succ (by omega) | exact IntWalk.i64_in _ (by omega) | exact rfl)) ?_
    refine .m rfl <| .nil ?_
    refine .tail ?_
    exact .mid (k + 1) ⟨by omega, by omega, any_take_step (by omega) hw h18⟩ ⟨rfl, trivial⟩ rfl rfl (.pre 12 rfl (.app rfl .base))
  ·
   refine .cond_false rfl <| .exit <| .exit <| .exit <| .blk_exit <| .go ?_
   refine .seq <| .region <| .a rfl <| .nil <| .go <| .ret ?_
   refine .tail ?_
   refine Post.retE rfl rfl ?_
   refine congrArg (Value.int .i64) ?_
   unfold bookWhy
   rw [listed_ok]
   rw [hlB, any_take_all (k := k) (by omega) hw]
   rfl

set_option maxHeartbeats 1000000 in
set_option maxRecDepth 20000 in
theorem noPairs_ok {I : Imm} {O : Own} {v : Value} {l : List Pr} (hl : PrsR I v l) :
  Pure Tryz.prog 214 [v] I O (.bool (decide (l.length = 0))) := by
 have hl0 := hl
 obtain ⟨la, lcap, rfl, hl1, hl2, -⟩ := hl
 refine Go.Sy.Does.enter Tryz.func214 rfl Tryz.ntmps214 rfl ?_
 refine .seq <| .region <| .a rfl <| .nil <| .go <| .seq ?_
 refine .region <| .m rfl <| .f (.len sl40 rfl rfl) <| .f ((EV.cast (.eql rfl rfl) (congrArg Value.bool (show decide ((l.length : Int) = 0) = decide (l.length = 0) from decide_eq_decide.2 (by omega))))) <| .a rfl <| .nil ?_
 refine .go <| .ret ?_
 refine Post.retE rfl rfl ?_
 rfl

set_option maxHeartbeats 1000000 in
set_option maxRecDepth 20000 in
theorem rnoNode_ok {I : Imm} {O : Own} {nc : List Value} {n : Nod} (hn : NodR I nc n) :
  Pure Tryz.prog 181 [.agg ⟨nc⟩] I O (.bool (emptyN n)) := by
 have hn0 := hn
 obtain ⟨nl, nt, rfl, hnl, hnt⟩ := hn.ex
 have hnl0 := hnl
 obtain ⟨la, lcap, rfl, hl1, hl2, -⟩ := hnl
 have hnt0 := hnt
 obtain ⟨ta, tcap, rfl, ht1, ht2, -⟩ := hnt
 refine Go.Sy.Does.enter Tryz.func181 rfl Tryz.ntmps181 rfl ?_
 refine .seq <| .region <| .on rfl <| .box rfl rfl rfl fun c1 _ _ => .a rfl <| .nil <| .go ?_
 refine .seq <| .region <| .f (.fieldAddr fo45_0 rfl) <| .f (.load ag9 rfl .here rfl) <| .f (.streq rfl rfl) <| .m rfl ?_
 refine .sd 6 rfl (fun h6 => ?_) (fun h6 => ?_)
 ·
  refine .f (.fieldAddr fo45_1 rfl) <| .f (.loadP ag39 sz39 rfl .here rfl) <| .f (.buildA ar39 zv39 rfl rfl) <| .f (.eqv (eqA3 (x := n.has) (y := ⟨0, 0, 0⟩)) rfl rfl) <| .f (.pickT rfl rfl) <| .m rfl ?_
  refine .split 12 rfl (fun h12 => ?_) (fun h12 => ?_)
  ·
   refine .f (.fieldAddr fo45_2 rfl) <| .f (.load ag40 rfl .here rfl) <| .on rfl <| .callP cal214 rfl rfl rfl (noPairs_ok hnl0) <| .f (.pickT rfl rfl) <| .m rfl ?_
   refine .split 17 rfl (fun h17 => ?_) (fun h17 => ?_)
   ·
    refine .f (.fieldAddr fo45_3 rfl) <| .f (.load ag40 rfl .here rfl) <| .on rfl <| .callP cal214 rfl rfl rfl (noPairs_ok hnt0) <| .f (.pickT rfl rfl) <| .a rfl <| .nil ?_
    refine .go <| .ret ?_
    refine .tail ?_
    refine Post.retE rfl rfl ?_
    refine congrArg Value.bool ?_
    unfold emptyN
    simp_all
   ·
    refine .z <| .z <| .z <| .f (.pickF rfl rfl) <| .a rfl <| .nil ?_
    refine .go <| .ret ?_
    refine .tail ?_
    refine Post.retE rfl rfl ?_
    refine congrArg Value.bool ?_
    unfold emptyN
    simp_all
  ·
   refine .z <| .z <| .z <| .f (.pickF rfl rfl) <| .m rfl <| .z ?_
   refine .z <| .z <| .f (.pickF rfl rfl) <| .a rfl <| .nil <| .go ?_
   refine .ret ?_
   refine .tail ?_
   refine Post.retE rfl rfl ?_
   refine congrArg Value.bool ?_
   unfold emptyN
   simp_all
 ·
  refine .z <| .z <| .z <| .z <| .f (.pickF rfl rfl) <| .m rfl ?_
  refine .z <| .z <| .z <| .f (.pickF rfl rfl) <| .m rfl <| .z ?_
  refine .z <| .z <| .f (.pickF rfl rfl) <| .a rfl <| .nil <| .go ?_
  refine .ret ?_
  refine .tail ?_
  refine Post.retE rfl rfl ?_
  refine congrArg Value.bool ?_
  unfold emptyN
  simp_all

set_option maxHeartbeats 1000000 in
set_option maxRecDepth 20000 in
theorem rnoTask_ok {I : Imm} {O : Own} {tc : List Value} {t : Tsk} (ht : TskR I tc t) :
  Pure Tryz.prog 182 [.agg ⟨tc⟩] I O (.bool (emptyT t)) := by
 have ht0 := ht
 obtain ⟨tw, tb, rfl, htw, htb⟩ := ht.ex
 have htw0 := htw
 obtain ⟨wa, wcap, rfl, hw1, hw2, -⟩ := htw
 have htb0 := htb
 obtain ⟨ba, bcap, rfl, hb1, hb2, -⟩ := htb
 refine Go.Sy.Does.enter Tryz.func182 rfl Tryz.ntmps182 rfl ?_
 refine .seq <| .region <| .on rfl <| .box rfl rfl rfl fun c1 _ _ => .a rfl <| .nil <| .go ?_
 refine .seq <| .region <| .f (.fieldAddr fo42_0 rfl) <| .f (.load ag9 rfl .here rfl) <| .f (.streq rfl rfl) <| .m rfl ?_
 refine .sd 6 rfl (fun h6 => ?_) (fun h6 => ?_)
 ·
  refine .f (.fieldAddr fo42_1 rfl) <| .f (.loadP ag39 sz39 rfl .here rfl) <| .f (.buildA ar39 zv39 rfl rfl) <| .f (.eqv (eqA3 (x := t.needs) (y := ⟨0, 0, 0⟩)) rfl rfl) <| .f (.pickT rfl rfl) <| .m rfl ?_
  refine .split 12 rfl (fun h12 => ?_) (fun h12 => ?_)
  ·
   refine .f (.fieldAddr fo42_2 rfl) <| .f (.load ag40 rfl .here rfl) <| .on rfl <| .callP cal214 rfl rfl rfl (noPairs_ok htw0) <| .f (.pickT rfl rfl) <| .m rfl ?_
   refine .split 17 rfl (fun h17 => ?_) (fun h17 => ?_)
   ·
    refine .f (.fieldAddr fo42_3 rfl) <| .f (.load ag40 rfl .here rfl) <| .on rfl <| .callP cal214 rfl rfl rfl (noPairs_ok htb0) <| .f (.pickT rfl rfl) <| .m rfl ?_
    refine .split 22 rfl (fun h22 => ?_) (fun h22 => ?_)
    ·
     refine .f (.fieldAddr fo42_4 rfl) <| .f (.load ag9 rfl .here rfl) <| .f (.streq rfl rfl) <| .f (.pickT rfl rfl) <| .m rfl ?_
     refine .sd 27 rfl (fun h27 => ?_) (fun h27 => ?_)
     ·
      refine .f (.fieldAddr fo42_5 rfl) <| .f (.load ag9 rfl .here rfl) <| .f (.streq rfl rfl) <| .f (.pickT rfl rfl) <| .m rfl ?_
      refine .sd 32 rfl (fun h32 => ?_) (fun h32 => ?_)
      ·
       refine .f (.fieldAddr fo42_6 rfl) <| .f (.load ag3 rfl .here rfl) <| .f (.eql rfl rfl) <| .f (.pickT rfl rfl) <| .a rfl <| .nil ?_
       refine .go <| .ret ?_
       refine .tail ?_
       refine Post.retE rfl rfl ?_
       refine congrArg Value.bool ?_
       unfold emptyT
       simp_all
      ·
       refine .z <| .z <| .z <| .f (.pickF rfl rfl) <| .a rfl <| .nil ?_
       refine .go <| .ret ?_
       refine .tail ?_
       refine Post.retE rfl rfl ?_
       refine congrArg Value.bool ?_
       unfold emptyT
       simp_all
     ·
      refine .z <| .z <| .z <| .f (.pickF rfl rfl) <| .m rfl <| .z ?_
      refine .z <| .z <| .f (.pickF rfl rfl) <| .a rfl <| .nil <| .go ?_
      refine .ret ?_
      refine .tail ?_
      refine Post.retE rfl rfl ?_
      refine congrArg Value.bool ?_
      unfold emptyT
      simp_all
    ·
     refine .z <| .z <| .z <| .f (.pickF rfl rfl) <| .m rfl <| .z ?_
     refine .z <| .z <| .f (.pickF rfl rfl) <| .m rfl <| .z <| .z ?_
     refine .z <| .f (.pickF rfl rfl) <| .a rfl <| .nil <| .go <| .ret ?_
     refine .tail ?_
     refine Post.retE rfl rfl ?_
     refine congrArg Value.bool ?_
     unfold emptyT
     simp_all
   ·
    refine .z <| .z <| .z <| .f (.pickF rfl rfl) <| .m rfl <| .z ?_
    refine .z <| .z <| .f (.pickF rfl rfl) <| .m rfl <| .z <| .z ?_
    refine .z <| .f (.pickF rfl rfl) <| .m rfl <| .z <| .z <| .z ?_
    refine .f (.pickF rfl rfl) <| .a rfl <| .nil <| .go <| .ret ?_
    refine .tail ?_
    refine Post.retE rfl rfl ?_
    refine congrArg Value.bool ?_
    unfold emptyT
    simp_all
  ·
   refine .z <| .z <| .z <| .f (.pickF rfl rfl) <| .m rfl <| .z ?_
   refine .z <| .z <| .f (.pickF rfl rfl) <| .m rfl <| .z <| .z ?_
   refine .z <| .f (.pickF rfl rfl) <| .m rfl <| .z <| .z <| .z ?_
   refine .f (.pickF rfl rfl) <| .m rfl <| .z <| .z <| .z <| .f (.pickF rfl rfl) ?_
   refine .a rfl <| .nil <| .go <| .ret ?_
   refine .tail ?_
   refine Post.retE rfl rfl ?_
   refine congrArg Value.bool ?_
   unfold emptyT
   simp_all
 ·
  refine .z <| .z <| .z <| .z <| .f (.pickF rfl rfl) <| .m rfl ?_
  refine .z <| .z <| .z <| .f (.pickF rfl rfl) <| .m rfl <| .z ?_
  refine .z <| .z <| .f (.pickF rfl rfl) <| .m rfl <| .z <| .z ?_
  refine .z <| .f (.pickF rfl rfl) <| .m rfl <| .z <| .z <| .z ?_
  refine .f (.pickF rfl rfl) <| .m rfl <| .z <| .z <| .z <| .f (.pickF rfl rfl) ?_
  refine .a rfl <| .nil <| .go <| .ret ?_
  refine .tail ?_
  refine Post.retE rfl rfl ?_
  refine congrArg Value.bool ?_
  unfold emptyT
  simp_all

theorem kind_cases {k : Int} (h : U8 k) : k = 1 ∨ k = 2 ∨ k = 3 ∨ k = 4 ∨ k = 5 ∨ k = 6 ∨ k = 7 ∨ k = 0 ∨ 8 ≤ k := by unfold U8 at h; omega

set_option maxHeartbeats 16000000 in
set_option maxRecDepth 20000 in
theorem rCheckOrder_ok {I : Imm} {O : Own} {oc : List Value} {o : Ordr} (ho : OrdrR I oc o) :
  Pure Tryz.prog 134 [.agg ⟨oc⟩] I O (.int .i64 (orderWhy o)) := by
 obtain ⟨okk, ond, otk, onm, oon, ofe⟩ := o
 have ho0 := ho
 obtain ⟨lv, tv, wv, bv, rfl, hon, holv, hotv, hot, howv, hobv⟩ := ho.ex
 have hkd := ho0.kind
 obtain ⟨olva, olvc, rfl, -⟩ := holv
 obtain ⟨otva, otvc, rfl, -⟩ := hotv
 obtain ⟨owva, owvc, rfl, -⟩ := howv
 obtain ⟨obva, obvc, rfl, -⟩ := hobv
 dsimp only at hkd hon hot
 refine Go.Sy.Does.enter Tryz.func134 rfl Tryz.ntmps134 rfl ?_
 refine .seq <| .region <| .on rfl <| .box rfl rfl rfl fun c1 _ _ => .a rfl <| .nil <| .go ?_
 refine .seq <| .region <| .f (.fieldAddr fo65_0 rfl) ?_
 rcases kind_cases hkd with rfl | rfl | rfl | rfl | rfl | rfl | rfl | rfl | hbig
 ·
  refine .f (.load ag63 rfl .here rfl) <| .a rfl <| .nil <| .go <| .seq <| .region ?_
  refine .m rfl <| .f (.neq rfl rfl) <| .m rfl <| .z <| .z <| .f (.pickF rfl rfl) ?_
  refine .a rfl <| .nil <| .go <| .seq <| .region <| .m rfl ?_
  refine .f (.gtr rfl rfl) <| .m rfl <| .m rfl <| .f (.lss rfl rfl) <| .f (.pickT rfl rfl) <| .m rfl ?_
  refine .m rfl <| .f (.eql rfl rfl) <| .m rfl <| .z <| .z <| .z ?_
  refine .f (.pickT rfl rfl) <| .f (.pickT rfl rfl) <| .m rfl <| .m rfl <| .f (.eql rfl rfl) <| .m rfl ?_
  refine .f (.fieldAddr fo65_2 rfl) <| .f (.loadP ag42 sz42 rfl .here rfl) <| .on rfl <| .callP cal182 rfl rfl rfl (rnoTask_ok hot) <| .f (.pickF rfl rfl) <| .f (.pickT rfl rfl) <| .m rfl ?_
  refine .split 38 rfl (fun h38 => ?_) (fun h38 => ?_)
  ·
   refine .m rfl <| .m rfl <| .f (.fieldAddr fo65_3 rfl) <| .f (.load ag9 rfl .here rfl) <| .f (.streq rfl rfl) <| .f (.pickF rfl rfl) ?_
   refine .f (.pickT rfl rfl) <| .m rfl ?_
   refine .sd 46 rfl (fun h46 => ?_) (fun h46 => ?_)
   ·
    refine .m rfl <| .f (.eql rfl rfl) <| .m rfl <| .f (.fieldAddr fo65_4 rfl) <| .f (.load ag9 rfl .here rfl) <| .f (.streq rfl rfl) ?_
    refine .m rfl ?_
    refine .sd 53 rfl (fun h53 => ?_) (fun h53 => ?_)
    ·
     refine .f (.fieldAddr fo65_5 rfl) <| .f (.load ag25 rfl .here rfl) <| .f (.eql rfl rfl) <| .f (.pickT rfl rfl) <| .f (.pickF rfl rfl) <| .f (.pickT rfl rfl) ?_
     refine .a rfl <| .nil <| .go <| .seq <| .seq <| .region ?_
     refine .m rfl <| .f (.not rfl) <| .nil <| .go ?_
     refine .split 61 rfl (fun h61 => ?_) (fun h61 => ?_)
     ·
      first | replace h61 := of_decide_eq_false ((Bool.not_eq_true' _).mp h61) | replace h61 := of_decide_eq_false (by simpa using h61)
      refine .cond_true rfl <| .seq <| .region <| .a rfl <| .nil <| .go ?_
      refine .ret <| .ret ?_
      refine .tail ?_
      refine Post.retE rfl rfl ?_
      refine congrArg (Value.int .i64) ?_
      unfold orderWhy orderOk noName plainO
      simp_all
     ·
      first | replace h61 := of_decide_eq_true ((Bool.not_eq_false' _).mp h61) | replace h61 := of_decide_eq_true (by simpa using h61)
      refine .cond_false rfl <| .skip <| .go <| .seq <| .region <| .a rfl ?_
      refine .nil <| .go <| .ret ?_
      refine .tail ?_
      refine Post.retE rfl rfl ?_
      refine congrArg (Value.int .i64) ?_
      unfold orderWhy orderOk noName plainO
      simp_all
    ·
     refine .z <| .z <| .z <| .f (.pickF rfl rfl) <| .f (.pickF rfl rfl) <| .f (.pickT rfl rfl) ?_
     refine .a rfl <| .nil <| .go <| .seq <| .seq <| .region ?_
     refine .m rfl <| .f (.not rfl) <| .nil <| .go <| .cond_true rfl <| .seq ?_
     refine .region <| .a rfl <| .nil <| .go <| .ret <| .ret ?_
     refine .tail ?_
     refine Post.retE rfl rfl ?_
     refine congrArg (Value.int .i64) ?_
     unfold orderWhy orderOk noName plainO
     simp_all
   ·
    refine .z <| .z <| .z <| .z <| .z <| .z ?_
    refine .z <| .z <| .z <| .z <| .z <| .z ?_
    refine .f (.pickF rfl rfl) <| .a rfl <| .nil <| .go <| .seq <| .seq ?_
    refine .region <| .m rfl <| .f (.not rfl) <| .nil <| .go <| .cond_true rfl ?_
    refine .seq <| .region <| .a rfl <| .nil <| .go <| .ret ?_
    refine .ret ?_
    refine .tail ?_
    refine Post.retE rfl rfl ?_
    refine congrArg (Value.int .i64) ?_
    unfold orderWhy orderOk noName plainO
    simp_all
  ·
   refine .z <| .z <| .z <| .z <| .z <| .z ?_
   refine .f (.pickF rfl rfl) <| .m rfl <| .z <| .z <| .z <| .z ?_
   refine .z <| .z <| .z <| .z <| .z <| .z ?_
   refine .z <| .z <| .f (.pickF rfl rfl) <| .a rfl <| .nil <| .go ?_
   refine .seq <| .seq <| .region <| .m rfl <| .f (.not rfl) <| .nil ?_
   refine .go <| .cond_true rfl <| .seq <| .region <| .a rfl <| .nil ?_
   refine .go <| .ret <| .ret ?_
   refine .tail ?_
   refine Post.retE rfl rfl ?_
   refine congrArg (Value.int .i64) ?_
   unfold orderWhy orderOk noName plainO
   simp_all
 ·
  refine .f (.load ag63 rfl .here rfl) <| .a rfl <| .nil <| .go <| .seq <| .region ?_
  refine .m rfl <| .f (.neq rfl rfl) <| .m rfl <| .m rfl <| .f (.neq rfl rfl) <| .f (.pickT rfl rfl) ?_
  refine .a rfl <| .nil <| .go <| .seq <| .region <| .m rfl ?_
  refine .f (.gtr rfl rfl) <| .m rfl <| .m rfl <| .f (.lss rfl rfl) <| .f (.pickT rfl rfl) <| .m rfl ?_
  refine .m rfl <| .f (.eql rfl rfl) <| .m rfl <| .f (.fieldAddr fo65_1 rfl) <| .f (.loadP ag45 sz45 rfl .here rfl) <| .on rfl <| .callP cal181 rfl rfl rfl (rnoNode_ok hon) ?_
  refine .f (.pickF rfl rfl) <| .f (.pickT rfl rfl) <| .m rfl ?_
  refine .split 29 rfl (fun h29 => ?_) (fun h29 => ?_)
  ·
   refine .m rfl <| .f (.eql rfl rfl) <| .m rfl <| .f (.fieldAddr fo65_2 rfl) <| .f (.loadP ag42 sz42 rfl .here rfl) <| .on rfl <| .callP cal182 rfl rfl rfl (rnoTask_ok hot) ?_
   refine .f (.pickF rfl rfl) <| .f (.pickT rfl rfl) <| .m rfl ?_
   refine .split 38 rfl (fun h38 => ?_) (fun h38 => ?_)
   ·
    refine .m rfl <| .m rfl <| .z <| .z <| .z <| .f (.pickT rfl rfl) ?_
    refine .f (.pickT rfl rfl) <| .m rfl <| .m rfl <| .f (.eql rfl rfl) <| .m rfl <| .f (.fieldAddr fo65_4 rfl) ?_
    refine .f (.load ag9 rfl .here rfl) <| .f (.streq rfl rfl) <| .m rfl ?_
    refine .sd 53 rfl (fun h53 => ?_) (fun h53 => ?_)
    ·
     refine .f (.fieldAddr fo65_5 rfl) <| .f (.load ag25 rfl .here rfl) <| .f (.eql rfl rfl) <| .f (.pickT rfl rfl) <| .f (.pickF rfl rfl) <| .f (.pickT rfl rfl) ?_
     refine .a rfl <| .nil <| .go <| .seq <| .seq <| .region ?_
     refine .m rfl <| .f (.not rfl) <| .nil <| .go ?_
     refine .split 61 rfl (fun h61 => ?_) (fun h61 => ?_)
     ·
      first | replace h61 := of_decide_eq_false ((Bool.not_eq_true' _).mp h61) | replace h61 := of_decide_eq_false (by simpa using h61)
      refine .cond_true rfl <| .seq <| .region <| .a rfl <| .nil <| .go ?_
      refine .ret <| .ret ?_
      refine .tail ?_
      refine Post.retE rfl rfl ?_
      refine congrArg (Value.int .i64) ?_
      unfold orderWhy orderOk noName plainO
      simp_all
     ·
      first | replace h61 := of_decide_eq_true ((Bool.not_eq_false' _).mp h61) | replace h61 := of_decide_eq_true (by simpa using h61)
      refine .cond_false rfl <| .skip <| .go <| .seq <| .region <| .a rfl ?_
      refine .nil <| .go <| .ret ?_
      refine .tail ?_
      refine Post.retE rfl rfl ?_
      refine congrArg (Value.int .i64) ?_
      unfold orderWhy orderOk noName plainO
      simp_all
    ·
     refine .z <| .z <| .z <| .f (.pickF rfl rfl) <| .f (.pickF rfl rfl) <| .f (.pickT rfl rfl) ?_
     refine .a rfl <| .nil <| .go <| .seq <| .seq <| .region ?_
     refine .m rfl <| .f (.not rfl) <| .nil <| .go <| .cond_true rfl <| .seq ?_
     refine .region <| .a rfl <| .nil <| .go <| .ret <| .ret ?_
     refine .tail ?_
     refine Post.retE rfl rfl ?_
     refine congrArg (Value.int .i64) ?_
     unfold orderWhy orderOk noName plainO
     simp_all
   ·
    refine .z <| .z <| .z <| .z <| .z <| .z ?_
    refine .f (.pickF rfl rfl) <| .m rfl <| .z <| .z <| .z <| .z ?_
    refine .z <| .z <| .z <| .z <| .z <| .z ?_
    refine .z <| .z <| .f (.pickF rfl rfl) <| .a rfl <| .nil <| .go ?_
    refine .seq <| .seq <| .region <| .m rfl <| .f (.not rfl) <| .nil ?_
    refine .go <| .cond_true rfl <| .seq <| .region <| .a rfl <| .nil ?_
    refine .go <| .ret <| .ret ?_
    refine .tail ?_
    refine Post.retE rfl rfl ?_
    refine congrArg (Value.int .i64) ?_
    unfold orderWhy orderOk noName plainO
    simp_all
  ·
   refine .z <| .z <| .z <| .z <| .z <| .z ?_
   refine .z <| .f (.pickF rfl rfl) <| .m rfl <| .z <| .z <| .z ?_
   refine .z <| .z <| .z <| .f (.pickF rfl rfl) <| .m rfl <| .z ?_
   refine .z <| .z <| .z <| .z <| .z <| .z ?_
   refine .z <| .z <| .z <| .z <| .z <| .f (.pickF rfl rfl) ?_
   refine .a rfl <| .nil <| .go <| .seq <| .seq <| .region ?_
   refine .m rfl <| .f (.not rfl) <| .nil <| .go <| .cond_true rfl <| .seq ?_
   refine .region <| .a rfl <| .nil <| .go <| .ret <| .ret ?_
   refine .tail ?_
   refine Post.retE rfl rfl ?_
   refine congrArg (Value.int .i64) ?_
   unfold orderWhy orderOk noName plainO
   simp_all
 ·
  refine .f (.load ag63 rfl .here rfl) <| .a rfl <| .nil <| .go <| .seq <| .region ?_
  refine .m rfl <| .f (.neq rfl rfl) <| .m rfl <| .m rfl <| .f (.neq rfl rfl) <| .f (.pickT rfl rfl) ?_
  refine .a rfl <| .nil <| .go <| .seq <| .region <| .m rfl ?_
  refine .f (.gtr rfl rfl) <| .m rfl <| .m rfl <| .f (.lss rfl rfl) <| .f (.pickT rfl rfl) <| .m rfl ?_
  refine .m rfl <| .f (.eql rfl rfl) <| .m rfl <| .f (.fieldAddr fo65_1 rfl) <| .f (.loadP ag45 sz45 rfl .here rfl) <| .on rfl <| .callP cal181 rfl rfl rfl (rnoNode_ok hon) ?_
  refine .f (.pickF rfl rfl) <| .f (.pickT rfl rfl) <| .m rfl ?_
  refine .split 29 rfl (fun h29 => ?_) (fun h29 => ?_)
  ·
   refine .m rfl <| .f (.eql rfl rfl) <| .m rfl <| .z <| .z <| .z ?_
   refine .f (.pickT rfl rfl) <| .f (.pickT rfl rfl) <| .m rfl <| .m rfl <| .m rfl <| .f (.fieldAddr fo65_3 rfl) ?_
   refine .f (.load ag9 rfl .here rfl) <| .f (.streq rfl rfl) <| .f (.pickF rfl rfl) <| .f (.pickT rfl rfl) <| .m rfl ?_
   refine .sd 46 rfl (fun h46 => ?_) (fun h46 => ?_)
   ·
    refine .m rfl <| .f (.eql rfl rfl) <| .m rfl <| .f (.fieldAddr fo65_4 rfl) <| .f (.load ag9 rfl .here rfl) <| .f (.streq rfl rfl) ?_
    refine .m rfl ?_
    refine .sd 53 rfl (fun h53 => ?_) (fun h53 => ?_)
    ·
     refine .f (.fieldAddr fo65_5 rfl) <| .f (.load ag25 rfl .here rfl) <| .f (.eql rfl rfl) <| .f (.pickT rfl rfl) <| .f (.pickF rfl rfl) <| .f (.pickT rfl rfl) ?_
     refine .a rfl <| .nil <| .go <| .seq <| .seq <| .region ?_
     refine .m rfl <| .f (.not rfl) <| .nil <| .go ?_
     refine .split 61 rfl (fun h61 => ?_) (fun h61 => ?_)
     ·
      first | replace h61 := of_decide_eq_false ((Bool.not_eq_true' _).mp h61) | replace h61 := of_decide_eq_false (by simpa using h61)
      refine .cond_true rfl <| .seq <| .region <| .a rfl <| .nil <| .go ?_
      refine .ret <| .ret ?_
      refine .tail ?_
      refine Post.retE rfl rfl ?_
      refine congrArg (Value.int .i64) ?_
      unfold orderWhy orderOk noName plainO
      simp_all
     ·
      first | replace h61 := of_decide_eq_true ((Bool.not_eq_false' _).mp h61) | replace h61 := of_decide_eq_true (by simpa using h61)
      refine .cond_false rfl <| .skip <| .go <| .seq <| .region <| .a rfl ?_
      refine .nil <| .go <| .ret ?_
      refine .tail ?_
      refine Post.retE rfl rfl ?_
      refine congrArg (Value.int .i64) ?_
      unfold orderWhy orderOk noName plainO
      simp_all
    ·
     refine .z <| .z <| .z <| .f (.pickF rfl rfl) <| .f (.pickF rfl rfl) <| .f (.pickT rfl rfl) ?_
     refine .a rfl <| .nil <| .go <| .seq <| .seq <| .region ?_
     refine .m rfl <| .f (.not rfl) <| .nil <| .go <| .cond_true rfl <| .seq ?_
     refine .region <| .a rfl <| .nil <| .go <| .ret <| .ret ?_
     refine .tail ?_
     refine Post.retE rfl rfl ?_
     refine congrArg (Value.int .i64) ?_
     unfold orderWhy orderOk noName plainO
     simp_all
   ·
    refine .z <| .z <| .z <| .z <| .z <| .z ?_
    refine .z <| .z <| .z <| .z <| .z <| .z ?_
    refine .f (.pickF rfl rfl) <| .a rfl <| .nil <| .go <| .seq <| .seq ?_
    refine .region <| .m rfl <| .f (.not rfl) <| .nil <| .go <| .cond_true rfl ?_
    refine .seq <| .region <| .a rfl <| .nil <| .go <| .ret ?_
    refine .ret ?_
    refine .tail ?_
    refine Post.retE rfl rfl ?_
    refine congrArg (Value.int .i64) ?_
    unfold orderWhy orderOk noName plainO
    simp_all
  ·
   refine .z <| .z <| .z <| .z <| .z <| .z ?_
   refine .z <| .f (.pickF rfl rfl) <| .m rfl <| .z <| .z <| .z ?_
   refine .z <| .z <| .z <| .f (.pickF rfl rfl) <| .m rfl <| .z ?_
   refine .z <| .z <| .z <| .z <| .z <| .z ?_
   refine .z <| .z <| .z <| .z <| .z <| .f (.pickF rfl rfl) ?_
   refine .a rfl <| .nil <| .go <| .seq <| .seq <| .region ?_
   refine .m rfl <| .f (.not rfl) <| .nil <| .go <| .cond_true rfl <| .seq ?_
   refine .region <| .a rfl <| .nil <| .go <| .ret <| .ret ?_
   refine .tail ?_
   refine Post.retE rfl rfl ?_
   refine congrArg (Value.int .i64) ?_
   unfold orderWhy orderOk noName plainO
   simp_all
 ·
  refine .f (.load ag63 rfl .here rfl) <| .a rfl <| .nil <| .go <| .seq <| .region ?_
  refine .m rfl <| .f (.neq rfl rfl) <| .m rfl <| .m rfl <| .f (.neq rfl rfl) <| .f (.pickT rfl rfl) ?_
  refine .a rfl <| .nil <| .go <| .seq <| .region <| .m rfl ?_
  refine .f (.gtr rfl rfl) <| .m rfl <| .m rfl <| .f (.lss rfl rfl) <| .f (.pickT rfl rfl) <| .m rfl ?_
  refine .m rfl <| .f (.eql rfl rfl) <| .m rfl <| .f (.fieldAddr fo65_1 rfl) <| .f (.loadP ag45 sz45 rfl .here rfl) <| .on rfl <| .callP cal181 rfl rfl rfl (rnoNode_ok hon) ?_
  refine .f (.pickF rfl rfl) <| .f (.pickT rfl rfl) <| .m rfl ?_
  refine .split 29 rfl (fun h29 => ?_) (fun h29 => ?_)
  ·
   refine .m rfl <| .f (.eql rfl rfl) <| .m rfl <| .f (.fieldAddr fo65_2 rfl) <| .f (.loadP ag42 sz42 rfl .here rfl) <| .on rfl <| .callP cal182 rfl rfl rfl (rnoTask_ok hot) ?_
   refine .f (.pickF rfl rfl) <| .f (.pickT rfl rfl) <| .m rfl ?_
   refine .split 38 rfl (fun h38 => ?_) (fun h38 => ?_)
   ·
    refine .m rfl <| .m rfl <| .z <| .z <| .z <| .f (.pickT rfl rfl) ?_
    refine .f (.pickT rfl rfl) <| .m rfl <| .m rfl <| .f (.eql rfl rfl) <| .m rfl <| .f (.fieldAddr fo65_4 rfl) ?_
    refine .f (.load ag9 rfl .here rfl) <| .f (.streq rfl rfl) <| .m rfl ?_
    refine .sd 53 rfl (fun h53 => ?_) (fun h53 => ?_)
    ·
     refine .f (.fieldAddr fo65_5 rfl) <| .f (.load ag25 rfl .here rfl) <| .f (.eql rfl rfl) <| .f (.pickT rfl rfl) <| .f (.pickF rfl rfl) <| .f (.pickT rfl rfl) ?_
     refine .a rfl <| .nil <| .go <| .seq <| .seq <| .region ?_
     refine .m rfl <| .f (.not rfl) <| .nil <| .go ?_
     refine .split 61 rfl (fun h61 => ?_) (fun h61 => ?_)
     ·
      first | replace h61 := of_decide_eq_false ((Bool.not_eq_true' _).mp h61) | replace h61 := of_decide_eq_false (by simpa using h61)
      refine .cond_true rfl <| .seq <| .region <| .a rfl <| .nil <| .go ?_
      refine .ret <| .ret ?_
      refine .tail ?_
      refine Post.retE rfl rfl ?_
      refine congrArg (Value.int .i64) ?_
      unfold orderWhy orderOk noName plainO
      simp_all
     ·
      first | replace h61 := of_decide_eq_true ((Bool.not_eq_false' _).mp h61) | replace h61 := of_decide_eq_true (by simpa using h61)
      refine .cond_false rfl <| .skip <| .go <| .seq <| .region <| .a rfl ?_
      refine .nil <| .go <| .ret ?_
      refine .tail ?_
      refine Post.retE rfl rfl ?_
      refine congrArg (Value.int .i64) ?_
      unfold orderWhy orderOk noName plainO
      simp_all
    ·
     refine .z <| .z <| .z <| .f (.pickF rfl rfl) <| .f (.pickF rfl rfl) <| .f (.pickT rfl rfl) ?_
     refine .a rfl <| .nil <| .go <| .seq <| .seq <| .region ?_
     refine .m rfl <| .f (.not rfl) <| .nil <| .go <| .cond_true rfl <| .seq ?_
     refine .region <| .a rfl <| .nil <| .go <| .ret <| .ret ?_
     refine .tail ?_
     refine Post.retE rfl rfl ?_
     refine congrArg (Value.int .i64) ?_
     unfold orderWhy orderOk noName plainO
     simp_all
   ·
    refine .z <| .z <| .z <| .z <| .z <| .z ?_
    refine .f (.pickF rfl rfl) <| .m rfl <| .z <| .z <| .z <| .z ?_
    refine .z <| .z <| .z <| .z <| .z <| .z ?_
    refine .z <| .z <| .f (.pickF rfl rfl) <| .a rfl <| .nil <| .go ?_
    refine .seq <| .seq <| .region <| .m rfl <| .f (.not rfl) <| .nil ?_
    refine .go <| .cond_true rfl <| .seq <| .region <| .a rfl <| .nil ?_
    refine .go <| .ret <| .ret ?_
    refine .tail ?_
    refine Post.retE rfl rfl ?_
    refine congrArg (Value.int .i64) ?_
    unfold orderWhy orderOk noName plainO
    simp_all
  ·
   refine .z <| .z <| .z <| .z <| .z <| .z ?_
   refine .z <| .f (.pickF rfl rfl) <| .m rfl <| .z <| .z <| .z ?_
   refine .z <| .z <| .z <| .f (.pickF rfl rfl) <| .m rfl <| .z ?_
   refine .z <| .z <| .z <| .z <| .z <| .z ?_
   refine .z <| .z <| .z <| .z <| .z <| .f (.pickF rfl rfl) ?_
   refine .a rfl <| .nil <| .go <| .seq <| .seq <| .region ?_
   refine .m rfl <| .f (.not rfl) <| .nil <| .go <| .cond_true rfl <| .seq ?_
   refine .region <| .a rfl <| .nil <| .go <| .ret <| .ret ?_
   refine .tail ?_
   refine Post.retE rfl rfl ?_
   refine congrArg (Value.int .i64) ?_
   unfold orderWhy orderOk noName plainO
   simp_all
 ·
  refine .f (.load ag63 rfl .here rfl) <| .a rfl <| .nil <| .go <| .seq <| .region ?_
  refine .m rfl <| .f (.neq rfl rfl) <| .m rfl <| .m rfl <| .f (.neq rfl rfl) <| .f (.pickT rfl rfl) ?_
  refine .a rfl <| .nil <| .go <| .seq <| .region <| .m rfl ?_
  refine .f (.gtr rfl rfl) <| .m rfl <| .m rfl <| .f (.lss rfl rfl) <| .f (.pickT rfl rfl) <| .m rfl ?_
  refine .m rfl <| .f (.eql rfl rfl) <| .m rfl <| .f (.fieldAddr fo65_1 rfl) <| .f (.loadP ag45 sz45 rfl .here rfl) <| .on rfl <| .callP cal181 rfl rfl rfl (rnoNode_ok hon) ?_
  refine .f (.pickF rfl rfl) <| .f (.pickT rfl rfl) <| .m rfl ?_
  refine .split 29 rfl (fun h29 => ?_) (fun h29 => ?_)
  ·
   refine .m rfl <| .f (.eql rfl rfl) <| .m rfl <| .f (.fieldAddr fo65_2 rfl) <| .f (.loadP ag42 sz42 rfl .here rfl) <| .on rfl <| .callP cal182 rfl rfl rfl (rnoTask_ok hot) ?_
   refine .f (.pickF rfl rfl) <| .f (.pickT rfl rfl) <| .m rfl ?_
   refine .split 38 rfl (fun h38 => ?_) (fun h38 => ?_)
   ·
    refine .m rfl <| .m rfl <| .z <| .z <| .z <| .f (.pickT rfl rfl) ?_
    refine .f (.pickT rfl rfl) <| .m rfl <| .m rfl <| .f (.eql rfl rfl) <| .m rfl <| .z ?_
    refine .z <| .z <| .z <| .z <| .z <| .z ?_
    refine .z <| .f (.pickT rfl rfl) <| .f (.pickT rfl rfl) <| .a rfl <| .nil <| .go ?_
    refine .seq <| .seq <| .region <| .m rfl <| .f (.not rfl) <| .nil ?_
    refine .go <| .cond_false rfl <| .skip <| .go <| .seq <| .region ?_
    refine .a rfl <| .nil <| .go <| .ret ?_
    refine .tail ?_
    refine Post.retE rfl rfl ?_
    refine congrArg (Value.int .i64) ?_
    unfold orderWhy orderOk noName plainO
    simp_all
   ·
    refine .z <| .z <| .z <| .z <| .z <| .z ?_
    refine .f (.pickF rfl rfl) <| .m rfl <| .z <| .z <| .z <| .z ?_
    refine .z <| .z <| .z <| .z <| .z <| .z ?_
    refine .z <| .z <| .f (.pickF rfl rfl) <| .a rfl <| .nil <| .go ?_
    refine .seq <| .seq <| .region <| .m rfl <| .f (.not rfl) <| .nil ?_
    refine .go <| .cond_true rfl <| .seq <| .region <| .a rfl <| .nil ?_
    refine .go <| .ret <| .ret ?_
    refine .tail ?_
    refine Post.retE rfl rfl ?_
    refine congrArg (Value.int .i64) ?_
    unfold orderWhy orderOk noName plainO
    simp_all
  ·
   refine .z <| .z <| .z <| .z <| .z <| .z ?_
   refine .z <| .f (.pickF rfl rfl) <| .m rfl <| .z <| .z <| .z ?_
   refine .z <| .z <| .z <| .f (.pickF rfl rfl) <| .m rfl <| .z ?_
   refine .z <| .z <| .z <| .z <| .z <| .z ?_
   refine .z <| .z <| .z <| .z <| .z <| .f (.pickF rfl rfl) ?_
   refine .a rfl <| .nil <| .go <| .seq <| .seq <| .region ?_
   refine .m rfl <| .f (.not rfl) <| .nil <| .go <| .cond_true rfl <| .seq ?_
   refine .region <| .a rfl <| .nil <| .go <| .ret <| .ret ?_
   refine .tail ?_
   refine Post.retE rfl rfl ?_
   refine congrArg (Value.int .i64) ?_
   unfold orderWhy orderOk noName plainO
   simp_all
 ·
  refine .f (.load ag63 rfl .here rfl) <| .a rfl <| .nil <| .go <| .seq <| .region ?_
  refine .m rfl <| .f (.neq rfl rfl) <| .m rfl <| .m rfl <| .f (.neq rfl rfl) <| .f (.pickT rfl rfl) ?_
  refine .a rfl <| .nil <| .go <| .seq <| .region <| .m rfl ?_
  refine .f (.gtr rfl rfl) <| .m rfl <| .m rfl <| .f (.lss rfl rfl) <| .f (.pickT rfl rfl) <| .m rfl ?_
  refine .m rfl <| .f (.eql rfl rfl) <| .m rfl <| .f (.fieldAddr fo65_1 rfl) <| .f (.loadP ag45 sz45 rfl .here rfl) <| .on rfl <| .callP cal181 rfl rfl rfl (rnoNode_ok hon) ?_
  refine .f (.pickF rfl rfl) <| .f (.pickT rfl rfl) <| .m rfl ?_
  refine .split 29 rfl (fun h29 => ?_) (fun h29 => ?_)
  ·
   refine .m rfl <| .f (.eql rfl rfl) <| .m rfl <| .f (.fieldAddr fo65_2 rfl) <| .f (.loadP ag42 sz42 rfl .here rfl) <| .on rfl <| .callP cal182 rfl rfl rfl (rnoTask_ok hot) ?_
   refine .f (.pickF rfl rfl) <| .f (.pickT rfl rfl) <| .m rfl ?_
   refine .split 38 rfl (fun h38 => ?_) (fun h38 => ?_)
   ·
    refine .m rfl <| .m rfl <| .z <| .z <| .z <| .f (.pickT rfl rfl) ?_
    refine .f (.pickT rfl rfl) <| .m rfl <| .m rfl <| .f (.eql rfl rfl) <| .m rfl <| .f (.fieldAddr fo65_4 rfl) ?_
    refine .f (.load ag9 rfl .here rfl) <| .f (.streq rfl rfl) <| .m rfl ?_
    refine .sd 53 rfl (fun h53 => ?_) (fun h53 => ?_)
    ·
     refine .f (.fieldAddr fo65_5 rfl) <| .f (.load ag25 rfl .here rfl) <| .f (.eql rfl rfl) <| .f (.pickT rfl rfl) <| .f (.pickF rfl rfl) <| .f (.pickT rfl rfl) ?_
     refine .a rfl <| .nil <| .go <| .seq <| .seq <| .region ?_
     refine .m rfl <| .f (.not rfl) <| .nil <| .go ?_
     refine .split 61 rfl (fun h61 => ?_) (fun h61 => ?_)
     ·
      first | replace h61 := of_decide_eq_false ((Bool.not_eq_true' _).mp h61) | replace h61 := of_decide_eq_false (by simpa using h61)
      refine .cond_true rfl <| .seq <| .region <| .a rfl <| .nil <| .go ?_
      refine .ret <| .ret ?_
      refine .tail ?_
      refine Post.retE rfl rfl ?_
      refine congrArg (Value.int .i64) ?_
      unfold orderWhy orderOk noName plainO
      simp_all
     ·
      first | replace h61 := of_decide_eq_true ((Bool.not_eq_false' _).mp h61) | replace h61 := of_decide_eq_true (by simpa using h61)
      refine .cond_false rfl <| .skip <| .go <| .seq <| .region <| .a rfl ?_
      refine .nil <| .go <| .ret ?_
      refine .tail ?_
      refine Post.retE rfl rfl ?_
      refine congrArg (Value.int .i64) ?_
      unfold orderWhy orderOk noName plainO
      simp_all
    ·
     refine .z <| .z <| .z <| .f (.pickF rfl rfl) <| .f (.pickF rfl rfl) <| .f (.pickT rfl rfl) ?_
     refine .a rfl <| .nil <| .go <| .seq <| .seq <| .region ?_
     refine .m rfl <| .f (.not rfl) <| .nil <| .go <| .cond_true rfl <| .seq ?_
     refine .region <| .a rfl <| .nil <| .go <| .ret <| .ret ?_
     refine .tail ?_
     refine Post.retE rfl rfl ?_
     refine congrArg (Value.int .i64) ?_
     unfold orderWhy orderOk noName plainO
     simp_all
   ·
    refine .z <| .z <| .z <| .z <| .z <| .z ?_
    refine .f (.pickF rfl rfl) <| .m rfl <| .z <| .z <| .z <| .z ?_
    refine .z <| .z <| .z <| .z <| .z <| .z ?_
    refine .z <| .z <| .f (.pickF rfl rfl) <| .a rfl <| .nil <| .go ?_
    refine .seq <| .seq <| .region <| .m rfl <| .f (.not rfl) <| .nil ?_
    refine .go <| .cond_true rfl <| .seq <| .region <| .a rfl <| .nil ?_
    refine .go <| .ret <| .ret ?_
    refine .tail ?_
    refine Post.retE rfl rfl ?_
    refine congrArg (Value.int .i64) ?_
    unfold orderWhy orderOk noName plainO
    simp_all
  ·
   refine .z <| .z <| .z <| .z <| .z <| .z ?_
   refine .z <| .f (.pickF rfl rfl) <| .m rfl <| .z <| .z <| .z ?_
   refine .z <| .z <| .z <| .f (.pickF rfl rfl) <| .m rfl <| .z ?_
   refine .z <| .z <| .z <| .z <| .z <| .z ?_
   refine .z <| .z <| .z <| .z <| .z <| .f (.pickF rfl rfl) ?_
   refine .a rfl <| .nil <| .go <| .seq <| .seq <| .region ?_
   refine .m rfl <| .f (.not rfl) <| .nil <| .go <| .cond_true rfl <| .seq ?_
   refine .region <| .a rfl <| .nil <| .go <| .ret <| .ret ?_
   refine .tail ?_
   refine Post.retE rfl rfl ?_
   refine congrArg (Value.int .i64) ?_
   unfold orderWhy orderOk noName plainO
   simp_all
 ·
  refine .f (.load ag63 rfl .here rfl) <| .a rfl <| .nil <| .go <| .seq <| .region ?_
  refine .m rfl <| .f (.neq rfl rfl) <| .m rfl <| .m rfl <| .f (.neq rfl rfl) <| .f (.pickT rfl rfl) ?_
  refine .a rfl <| .nil <| .go <| .seq <| .region <| .m rfl ?_
  refine .f (.gtr rfl rfl) <| .m rfl <| .m rfl <| .f (.lss rfl rfl) <| .f (.pickT rfl rfl) <| .m rfl ?_
  refine .m rfl <| .f (.eql rfl rfl) <| .m rfl <| .f (.fieldAddr fo65_1 rfl) <| .f (.loadP ag45 sz45 rfl .here rfl) <| .on rfl <| .callP cal181 rfl rfl rfl (rnoNode_ok hon) ?_
  refine .f (.pickF rfl rfl) <| .f (.pickT rfl rfl) <| .m rfl ?_
  refine .split 29 rfl (fun h29 => ?_) (fun h29 => ?_)
  ·
   refine .m rfl <| .f (.eql rfl rfl) <| .m rfl <| .f (.fieldAddr fo65_2 rfl) <| .f (.loadP ag42 sz42 rfl .here rfl) <| .on rfl <| .callP cal182 rfl rfl rfl (rnoTask_ok hot) ?_
   refine .f (.pickF rfl rfl) <| .f (.pickT rfl rfl) <| .m rfl ?_
   refine .split 38 rfl (fun h38 => ?_) (fun h38 => ?_)
   ·
    refine .m rfl <| .m rfl <| .z <| .z <| .z <| .f (.pickT rfl rfl) ?_
    refine .f (.pickT rfl rfl) <| .m rfl <| .m rfl <| .f (.eql rfl rfl) <| .m rfl <| .f (.fieldAddr fo65_4 rfl) ?_
    refine .f (.load ag9 rfl .here rfl) <| .f (.streq rfl rfl) <| .m rfl ?_
    refine .sd 53 rfl (fun h53 => ?_) (fun h53 => ?_)
    ·
     refine .f (.fieldAddr fo65_5 rfl) <| .f (.load ag25 rfl .here rfl) <| .f (.eql rfl rfl) <| .f (.pickT rfl rfl) <| .f (.pickF rfl rfl) <| .f (.pickT rfl rfl) ?_
     refine .a rfl <| .nil <| .go <| .seq <| .seq <| .region ?_
     refine .m rfl <| .f (.not rfl) <| .nil <| .go ?_
     refine .split 61 rfl (fun h61 => ?_) (fun h61 => ?_)
     ·
      first | replace h61 := of_decide_eq_false ((Bool.not_eq_true' _).mp h61) | replace h61 := of_decide_eq_false (by simpa using h61)
      refine .cond_true rfl <| .seq <| .region <| .a rfl <| .nil <| .go ?_
      refine .ret <| .ret ?_
      refine .tail ?_
      refine Post.retE rfl rfl ?_
      refine congrArg (Value.int .i64) ?_
      unfold orderWhy orderOk noName plainO
      simp_all
     ·
      first | replace h61 := of_decide_eq_true ((Bool.not_eq_false' _).mp h61) | replace h61 := of_decide_eq_true (by simpa using h61)
      refine .cond_false rfl <| .skip <| .go <| .seq <| .region <| .a rfl ?_
      refine .nil <| .go <| .ret ?_
      refine .tail ?_
      refine Post.retE rfl rfl ?_
      refine congrArg (Value.int .i64) ?_
      unfold orderWhy orderOk noName plainO
      simp_all
    ·
     refine .z <| .z <| .z <| .f (.pickF rfl rfl) <| .f (.pickF rfl rfl) <| .f (.pickT rfl rfl) ?_
     refine .a rfl <| .nil <| .go <| .seq <| .seq <| .region ?_
     refine .m rfl <| .f (.not rfl) <| .nil <| .go <| .cond_true rfl <| .seq ?_
     refine .region <| .a rfl <| .nil <| .go <| .ret <| .ret ?_
     refine .tail ?_
     refine Post.retE rfl rfl ?_
     refine congrArg (Value.int .i64) ?_
     unfold orderWhy orderOk noName plainO
     simp_all
   ·
    refine .z <| .z <| .z <| .z <| .z <| .z ?_
    refine .f (.pickF rfl rfl) <| .m rfl <| .z <| .z <| .z <| .z ?_
    refine .z <| .z <| .z <| .z <| .z <| .z ?_
    refine .z <| .z <| .f (.pickF rfl rfl) <| .a rfl <| .nil <| .go ?_
    refine .seq <| .seq <| .region <| .m rfl <| .f (.not rfl) <| .nil ?_
    refine .go <| .cond_true rfl <| .seq <| .region <| .a rfl <| .nil ?_
    refine .go <| .ret <| .ret ?_
    refine .tail ?_
    refine Post.retE rfl rfl ?_
    refine congrArg (Value.int .i64) ?_
    unfold orderWhy orderOk noName plainO
    simp_all
  ·
   refine .z <| .z <| .z <| .z <| .z <| .z ?_
   refine .z <| .f (.pickF rfl rfl) <| .m rfl <| .z <| .z <| .z ?_
   refine .z <| .z <| .z <| .f (.pickF rfl rfl) <| .m rfl <| .z ?_
   refine .z <| .z <| .z <| .z <| .z <| .z ?_
   refine .z <| .z <| .z <| .z <| .z <| .f (.pickF rfl rfl) ?_
   refine .a rfl <| .nil <| .go <| .seq <| .seq <| .region ?_
   refine .m rfl <| .f (.not rfl) <| .nil <| .go <| .cond_true rfl <| .seq ?_
   refine .region <| .a rfl <| .nil <| .go <| .ret <| .ret ?_
   refine .tail ?_
   refine Post.retE rfl rfl ?_
   refine congrArg (Value.int .i64) ?_
   unfold orderWhy orderOk noName plainO
   simp_all
 ·
  refine .f (.load ag63 rfl .here rfl) <| .a rfl <| .nil <| .go <| .seq <| .region ?_
  refine .m rfl <| .f (.neq rfl rfl) <| .m rfl <| .m rfl <| .f (.neq rfl rfl) <| .f (.pickT rfl rfl) ?_
  refine .a rfl <| .nil <| .go <| .seq <| .region <| .m rfl ?_
  refine .f (.gtr rfl rfl) <| .m rfl <| .z <| .z <| .f (.pickF rfl rfl) <| .m rfl ?_
  refine .z <| .z <| .z <| .z <| .z <| .z ?_
  refine .z <| .f (.pickF rfl rfl) <| .m rfl <| .z <| .z <| .z ?_
  refine .z <| .z <| .z <| .z <| .f (.pickF rfl rfl) <| .m rfl ?_
  refine .z <| .z <| .z <| .z <| .z <| .z ?_
  refine .f (.pickF rfl rfl) <| .m rfl <| .z <| .z <| .z <| .z ?_
  refine .z <| .z <| .z <| .z <| .z <| .z ?_
  refine .z <| .z <| .f (.pickF rfl rfl) <| .a rfl <| .nil <| .go ?_
  refine .seq <| .seq <| .region <| .m rfl <| .f (.not rfl) <| .nil ?_
  refine .go <| .cond_true rfl <| .seq <| .region <| .a rfl <| .nil ?_
  refine .go <| .ret <| .ret ?_
  refine .tail ?_
  refine Post.retE rfl rfl ?_
  refine congrArg (Value.int .i64) ?_
  unfold orderWhy orderOk noName plainO
  simp_all
 ·
  refine .f (.load ag63 rfl .here rfl) <| .a rfl <| .nil <| .go <| .seq <| .region ?_
  refine .m rfl <| .f (.neq rfl rfl) <| .m rfl ?_
  refine .split 10 rfl (fun h10 => ?_) (fun h10 => ?_)
  ·
   first | replace h10 := of_decide_eq_false ((Bool.not_eq_true' _).mp h10) | replace h10 := of_decide_eq_false (by simpa using h10)
   refine .m rfl <| .f (.neq rfl rfl) <| .f (.pickT rfl rfl) <| .a rfl <| .nil <| .go ?_
   refine .seq <| .region <| .m rfl <| .f (.gtr rfl rfl) <| .m rfl ?_
   refine .sd 16 rfl (fun h16 => ?_) (fun h16 => ?_)
   ·
    refine .m rfl <| .f (.lss rfl rfl) <| .f (.pickT rfl rfl) <| .m rfl ?_
    refine .sd 20 rfl (fun h20 => ?_) (fun h20 => ?_)
    ·
     first | omega | (dsimp only at *; omega)
    ·
     refine .z <| .z <| .z <| .z <| .z <| .z ?_
     refine .z <| .f (.pickF rfl rfl) <| .m rfl <| .z <| .z <| .z ?_
     refine .z <| .z <| .z <| .z <| .f (.pickF rfl rfl) <| .m rfl ?_
     refine .z <| .z <| .z <| .z <| .z <| .z ?_
     refine .f (.pickF rfl rfl) <| .m rfl <| .z <| .z <| .z <| .z ?_
     refine .z <| .z <| .z <| .z <| .z <| .z ?_
     refine .z <| .z <| .f (.pickF rfl rfl) <| .a rfl <| .nil <| .go ?_
     refine .seq <| .seq <| .region <| .m rfl <| .f (.not rfl) <| .nil ?_
     refine .go <| .cond_true rfl <| .seq <| .region <| .a rfl <| .nil ?_
     refine .go <| .ret <| .ret ?_
     refine .tail ?_
     refine Post.retE rfl rfl ?_
     refine congrArg (Value.int .i64) ?_
     have e : orderOk ⟨okk, ond, otk, onm, oon, ofe⟩ = false := by
      unfold orderOk; dsimp only; rw [if_neg (by omega), if_neg (by omega), if_neg (by omega), if_neg (by omega)]
     unfold orderWhy; rw [e]; rfl
   ·
    first | omega | (dsimp only at *; omega)
  ·
   first | replace h10 := of_decide_eq_true ((Bool.not_eq_false' _).mp h10) | replace h10 := of_decide_eq_true (by simpa using h10)
   first | omega | (dsimp only at *; omega)

set_option maxHeartbeats 1000000 in
set_option maxRecDepth 20000 in
theorem rused_ok {I : Imm} {O : Own} {kc : List Value} {b : Bk} (hk : BkR I kc b) (hok : BookOk b) {s : ByteArray} :
  Pure Tryz.prog 107 [.agg ⟨kc⟩, .string s] I O (.agg ⟨[.int .i64 (sumR (thereR b s)).1.a, .int .i64 (sumR (thereR b s)).1.b, .int .i64 (sumR (thereR b s)).1.c]⟩) := by
 have hk0 := hk
 obtain ⟨nv, tv, bv, rfl, hnv, htv, hbv⟩ := hk.ex
 have hnv0 := hnv
 have htv0 := htv
 have hbv0 := hbv
 obtain ⟨na, ncap, rfl, hn1, hn2, -⟩ := hnv
 obtain ⟨ta, tcap, rfl, ht1, ht2, -⟩ := htv
 obtain ⟨ba, bcap, rfl, hb1, hb2, -⟩ := hbv
 refine Go.Sy.Does.enter Tryz.func107 rfl Tryz.ntmps107 rfl ?_
 refine .seq <| .region <| .on rfl <| .box rfl rfl rfl fun c1 _ _ => .on rfl <| .alloc zr39 rfl fun c2 _ _ => .nil <| .go ?_
 refine .seq <| .region <| .f (.loadW ag27 sz27 rfl (.there <| .here) rfl) <| .m rfl <| .on rfl <| .call cal158 rfl rfl rfl (rthere_ok hk0 (Listed.ok hok)) fun v10 I10 O10 hI10 hK10 => ?_
 obtain ⟨rfl, hl10⟩ := hK10
 have hl100 := hl10
 obtain ⟨la10, lc10, rfl, hl101, hl102, -⟩ := hl10
 refine .on rfl <| .callP cal159 rfl rfl rfl (rSum_ok hl100) <| .m rfl <| .f (.extract rfl rfl) <| .f (.extract rfl rfl) <| .on rfl <| .alloc zr39 rfl fun c3 _ _ => .on rfl <| .storeW sz39 rfl rfl rfl rfl rfl rfl .here ?_
 refine .a rfl <| .nil <| .go <| .seq <| .region <| .f (.loadW ag39 sz39 rfl .here rfl) ?_
 refine .on rfl <| .storeW sz39 rfl rfl rfl rfl rfl rfl (.there <| .here) <| .nil <| .go <| .ret ?_
 refine .back hI10 ?_
 refine Post.retsE rfl (.agg rfl ag39 sz39 (.there <| .here) rfl .nil) rfl (fun w h => h.tail.tail.tail) ?_
 rfl

set_option maxHeartbeats 1000000 in
set_option maxRecDepth 20000 in
theorem rbUsed_ok {I : Imm} {O : Own} {kc : List Value} {b : Bk} (hk : BkR I kc b) {s : ByteArray} :
  Pure Tryz.prog 47 [.agg ⟨kc⟩, .string s] I O (.tuple ⟨[.agg ⟨[.int .i64 (usedR b s).1.a, .int .i64 (usedR b s).1.b, .int .i64 (usedR b s).1.c]⟩, .int .i64 (usedR b s).2]⟩) := by
 have hk0 := hk
 obtain ⟨nv, tv, bv, rfl, hnv, htv, hbv⟩ := hk.ex
 have hnv0 := hnv
 have htv0 := htv
 have hbv0 := hbv
 obtain ⟨na, ncap, rfl, hn1, hn2, -⟩ := hnv
 obtain ⟨ta, tcap, rfl, ht1, ht2, -⟩ := htv
 obtain ⟨ba, bcap, rfl, hb1, hb2, -⟩ := hbv
 refine Go.Sy.Does.enter Tryz.func47 rfl Tryz.ntmps47 rfl ?_
 refine .seq <| .region <| .on rfl <| .box rfl rfl rfl fun c1 _ _ => .on rfl <| .alloc zr39 rfl fun c2 _ _ => .a rfl <| .nil ?_
 refine .go <| .seq <| .block <| .seq <| .region <| .f (.loadW ag27 sz27 rfl (.there <| .here) rfl) ?_
 refine .on rfl <| .callP cal43 rfl rfl rfl (rbCheck_ok hk0) <| .f (.neq rfl rfl) <| .a rfl <| .nil <| .go ?_
 refine .split 6 rfl (fun h6 => ?_) (fun h6 => ?_)
 ·
  first | replace h6 := of_decide_eq_false ((Bool.not_eq_true' _).mp h6) | replace h6 := of_decide_eq_false (by simpa using h6)
  refine .cond_true rfl <| .seq <| .region <| .f (.buildA ar39 zv39 rfl rfl) <| .on rfl <| .storeW sz39 rfl rfl rfl rfl rfl rfl .here <| .a rfl ?_
  refine .nil <| .go <| .ret <| .blk_ret <| .ret ?_
  refine Post.retsE rfl (.agg rfl ag39 sz39 .here rfl (.tmp rfl .nil)) rfl (fun w h => h.tail.tail) ?_
  unfold usedR
  rw [(bookWhy_no h6).1, if_neg (by simp)]
  rfl
 ·
  first | replace h6 := of_decide_eq_true ((Bool.not_eq_false' _).mp h6) | replace h6 := of_decide_eq_true (by simpa using h6)
  have hok := BookOk.of (bookWhy_ok h6)
  refine .cond_false rfl <| .seq <| .region <| .f (.loadW ag27 sz27 rfl (.there <| .here) rfl) <| .m rfl <| .on rfl <| .callP cal106 rfl rfl rfl (rixN_ok hk0) ?_
  refine .f ((EV.cast (.lss rfl rfl) (congrArg Value.bool (ix_lt (nm := fun x : Nod => x.name))))) <| .a rfl <| .nil <| .go ?_
  refine .split 11 rfl (fun h11 => ?_) (fun h11 => ?_)
  ·
   refine .cond_true rfl <| .seq <| .region <| .f (.buildA ar39 zv39 rfl rfl) <| .on rfl <| .storeW sz39 rfl rfl rfl rfl rfl rfl .here <| .a rfl ?_
   refine .nil <| .go <| .ret <| .blk_ret <| .ret ?_
   refine Post.retsE rfl (.agg rfl ag39 sz39 .here rfl (.tmp rfl .nil)) rfl (fun w h => h.tail.tail) ?_
   unfold usedR
   rw [if_pos (bookWhy_ok h6), if_neg (show ¬hasN b s = true from Bool.eq_false_iff.1 ((Bool.not_eq_true' _).mp h11))]
   rfl
  ·
   refine .cond_false rfl <| .skip <| .blk_normal <| .go <| .seq <| .region ?_
   refine .f (.loadW ag27 sz27 rfl (.there <| .here) rfl) <| .m rfl <| .on rfl <| .callP cal107 rfl rfl rfl (rused_ok hk0 hok) <| .on rfl <| .storeW sz39 rfl rfl rfl rfl rfl rfl .here <| .a rfl <| .nil ?_
   refine .go <| .ret ?_
   refine Post.retsE rfl (.agg rfl ag39 sz39 .here rfl (.tmp rfl .nil)) rfl (fun w h => h.tail.tail) ?_
   unfold usedR
   rw [if_pos (bookWhy_ok h6), if_pos (show hasN b s = true from (Bool.not_eq_false' _).mp h11), used_ref hok ((Bool.not_eq_false' _).mp h11)]
   rfl

theorem can_keep {a : Bool} {p : Tsk → Bool} {L : List Tsk} {k : Nat} (h : (a && (L.take k).all p) = false) : (a && (L.take (k + 1)).all p) = false := by
  rw [Bool.and_eq_false_iff] at h ⊢
  refine h.imp id fun h => ?_
  rw [Bool.eq_false_iff] at h ⊢
  refine fun h2 => h (List.all_eq_true.2 fun x hx => List.all_eq_true.1 h2 x ?_)
  rw [List.mem_take_iff_getElem] at hx ⊢
  obtain ⟨j, hj, e⟩ := hx
  exact ⟨j, by omega, e⟩
theorem can_next {a : Bool} {p : Tsk → Bool} {L : List Tsk} {k : Nat} (hk : k < L.length) (h : (a && (L.take k).all p) = true) : (a && (L.take (k + 1)).all p) = p L[k] := by
  rw [Bool.and_eq_true] at h
  rw [List.take_succ_eq_append_getElem hk, List.all_append, h.1, h.2]; simp

set_option maxHeartbeats 16000000 in
set_option maxRecDepth 20000 in
theorem rcan_ok {I : Imm} {O : Own} {kc : List Value} {b : Bk} (hk : BkR I kc b) (hok : BookOk b) {task node : ByteArray} :
  Pure Tryz.prog 108 [.agg ⟨kc⟩, .string task, .string node] I O (.int .i64 (canR b task node)) := by
 have hk0 := hk
 obtain ⟨nv, tv, bv, rfl, hnv, htv, hbv⟩ := hk.ex
 have hnv0 := hnv
 have htv0 := htv
 have hbv0 := hbv
 obtain ⟨na, ncap, rfl, hn1, hn2, -⟩ := hnv
 obtain ⟨ta, tcap, rfl, ht1, ht2, -⟩ := htv
 obtain ⟨ba, bcap, rfl, hb1, hb2, -⟩ := hbv
 refine Go.Sy.Does.enter Tryz.func108 rfl Tryz.ntmps108 rfl ?_
 refine .seq <| .region <| .on rfl <| .box rfl rfl rfl fun c1 _ _ => .a rfl <| .nil <| .go ?_
 refine .seq ?_
 refine .draw [(c1, _)] mixed (.cons .here .nil) ?_
 refine .u 0 rfl (.loadW ag27 sz27 rfl .here rfl) <| .u 1 rfl (.move rfl) <| .u 3 rfl (.loadW ag27 sz27 rfl .here rfl) <| .u 4 rfl (.move rfl) <| .one (i := 2) (by kernel_rfl) rfl rfl <| .callP cal52 rfl rfl rfl (rixT_ok hk0) ?_
 refine ⟨(.cons .here .nil), Imm.le_refl _, ?_⟩
 refine .one (i := 5) (by kernel_rfl) rfl rfl <| .callP cal106 rfl rfl rfl (rixN_ok hk0) ?_
 refine ⟨(.cons .here .nil), Imm.le_refl _, ?_⟩
 refine .u 6 rfl (.assign rfl) <| .u 7 rfl (.assign rfl) <| .done (by kernel_rfl) <| .go <| .seq <| .seq ?_
 refine .region <| .m rfl <| .f ((EV.cast (.lss rfl rfl) (congrArg Value.bool (ix_lt (nm := fun x : Tsk => x.name))))) <| .m rfl ?_
 refine .split 22 rfl (fun h22 => ?_) (fun h22 => ?_)
 ·
  refine .z <| .z <| .f (.pickT rfl rfl) <| .nil <| .go <| .cond_true rfl ?_
  refine .seq <| .region <| .a rfl <| .nil <| .go <| .ret ?_
  refine .ret ?_
  refine .tail ?_
  refine Post.retE rfl rfl ?_
  exact congrArg (Value.int .i64) (canR_none (.inl (by simpa [hasT] using h22))).symm
 ·
  have hT34 := (Bool.not_eq_false' _).mp h22
  obtain ⟨hpt, -⟩ := has_get hok.rt hT34
  have hmt : ixT b task = (posBy (fun x : Tsk => x.name) b.tasks task : Int) := ix_pos hok.rt hT34
  refine .m rfl <| .f ((EV.cast (.lss rfl rfl) (congrArg Value.bool (ix_lt (nm := fun x : Nod => x.name))))) <| .f (.pickF rfl rfl) <| .nil <| .go ?_
  refine .split 25 rfl (fun h25 => ?_) (fun h25 => ?_)
  ·
   refine .cond_true rfl <| .seq <| .region <| .a rfl <| .nil <| .go ?_
   refine .ret <| .ret ?_
   refine .tail ?_
   refine Post.retE rfl rfl ?_
   exact congrArg (Value.int .i64) (canR_none (.inr (by simpa [hasN] using h25))).symm
  ·
   have hN37 := (Bool.not_eq_false' _).mp h25
   obtain ⟨hpn, -⟩ := has_get hok.rn hN37
   have hmn : ixN b node = (posBy (fun x : Nod => x.name) b.nodes node : Int) := ix_pos hok.rn hN37
   obtain ⟨L, hL⟩ : ∃ L, thereR b node = L := ⟨_, rfl⟩
   refine .cond_false rfl <| .skip <| .go <| .seq <| .seq <| .region ?_
   refine .f (.loadW ag27 sz27 rfl .here rfl) <| .m rfl <| .on rfl <| .callP cal44 rfl rfl rfl (rOn_ok hk0) <| .f ((EV.cast (.strne rfl rfl) (congrArg Value.bool (on_ne hok)))) <| .nil <| .go ?_
   refine .split 29 rfl (fun h29 => ?_) (fun h29 => ?_)
   ·
    refine .cond_true rfl <| .seq <| .region <| .a rfl <| .nil <| .go ?_
    refine .ret <| .ret ?_
    refine .tail ?_
    refine Post.retE rfl rfl ?_
    refine congrArg (Value.int .i64) ?_
    rw [canR_some hok.rt hok.rn hT34 hN37]
    rw [if_pos (show hasB b task = true from h29)]
   ·
    refine .cond_false rfl <| .skip <| .go <| .seq ?_
    refine .draw [(c1, _)] mixed (.cons .here .nil) ?_
    refine .u 0 rfl (.fieldAddr fo27_1 rfl) <| .u 1 rfl (.load ag23 rfl .here rfl) <| .u 2 rfl (.move rfl) ?_
    obtain ⟨eb33, eo33, cs33, hd33, hat33, hr33⟩ := SlR.at_ htv0 (k := posBy (fun x : Tsk => x.name) b.tasks task) hpt
    cases hd33
    obtain ⟨t, ht⟩ : ∃ t, b.tasks[posBy (fun x : Tsk => x.name) b.tasks task]'hpt = t := ⟨_, rfl⟩
    rw [ht] at hr33
    have htK := hr33
    obtain ⟨xw59, xb59, rfl, hxw59, hxb59⟩ := hr33.ex
    obtain ⟨xa59, xc59, rfl, -⟩ := hxw59
    obtain ⟨xd59, xe59, rfl, -⟩ := hxb59
    refine .u 3 rfl (.indexAddrL sl23 rfl rfl hmt hpt) <| .u 4 rfl (.loadIA ag42 sz42 rfl hat33 rfl) <| .u 5 rfl (.fieldAddr fo27_0 rfl) <| .u 6 rfl (.load ag22 rfl .here rfl) <| .u 7 rfl (.move rfl) ?_
    obtain ⟨eb38, eo38, cs38, hd38, hat38, hr38⟩ := SlR.at_ hnv0 (k := posBy (fun x : Nod => x.name) b.nodes node) hpn
    cases hd38
    obtain ⟨n, hn⟩ : ∃ n, b.nodes[posBy (fun x : Nod => x.name) b.nodes node]'hpn = n := ⟨_, rfl⟩
    rw [hn] at hr38
    have hn38 := hr38
    obtain ⟨xf68, xg68, rfl, hxf68, hxg68⟩ := hr38.ex
    obtain ⟨xh68, xi68, rfl, -⟩ := hxf68
    obtain ⟨xj68, xk68, rfl, -⟩ := hxg68
    refine .u 8 rfl (.indexAddrL sl22 rfl rfl hmn hpn) <| .u 9 rfl (.loadIA ag45 sz45 rfl hat38 rfl) ?_
    refine .all (rs := [10, 11]) (by kernel_rfl) (by simp) ⟨⟨_, rfl, .inl ⟨rfl, ?_⟩⟩, ⟨⟨_, rfl, .inl ⟨rfl, ?_⟩⟩, trivial⟩⟩
    ·
     refine .alloc zr42 rfl fun c2 _ _ => ?_
     refine ⟨(.cons (.there <| .here) .nil), Imm.le_refl _, ?_⟩
     refine .one (i := 11) (by kernel_rfl) rfl rfl <| .alloc zr45 rfl fun c3 _ _ => ?_
     refine ⟨(.cons (.there <| .there <| .here) .nil), Imm.le_refl _, ?_⟩
     refine .one (i := 12) (by kernel_rfl) rfl rfl <| .storeW sz42 rfl rfl rfl rfl rfl rfl (.there <| .here) ?_
     refine ⟨(.cons (.there <| .there <| .here) .nil), Imm.le_refl _, ?_⟩
     refine .late (i := 13) (by kernel_rfl) (by kernel_rfl) (by kernel_rfl) rfl rfl <| .storeW sz45 rfl rfl rfl rfl rfl rfl .here <| .go <| .seq ?_
     refine .draw [(c2, _), (c3, _), (c1, _)] mixed (.cons (.there <| .here) (.cons .here (.cons (.there <| .there <| .here) .nil))) ?_
     refine .u 0 rfl (.loadW ag42 sz42 rfl .here rfl) <| .u 1 rfl (.loadW ag45 sz45 rfl (.there <| .here) rfl) <| .one (i := 2) (by kernel_rfl) rfl rfl <| .callP cal160 rfl rfl rfl (rSuits_ok htK hn38) ?_
     refine ⟨(.cons (.there <| .here) (.cons .here (.cons (.there <| .there <| .here) .nil))), Imm.le_refl _, ?_⟩
     refine .u 3 rfl (.move rfl) ?_
     refine .split 43 rfl (fun h43 => ?_) (fun h43 => ?_)
     ·
      refine .u 4 rfl (.loadW ag45 sz45 rfl (.there <| .here) rfl) <| .u 5 rfl (.loadW ag27 sz27 rfl (.there <| .there <| .here) rfl) <| .u 6 rfl (.move rfl) <| .u 8 rfl (.fieldAddr fo42_1 rfl) <| .u 9 rfl (.loadP ag39 sz39 rfl .here rfl) <| .one (i := 7) (by kernel_rfl) rfl rfl ?_
      refine .callP cal107 rfl rfl rfl ((rused_ok hk0 hok (s := node)).cast (by rw [hL])) ?_
      refine ⟨(.cons (.there <| .here) (.cons .here (.cons (.there <| .there <| .here) .nil))), Imm.le_refl _, ?_⟩
      refine .one (i := 10) (by kernel_rfl) rfl rfl <| .callP cal162 rfl rfl rfl (rRoom_ok (u := (sumR L).1) (d := t.needs) hn38) ?_
      refine ⟨(.cons (.there <| .here) (.cons .here (.cons (.there <| .there <| .here) .nil))), Imm.le_refl _, ?_⟩
      refine .u 11 rfl (.pickT rfl rfl) <| .u 12 rfl (.assign rfl) <| .done (by kernel_rfl) <| .go <| .seq <| .seq ?_
      refine .region <| .f (.loadW ag27 sz27 rfl (.there <| .there <| .here) rfl) <| .m rfl <| .on rfl <| .call cal158 rfl rfl rfl (rthere_ok hk0 (Listed.ok hok)) fun v54 I54 O54 hI54 hK54 => ?_
      obtain ⟨rfl, hl54⟩ := hK54
      have hl540 := hl54
      obtain ⟨la54, lc54, rfl, hl541, hl542, -⟩ := hl54
      rw [hL] at hl540 hl541
      rw [hL]
      refine .f (.len sl23 rfl rfl) <| .m rfl <| .nil <| .go <| .block ?_
      refine .loopM [11, 13, 56, 57, 58, 59, 60, 61, 62, 63, 64, 65, 66] (fun k => L.length - k) (fun k => k ≤ L.length) (fun k => [(56, .int .i64 k), (11, .bool ((suits t n && room n (sumR L).1 t.needs) && (L.take k).all (bear t)))]) (fun _ => _) (fun _ => _) (0) (Nat.zero_le _) ⟨rfl, congrArg (fun x => some (Value.bool x)) (by simp_all), trivial⟩ rfl rfl ?_
      intro k hk
      refine .seq <| .region <| .f (.lss rfl rfl) <| .nil <| .go <| .seq ?_
      refine .sd 57 rfl (fun h57 => ?_) (fun h57 => ?_)
      ·
       refine .cond_true rfl <| .skip <| .go <| .seq <| .block <| .seq ?_
       refine .region ?_
       obtain ⟨eb58, eo58, cs58, hd58, hat58, hr58⟩ := SlR.at_ hl540 (k := k) (by omega)
       cases hd58
       have ht58 := hr58
       obtain ⟨xw58, xb58, rfl, hxw58, hxb58⟩ := hr58.ex
       obtain ⟨xa58, xc58, rfl, -⟩ := hxw58
       obtain ⟨xd58, xe58, rfl, -⟩ := hxb58
       refine .f (.indexAddrL sl23 rfl rfl rfl (by omega)) <| .f (.loadIA ag42 sz42 rfl hat58 rfl) <| .on rfl <| .alloc zr42 rfl fun c4 _ _ => .on rfl <| .storeW sz42 rfl rfl rfl rfl rfl rfl .here <| .nil <| .go ?_
       refine .region <| .m rfl <| .m rfl ?_
       refine .split 61 rfl (fun h61 => ?_) (fun h61 => ?_)
       ·
        refine .f (.loadW ag42 sz42 rfl (.there <| .there <| .here) rfl) <| .f (.loadW ag42 sz42 rfl .here rfl) <| .on rfl <| .callP cal161 rfl rfl rfl (rBear_ok (htK.mono hI54) ht58) <| .f (.pickT rfl rfl) <| .a rfl <| .nil ?_
        refine .blk_normal <| .go <| .region <| .f (.add rfl rfl (by first | exact wrap_succ (by omega) | exact IntWalk.i64_in _ (by omega) | exact rfl)) <| .m rfl <| .nil ?_
        refine .tail ?_
        exact .mid (k + 1) ⟨by omega, by omega⟩ ⟨rfl, congrArg (fun x => some (Value.bool x)) (can_next (show k < L.length by omega) h61).symm, trivial⟩ rfl rfl (.pre 15 rfl (.app rfl .base))
       ·
        refine .z <| .z <| .z <| .f (.pickF rfl rfl) <| .a rfl <| .nil ?_
        refine .blk_normal <| .go <| .region <| .f (.add rfl rfl (by first | exact wrap_succ (by omega) | exact IntWalk.i64_in _ (by omega) | exact rfl)) <| .m rfl <| .nil ?_
        refine .tail ?_
        exact .mid (k + 1) ⟨by omega, by omega⟩ ⟨rfl, congrArg (fun x => some (Value.bool x)) (can_keep (k := k) h61).symm, trivial⟩ rfl rfl (.pre 15 rfl (.app rfl .base))
      ·
       refine .cond_false rfl <| .exit <| .exit <| .exit <| .blk_exit <| .go ?_
       refine .seq <| .seq <| .region <| .m rfl <| .f (.not rfl) <| .nil ?_
       refine .go ?_
       refine .split 68 rfl (fun h68 => ?_) (fun h68 => ?_)
       ·
        refine .cond_true rfl <| .seq <| .region <| .a rfl <| .nil <| .go ?_
        refine .ret <| .ret ?_
        refine .tail <| .tail <| .tail ?_
        refine .back hI54 ?_
        refine Post.retE rfl rfl ?_
        refine congrArg (Value.int .i64) ?_
        rw [canR_some hok.rt hok.rn hT34 hN37]
        rw [if_neg (show ¬hasB b task = true from Bool.eq_false_iff.1 h29), hL]
        simp only [ht, hn]
        have eL : L.take k = L := List.take_of_length_le (by omega)
        rw [eL] at h68
        unfold canT
        rw [hL]
        rw [if_neg (Bool.eq_false_iff.1 ((Bool.not_eq_true' _).mp h68))]
       ·
        refine .cond_false rfl <| .skip <| .go <| .seq <| .region <| .a rfl ?_
        refine .nil <| .go <| .ret ?_
        refine .tail <| .tail <| .tail ?_
        refine .back hI54 ?_
        refine Post.retE rfl rfl ?_
        refine congrArg (Value.int .i64) ?_
        rw [canR_some hok.rt hok.rn hT34 hN37]
        rw [if_neg (show ¬hasB b task = true from Bool.eq_false_iff.1 h29), hL]
        simp only [ht, hn]
        have eL : L.take k = L := List.take_of_length_le (by omega)
        rw [eL] at h68
        unfold canT
        rw [hL]
        rw [if_pos ((Bool.not_eq_false' _).mp h68)]
     ·
      refine .s 4 rfl rfl rfl (by kernel_rfl) <| .s 5 rfl rfl rfl (by kernel_rfl) <| .s 6 rfl rfl rfl (by kernel_rfl) <| .s 8 rfl rfl rfl (by kernel_rfl) <| .s 9 rfl rfl rfl (by kernel_rfl) <| .none_ (i := 7) (by kernel_rfl) rfl rfl rfl ?_
      refine .none_ (i := 10) (by kernel_rfl) rfl rfl rfl <| .u 11 rfl (.pickF rfl rfl) <| .u 12 rfl (.assign rfl) <| .done (by kernel_rfl) <| .go <| .seq ?_
      refine .seq <| .region <| .f (.loadW ag27 sz27 rfl (.there <| .there <| .here) rfl) <| .m rfl <| .on rfl <| .call cal158 rfl rfl rfl (rthere_ok hk0 (Listed.ok hok)) fun v54 I54 O54 hI54 hK54 => ?_
      obtain ⟨rfl, hl54⟩ := hK54
      have hl540 := hl54
      obtain ⟨la54, lc54, rfl, hl541, hl542, -⟩ := hl54
      rw [hL] at hl540 hl541
      rw [hL]
      refine .f (.len sl23 rfl rfl) <| .m rfl <| .nil <| .go <| .block ?_
      refine .loopM [11, 13, 56, 57, 58, 59, 60, 61, 62, 63, 64, 65, 66] (fun k => L.length - k) (fun k => k ≤ L.length) (fun k => [(56, .int .i64 k), (11, .bool ((suits t n && room n (sumR L).1 t.needs) && (L.take k).all (bear t)))]) (fun _ => _) (fun _ => _) (0) (Nat.zero_le _) ⟨rfl, congrArg (fun x => some (Value.bool x)) (by simp_all), trivial⟩ rfl rfl ?_
      intro k hk
      refine .seq <| .region <| .f (.lss rfl rfl) <| .nil <| .go <| .seq ?_
      refine .sd 57 rfl (fun h57 => ?_) (fun h57 => ?_)
      ·
       refine .cond_true rfl <| .skip <| .go <| .seq <| .block <| .seq ?_
       refine .region ?_
       obtain ⟨eb58, eo58, cs58, hd58, hat58, hr58⟩ := SlR.at_ hl540 (k := k) (by omega)
       cases hd58
       have ht58 := hr58
       obtain ⟨xw58, xb58, rfl, hxw58, hxb58⟩ := hr58.ex
       obtain ⟨xa58, xc58, rfl, -⟩ := hxw58
       obtain ⟨xd58, xe58, rfl, -⟩ := hxb58
       refine .f (.indexAddrL sl23 rfl rfl rfl (by omega)) <| .f (.loadIA ag42 sz42 rfl hat58 rfl) <| .on rfl <| .alloc zr42 rfl fun c5 _ _ => .on rfl <| .storeW sz42 rfl rfl rfl rfl rfl rfl .here <| .nil <| .go ?_
       refine .region <| .m rfl <| .m rfl ?_
       refine .split 61 rfl (fun h61 => ?_) (fun h61 => ?_)
       ·
        refine .f (.loadW ag42 sz42 rfl (.there <| .there <| .here) rfl) <| .f (.loadW ag42 sz42 rfl .here rfl) <| .on rfl <| .callP cal161 rfl rfl rfl (rBear_ok (htK.mono hI54) ht58) <| .f (.pickT rfl rfl) <| .a rfl <| .nil ?_
        refine .blk_normal <| .go <| .region <| .f (.add rfl rfl (by first | exact wrap_succ (by omega) | exact IntWalk.i64_in _ (by omega) | exact rfl)) <| .m rfl <| .nil ?_
        refine .tail ?_
        exact .mid (k + 1) ⟨by omega, by omega⟩ ⟨rfl, congrArg (fun x => some (Value.bool x)) (can_next (show k < L.length by omega) h61).symm, trivial⟩ rfl rfl (.pre 15 rfl (.app rfl .base))
       ·
        refine .z <| .z <| .z <| .f (.pickF rfl rfl) <| .a rfl <| .nil ?_
        refine .blk_normal <| .go <| .region <| .f (.add rfl rfl (by first | exact wrap_succ (by omega) | exact IntWalk.i64_in _ (by omega) | exact rfl)) <| .m rfl <| .nil ?_
        refine .tail ?_
        exact .mid (k + 1) ⟨by omega, by omega⟩ ⟨rfl, congrArg (fun x => some (Value.bool x)) (can_keep (k := k) h61).symm, trivial⟩ rfl rfl (.pre 15 rfl (.app rfl .base))
      ·
       refine .cond_false rfl <| .exit <| .exit <| .exit <| .blk_exit <| .go ?_
       refine .seq <| .seq <| .region <| .m rfl <| .f (.not rfl) <| .nil ?_
       refine .go ?_
       refine .split 68 rfl (fun h68 => ?_) (fun h68 => ?_)
       ·
        refine .cond_true rfl <| .seq <| .region <| .a rfl <| .nil <| .go ?_
        refine .ret <| .ret ?_
        refine .tail <| .tail <| .tail ?_
        refine .back hI54 ?_
        refine Post.retE rfl rfl ?_
        refine congrArg (Value.int .i64) ?_
        rw [canR_some hok.rt hok.rn hT34 hN37]
        rw [if_neg (show ¬hasB b task = true from Bool.eq_false_iff.1 h29), hL]
        simp only [ht, hn]
        have eL : L.take k = L := List.take_of_length_le (by omega)
        rw [eL] at h68
        unfold canT
        rw [hL]
        rw [if_neg (Bool.eq_false_iff.1 ((Bool.not_eq_true' _).mp h68))]
       ·
        refine .cond_false rfl <| .skip <| .go <| .seq <| .region <| .a rfl ?_
        refine .nil <| .go <| .ret ?_
        refine .tail <| .tail <| .tail ?_
        refine .back hI54 ?_
        refine Post.retE rfl rfl ?_
        refine congrArg (Value.int .i64) ?_
        rw [canR_some hok.rt hok.rn hT34 hN37]
        rw [if_neg (show ¬hasB b task = true from Bool.eq_false_iff.1 h29), hL]
        simp only [ht, hn]
        have eL : L.take k = L := List.take_of_length_le (by omega)
        rw [eL] at h68
        unfold canT
        rw [hL]
        rw [if_pos ((Bool.not_eq_false' _).mp h68)]
    ·
     refine .alloc zr45 rfl fun c6 _ _ => ?_
     refine ⟨(.cons (.there <| .here) .nil), Imm.le_refl _, ?_⟩
     refine .one (i := 10) (by kernel_rfl) rfl rfl <| .alloc zr42 rfl fun c7 _ _ => ?_
     refine ⟨(.cons (.there <| .there <| .here) .nil), Imm.le_refl _, ?_⟩
     refine .one (i := 12) (by kernel_rfl) rfl rfl <| .storeW sz42 rfl rfl rfl rfl rfl rfl .here ?_
     refine ⟨(.cons (.there <| .there <| .here) .nil), Imm.le_refl _, ?_⟩
     refine .late (i := 13) (by kernel_rfl) (by kernel_rfl) (by kernel_rfl) rfl rfl <| .storeW sz45 rfl rfl rfl rfl rfl rfl (.there <| .here) <| .go <| .seq ?_
     refine .draw [(c7, _), (c6, _), (c1, _)] mixed (.cons .here (.cons (.there <| .here) (.cons (.there <| .there <| .here) .nil))) ?_
     refine .u 0 rfl (.loadW ag42 sz42 rfl .here rfl) <| .u 1 rfl (.loadW ag45 sz45 rfl (.there <| .here) rfl) <| .one (i := 2) (by kernel_rfl) rfl rfl <| .callP cal160 rfl rfl rfl (rSuits_ok htK hn38) ?_
     refine ⟨(.cons .here (.cons (.there <| .here) (.cons (.there <| .there <| .here) .nil))), Imm.le_refl _, ?_⟩
     refine .u 3 rfl (.move rfl) ?_
     refine .split 43 rfl (fun h43 => ?_) (fun h43 => ?_)
     ·
      refine .u 4 rfl (.loadW ag45 sz45 rfl (.there <| .here) rfl) <| .u 5 rfl (.loadW ag27 sz27 rfl (.there <| .there <| .here) rfl) <| .u 6 rfl (.move rfl) <| .u 8 rfl (.fieldAddr fo42_1 rfl) <| .u 9 rfl (.loadP ag39 sz39 rfl .here rfl) <| .one (i := 7) (by kernel_rfl) rfl rfl ?_
      refine .callP cal107 rfl rfl rfl ((rused_ok hk0 hok (s := node)).cast (by rw [hL])) ?_
      refine ⟨(.cons .here (.cons (.there <| .here) (.cons (.there <| .there <| .here) .nil))), Imm.le_refl _, ?_⟩
      refine .one (i := 10) (by kernel_rfl) rfl rfl <| .callP cal162 rfl rfl rfl (rRoom_ok (u := (sumR L).1) (d := t.needs) hn38) ?_
      refine ⟨(.cons .here (.cons (.there <| .here) (.cons (.there <| .there <| .here) .nil))), Imm.le_refl _, ?_⟩
      refine .u 11 rfl (.pickT rfl rfl) <| .u 12 rfl (.assign rfl) <| .done (by kernel_rfl) <| .go <| .seq <| .seq ?_
      refine .region <| .f (.loadW ag27 sz27 rfl (.there <| .there <| .here) rfl) <| .m rfl <| .on rfl <| .call cal158 rfl rfl rfl (rthere_ok hk0 (Listed.ok hok)) fun v54 I54 O54 hI54 hK54 => ?_
      obtain ⟨rfl, hl54⟩ := hK54
      have hl540 := hl54
      obtain ⟨la54, lc54, rfl, hl541, hl542, -⟩ := hl54
      rw [hL] at hl540 hl541
      rw [hL]
      refine .f (.len sl23 rfl rfl) <| .m rfl <| .nil <| .go <| .block ?_
      refine .loopM [11, 13, 56, 57, 58, 59, 60, 61, 62, 63, 64, 65, 66] (fun k => L.length - k) (fun k => k ≤ L.length) (fun k => [(56, .int .i64 k), (11, .bool ((suits t n && room n (sumR L).1 t.needs) && (L.take k).all (bear t)))]) (fun _ => _) (fun _ => _) (0) (Nat.zero_le _) ⟨rfl, congrArg (fun x => some (Value.bool x)) (by simp_all), trivial⟩ rfl rfl ?_
      intro k hk
      refine .seq <| .region <| .f (.lss rfl rfl) <| .nil <| .go <| .seq ?_
      refine .sd 57 rfl (fun h57 => ?_) (fun h57 => ?_)
      ·
       refine .cond_true rfl <| .skip <| .go <| .seq <| .block <| .seq ?_
       refine .region ?_
       obtain ⟨eb58, eo58, cs58, hd58, hat58, hr58⟩ := SlR.at_ hl540 (k := k) (by omega)
       cases hd58
       have ht58 := hr58
       obtain ⟨xw58, xb58, rfl, hxw58, hxb58⟩ := hr58.ex
       obtain ⟨xa58, xc58, rfl, -⟩ := hxw58
       obtain ⟨xd58, xe58, rfl, -⟩ := hxb58
       refine .f (.indexAddrL sl23 rfl rfl rfl (by omega)) <| .f (.loadIA ag42 sz42 rfl hat58 rfl) <| .on rfl <| .alloc zr42 rfl fun c8 _ _ => .on rfl <| .storeW sz42 rfl rfl rfl rfl rfl rfl .here <| .nil <| .go ?_
       refine .region <| .m rfl <| .m rfl ?_
       refine .split 61 rfl (fun h61 => ?_) (fun h61 => ?_)
       ·
        refine .f (.loadW ag42 sz42 rfl (.there <| .here) rfl) <| .f (.loadW ag42 sz42 rfl .here rfl) <| .on rfl <| .callP cal161 rfl rfl rfl (rBear_ok (htK.mono hI54) ht58) <| .f (.pickT rfl rfl) <| .a rfl <| .nil ?_
        refine .blk_normal <| .go <| .region <| .f (.add rfl rfl (by first | exact wrap_succ (by omega) | exact IntWalk.i64_in _ (by omega) | exact rfl)) <| .m rfl <| .nil ?_
        refine .tail ?_
        exact .mid (k + 1) ⟨by omega, by omega⟩ ⟨rfl, congrArg (fun x => some (Value.bool x)) (can_next (show k < L.length by omega) h61).symm, trivial⟩ rfl rfl (.pre 15 rfl (.app rfl .base))
       ·
        refine .z <| .z <| .z <| .f (.pickF rfl rfl) <| .a rfl <| .nil ?_
        refine .blk_normal <| .go <| .region <| .f (.add rfl rfl (by first | exact wrap_succ (by omega) | exact IntWalk.i64_in _ (by omega) | exact rfl)) <| .m rfl <| .nil ?_
        refine .tail ?_
        exact .mid (k + 1) ⟨by omega, by omega⟩ ⟨rfl, congrArg (fun x => some (Value.bool x)) (can_keep (k := k) h61).symm, trivial⟩ rfl rfl (.pre 15 rfl (.app rfl .base))
      ·
       refine .cond_false rfl <| .exit <| .exit <| .exit <| .blk_exit <| .go ?_
       refine .seq <| .seq <| .region <| .m rfl <| .f (.not rfl) <| .nil ?_
       refine .go ?_
       refine .split 68 rfl (fun h68 => ?_) (fun h68 => ?_)
       ·
        refine .cond_true rfl <| .seq <| .region <| .a rfl <| .nil <| .go ?_
        refine .ret <| .ret ?_
        refine .tail <| .tail <| .tail ?_
        refine .back hI54 ?_
        refine Post.retE rfl rfl ?_
        refine congrArg (Value.int .i64) ?_
        rw [canR_some hok.rt hok.rn hT34 hN37]
        rw [if_neg (show ¬hasB b task = true from Bool.eq_false_iff.1 h29), hL]
        simp only [ht, hn]
        have eL : L.take k = L := List.take_of_length_le (by omega)
        rw [eL] at h68
        unfold canT
        rw [hL]
        rw [if_neg (Bool.eq_false_iff.1 ((Bool.not_eq_true' _).mp h68))]
       ·
        refine .cond_false rfl <| .skip <| .go <| .seq <| .region <| .a rfl ?_
        refine .nil <| .go <| .ret ?_
        refine .tail <| .tail <| .tail ?_
        refine .back hI54 ?_
        refine Post.retE rfl rfl ?_
        refine congrArg (Value.int .i64) ?_
        rw [canR_some hok.rt hok.rn hT34 hN37]
        rw [if_neg (show ¬hasB b task = true from Bool.eq_false_iff.1 h29), hL]
        simp only [ht, hn]
        have eL : L.take k = L := List.take_of_length_le (by omega)
        rw [eL] at h68
        unfold canT
        rw [hL]
        rw [if_pos ((Bool.not_eq_false' _).mp h68)]
     ·
      refine .s 4 rfl rfl rfl (by kernel_rfl) <| .s 5 rfl rfl rfl (by kernel_rfl) <| .s 6 rfl rfl rfl (by kernel_rfl) <| .s 8 rfl rfl rfl (by kernel_rfl) <| .s 9 rfl rfl rfl (by kernel_rfl) <| .none_ (i := 7) (by kernel_rfl) rfl rfl rfl ?_
      refine .none_ (i := 10) (by kernel_rfl) rfl rfl rfl <| .u 11 rfl (.pickF rfl rfl) <| .u 12 rfl (.assign rfl) <| .done (by kernel_rfl) <| .go <| .seq ?_
      refine .seq <| .region <| .f (.loadW ag27 sz27 rfl (.there <| .there <| .here) rfl) <| .m rfl <| .on rfl <| .call cal158 rfl rfl rfl (rthere_ok hk0 (Listed.ok hok)) fun v54 I54 O54 hI54 hK54 => ?_
      obtain ⟨rfl, hl54⟩ := hK54
      have hl540 := hl54
      obtain ⟨la54, lc54, rfl, hl541, hl542, -⟩ := hl54
      rw [hL] at hl540 hl541
      rw [hL]
      refine .f (.len sl23 rfl rfl) <| .m rfl <| .nil <| .go <| .block ?_
      refine .loopM [11, 13, 56, 57, 58, 59, 60, 61, 62, 63, 64, 65, 66] (fun k => L.length - k) (fun k => k ≤ L.length) (fun k => [(56, .int .i64 k), (11, .bool ((suits t n && room n (sumR L).1 t.needs) && (L.take k).all (bear t)))]) (fun _ => _) (fun _ => _) (0) (Nat.zero_le _) ⟨rfl, congrArg (fun x => some (Value.bool x)) (by simp_all), trivial⟩ rfl rfl ?_
      intro k hk
      refine .seq <| .region <| .f (.lss rfl rfl) <| .nil <| .go <| .seq ?_
      refine .sd 57 rfl (fun h57 => ?_) (fun h57 => ?_)
      ·
       refine .cond_true rfl <| .skip <| .go <| .seq <| .block <| .seq ?_
       refine .region ?_
       obtain ⟨eb58, eo58, cs58, hd58, hat58, hr58⟩ := SlR.at_ hl540 (k := k) (by omega)
       cases hd58
       have ht58 := hr58
       obtain ⟨xw58, xb58, rfl, hxw58, hxb58⟩ := hr58.ex
       obtain ⟨xa58, xc58, rfl, -⟩ := hxw58
       obtain ⟨xd58, xe58, rfl, -⟩ := hxb58
       refine .f (.indexAddrL sl23 rfl rfl rfl (by omega)) <| .f (.loadIA ag42 sz42 rfl hat58 rfl) <| .on rfl <| .alloc zr42 rfl fun c9 _ _ => .on rfl <| .storeW sz42 rfl rfl rfl rfl rfl rfl .here <| .nil <| .go ?_
       refine .region <| .m rfl <| .m rfl ?_
       refine .split 61 rfl (fun h61 => ?_) (fun h61 => ?_)
       ·
        refine .f (.loadW ag42 sz42 rfl (.there <| .here) rfl) <| .f (.loadW ag42 sz42 rfl .here rfl) <| .on rfl <| .callP cal161 rfl rfl rfl (rBear_ok (htK.mono hI54) ht58) <| .f (.pickT rfl rfl) <| .a rfl <| .nil ?_
        refine .blk_normal <| .go <| .region <| .f (.add rfl rfl (by first | exact wrap_succ (by omega) | exact IntWalk.i64_in _ (by omega) | exact rfl)) <| .m rfl <| .nil ?_
        refine .tail ?_
        exact .mid (k + 1) ⟨by omega, by omega⟩ ⟨rfl, congrArg (fun x => some (Value.bool x)) (can_next (show k < L.length by omega) h61).symm, trivial⟩ rfl rfl (.pre 15 rfl (.app rfl .base))
       ·
        refine .z <| .z <| .z <| .f (.pickF rfl rfl) <| .a rfl <| .nil ?_
        refine .blk_normal <| .go <| .region <| .f (.add rfl rfl (by first | exact wrap_succ (by omega) | exact IntWalk.i64_in _ (by omega) | exact rfl)) <| .m rfl <| .nil ?_
        refine .tail ?_
        exact .mid (k + 1) ⟨by omega, by omega⟩ ⟨rfl, congrArg (fun x => some (Value.bool x)) (can_keep (k := k) h61).symm, trivial⟩ rfl rfl (.pre 15 rfl (.app rfl .base))
      ·
       refine .cond_false rfl <| .exit <| .exit <| .exit <| .blk_exit <| .go ?_
       refine .seq <| .seq <| .region <| .m rfl <| .f (.not rfl) <| .nil ?_
       refine .go ?_
       refine .split 68 rfl (fun h68 => ?_) (fun h68 => ?_)
       ·
        refine .cond_true rfl <| .seq <| .region <| .a rfl <| .nil <| .go ?_
        refine .ret <| .ret ?_
        refine .tail <| .tail <| .tail ?_
        refine .back hI54 ?_
        refine Post.retE rfl rfl ?_
        refine congrArg (Value.int .i64) ?_
        rw [canR_some hok.rt hok.rn hT34 hN37]
        rw [if_neg (show ¬hasB b task = true from Bool.eq_false_iff.1 h29), hL]
        simp only [ht, hn]
        have eL : L.take k = L := List.take_of_length_le (by omega)
        rw [eL] at h68
        unfold canT
        rw [hL]
        rw [if_neg (Bool.eq_false_iff.1 ((Bool.not_eq_true' _).mp h68))]
       ·
        refine .cond_false rfl <| .skip <| .go <| .seq <| .region <| .a rfl ?_
        refine .nil <| .go <| .ret ?_
        refine .tail <| .tail <| .tail ?_
        refine .back hI54 ?_
        refine Post.retE rfl rfl ?_
        refine congrArg (Value.int .i64) ?_
        rw [canR_some hok.rt hok.rn hT34 hN37]
        rw [if_neg (show ¬hasB b task = true from Bool.eq_false_iff.1 h29), hL]
        simp only [ht, hn]
        have eL : L.take k = L := List.take_of_length_le (by omega)
        rw [eL] at h68
        unfold canT
        rw [hL]
        rw [if_pos ((Bool.not_eq_false' _).mp h68)]

set_option maxHeartbeats 1000000 in
set_option maxRecDepth 20000 in
theorem rbCan_ok {I : Imm} {O : Own} {kc : List Value} {b : Bk} (hk : BkR I kc b) {task node : ByteArray} :
  Pure Tryz.prog 53 [.agg ⟨kc⟩, .string task, .string node] I O (.int .i64 (canA b task node)) := by
 have hk0 := hk
 obtain ⟨nv, tv, bv, rfl, hnv, htv, hbv⟩ := hk.ex
 have hnv0 := hnv
 have htv0 := htv
 have hbv0 := hbv
 obtain ⟨na, ncap, rfl, hn1, hn2, -⟩ := hnv
 obtain ⟨ta, tcap, rfl, ht1, ht2, -⟩ := htv
 obtain ⟨ba, bcap, rfl, hb1, hb2, -⟩ := hbv
 refine Go.Sy.Does.enter Tryz.func53 rfl Tryz.ntmps53 rfl ?_
 refine .seq <| .region <| .on rfl <| .box rfl rfl rfl fun c1 _ _ => .a rfl <| .nil <| .go ?_
 refine .seq <| .seq <| .region <| .f (.loadW ag27 sz27 rfl .here rfl) <| .on rfl <| .callP cal43 rfl rfl rfl (rbCheck_ok hk0) <| .f (.neq rfl rfl) ?_
 refine .nil <| .go ?_
 refine .split 9 rfl (fun h9 => ?_) (fun h9 => ?_)
 ·
  first | replace h9 := of_decide_eq_false ((Bool.not_eq_true' _).mp h9) | replace h9 := of_decide_eq_false (by simpa using h9)
  refine .cond_true rfl <| .seq <| .region <| .a rfl <| .nil <| .go ?_
  refine .ret <| .ret ?_
  refine .tail ?_
  refine Post.retE rfl rfl ?_
  refine congrArg (Value.int .i64) ?_
  unfold canA
  rw [(bookWhy_no h9).1, if_neg (by simp)]
 ·
  first | replace h9 := of_decide_eq_true ((Bool.not_eq_false' _).mp h9) | replace h9 := of_decide_eq_true (by simpa using h9)
  have hok := BookOk.of (bookWhy_ok h9)
  refine .cond_false rfl <| .skip <| .go <| .seq <| .region <| .f (.loadW ag27 sz27 rfl .here rfl) ?_
  refine .m rfl <| .m rfl <| .on rfl <| .callP cal108 rfl rfl rfl (rcan_ok hk0 hok) <| .a rfl <| .nil <| .go ?_
  refine .ret ?_
  refine .tail ?_
  refine Post.retE rfl rfl ?_
  refine congrArg (Value.int .i64) ?_
  unfold canA
  rw [if_pos (bookWhy_ok h9)]

set_option maxHeartbeats 1000000 in
set_option maxRecDepth 20000 in
theorem rCopyNode_ok {I : Imm} {O : Own} {nc : List Value} {n : Nod} (hn : NodR I nc n) (hL1 : n.labels.length * 32 ≤ 140737488351232) (hL2 : n.taints.length * 32 ≤ 140737488351232) :
  Go.Sy.Does Tryz.prog 48 [.agg ⟨nc⟩] I O (fun u I' O' => ∃ cs, u = .agg ⟨cs⟩ ∧ NodR I' cs n ∧ O' = O) := by
 have hn0 := hn
 obtain ⟨nl, nt, rfl, hnl, hnt⟩ := hn.ex
 have hnl0 := hnl
 obtain ⟨la, lcap, rfl, hl1, hl2, -⟩ := hnl
 have hnt0 := hnt
 obtain ⟨ta, tcap, rfl, ht1, ht2, -⟩ := hnt
 obtain ⟨wsA, hsA, hdA⟩ := SlR.src (B := []) (fun _ _ h => prLen h) hnl0
 refine Go.Sy.Does.enter Tryz.func48 rfl Tryz.ntmps48 rfl ?_
 refine .seq <| .region <| .on rfl <| .box rfl rfl rfl fun c1 _ _ => .on rfl <| .alloc zr45 rfl fun c2 _ _ => .nil <| .go ?_
 refine .seq <| .region <| .on rfl <| .buildSlice Tryz.underlying40 sz57 (by decide) (by decide) zv57 rfl rfl rfl rfl rfl fun c3 _ _ => .f (.fieldAddr fo45_2 rfl) <| .f (.load ag40 rfl (.there <| .there <| .here) rfl) <| .on rfl <| .append Tryz.underlying40 Tryz.underlying40 sz57 by57 zv57 rfl rfl rfl .here (OwnS.made rfl (by decide)) hsA.any hdA.1 (hdA.ones (by decide) fun _ _ h => PrR.ones h) (by omega) (by omega) rfl fun v6 ob6 ho6 => ?_
 refine .freezeS ho6 fun K hK hKs => ?_
 have hy5 : PrsR K _ n.labels := hKs (R := PrR) (hdA.mono fun _ _ h => h) (by omega)
 have hy50 := hy5
 obtain ⟨ya5, yc5, rfl, -⟩ := hy5
 obtain ⟨wsB, hsB, hdB⟩ := SlR.src (B := []) (fun _ _ h => prLen h) (PrsR.mono hK hnt0)
 refine .f (.fieldAddr fo45_2 rfl) <| .on rfl <| .store sz40 rfl rfl rfl rfl rfl rfl (.there <| .here) <| .nil <| .go <| .seq <| .region ?_
 refine .on rfl <| .buildSlice Tryz.underlying40 sz57 (by decide) (by decide) zv57 rfl rfl rfl rfl rfl fun c4 _ _ => .f (.fieldAddr fo45_3 rfl) <| .f (.load ag40 rfl (.there <| .there <| .here) rfl) <| .on rfl <| .append Tryz.underlying40 Tryz.underlying40 sz57 by57 zv57 rfl rfl rfl .here (OwnS.made rfl (by decide)) hsB.any hdB.1 (hdB.ones (by decide) fun _ _ h => PrR.ones h) (by omega) (by omega) rfl fun v11 ob11 ho11 => ?_
 refine .freezeS ho11 fun M hM hMs => ?_
 have hy8 : PrsR M _ n.taints := hMs (R := PrR) (hdB.mono fun _ _ h => h) (by omega)
 have hy80 := hy8
 obtain ⟨ya8, yc8, rfl, -⟩ := hy8
 refine .f (.fieldAddr fo45_3 rfl) <| .on rfl <| .store sz40 rfl rfl rfl rfl rfl rfl (.there <| .here) <| .nil <| .go <| .seq <| .region ?_
 refine .f (.loadW ag45 sz45 rfl (.there <| .here) rfl) <| .on rfl <| .storeW sz45 rfl rfl rfl rfl rfl rfl .here <| .nil <| .go <| .ret ?_
 refine Post.rets rfl (.agg rfl ag45 sz45 .here rfl .nil) rfl (Imm.le_trans hK hM) (fun w h => (Sat.tail (Sat.tail h))) ?_
 exact ⟨_, rfl, ⟨⟨_, _, rfl, hy50.mono hM, hy80⟩, hn0.name, hn0.has⟩, rfl⟩

set_option maxHeartbeats 1000000 in
set_option maxRecDepth 20000 in
theorem rCopyTask_ok {I : Imm} {O : Own} {tc : List Value} {t : Tsk} (ht : TskR I tc t) (hL1 : t.wants.length * 32 ≤ 140737488351232) (hL2 : t.bears.length * 32 ≤ 140737488351232) :
  Go.Sy.Does Tryz.prog 46 [.agg ⟨tc⟩] I O (fun u I' O' => ∃ cs, u = .agg ⟨cs⟩ ∧ TskR I' cs t ∧ O' = O) := by
 have ht0 := ht
 obtain ⟨tw, tb, rfl, htw, htb⟩ := ht.ex
 have htw0 := htw
 obtain ⟨wa, wcap, rfl, hw1, hw2, -⟩ := htw
 have htb0 := htb
 obtain ⟨ba, bcap, rfl, hb1, hb2, -⟩ := htb
 obtain ⟨wsA, hsA, hdA⟩ := SlR.src (B := []) (fun _ _ h => prLen h) htw0
 refine Go.Sy.Does.enter Tryz.func46 rfl Tryz.ntmps46 rfl ?_
 refine .seq <| .region <| .on rfl <| .box rfl rfl rfl fun c1 _ _ => .on rfl <| .alloc zr42 rfl fun c2 _ _ => .nil <| .go ?_
 refine .seq <| .region <| .on rfl <| .buildSlice Tryz.underlying40 sz57 (by decide) (by decide) zv57 rfl rfl rfl rfl rfl fun c3 _ _ => .f (.fieldAddr fo42_2 rfl) <| .f (.load ag40 rfl (.there <| .there <| .here) rfl) <| .on rfl <| .append Tryz.underlying40 Tryz.underlying40 sz57 by57 zv57 rfl rfl rfl .here (OwnS.made rfl (by decide)) hsA.any hdA.1 (hdA.ones (by decide) fun _ _ h => PrR.ones h) (by omega) (by omega) rfl fun v6 ob6 ho6 => ?_
 refine .freezeS ho6 fun K hK hKs => ?_
 have hy5 : PrsR K _ t.wants := hKs (R := PrR) (hdA.mono fun _ _ h => h) (by omega)
 have hy50 := hy5
 obtain ⟨ya5, yc5, rfl, -⟩ := hy5
 obtain ⟨wsB, hsB, hdB⟩ := SlR.src (B := []) (fun _ _ h => prLen h) (PrsR.mono hK htb0)
 refine .f (.fieldAddr fo42_2 rfl) <| .on rfl <| .store sz40 rfl rfl rfl rfl rfl rfl (.there <| .here) <| .nil <| .go <| .seq <| .region ?_
 refine .on rfl <| .buildSlice Tryz.underlying40 sz57 (by decide) (by decide) zv57 rfl rfl rfl rfl rfl fun c4 _ _ => .f (.fieldAddr fo42_3 rfl) <| .f (.load ag40 rfl (.there <| .there <| .here) rfl) <| .on rfl <| .append Tryz.underlying40 Tryz.underlying40 sz57 by57 zv57 rfl rfl rfl .here (OwnS.made rfl (by decide)) hsB.any hdB.1 (hdB.ones (by decide) fun _ _ h => PrR.ones h) (by omega) (by omega) rfl fun v11 ob11 ho11 => ?_
 refine .freezeS ho11 fun M hM hMs => ?_
 have hy8 : PrsR M _ t.bears := hMs (R := PrR) (hdB.mono fun _ _ h => h) (by omega)
 have hy80 := hy8
 obtain ⟨ya8, yc8, rfl, -⟩ := hy8
 refine .f (.fieldAddr fo42_3 rfl) <| .on rfl <| .store sz40 rfl rfl rfl rfl rfl rfl (.there <| .here) <| .nil <| .go <| .seq <| .region ?_
 refine .f (.loadW ag42 sz42 rfl (.there <| .here) rfl) <| .on rfl <| .storeW sz42 rfl rfl rfl rfl rfl rfl .here <| .nil <| .go <| .ret ?_
 refine Post.rets rfl (.agg rfl ag42 sz42 .here rfl .nil) rfl (Imm.le_trans hK hM) (fun w h => (Sat.tail (Sat.tail h))) ?_
 exact ⟨_, rfl, ⟨⟨_, _, rfl, hy50.mono hM, hy80⟩, ht0.name, ht0.needs, ht0.group, ht0.apart, ht0.rank⟩, rfl⟩

set_option maxHeartbeats 16000000 in
set_option maxRecDepth 20000 in
theorem rbCopy_ok {I : Imm} {O : Own} {kc : List Value} {b : Bk} (hk : BkR I kc b) (hM : BkM b) :
  Go.Sy.Does Tryz.prog 25 [.agg ⟨kc⟩] I O (fun u I' O' => ∃ nv tv bv on ot ob, u = .agg ⟨b.cells nv tv bv⟩ ∧ BkO I' b nv tv bv on ot ob ∧ O' = on ++ (ot ++ (ob ++ O))) := by
 have hk0 := hk
 obtain ⟨nv, tv, bv, rfl, hnv, htv, hbv⟩ := hk.ex
 have hnv0 := hnv
 have htv0 := htv
 have hbv0 := hbv
 obtain ⟨na, ncap, rfl, hn1, hn2, -⟩ := hnv
 obtain ⟨ta, tcap, rfl, ht1, ht2, -⟩ := htv
 obtain ⟨ba, bcap, rfl, hb1, hb2, -⟩ := hbv
 have hf := hk0.fence
 have hM1 := hM.n
 have hM2 := hM.t
 have hM3 := hM.x
 refine Go.Sy.Does.enter Tryz.func25 rfl Tryz.ntmps25 rfl ?_
 refine .seq <| .region <| .on rfl <| .box rfl rfl rfl fun c1 _ _ => .on rfl <| .alloc zr27 rfl fun c2 _ _ => .nil <| .go ?_
 refine .seq <| .region <| .f (.fieldAddr fo27_3 rfl) <| .f (.load ag25 rfl (.there <| .here) rfl) <| .f (.build bs27 zv27 rfl rfl) <| .on rfl <| .alloc zr27 rfl fun c3 _ _ => ?_
 refine .on rfl <| .storeW sz27 rfl rfl rfl rfl rfl rfl .here <| .nil <| .go <| .seq <| .seq <| .region ?_
 refine .f (.fieldAddr fo27_0 rfl) <| .f (.load ag22 rfl (.there <| .there <| .here) rfl) <| .f (.len sl22 rfl rfl) <| .m rfl <| .nil <| .go ?_
 refine .block ?_
 refine .loopM [5, 14, 15, 16, 17, 18, 19, 20, 21, 22, 23, 24, 25] (fun s => b.nodes.length - s.1) (fun s => s.1 ≤ b.nodes.length ∧ OwnS 6 s.2.1 s.1 s.2.2.1 s.2.2.2.1 ∧ DR NodR 6 s.2.2.2.2 s.2.2.1 (b.nodes.take s.1) ∧ Imm.le I s.2.2.2.2) (fun s => [(14, .int .i64 s.1)]) (fun s => s.2.2.2.2) (fun s => s.2.2.2.1 ++ ((c3, .cells ⟨[s.2.1, .slice none 0 0, .slice none 0 0, .int .u64 b.fence]⟩ 27 (0, 0)) :: _)) (((0, .slice none 0 0, [], [], I) : Nat × Value × List Value × Own × Imm)) ⟨Nat.zero_le _, OwnS.nil, DR.nil, Imm.le_refl _⟩ ⟨rfl, trivial⟩ rfl rfl ?_
 intro ⟨kn, vnL, wsnL, obnL, Jn⟩ hkn
 dsimp only at hkn ⊢
 obtain ⟨hkn, honL, hdnL, hJn⟩ := hkn
 obtain ⟨adnL, capnL, rfl⟩ := honL.form
 refine .seq <| .region <| .f (.lss rfl rfl) <| .nil <| .go <| .seq ?_
 refine .sd 15 rfl (fun h15 => ?_) (fun h15 => ?_)
 ·
  refine .cond_true rfl <| .skip <| .go <| .seq <| .block <| .seq ?_
  refine .region ?_
  obtain ⟨eb16, eo16, cs16, hd16, hat16, hr16⟩ := SlR.at_ (NodsR.mono hJn hnv0) (k := kn) (by omega)
  cases hd16
  have hn16 := hr16
  obtain ⟨xf16, xg16, rfl, hxf16, hxg16⟩ := hr16.ex
  obtain ⟨xh16, xi16, rfl, -⟩ := hxf16
  obtain ⟨xj16, xk16, rfl, -⟩ := hxg16
  refine .f (.indexAddrL sl22 rfl rfl rfl (by omega)) <| .f (.loadIA ag45 sz45 rfl hat16 rfl) <| .on rfl <| .alloc zr45 rfl fun c4 _ _ => .on rfl <| .storeW sz45 rfl rfl rfl rfl rfl rfl .here <| .nil <| .go ?_
  refine .draw [(c3, _), (c4, _)] mixed (.cons (.there <| .app <| .here) (.cons .here .nil)) ?_
  refine .u 0 rfl (.fieldAddr fo27_0 rfl) <| .u 1 rfl (.load ag22 rfl .here rfl) <| .u 2 rfl (.loadW ag45 sz45 rfl (.there <| .here) rfl) <| .one (i := 3) (by kernel_rfl) rfl rfl <| .call cal48 rfl rfl rfl (rCopyNode_ok hn16 (hM.nl _ (List.getElem_mem (by omega))).1 (hM.nl _ (List.getElem_mem (by omega))).2) fun v21 I21 O21 hI21 hK21 => ?_
  obtain ⟨cs21, hq21, hR21, rfl⟩ := hK21
  replace hq21 := hq21.symm
  subst hq21
  have hR21' := hR21
  obtain ⟨lv21, tv21, rfl, hl21, ht21⟩ := hR21'.ex
  obtain ⟨_, _, rfl, -⟩ := hl21
  obtain ⟨_, _, rfl, -⟩ := ht21
  refine ⟨(.cons (.there <| .app <| .here) (.cons .here .nil)), hI21, ?_⟩
  refine .one (i := 4) (by kernel_rfl) rfl rfl <| .buildSlice Tryz.underlying22 sz45 (by decide) (by decide) zv45 rfl rfl rfl rfl rfl fun c5 _ _ => ?_
  refine ⟨(.cons (.there <| .there <| .app <| .here) (.cons (.there <| .here) .nil)), hI21, ?_⟩
  refine .one (i := 5) (by kernel_rfl) rfl rfl <| .append Tryz.underlying22 Tryz.underlying22 sz45 by45 zv45 rfl rfl rfl (.there <| .there <| .front) honL ((OwnS.made (k := 6) rfl (by decide)).src (I := _) .here) rfl rfl (by omega) (by omega) rfl fun v23 ob23 ho23 => ?_
  refine ⟨(.cons (.app <| .there <| .there <| .here) (.cons (.app <| .there <| .here) .nil)), hI21, ?_⟩
  refine .u 6 rfl (.fieldAddr fo27_0 rfl) ?_
  obtain ⟨ad23, cap23, rfl⟩ := ho23.form
  refine .late (i := 7) (by kernel_rfl) (by kernel_rfl) (by kernel_rfl) rfl rfl <| .store sz22 rfl rfl rfl rfl rfl rfl (.app <| .there <| .there <| .here) <| .blk_normal <| .go <| .region <| .f (.add rfl rfl (by first | exact wrap_succ (by omega) | exact IntWalk.i64_in _ (by omega) | exact rfl)) <| .m rfl ?_
  refine .nil ?_
  refine .front1 (.app <| .here) ?_
  refine .tail ?_
  refine .front1 (.app <| .here) ?_
  refine .tail ?_
  exact .mid ((kn + 1, _, _, _, I21)) ⟨by dsimp only; omega, by dsimp only; omega, ho23, (by rw [List.take_succ_eq_append_getElem (show kn < b.nodes.length by omega)]; exact (hdnL.mono fun _ _ h => NodR.mono hI21 h).append (DR.single rfl hR21)), Imm.le_trans hJn hI21⟩ ⟨rfl, trivial⟩ rfl rfl (.pre 14 rfl (.app rfl .base))
 ·
  refine .cond_false rfl <| .exit <| .exit <| .exit <| .blk_exit <| .go ?_
  refine .seq <| .seq <| .region <| .f (.fieldAddr fo27_1 rfl) <| .f (.load ag23 rfl (.app <| .there <| .there <| .here) rfl) <| .f (.len sl23 rfl rfl) ?_
  refine .m rfl <| .nil <| .go <| .block ?_
  have ekn : kn = b.nodes.length := by omega
  subst ekn
  rw [List.take_length] at hdnL
  refine .loopM [7, 29, 30, 31, 32, 33, 34, 35, 36, 37, 38, 39, 40] (fun s => b.tasks.length - s.1) (fun s => s.1 ≤ b.tasks.length ∧ OwnS 9 s.2.1 s.1 s.2.2.1 s.2.2.2.1 ∧ DR TskR 9 s.2.2.2.2 s.2.2.1 (b.tasks.take s.1) ∧ Imm.le Jn s.2.2.2.2) (fun s => [(29, .int .i64 s.1)]) (fun s => s.2.2.2.2) (fun s => s.2.2.2.1 ++ (obnL ++ ((c3, .cells ⟨[.slice adnL b.nodes.length capnL, s.2.1, .slice none 0 0, .int .u64 b.fence]⟩ 27 (0, 0)) :: _))) (((0, .slice none 0 0, [], [], Jn) : Nat × Value × List Value × Own × Imm)) ⟨Nat.zero_le _, OwnS.nil, DR.nil, Imm.le_refl _⟩ ⟨rfl, trivial⟩ rfl rfl ?_
  intro ⟨kt, vtL, wstL, obtL, Jt⟩ hkt
  dsimp only at hkt ⊢
  obtain ⟨hkt, hotL, hdtL, hJt⟩ := hkt
  obtain ⟨adtL, captL, rfl⟩ := hotL.form
  refine .seq <| .region <| .f (.lss rfl rfl) <| .nil <| .go <| .seq ?_
  refine .sd 30 rfl (fun h30 => ?_) (fun h30 => ?_)
  ·
   refine .cond_true rfl <| .skip <| .go <| .seq <| .block <| .seq ?_
   refine .region ?_
   obtain ⟨eb31, eo31, cs31, hd31, hat31, hr31⟩ := SlR.at_ (TsksR.mono (Imm.le_trans hJn hJt) htv0) (k := kt) (by omega)
   cases hd31
   have ht31 := hr31
   obtain ⟨xw31, xb31, rfl, hxw31, hxb31⟩ := hr31.ex
   obtain ⟨xa31, xc31, rfl, -⟩ := hxw31
   obtain ⟨xd31, xe31, rfl, -⟩ := hxb31
   refine .f (.indexAddrL sl23 rfl rfl rfl (by omega)) <| .f (.loadIA ag42 sz42 rfl hat31 rfl) <| .on rfl <| .alloc zr42 rfl fun c6 _ _ => .on rfl <| .storeW sz42 rfl rfl rfl rfl rfl rfl .here <| .nil <| .go ?_
   refine .draw [(c3, _), (c6, _)] mixed (.cons (.there <| .app <| .app <| .here) (.cons .here .nil)) ?_
   refine .u 0 rfl (.fieldAddr fo27_1 rfl) <| .u 1 rfl (.load ag23 rfl .here rfl) <| .u 2 rfl (.loadW ag42 sz42 rfl (.there <| .here) rfl) <| .one (i := 3) (by kernel_rfl) rfl rfl <| .call cal46 rfl rfl rfl (rCopyTask_ok ht31 (hM.tl _ (List.getElem_mem (by omega))).1 (hM.tl _ (List.getElem_mem (by omega))).2) fun v36 I36 O36 hI36 hK36 => ?_
   obtain ⟨cs36, hq36, hR36, rfl⟩ := hK36
   replace hq36 := hq36.symm
   subst hq36
   have hR36' := hR36
   obtain ⟨lv36, tv36, rfl, hl36, ht36⟩ := hR36'.ex
   obtain ⟨_, _, rfl, -⟩ := hl36
   obtain ⟨_, _, rfl, -⟩ := ht36
   refine ⟨(.cons (.there <| .app <| .app <| .here) (.cons .here .nil)), hI36, ?_⟩
   refine .one (i := 4) (by kernel_rfl) rfl rfl <| .buildSlice Tryz.underlying23 sz42 (by decide) (by decide) zv42 rfl rfl rfl rfl rfl fun c7 _ _ => ?_
   refine ⟨(.cons (.there <| .there <| .app <| .app <| .here) (.cons (.there <| .here) .nil)), hI36, ?_⟩
   refine .one (i := 5) (by kernel_rfl) rfl rfl <| .append Tryz.underlying23 Tryz.underlying23 sz42 by42 zv42 rfl rfl rfl (.there <| .there <| .front) hotL ((OwnS.made (k := 9) rfl (by decide)).src (I := _) .here) rfl rfl (by omega) (by omega) rfl fun v38 ob38 ho38 => ?_
   refine ⟨(.cons (.app <| .there <| .there <| .app <| .here) (.cons (.app <| .there <| .here) .nil)), hI36, ?_⟩
   refine .u 6 rfl (.fieldAddr fo27_1 rfl) ?_
   obtain ⟨ad38, cap38, rfl⟩ := ho38.form
   refine .late (i := 7) (by kernel_rfl) (by kernel_rfl) (by kernel_rfl) rfl rfl <| .store sz23 rfl rfl rfl rfl rfl rfl (.app <| .there <| .there <| .app <| .here) <| .blk_normal <| .go <| .region <| .f (.add rfl rfl (by first | exact wrap_succ (by omega) | exact IntWalk.i64_in _ (by omega) | exact rfl)) <| .m rfl ?_
   refine .nil ?_
   refine .front1 (.app <| .here) ?_
   refine .tail ?_
   refine .front1 (.app <| .here) ?_
   refine .tail ?_
   exact .mid ((kt + 1, _, _, _, I36)) ⟨by dsimp only; omega, by dsimp only; omega, ho38, (by rw [List.take_succ_eq_append_getElem (show kt < b.tasks.length by omega)]; exact (hdtL.mono fun _ _ h => TskR.mono hI36 h).append (DR.single rfl hR36)), Imm.le_trans hJt hI36⟩ ⟨rfl, trivial⟩ rfl rfl (.pre 14 rfl (.app rfl .base))
  ·
   refine .cond_false rfl <| .exit <| .exit <| .exit <| .blk_exit <| .go ?_
   refine .seq <| .region <| .f (.fieldAddr fo27_2 rfl) <| .f (.load ag24 rfl (.app <| .app <| .here) rfl) <| .f (.fieldAddr fo27_2 rfl) <| .f (.load ag24 rfl (.app <| .app <| .there <| .there <| .here) rfl) ?_
   have ekt : kt = b.tasks.length := by omega
   subst ekt
   obtain ⟨wsX, hsX, hdX⟩ := SlR.src (B := []) (fun _ _ h => BndR.len h) (BndsR.mono (Imm.le_trans hJn hJt) hbv0)
   refine .on rfl <| .append Tryz.underlying24 Tryz.underlying24 sz51 by51 zv51 rfl rfl rfl .nil OwnS.nil hsX.any hdX.1 (hdX.ones (by decide) fun _ _ h => BndR.ones h) (by omega) (by omega) rfl fun v45 ob45 ho45 => ?_
   rw [Nat.zero_add] at ho45
   obtain ⟨ad45, cap45, rfl⟩ := ho45.form
   refine .f (.fieldAddr fo27_2 rfl) <| .on rfl <| .store sz24 rfl rfl rfl rfl rfl rfl (.app <| .app <| .app <| .here) <| .nil <| .go <| .seq <| .region ?_
   refine .f (.loadW ag27 sz27 rfl (.app <| .app <| .app <| .here) rfl) <| .on rfl <| .storeW sz27 rfl rfl rfl rfl rfl rfl (.app <| .app <| .app <| .there <| .here) <| .nil <| .go <| .ret ?_
   refine .front (.app <| .front) ?_
   refine .front (.app <| .app <| .front) ?_
   refine Post.rets rfl (.agg rfl ag27 sz27 (.app <| .app <| .app <| .there <| .here) rfl .nil) rfl (Imm.le_trans hJn hJt) (fun w h => (Sat.tail (Sat.rem (Sat.tail (Sat.rem (Sat.tail (Sat.rem h (Rem.app <| Rem.app <| Rem.app <| Rem.here))) (Rem.app <| Rem.app <| Rem.app <| Rem.here))) (Rem.app <| Rem.app <| Rem.app <| Rem.here)))) ?_
   rw [List.take_length] at hdtL
   exact ⟨_, _, _, obnL, obtL, ob45, rfl, ⟨⟨_, honL, hdnL.mono fun _ _ h => h.mono hJt⟩, ⟨_, hotL, hdtL⟩, ⟨_, ho45, hdX⟩, hf⟩, rfl⟩

end Go.Proofs.YtmmokaockpghaaaGreatDoor
