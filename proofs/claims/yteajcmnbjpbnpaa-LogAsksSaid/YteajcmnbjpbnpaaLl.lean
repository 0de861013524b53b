/- Walks of functions over a symbolic memory, printed by a program of the session. -/
import Derived.Test.YteajcmnbjpbnpaaLk
namespace Go.Proofs.Yteajcmnbjpbnpaa
open Go.Sy
set_option linter.unusedSimpArgs false
set_option linter.unusedVariables false

def bAt (i : Int) (s : List Ent) (j : Nat) : Bool := entOk (s.getD j ent0) && decide ((s.getD j ent0).index = i + (j : Int) + 1)
def bTo (i : Int) (s : List Ent) (k : Nat) : Bool := (List.range k).all (bAt i s)
def bOk (i : Int) (s : List Ent) : Bool := bTo i s s.length
theorem bTo_succ (i : Int) (s : List Ent) (k : Nat) : bTo i s (k + 1) = (bTo i s k && bAt i s k) := by unfold bTo; rw [List.range_succ, List.all_append]; simp
theorem bTo_bad {i : Int} {s : List Ent} {k : Nat} (hk : k < s.length) (h : bAt i s k = false) : bOk i s = false := by
  unfold bOk bTo
  rw [Bool.eq_false_iff]; intro h2
  have := List.all_eq_true.1 h2 k (List.mem_range.2 hk)
  rw [h] at this; cases this
theorem bAt_yes {i : Int} {s : List Ent} {k : Nat} (hk : k < s.length) (h1 : entOk s[k] = true) (h2 : s[k].index = i + (k : Int) + 1) : bAt i s k = true := by
  unfold bAt; rw [entD hk, h1, decide_eq_true h2]; rfl
theorem bAt_no {i : Int} {s : List Ent} {k : Nat} (hk : k < s.length) (h : entOk s[k] = false ∨ ¬s[k].index = i + (k : Int) + 1) : bAt i s k = false := by
  unfold bAt; rw [entD hk]
  rcases h with h | h
  · rw [h]; rfl
  · rw [decide_eq_false h]; simp
theorem b_ix {i : Int} {s : List Ent} (h : bOk i s = true) (j : Nat) (hj : j < s.length) : s[j].index = i + (j : Int) + 1 := by
  have := List.all_eq_true.1 h j (List.mem_range.2 hj)
  unfold bAt at this
  rw [entD hj] at this
  simp only [Bool.and_eq_true, decide_eq_true_eq] at this
  exact this.2

set_option maxHeartbeats 1000000 in
set_option maxRecDepth 20000 in
theorem behind_ok {I : Imm} {O : Own} {v : Value} {s : List Ent} {i : Int} (hs : EntsR I v s) (hi : U64 i) :
    Pure Try.prog 31 [.int .u64 i, v] I O (.bool (bOk i s)) := by
  have hs0 := hs
  obtain ⟨sa, scap, rfl, hs1, hs2, -⟩ := hs
  unfold U64 at hi
  refine Go.Sy.Does.enter Try.func31 rfl Try.ntmps31 rfl ?_
  refine .seq <| .region <| .e (.assign rfl) rfl rfl <| .nil <| .go <| .seq ?_
  refine .seq <| .region <| .e (.move rfl) rfl rfl <| .e (.len sl23 rfl rfl) rfl rfl <| .e (.move rfl) rfl rfl <| .nil ?_
  refine .go <| .block ?_
  refine .loopM [4, 5, 6, 9, 10, 11, 12, 13, 14, 15, 16, 17, 18, 19, 20, 21, 22, 23, 24, 25, 26, 27, 28, 29, 30, 31, 32, 33] (fun k => s.length - k) (fun k => k ≤ s.length ∧ bTo i s k = true) (fun k => [(9, .int .i64 k)]) (fun _ => _) (fun _ => _) (0) ⟨by omega, rfl⟩ ⟨rfl, trivial⟩ rfl rfl ?_
  intro k hk
  obtain ⟨hk, hb⟩ := hk
  refine .seq <| .region <| .e (.lss rfl rfl) rfl rfl <| .nil <| .go <| .seq ?_
  refine .split 10 rfl (fun h10 => ?_) (fun h10 => ?_)
  · skip
    replace h10 := of_decide_eq_true h10
    refine .cond_true rfl <| .skip <| .go <| .seq <| .block <| .seq ?_
    refine .region <| .e (.move rfl) rfl rfl ?_
    obtain ⟨eb12, eo12, cs12, hd12, hat12, hr12⟩ := SlR.at_ hs0 (k := k) (by omega)
    cases hd12
    have he12 := hr12
    obtain ⟨mv12, rfl, hmv12⟩ := hr12.ex
    obtain ⟨ma12, mc12, rfl, -⟩ := hmv12
    have hx12 := he12.index
    unfold U64 at hx12
    refine .e (.indexAddrL sl23 rfl rfl rfl (by omega)) rfl rfl <| .e (.loadIA ag41 sz41 rfl hat12 rfl) rfl rfl <| .on rfl <| .alloc zr41 rfl fun c1 _ _ => .e (.assign rfl) rfl rfl <| .on rfl <| .storeW sz41 rfl rfl rfl rfl rfl rfl .here <| .nil ?_
    refine .go <| .seq <| .region <| .e (.loadW ag41 sz41 rfl .here rfl) rfl rfl <| .on rfl <| .callP cal41 rfl rfl rfl (wCheck_ok he12) <| .e (.neq rfl rfl) rfl rfl ?_
    refine .e (.move rfl) rfl rfl ?_
    refine .split 17 rfl (fun h17 => ?_) (fun h17 => ?_)
    · skip
      first | replace h17 := of_decide_eq_false ((Bool.not_eq_true' _).mp h17) | replace h17 := of_decide_eq_false (by simpa using h17)
      refine .off rfl rfl <| .off rfl rfl <| .off rfl rfl <| .off rfl rfl <| .e (.pickT rfl rfl) rfl rfl <| .e (.move rfl) rfl rfl ?_
      refine .off rfl rfl <| .off rfl rfl <| .off rfl rfl <| .off rfl rfl <| .off rfl rfl <| .off rfl rfl ?_
      refine .off rfl rfl <| .off rfl rfl <| .e (.pickT rfl rfl) rfl rfl <| .nil <| .go <| .cond_true rfl ?_
      refine .seq <| .region <| .e (.assign rfl) rfl rfl <| .nil <| .go <| .ret ?_
      refine .blk_ret <| .ret <| .ret <| .blk_ret <| .ret ?_
      refine .tail ?_
      refine Post.retE rfl rfl ?_
      exact congrArg Value.bool (bTo_bad (k := k) (by omega) (bAt_no (by omega) (.inl (ent_no h17)))).symm
    · skip
      first | replace h17 := of_decide_eq_true ((Bool.not_eq_false' _).mp h17) | replace h17 := of_decide_eq_true (by simpa using h17)
      refine .e (.fieldAddr fo41_0 rfl) rfl rfl <| .e (.load ag22 rfl .here rfl) rfl rfl <| .e (.move rfl) rfl rfl <| .e (.leq rfl rfl) rfl rfl <| .e (.pickF rfl rfl) rfl rfl <| .e (.move rfl) rfl rfl ?_
      refine .split 23 rfl (fun h23 => ?_) (fun h23 => ?_)
      · skip
        replace h23 := of_decide_eq_true h23
        refine .off rfl rfl <| .off rfl rfl <| .off rfl rfl <| .off rfl rfl <| .off rfl rfl <| .off rfl rfl ?_
        refine .off rfl rfl <| .off rfl rfl <| .e (.pickT rfl rfl) rfl rfl <| .nil <| .go <| .cond_true rfl ?_
        refine .seq <| .region <| .e (.assign rfl) rfl rfl <| .nil <| .go <| .ret ?_
        refine .blk_ret <| .ret <| .ret <| .blk_ret <| .ret ?_
        refine .tail ?_
        refine Post.retE rfl rfl ?_
        exact congrArg Value.bool (bTo_bad (k := k) (by omega) (bAt_no (by omega) (.inr (by omega)))).symm
      · skip
        replace h23 := of_decide_eq_false h23
        refine .e (.fieldAddr fo41_0 rfl) rfl rfl <| .e (.load ag22 rfl .here rfl) rfl rfl <| .e (.move rfl) rfl rfl <| .e (.sub rfl rfl (IntWalk.u64_in _ (by omega))) rfl rfl <| .e (.move rfl) rfl rfl <| .e (.conv Try.underlying3 Try.underlying22 rfl) rfl rfl ?_
        refine .e (.add rfl rfl (show IntKind.u64.wrap (IntKind.u64.wrap (k : Int) + 1) = (k : Int) + 1 by rw [show IntKind.u64.wrap (k : Int) = (k : Int) from IntWalk.u64_in _ (by omega)]; exact IntWalk.u64_in _ (by omega))) rfl rfl <| .e (.neq rfl rfl) rfl rfl <| .e (.pickF rfl rfl) rfl rfl <| .nil <| .go ?_
        refine .split 32 rfl (fun h32 => ?_) (fun h32 => ?_)
        · skip
          first | replace h32 := of_decide_eq_false ((Bool.not_eq_true' _).mp h32) | replace h32 := of_decide_eq_false (by simpa using h32)
          refine .cond_true rfl <| .seq <| .region <| .e (.assign rfl) rfl rfl <| .nil <| .go ?_
          refine .ret <| .blk_ret <| .ret <| .ret <| .blk_ret <| .ret ?_
          refine .tail ?_
          refine Post.retE rfl rfl ?_
          exact congrArg Value.bool (bTo_bad (k := k) (by omega) (bAt_no (by omega) (.inr (by omega)))).symm
        · skip
          first | replace h32 := of_decide_eq_true ((Bool.not_eq_false' _).mp h32) | replace h32 := of_decide_eq_true (by simpa using h32)
          refine .cond_false rfl <| .skip <| .blk_normal <| .go <| .region <| .e (.add rfl rfl (by first | exact wrap_succ (by omega) | exact IntWalk.i64_in _ (by omega) | exact rfl)) rfl rfl ?_
          refine .e (.move rfl) rfl rfl <| .nil ?_
          refine .tail ?_
          exact .mid (k + 1) ⟨by omega, by omega, by rw [bTo_succ, hb, bAt_yes (by omega) (ent_of h17) (by omega)]; rfl⟩ ⟨rfl, trivial⟩ rfl rfl (.pre 31 rfl (.app rfl .base))
  · skip
    replace h10 := of_decide_eq_false h10
    refine .cond_false rfl <| .exit <| .exit <| .exit <| .blk_exit <| .go ?_
    refine .seq <| .region <| .e (.assign rfl) rfl rfl <| .nil <| .go <| .ret ?_
    refine Post.retE rfl rfl ?_
    exact congrArg Value.bool ((show bOk i s = bTo i s k by unfold bOk; rw [show k = s.length by omega]).trans hb).symm

end Go.Proofs.Yteajcmnbjpbnpaa
