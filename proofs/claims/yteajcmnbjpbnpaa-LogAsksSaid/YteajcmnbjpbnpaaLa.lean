/- Walks of functions over a symbolic memory, printed by a program of the session. -/
import Derived.Test.YteajcmnbjpbnpaaSyJ
import Derived.Test.YteajcmnbjpbnpaaFacts
namespace Go.Proofs.Yteajcmnbjpbnpaa
open Go.Sy
set_option linter.unusedSimpArgs false
set_option linter.unusedVariables false

theorem wrap_pred {k : Nat} (h0 : 0 < k) (h : k < 9223372036854775809) : IntKind.i64.wrap ((k : Int) - 1) = ((k - 1 : Nat) : Int) := by
  have e : (k : Int) - 1 = ((k - 1 : Nat) : Int) := by omega
  rw [e]; exact IntWalk.i64_in _ (by omega)

def lastTo (l : List Int) (k : Nat) : Int := if k = 0 then 0 else l.getD (k - 1) 0
def mBad (l : List Int) (k : Nat) : Bool := decide (l.getD k 0 < 1 ∨ 7 < l.getD k 0 ∨ (0 < k ∧ l.getD k 0 ≤ l.getD (k - 1) 0))
def mTo (l : List Int) (k : Nat) : Bool := (List.range k).all fun j => !mBad l j
def mOk (l : List Int) : Bool := mTo l l.length && decide (0 < (l.length : Int))
theorem mTo_succ (l : List Int) (k : Nat) : mTo l (k + 1) = (mTo l k && !mBad l k) := by unfold mTo; rw [List.range_succ, List.all_append]; simp
theorem mTo_bad {l : List Int} {k n : Nat} (hk : k < n) (h : mBad l k = true) : mTo l n = false := by
  unfold mTo
  rw [Bool.eq_false_iff]; intro h2
  have := List.all_eq_true.1 h2 k (List.mem_range.2 hk)
  rw [h] at this; cases this
theorem mOk_bad {l : List Int} {k : Nat} (hk : k < l.length) (h : mBad l k = true) : mOk l = false := by unfold mOk; rw [mTo_bad hk h]; rfl
theorem intD {l : List Int} {k : Nat} (hk : k < l.length) : l.getD k 0 = l[k] := by simp [hk]
def Minv (l : List Int) (k : Nat) (at_ : Int) : Prop := mTo l k = true ∧ at_ = lastTo l k ∧ (k = 0 → at_ = 0) ∧ (0 < k → 1 ≤ at_)
theorem Minv.zero {l : List Int} : Minv l 0 0 := ⟨rfl, rfl, fun _ => rfl, fun h => absurd h (by omega)⟩
theorem Minv.step {l : List Int} {k : Nat} {at_ : Int} (h : Minv l k at_) (hk : k < l.length) (h1 : ¬l[k] ≤ at_) (h2 : ¬l[k] > 7) : Minv l (k + 1) l[k] := by
  obtain ⟨a, b, c, d⟩ := h
  have e : lastTo l (k + 1) = l[k] := by unfold lastTo; rw [if_neg (by omega), show k + 1 - 1 = k by omega, intD hk]
  refine ⟨?_, e.symm, fun h => absurd h (by omega), fun _ => ?_⟩
  · rw [mTo_succ, a]
    unfold mBad
    rw [intD hk]
    have : ¬(l[k] < 1 ∨ 7 < l[k] ∨ (0 < k ∧ l[k] ≤ l.getD (k - 1) 0)) := by
      rcases Nat.eq_zero_or_pos k with h0 | h0
      · have := c h0; omega
      · have := d h0
        unfold lastTo at b
        rw [if_neg (by omega)] at b
        omega
    rw [decide_eq_false this]; rfl
  · rcases Nat.eq_zero_or_pos k with h0 | h0
    · have := c h0; omega
    · have := d h0; omega
theorem Minv.bad {l : List Int} {k : Nat} {at_ : Int} (h : Minv l k at_) (hk : k < l.length) (h1 : l[k] ≤ at_ ∨ l[k] > 7) : mBad l k = true := by
  obtain ⟨a, b, c, d⟩ := h
  unfold mBad
  rw [intD hk]
  refine decide_eq_true ?_
  rcases Nat.eq_zero_or_pos k with h0 | h0
  · have := c h0; omega
  · have := d h0
    unfold lastTo at b
    rw [if_neg (by omega)] at b
    omega
theorem Minv.end_ {l : List Int} {k : Nat} {at_ : Int} (h : Minv l k at_) (hk : k = l.length) : decide (at_ > 0) = mOk l := by
  subst hk
  obtain ⟨a, b, c, d⟩ := h
  unfold mOk
  rw [a, Bool.true_and]
  refine decide_eq_decide.2 ?_
  rcases Nat.eq_zero_or_pos l.length with h0 | h0
  · have := c h0; omega
  · have := d h0; omega
def entOk (e : Ent) : Bool := (decide (0 < e.index) && decide ((e.data.size : Int) ≤ 4096)) && (if e.kind = 1 then decide (e.data = ⟨#[]⟩) && decide ((e.members.length : Int) = 0) else if e.kind = 2 then decide ((e.members.length : Int) = 0) else if e.kind = 3 then decide (e.data = ⟨#[]⟩) && mOk e.members else false)
def entWhy (e : Ent) : Int := if entOk e = true then 0 else 4

set_option maxHeartbeats 1000000 in
set_option maxRecDepth 20000 in
theorem mem_ok {I : Imm} {O : Own} {v : Value} {l : List Int} (hl : IntsR I v l) :
    Pure Try.prog 46 [v] I O (.bool (mOk l)) := by
  have hl0 := hl
  obtain ⟨la, lcap, rfl, hl1, hl2, -⟩ := hl
  refine Go.Sy.Does.enter Try.func46 rfl Try.ntmps46 rfl ?_
  refine .seq <| .region <| .e (.assign rfl) rfl rfl <| .nil <| .go <| .seq ?_
  refine .region <| .e (.assign rfl) rfl rfl <| .nil <| .go <| .seq <| .seq ?_
  refine .region <| .e (.move rfl) rfl rfl <| .e (.len sl39 rfl rfl) rfl rfl <| .e (.move rfl) rfl rfl <| .nil <| .go ?_
  refine .block ?_
  refine .loopM [2, 3, 5, 8, 9, 10, 11, 12, 13, 14, 15, 16, 17, 18, 19, 20] (fun s => l.length - s.1) (fun s => s.1 ≤ l.length ∧ Minv l s.1 s.2) (fun s => [(8, .int .i64 s.1), (3, .int .i64 s.2)]) (fun _ => _) (fun _ => _) (((0, 0) : Nat × Int)) ⟨by omega, Minv.zero⟩ ⟨rfl, rfl, trivial⟩ rfl rfl ?_
  intro ⟨k, x⟩ hk
  dsimp only at hk ⊢
  obtain ⟨hk, hi⟩ := hk
  refine .seq <| .region <| .e (.lss rfl rfl) rfl rfl <| .nil <| .go <| .seq ?_
  refine .split 9 rfl (fun h9 => ?_) (fun h9 => ?_)
  · skip
    replace h9 := of_decide_eq_true h9
    refine .cond_true rfl <| .skip <| .go <| .seq <| .block <| .seq ?_
    refine .region ?_
    obtain ⟨eb10, eo10, cs10, hd10, hat10, hr10⟩ := SlR.at_ hl0 (k := k) (by omega)
    cases hd10
    obtain ⟨e10, hi10⟩ := hr10
    subst e10
    refine .e (.indexAddrL sl39 rfl rfl rfl (by omega)) rfl rfl <| .e (.loadI ag3 rfl (hat10.cell (j := 0) rfl)) rfl rfl <| .e (.assign rfl) rfl rfl <| .nil <| .go <| .seq ?_
    refine .seq <| .region <| .e (.move rfl) rfl rfl <| .e (.move rfl) rfl rfl <| .e (.leq rfl rfl) rfl rfl <| .e (.move rfl) rfl rfl ?_
    refine .split 15 rfl (fun h15 => ?_) (fun h15 => ?_)
    · skip
      replace h15 := of_decide_eq_true h15
      refine .off rfl rfl <| .off rfl rfl <| .e (.pickT rfl rfl) rfl rfl <| .nil <| .go <| .cond_true rfl ?_
      refine .seq <| .region <| .e (.assign rfl) rfl rfl <| .nil <| .go <| .ret ?_
      refine .ret <| .blk_ret <| .ret <| .ret <| .blk_ret <| .ret ?_
      refine Post.retE rfl rfl ?_
      exact congrArg Value.bool (mOk_bad (k := k) (by omega) (hi.bad (by omega) (by first | exact .inl h15 | exact .inr h18))).symm
    · skip
      replace h15 := of_decide_eq_false h15
      refine .e (.move rfl) rfl rfl <| .e (.gtr rfl rfl) rfl rfl <| .e (.pickF rfl rfl) rfl rfl <| .nil <| .go ?_
      refine .split 18 rfl (fun h18 => ?_) (fun h18 => ?_)
      · skip
        replace h18 := of_decide_eq_true h18
        refine .cond_true rfl <| .seq <| .region <| .e (.assign rfl) rfl rfl <| .nil <| .go ?_
        refine .ret <| .ret <| .blk_ret <| .ret <| .ret <| .blk_ret ?_
        refine .ret ?_
        refine Post.retE rfl rfl ?_
        exact congrArg Value.bool (mOk_bad (k := k) (by omega) (hi.bad (by omega) (by first | exact .inl h15 | exact .inr h18))).symm
      · skip
        replace h18 := of_decide_eq_false h18
        refine .cond_false rfl <| .skip <| .go <| .region <| .e (.move rfl) rfl rfl <| .e (.assign rfl) rfl rfl ?_
        refine .nil <| .blk_normal <| .go <| .region <| .e (.add rfl rfl (by first | exact wrap_succ (by omega) | exact IntWalk.i64_in _ (by omega) | exact rfl)) rfl rfl <| .e (.move rfl) rfl rfl ?_
        refine .nil ?_
        exact .mid ((k + 1, l[k])) ⟨by dsimp only; omega, by dsimp only; omega, hi.step (by omega) h15 h18⟩ ⟨rfl, rfl, trivial⟩ rfl rfl (.pre 18 rfl (.app rfl .base))
  · skip
    replace h9 := of_decide_eq_false h9
    refine .cond_false rfl <| .exit <| .exit <| .exit <| .blk_exit <| .go ?_
    refine .seq <| .region <| .e (.move rfl) rfl rfl <| .e (.gtr rfl rfl) rfl rfl <| .e (.assign rfl) rfl rfl <| .nil ?_
    refine .go <| .ret ?_
    refine Post.retE rfl rfl ?_
    exact congrArg Value.bool (hi.end_ (by omega))

set_option maxHeartbeats 1000000 in
set_option maxRecDepth 20000 in
theorem rmem_ok {I : Imm} {O : Own} {v : Value} {l : List Int} (hl : IntsR I v l) :
    Pure Try.prog 45 [v] I O (.bool (mOk l)) := by
  have hl0 := hl
  obtain ⟨la, lcap, rfl, hl1, hl2, -⟩ := hl
  refine Go.Sy.Does.enter Try.func45 rfl Try.ntmps45 rfl ?_
  refine .seq <| .region <| .e (.assign rfl) rfl rfl <| .nil <| .go <| .seq ?_
  refine .seq <| .region <| .e (.move rfl) rfl rfl <| .e (.len sl39 rfl rfl) rfl rfl <| .e (.move rfl) rfl rfl <| .nil ?_
  refine .go <| .block ?_
  refine .loopM [2, 3, 4, 7, 8, 9, 10, 11, 12, 13, 14, 15, 16, 17, 18, 19, 20, 21, 22, 23, 24, 25, 26, 27, 28, 29, 30, 31] (fun k => l.length - k) (fun k => k ≤ l.length ∧ mTo l k = true) (fun k => [(7, .int .i64 k)]) (fun _ => _) (fun _ => _) (0) ⟨by omega, rfl⟩ ⟨rfl, trivial⟩ rfl rfl ?_
  intro k hk
  obtain ⟨hk, hm⟩ := hk
  refine .seq <| .region <| .e (.lss rfl rfl) rfl rfl <| .nil <| .go <| .seq ?_
  refine .split 8 rfl (fun h8 => ?_) (fun h8 => ?_)
  · skip
    replace h8 := of_decide_eq_true h8
    refine .cond_true rfl <| .skip <| .go <| .seq <| .block <| .seq ?_
    refine .region <| .e (.move rfl) rfl rfl ?_
    obtain ⟨eb10, eo10, cs10, hd10, hat10, hr10⟩ := SlR.at_ hl0 (k := k) (by omega)
    cases hd10
    obtain ⟨e10, hi10⟩ := hr10
    subst e10
    refine .e (.indexAddrL sl39 rfl rfl rfl (by omega)) rfl rfl <| .e (.loadI ag3 rfl (hat10.cell (j := 0) rfl)) rfl rfl <| .e (.assign rfl) rfl rfl <| .e (.assign rfl) rfl rfl <| .nil <| .go ?_
    refine .seq <| .region <| .e (.move rfl) rfl rfl <| .e (.lss rfl rfl) rfl rfl <| .e (.move rfl) rfl rfl ?_
    refine .split 14 rfl (fun h14 => ?_) (fun h14 => ?_)
    · skip
      replace h14 := of_decide_eq_true h14
      refine .off rfl rfl <| .off rfl rfl <| .e (.pickT rfl rfl) rfl rfl <| .e (.move rfl) rfl rfl <| .off rfl rfl <| .off rfl rfl ?_
      refine .off rfl rfl <| .off rfl rfl <| .off rfl rfl <| .off rfl rfl <| .off rfl rfl <| .off rfl rfl ?_
      refine .off rfl rfl <| .off rfl rfl <| .off rfl rfl <| .e (.pickT rfl rfl) rfl rfl <| .nil <| .go ?_
      refine .cond_true rfl <| .seq <| .region <| .e (.assign rfl) rfl rfl <| .nil <| .go ?_
      refine .ret <| .blk_ret <| .ret <| .ret <| .blk_ret <| .ret ?_
      refine Post.retE rfl rfl ?_
      exact congrArg Value.bool (mOk_bad (k := k) (by omega) (by unfold mBad; rw [intD (show k < l.length by omega)]; refine decide_eq_true ?_; first | omega | (rw [intD (show k - 1 < l.length by omega)]; omega))).symm
    · skip
      replace h14 := of_decide_eq_false h14
      refine .e (.move rfl) rfl rfl <| .e (.gtr rfl rfl) rfl rfl <| .e (.pickF rfl rfl) rfl rfl <| .e (.move rfl) rfl rfl ?_
      refine .split 18 rfl (fun h18 => ?_) (fun h18 => ?_)
      · skip
        replace h18 := of_decide_eq_true h18
        refine .off rfl rfl <| .off rfl rfl <| .off rfl rfl <| .off rfl rfl <| .off rfl rfl <| .off rfl rfl ?_
        refine .off rfl rfl <| .off rfl rfl <| .off rfl rfl <| .off rfl rfl <| .off rfl rfl <| .e (.pickT rfl rfl) rfl rfl ?_
        refine .nil <| .go <| .cond_true rfl <| .seq <| .region <| .e (.assign rfl) rfl rfl ?_
        refine .nil <| .go <| .ret <| .blk_ret <| .ret <| .ret ?_
        refine .blk_ret <| .ret ?_
        refine Post.retE rfl rfl ?_
        exact congrArg Value.bool (mOk_bad (k := k) (by omega) (by unfold mBad; rw [intD (show k < l.length by omega)]; refine decide_eq_true ?_; first | omega | (rw [intD (show k - 1 < l.length by omega)]; omega))).symm
      · skip
        replace h18 := of_decide_eq_false h18
        refine .e (.move rfl) rfl rfl <| .e (.gtr rfl rfl) rfl rfl <| .e (.move rfl) rfl rfl ?_
        refine .split 21 rfl (fun h21 => ?_) (fun h21 => ?_)
        · skip
          replace h21 := of_decide_eq_true h21
          refine .e (.move rfl) rfl rfl <| .e (.move rfl) rfl rfl <| .e (.sub rfl rfl (wrap_pred (by omega) (by omega))) rfl rfl ?_
          obtain ⟨eb25, eo25, cs25, hd25, hat25, hr25⟩ := SlR.at_ hl0 (k := k - 1) (by omega)
          cases hd25
          obtain ⟨e25, hi25⟩ := hr25
          subst e25
          refine .e (.indexAddrL sl39 rfl rfl rfl (by omega)) rfl rfl <| .e (.loadI ag3 rfl (hat25.cell (j := 0) rfl)) rfl rfl <| .e (.move rfl) rfl rfl <| .e (.geq rfl rfl) rfl rfl <| .e (.pickT rfl rfl) rfl rfl <| .e (.pickF rfl rfl) rfl rfl ?_
          refine .nil <| .go ?_
          refine .split 30 rfl (fun h30 => ?_) (fun h30 => ?_)
          · skip
            replace h30 := of_decide_eq_true h30
            refine .cond_true rfl <| .seq <| .region <| .e (.assign rfl) rfl rfl <| .nil <| .go ?_
            refine .ret <| .blk_ret <| .ret <| .ret <| .blk_ret <| .ret ?_
            refine Post.retE rfl rfl ?_
            exact congrArg Value.bool (mOk_bad (k := k) (by omega) (by unfold mBad; rw [intD (show k < l.length by omega)]; refine decide_eq_true ?_; first | omega | (rw [intD (show k - 1 < l.length by omega)]; omega))).symm
          · skip
            replace h30 := of_decide_eq_false h30
            refine .cond_false rfl <| .skip <| .blk_normal <| .go <| .region <| .e (.add rfl rfl (by first | exact wrap_succ (by omega) | exact IntWalk.i64_in _ (by omega) | exact rfl)) rfl rfl ?_
            refine .e (.move rfl) rfl rfl <| .nil ?_
            exact .mid (k + 1) ⟨by omega, by omega, by rw [mTo_succ, hm]; unfold mBad; rw [intD (show k < l.length by omega)]; rw [decide_eq_false (by first | omega | (rw [intD (show k - 1 < l.length by omega)]; omega))]; rfl⟩ ⟨rfl, trivial⟩ rfl rfl (.pre 32 rfl (.app rfl .base))
        · skip
          replace h21 := of_decide_eq_false h21
          refine .off rfl rfl <| .off rfl rfl <| .off rfl rfl <| .off rfl rfl <| .off rfl rfl <| .off rfl rfl ?_
          refine .off rfl rfl <| .e (.pickF rfl rfl) rfl rfl <| .e (.pickF rfl rfl) rfl rfl <| .nil <| .go <| .cond_false rfl ?_
          refine .skip <| .blk_normal <| .go <| .region <| .e (.add rfl rfl (by first | exact wrap_succ (by omega) | exact IntWalk.i64_in _ (by omega) | exact rfl)) rfl rfl <| .e (.move rfl) rfl rfl ?_
          refine .nil ?_
          exact .mid (k + 1) ⟨by omega, by omega, by rw [mTo_succ, hm]; unfold mBad; rw [intD (show k < l.length by omega)]; rw [decide_eq_false (by first | omega | (rw [intD (show k - 1 < l.length by omega)]; omega))]; rfl⟩ ⟨rfl, trivial⟩ rfl rfl (.pre 31 rfl (.app rfl .base))
  · skip
    replace h8 := of_decide_eq_false h8
    refine .cond_false rfl <| .exit <| .exit <| .exit <| .blk_exit <| .go ?_
    refine .seq <| .region <| .e (.move rfl) rfl rfl <| .e (.len sl39 rfl rfl) rfl rfl <| .e (.gtr rfl rfl) rfl rfl <| .e (.assign rfl) rfl rfl ?_
    refine .nil <| .go <| .ret ?_
    refine Post.retE rfl rfl ?_
    refine congrArg Value.bool ?_
    unfold mOk
    have e : k = l.length := by omega
    subst e
    rw [hm]
    rfl

set_option maxHeartbeats 1000000 in
set_option maxRecDepth 20000 in
theorem wCheck_ok {I : Imm} {O : Own} {ec : List Value} {e : Ent} (he : EntR I ec e) :
    Pure Try.prog 41 [.agg ⟨ec⟩] I O (.int .i64 (entWhy e)) := by
  have he0 := he
  obtain ⟨mv, rfl, hmv⟩ := he.ex
  have hmv0 := hmv
  obtain ⟨ma, mcap, rfl, hm1, hm2, -⟩ := hmv
  refine Go.Sy.Does.enter Try.func41 rfl Try.ntmps41 rfl ?_
  refine .seq <| .region <| .on rfl <| .box rfl rfl rfl fun c1 _ _ => .e (.assign rfl) rfl rfl <| .nil <| .go ?_
  refine .seq <| .region <| .e (.fieldAddr fo41_0 rfl) rfl rfl <| .e (.load ag22 rfl .here rfl) rfl rfl <| .e (.gtr rfl rfl) rfl rfl <| .e (.move rfl) rfl rfl ?_
  refine .split 7 rfl (fun h7 => ?_) (fun h7 => ?_)
  · skip
    replace h7 := of_decide_eq_true h7
    refine .e (.fieldAddr fo41_3 rfl) rfl rfl <| .e (.load ag9 rfl .here rfl) rfl rfl <| .e (.lenS Try.underlying9 rfl rfl) rfl rfl <| .e (.leq rfl rfl) rfl rfl <| .e (.pickT rfl rfl) rfl rfl <| .e (.assign rfl) rfl rfl ?_
    refine .nil <| .go <| .seq <| .seq <| .region <| .e (.fieldAddr fo41_2 rfl) rfl rfl ?_
    refine .e (.load ag38 rfl .here rfl) rfl rfl <| .nil <| .go <| .block <| .seq <| .region ?_
    refine .e (.eql rfl rfl) rfl rfl <| .e (.assign rfl) rfl rfl <| .nil <| .go ?_
    refine .split 15 rfl (fun h15 => ?_) (fun h15 => ?_)
    · skip
      replace h15 := of_decide_eq_true h15
      refine .cond_true rfl <| .region <| .e (.move rfl) rfl rfl <| .e (.move rfl) rfl rfl ?_
      refine .split 18 rfl (fun h18 => ?_) (fun h18 => ?_)
      · skip
        replace h18 := of_decide_eq_true h18
        refine .e (.fieldAddr fo41_3 rfl) rfl rfl <| .e (.load ag9 rfl .here rfl) rfl rfl <| .e (.streq rfl rfl) rfl rfl <| .e (.pickT rfl rfl) rfl rfl <| .e (.move rfl) rfl rfl ?_
        refine .split 23 rfl (fun h23 => ?_) (fun h23 => ?_)
        · skip
          replace h23 := of_decide_eq_true h23
          refine .e (.fieldAddr fo41_4 rfl) rfl rfl <| .e (.load ag39 rfl .here rfl) rfl rfl <| .e (.len sl39 rfl rfl) rfl rfl <| .e (.eql rfl rfl) rfl rfl <| .e (.pickT rfl rfl) rfl rfl <| .e (.assign rfl) rfl rfl ?_
          refine .nil <| .blk_normal <| .go <| .seq <| .seq <| .region ?_
          refine .e (.move rfl) rfl rfl <| .e (.not rfl) rfl rfl <| .nil <| .go ?_
          refine .split 52 rfl (fun h52 => ?_) (fun h52 => ?_)
          · skip
            first | replace h52 := of_decide_eq_false ((Bool.not_eq_true' _).mp h52) | replace h52 := of_decide_eq_false (by simpa using h52)
            refine .cond_true rfl <| .seq <| .region <| .e (.assign rfl) rfl rfl <| .nil <| .go ?_
            refine .ret <| .ret ?_
            refine .tail ?_
            refine Post.retE rfl rfl ?_
            refine congrArg (Value.int .i64) ?_
            unfold entWhy entOk
            first | (simp_all; done) | (simp_all; intros; omega) | (have k1 : ¬e.kind = 1 := (by omega); have k2 : ¬e.kind = 2 := (by omega); have k3 : ¬e.kind = 3 := (by omega); simp [k1, k2, k3]; done) | (simp_all; omega)
          · skip
            first | replace h52 := of_decide_eq_true ((Bool.not_eq_false' _).mp h52) | replace h52 := of_decide_eq_true (by simpa using h52)
            refine .cond_false rfl <| .skip <| .go <| .seq <| .region <| .e (.assign rfl) rfl rfl ?_
            refine .nil <| .go <| .ret ?_
            refine .tail ?_
            refine Post.retE rfl rfl ?_
            refine congrArg (Value.int .i64) ?_
            unfold entWhy entOk
            first | (simp_all; done) | (simp_all; intros; omega) | (have k1 : ¬e.kind = 1 := (by omega); have k2 : ¬e.kind = 2 := (by omega); have k3 : ¬e.kind = 3 := (by omega); simp [k1, k2, k3]; done) | (simp_all; omega)
        · skip
          replace h23 := of_decide_eq_false h23
          refine .off rfl rfl <| .off rfl rfl <| .off rfl rfl <| .off rfl rfl <| .e (.pickF rfl rfl) rfl rfl <| .e (.assign rfl) rfl rfl ?_
          refine .nil <| .blk_normal <| .go <| .seq <| .seq <| .region ?_
          refine .e (.move rfl) rfl rfl <| .e (.not rfl) rfl rfl <| .nil <| .go <| .cond_true rfl <| .seq ?_
          refine .region <| .e (.assign rfl) rfl rfl <| .nil <| .go <| .ret <| .ret ?_
          refine .tail ?_
          refine Post.retE rfl rfl ?_
          refine congrArg (Value.int .i64) ?_
          unfold entWhy entOk
          first | (simp_all; done) | (simp_all; intros; omega) | (have k1 : ¬e.kind = 1 := (by omega); have k2 : ¬e.kind = 2 := (by omega); have k3 : ¬e.kind = 3 := (by omega); simp [k1, k2, k3]; done) | (simp_all; omega)
      · skip
        replace h18 := of_decide_eq_false h18
        refine .off rfl rfl <| .off rfl rfl <| .off rfl rfl <| .e (.pickF rfl rfl) rfl rfl <| .e (.move rfl) rfl rfl <| .off rfl rfl ?_
        refine .off rfl rfl <| .off rfl rfl <| .off rfl rfl <| .e (.pickF rfl rfl) rfl rfl <| .e (.assign rfl) rfl rfl <| .nil ?_
        refine .blk_normal <| .go <| .seq <| .seq <| .region <| .e (.move rfl) rfl rfl ?_
        refine .e (.not rfl) rfl rfl <| .nil <| .go <| .cond_true rfl <| .seq <| .region ?_
        refine .e (.assign rfl) rfl rfl <| .nil <| .go <| .ret <| .ret ?_
        refine .tail ?_
        refine Post.retE rfl rfl ?_
        refine congrArg (Value.int .i64) ?_
        unfold entWhy entOk
        first | (simp_all; done) | (simp_all; intros; omega) | (have k1 : ¬e.kind = 1 := (by omega); have k2 : ¬e.kind = 2 := (by omega); have k3 : ¬e.kind = 3 := (by omega); simp [k1, k2, k3]; done) | (simp_all; omega)
    · skip
      replace h15 := of_decide_eq_false h15
      refine .cond_false rfl <| .seq <| .region <| .e (.eql rfl rfl) rfl rfl <| .e (.assign rfl) rfl rfl <| .nil ?_
      refine .go ?_
      refine .split 29 rfl (fun h29 => ?_) (fun h29 => ?_)
      · skip
        replace h29 := of_decide_eq_true h29
        refine .cond_true rfl <| .region <| .e (.move rfl) rfl rfl <| .e (.move rfl) rfl rfl ?_
        refine .split 32 rfl (fun h32 => ?_) (fun h32 => ?_)
        · skip
          replace h32 := of_decide_eq_true h32
          refine .e (.fieldAddr fo41_4 rfl) rfl rfl <| .e (.load ag39 rfl .here rfl) rfl rfl <| .e (.len sl39 rfl rfl) rfl rfl <| .e (.eql rfl rfl) rfl rfl <| .e (.pickT rfl rfl) rfl rfl <| .e (.assign rfl) rfl rfl ?_
          refine .nil <| .blk_normal <| .go <| .seq <| .seq <| .region ?_
          refine .e (.move rfl) rfl rfl <| .e (.not rfl) rfl rfl <| .nil <| .go ?_
          refine .split 52 rfl (fun h52 => ?_) (fun h52 => ?_)
          · skip
            first | replace h52 := of_decide_eq_false ((Bool.not_eq_true' _).mp h52) | replace h52 := of_decide_eq_false (by simpa using h52)
            refine .cond_true rfl <| .seq <| .region <| .e (.assign rfl) rfl rfl <| .nil <| .go ?_
            refine .ret <| .ret ?_
            refine .tail ?_
            refine Post.retE rfl rfl ?_
            refine congrArg (Value.int .i64) ?_
            unfold entWhy entOk
            first | (simp_all; done) | (simp_all; intros; omega) | (have k1 : ¬e.kind = 1 := (by omega); have k2 : ¬e.kind = 2 := (by omega); have k3 : ¬e.kind = 3 := (by omega); simp [k1, k2, k3]; done) | (simp_all; omega)
          · skip
            first | replace h52 := of_decide_eq_true ((Bool.not_eq_false' _).mp h52) | replace h52 := of_decide_eq_true (by simpa using h52)
            refine .cond_false rfl <| .skip <| .go <| .seq <| .region <| .e (.assign rfl) rfl rfl ?_
            refine .nil <| .go <| .ret ?_
            refine .tail ?_
            refine Post.retE rfl rfl ?_
            refine congrArg (Value.int .i64) ?_
            unfold entWhy entOk
            first | (simp_all; done) | (simp_all; intros; omega) | (have k1 : ¬e.kind = 1 := (by omega); have k2 : ¬e.kind = 2 := (by omega); have k3 : ¬e.kind = 3 := (by omega); simp [k1, k2, k3]; done) | (simp_all; omega)
        · skip
          replace h32 := of_decide_eq_false h32
          refine .off rfl rfl <| .off rfl rfl <| .off rfl rfl <| .off rfl rfl <| .e (.pickF rfl rfl) rfl rfl <| .e (.assign rfl) rfl rfl ?_
          refine .nil <| .blk_normal <| .go <| .seq <| .seq <| .region ?_
          refine .e (.move rfl) rfl rfl <| .e (.not rfl) rfl rfl <| .nil <| .go <| .cond_true rfl <| .seq ?_
          refine .region <| .e (.assign rfl) rfl rfl <| .nil <| .go <| .ret <| .ret ?_
          refine .tail ?_
          refine Post.retE rfl rfl ?_
          refine congrArg (Value.int .i64) ?_
          unfold entWhy entOk
          first | (simp_all; done) | (simp_all; intros; omega) | (have k1 : ¬e.kind = 1 := (by omega); have k2 : ¬e.kind = 2 := (by omega); have k3 : ¬e.kind = 3 := (by omega); simp [k1, k2, k3]; done) | (simp_all; omega)
      · skip
        replace h29 := of_decide_eq_false h29
        refine .cond_false rfl <| .seq <| .region <| .e (.eql rfl rfl) rfl rfl <| .e (.assign rfl) rfl rfl <| .nil ?_
        refine .go ?_
        refine .split 38 rfl (fun h38 => ?_) (fun h38 => ?_)
        · skip
          replace h38 := of_decide_eq_true h38
          refine .cond_true rfl <| .region <| .e (.move rfl) rfl rfl <| .e (.move rfl) rfl rfl ?_
          refine .split 41 rfl (fun h41 => ?_) (fun h41 => ?_)
          · skip
            replace h41 := of_decide_eq_true h41
            refine .e (.fieldAddr fo41_3 rfl) rfl rfl <| .e (.load ag9 rfl .here rfl) rfl rfl <| .e (.streq rfl rfl) rfl rfl <| .e (.pickT rfl rfl) rfl rfl <| .e (.move rfl) rfl rfl ?_
            refine .split 46 rfl (fun h46 => ?_) (fun h46 => ?_)
            · skip
              replace h46 := of_decide_eq_true h46
              refine .e (.fieldAddr fo41_4 rfl) rfl rfl <| .e (.load ag39 rfl .here rfl) rfl rfl <| .on rfl <| .callP cal46 rfl rfl rfl (mem_ok hmv0) <| .e (.pickT rfl rfl) rfl rfl <| .e (.assign rfl) rfl rfl <| .nil ?_
              refine .blk_normal <| .go <| .seq <| .seq <| .region <| .e (.move rfl) rfl rfl ?_
              refine .e (.not rfl) rfl rfl <| .nil <| .go ?_
              refine .split 52 rfl (fun h52 => ?_) (fun h52 => ?_)
              · skip
                refine .cond_true rfl <| .seq <| .region <| .e (.assign rfl) rfl rfl <| .nil <| .go ?_
                refine .ret <| .ret ?_
                refine .tail ?_
                refine Post.retE rfl rfl ?_
                refine congrArg (Value.int .i64) ?_
                unfold entWhy entOk
                first | (simp_all; done) | (simp_all; intros; omega) | (have k1 : ¬e.kind = 1 := (by omega); have k2 : ¬e.kind = 2 := (by omega); have k3 : ¬e.kind = 3 := (by omega); simp [k1, k2, k3]; done) | (simp_all; omega)
              · skip
                refine .cond_false rfl <| .skip <| .go <| .seq <| .region <| .e (.assign rfl) rfl rfl ?_
                refine .nil <| .go <| .ret ?_
                refine .tail ?_
                refine Post.retE rfl rfl ?_
                refine congrArg (Value.int .i64) ?_
                unfold entWhy entOk
                first | (simp_all; done) | (simp_all; intros; omega) | (have k1 : ¬e.kind = 1 := (by omega); have k2 : ¬e.kind = 2 := (by omega); have k3 : ¬e.kind = 3 := (by omega); simp [k1, k2, k3]; done) | (simp_all; omega)
            · skip
              replace h46 := of_decide_eq_false h46
              refine .off rfl rfl <| .off rfl rfl <| .off rfl rfl <| .e (.pickF rfl rfl) rfl rfl <| .e (.assign rfl) rfl rfl <| .nil ?_
              refine .blk_normal <| .go <| .seq <| .seq <| .region <| .e (.move rfl) rfl rfl ?_
              refine .e (.not rfl) rfl rfl <| .nil <| .go <| .cond_true rfl <| .seq <| .region ?_
              refine .e (.assign rfl) rfl rfl <| .nil <| .go <| .ret <| .ret ?_
              refine .tail ?_
              refine Post.retE rfl rfl ?_
              refine congrArg (Value.int .i64) ?_
              unfold entWhy entOk
              first | (simp_all; done) | (simp_all; intros; omega) | (have k1 : ¬e.kind = 1 := (by omega); have k2 : ¬e.kind = 2 := (by omega); have k3 : ¬e.kind = 3 := (by omega); simp [k1, k2, k3]; done) | (simp_all; omega)
          · skip
            replace h41 := of_decide_eq_false h41
            refine .off rfl rfl <| .off rfl rfl <| .off rfl rfl <| .e (.pickF rfl rfl) rfl rfl <| .e (.move rfl) rfl rfl <| .off rfl rfl ?_
            refine .off rfl rfl <| .off rfl rfl <| .e (.pickF rfl rfl) rfl rfl <| .e (.assign rfl) rfl rfl <| .nil <| .blk_normal ?_
            refine .go <| .seq <| .seq <| .region <| .e (.move rfl) rfl rfl <| .e (.not rfl) rfl rfl ?_
            refine .nil <| .go <| .cond_true rfl <| .seq <| .region <| .e (.assign rfl) rfl rfl ?_
            refine .nil <| .go <| .ret <| .ret ?_
            refine .tail ?_
            refine Post.retE rfl rfl ?_
            refine congrArg (Value.int .i64) ?_
            unfold entWhy entOk
            first | (simp_all; done) | (simp_all; intros; omega) | (have k1 : ¬e.kind = 1 := (by omega); have k2 : ¬e.kind = 2 := (by omega); have k3 : ¬e.kind = 3 := (by omega); simp [k1, k2, k3]; done) | (simp_all; omega)
        · skip
          replace h38 := of_decide_eq_false h38
          refine .cond_false rfl <| .region <| .e (.assign rfl) rfl rfl <| .nil <| .blk_normal <| .go ?_
          refine .seq <| .seq <| .region <| .e (.move rfl) rfl rfl <| .e (.not rfl) rfl rfl <| .nil ?_
          refine .go <| .cond_true rfl <| .seq <| .region <| .e (.assign rfl) rfl rfl <| .nil ?_
          refine .go <| .ret <| .ret ?_
          refine .tail ?_
          refine Post.retE rfl rfl ?_
          refine congrArg (Value.int .i64) ?_
          unfold entWhy entOk
          first | (simp_all; done) | (simp_all; intros; omega) | (have k1 : ¬e.kind = 1 := (by omega); have k2 : ¬e.kind = 2 := (by omega); have k3 : ¬e.kind = 3 := (by omega); simp [k1, k2, k3]; done) | (simp_all; omega)
  · skip
    replace h7 := of_decide_eq_false h7
    refine .off rfl rfl <| .off rfl rfl <| .off rfl rfl <| .off rfl rfl <| .e (.pickF rfl rfl) rfl rfl <| .e (.assign rfl) rfl rfl ?_
    refine .nil <| .go <| .seq <| .seq <| .region <| .e (.fieldAddr fo41_2 rfl) rfl rfl ?_
    refine .e (.load ag38 rfl .here rfl) rfl rfl <| .nil <| .go <| .block <| .seq <| .region ?_
    refine .e (.eql rfl rfl) rfl rfl <| .e (.assign rfl) rfl rfl <| .nil <| .go ?_
    refine .split 15 rfl (fun h15 => ?_) (fun h15 => ?_)
    · skip
      replace h15 := of_decide_eq_true h15
      refine .cond_true rfl <| .region <| .e (.move rfl) rfl rfl <| .e (.move rfl) rfl rfl <| .off rfl rfl <| .off rfl rfl ?_
      refine .off rfl rfl <| .e (.pickF rfl rfl) rfl rfl <| .e (.move rfl) rfl rfl <| .off rfl rfl <| .off rfl rfl <| .off rfl rfl ?_
      refine .off rfl rfl <| .e (.pickF rfl rfl) rfl rfl <| .e (.assign rfl) rfl rfl <| .nil <| .blk_normal <| .go ?_
      refine .seq <| .seq <| .region <| .e (.move rfl) rfl rfl <| .e (.not rfl) rfl rfl <| .nil ?_
      refine .go <| .cond_true rfl <| .seq <| .region <| .e (.assign rfl) rfl rfl <| .nil ?_
      refine .go <| .ret <| .ret ?_
      refine .tail ?_
      refine Post.retE rfl rfl ?_
      refine congrArg (Value.int .i64) ?_
      unfold entWhy entOk
      first | (simp_all; done) | (simp_all; intros; omega) | (have k1 : ¬e.kind = 1 := (by omega); have k2 : ¬e.kind = 2 := (by omega); have k3 : ¬e.kind = 3 := (by omega); simp [k1, k2, k3]; done) | (simp_all; omega)
    · skip
      replace h15 := of_decide_eq_false h15
      refine .cond_false rfl <| .seq <| .region <| .e (.eql rfl rfl) rfl rfl <| .e (.assign rfl) rfl rfl <| .nil ?_
      refine .go ?_
      refine .split 29 rfl (fun h29 => ?_) (fun h29 => ?_)
      · skip
        replace h29 := of_decide_eq_true h29
        refine .cond_true rfl <| .region <| .e (.move rfl) rfl rfl <| .e (.move rfl) rfl rfl <| .off rfl rfl <| .off rfl rfl ?_
        refine .off rfl rfl <| .off rfl rfl <| .e (.pickF rfl rfl) rfl rfl <| .e (.assign rfl) rfl rfl <| .nil <| .blk_normal ?_
        refine .go <| .seq <| .seq <| .region <| .e (.move rfl) rfl rfl <| .e (.not rfl) rfl rfl ?_
        refine .nil <| .go <| .cond_true rfl <| .seq <| .region <| .e (.assign rfl) rfl rfl ?_
        refine .nil <| .go <| .ret <| .ret ?_
        refine .tail ?_
        refine Post.retE rfl rfl ?_
        refine congrArg (Value.int .i64) ?_
        unfold entWhy entOk
        first | (simp_all; done) | (simp_all; intros; omega) | (have k1 : ¬e.kind = 1 := (by omega); have k2 : ¬e.kind = 2 := (by omega); have k3 : ¬e.kind = 3 := (by omega); simp [k1, k2, k3]; done) | (simp_all; omega)
      · skip
        replace h29 := of_decide_eq_false h29
        refine .cond_false rfl <| .seq <| .region <| .e (.eql rfl rfl) rfl rfl <| .e (.assign rfl) rfl rfl <| .nil ?_
        refine .go ?_
        refine .split 38 rfl (fun h38 => ?_) (fun h38 => ?_)
        · skip
          replace h38 := of_decide_eq_true h38
          refine .cond_true rfl <| .region <| .e (.move rfl) rfl rfl <| .e (.move rfl) rfl rfl <| .off rfl rfl <| .off rfl rfl ?_
          refine .off rfl rfl <| .e (.pickF rfl rfl) rfl rfl <| .e (.move rfl) rfl rfl <| .off rfl rfl <| .off rfl rfl <| .off rfl rfl ?_
          refine .e (.pickF rfl rfl) rfl rfl <| .e (.assign rfl) rfl rfl <| .nil <| .blk_normal <| .go <| .seq ?_
          refine .seq <| .region <| .e (.move rfl) rfl rfl <| .e (.not rfl) rfl rfl <| .nil <| .go ?_
          refine .cond_true rfl <| .seq <| .region <| .e (.assign rfl) rfl rfl <| .nil <| .go ?_
          refine .ret <| .ret ?_
          refine .tail ?_
          refine Post.retE rfl rfl ?_
          refine congrArg (Value.int .i64) ?_
          unfold entWhy entOk
          first | (simp_all; done) | (simp_all; intros; omega) | (have k1 : ¬e.kind = 1 := (by omega); have k2 : ¬e.kind = 2 := (by omega); have k3 : ¬e.kind = 3 := (by omega); simp [k1, k2, k3]; done) | (simp_all; omega)
        · skip
          replace h38 := of_decide_eq_false h38
          refine .cond_false rfl <| .region <| .e (.assign rfl) rfl rfl <| .nil <| .blk_normal <| .go ?_
          refine .seq <| .seq <| .region <| .e (.move rfl) rfl rfl <| .e (.not rfl) rfl rfl <| .nil ?_
          refine .go <| .cond_true rfl <| .seq <| .region <| .e (.assign rfl) rfl rfl <| .nil ?_
          refine .go <| .ret <| .ret ?_
          refine .tail ?_
          refine Post.retE rfl rfl ?_
          refine congrArg (Value.int .i64) ?_
          unfold entWhy entOk
          first | (simp_all; done) | (simp_all; intros; omega) | (have k1 : ¬e.kind = 1 := (by omega); have k2 : ¬e.kind = 2 := (by omega); have k3 : ¬e.kind = 3 := (by omega); simp [k1, k2, k3]; done) | (simp_all; omega)

set_option maxHeartbeats 1000000 in
set_option maxRecDepth 20000 in
theorem r3Check_ok {I : Imm} {O : Own} {ec : List Value} {e : Ent} (he : EntR I ec e) :
    Pure Try.prog 36 [.agg ⟨ec⟩] I O (.int .i64 (entWhy e)) := by
  have he0 := he
  obtain ⟨mv, rfl, hmv⟩ := he.ex
  have hmv0 := hmv
  obtain ⟨ma, mcap, rfl, hm1, hm2, -⟩ := hmv
  refine Go.Sy.Does.enter Try.func36 rfl Try.ntmps36 rfl ?_
  refine .seq <| .region <| .on rfl <| .box rfl rfl rfl fun c1 _ _ => .e (.assign rfl) rfl rfl <| .nil <| .go ?_
  refine .seq <| .region <| .e (.fieldAddr fo41_0 rfl) rfl rfl <| .e (.load ag22 rfl .here rfl) rfl rfl <| .e (.gtr rfl rfl) rfl rfl <| .e (.move rfl) rfl rfl ?_
  refine .split 7 rfl (fun h7 => ?_) (fun h7 => ?_)
  · skip
    replace h7 := of_decide_eq_true h7
    refine .e (.fieldAddr fo41_2 rfl) rfl rfl <| .e (.load ag38 rfl .here rfl) rfl rfl <| .e (.gtr rfl rfl) rfl rfl <| .e (.pickT rfl rfl) rfl rfl <| .e (.move rfl) rfl rfl ?_
    refine .split 12 rfl (fun h12 => ?_) (fun h12 => ?_)
    · skip
      replace h12 := of_decide_eq_true h12
      refine .e (.fieldAddr fo41_2 rfl) rfl rfl <| .e (.load ag38 rfl .here rfl) rfl rfl <| .e (.lss rfl rfl) rfl rfl <| .e (.pickT rfl rfl) rfl rfl <| .e (.move rfl) rfl rfl ?_
      refine .split 17 rfl (fun h17 => ?_) (fun h17 => ?_)
      · skip
        replace h17 := of_decide_eq_true h17
        refine .e (.fieldAddr fo41_2 rfl) rfl rfl <| .e (.load ag38 rfl .here rfl) rfl rfl <| .e (.eql rfl rfl) rfl rfl <| .e (.move rfl) rfl rfl ?_
        refine .split 21 rfl (fun h21 => ?_) (fun h21 => ?_)
        · skip
          replace h21 := of_decide_eq_true h21
          refine .off rfl rfl <| .off rfl rfl <| .off rfl rfl <| .e (.pickT rfl rfl) rfl rfl <| .e (.pickT rfl rfl) rfl rfl <| .e (.move rfl) rfl rfl ?_
          refine .e (.fieldAddr fo41_3 rfl) rfl rfl <| .e (.load ag9 rfl .here rfl) rfl rfl <| .e (.lenS Try.underlying9 rfl rfl) rfl rfl <| .e (.leq rfl rfl) rfl rfl <| .e (.pickT rfl rfl) rfl rfl <| .e (.assign rfl) rfl rfl ?_
          refine .nil <| .go <| .seq <| .seq <| .region <| .e (.fieldAddr fo41_2 rfl) rfl rfl ?_
          refine .e (.load ag38 rfl .here rfl) rfl rfl <| .e (.eql rfl rfl) rfl rfl <| .nil <| .go ?_
          refine .split 35 rfl (fun h35 => ?_) (fun h35 => ?_)
          · skip
            replace h35 := of_decide_eq_true h35
            refine .cond_true rfl <| .region <| .e (.move rfl) rfl rfl <| .e (.move rfl) rfl rfl ?_
            refine .split 37 rfl (fun h37 => ?_) (fun h37 => ?_)
            · skip
              replace h37 := of_decide_eq_true h37
              refine .e (.fieldAddr fo41_4 rfl) rfl rfl <| .e (.load ag39 rfl .here rfl) rfl rfl <| .on rfl <| .callP cal45 rfl rfl rfl (rmem_ok hmv0) <| .e (.pickT rfl rfl) rfl rfl <| .e (.assign rfl) rfl rfl <| .nil ?_
              refine .go <| .seq <| .seq <| .region <| .e (.move rfl) rfl rfl <| .e (.not rfl) rfl rfl ?_
              refine .nil <| .go ?_
              refine .split 50 rfl (fun h50 => ?_) (fun h50 => ?_)
              · skip
                refine .cond_true rfl <| .seq <| .region <| .e (.assign rfl) rfl rfl <| .nil <| .go ?_
                refine .ret <| .ret ?_
                refine .tail ?_
                refine Post.retE rfl rfl ?_
                refine congrArg (Value.int .i64) ?_
                unfold entWhy entOk
                first | (simp_all; done) | (simp_all; intros; omega) | (have k1 : ¬e.kind = 1 := (by omega); have k2 : ¬e.kind = 2 := (by omega); have k3 : ¬e.kind = 3 := (by omega); simp [k1, k2, k3]; done) | (simp_all; omega)
              · skip
                refine .cond_false rfl <| .skip <| .go <| .seq <| .region <| .e (.assign rfl) rfl rfl ?_
                refine .nil <| .go <| .ret ?_
                refine .tail ?_
                refine Post.retE rfl rfl ?_
                refine congrArg (Value.int .i64) ?_
                unfold entWhy entOk
                first | (simp_all; done) | (simp_all; intros; omega) | (have k1 : ¬e.kind = 1 := (by omega); have k2 : ¬e.kind = 2 := (by omega); have k3 : ¬e.kind = 3 := (by omega); simp [k1, k2, k3]; done) | (simp_all; omega)
            · skip
              replace h37 := of_decide_eq_false h37
              refine .off rfl rfl <| .off rfl rfl <| .off rfl rfl <| .e (.pickF rfl rfl) rfl rfl <| .e (.assign rfl) rfl rfl <| .nil ?_
              refine .go <| .seq <| .seq <| .region <| .e (.move rfl) rfl rfl <| .e (.not rfl) rfl rfl ?_
              refine .nil <| .go <| .cond_true rfl <| .seq <| .region <| .e (.assign rfl) rfl rfl ?_
              refine .nil <| .go <| .ret <| .ret ?_
              refine .tail ?_
              refine Post.retE rfl rfl ?_
              refine congrArg (Value.int .i64) ?_
              unfold entWhy entOk
              first | (simp_all; done) | (simp_all; intros; omega) | (have k1 : ¬e.kind = 1 := (by omega); have k2 : ¬e.kind = 2 := (by omega); have k3 : ¬e.kind = 3 := (by omega); simp [k1, k2, k3]; done) | (simp_all; omega)
          · skip
            replace h35 := of_decide_eq_false h35
            refine .cond_false rfl <| .region <| .e (.move rfl) rfl rfl <| .e (.move rfl) rfl rfl ?_
            refine .split 43 rfl (fun h43 => ?_) (fun h43 => ?_)
            · skip
              replace h43 := of_decide_eq_true h43
              refine .e (.fieldAddr fo41_4 rfl) rfl rfl <| .e (.load ag39 rfl .here rfl) rfl rfl <| .e (.len sl39 rfl rfl) rfl rfl <| .e (.eql rfl rfl) rfl rfl <| .e (.pickT rfl rfl) rfl rfl <| .e (.assign rfl) rfl rfl ?_
              refine .nil <| .go <| .seq <| .seq <| .region <| .e (.move rfl) rfl rfl ?_
              refine .e (.not rfl) rfl rfl <| .nil <| .go ?_
              refine .split 50 rfl (fun h50 => ?_) (fun h50 => ?_)
              · skip
                first | replace h50 := of_decide_eq_false ((Bool.not_eq_true' _).mp h50) | replace h50 := of_decide_eq_false (by simpa using h50)
                refine .cond_true rfl <| .seq <| .region <| .e (.assign rfl) rfl rfl <| .nil <| .go ?_
                refine .ret <| .ret ?_
                refine .tail ?_
                refine Post.retE rfl rfl ?_
                refine congrArg (Value.int .i64) ?_
                unfold entWhy entOk
                first | (simp_all; done) | (simp_all; intros; omega) | (have k1 : ¬e.kind = 1 := (by omega); have k2 : ¬e.kind = 2 := (by omega); have k3 : ¬e.kind = 3 := (by omega); simp [k1, k2, k3]; done) | (simp_all; omega)
              · skip
                first | replace h50 := of_decide_eq_true ((Bool.not_eq_false' _).mp h50) | replace h50 := of_decide_eq_true (by simpa using h50)
                refine .cond_false rfl <| .skip <| .go <| .seq <| .region <| .e (.assign rfl) rfl rfl ?_
                refine .nil <| .go <| .ret ?_
                refine .tail ?_
                refine Post.retE rfl rfl ?_
                refine congrArg (Value.int .i64) ?_
                unfold entWhy entOk
                first | (simp_all; done) | (simp_all; intros; omega) | (have k1 : ¬e.kind = 1 := (by omega); have k2 : ¬e.kind = 2 := (by omega); have k3 : ¬e.kind = 3 := (by omega); simp [k1, k2, k3]; done) | (simp_all; omega)
            · skip
              replace h43 := of_decide_eq_false h43
              refine .off rfl rfl <| .off rfl rfl <| .off rfl rfl <| .off rfl rfl <| .e (.pickF rfl rfl) rfl rfl <| .e (.assign rfl) rfl rfl ?_
              refine .nil <| .go <| .seq <| .seq <| .region <| .e (.move rfl) rfl rfl ?_
              refine .e (.not rfl) rfl rfl <| .nil <| .go <| .cond_true rfl <| .seq <| .region ?_
              refine .e (.assign rfl) rfl rfl <| .nil <| .go <| .ret <| .ret ?_
              refine .tail ?_
              refine Post.retE rfl rfl ?_
              refine congrArg (Value.int .i64) ?_
              unfold entWhy entOk
              first | (simp_all; done) | (simp_all; intros; omega) | (have k1 : ¬e.kind = 1 := (by omega); have k2 : ¬e.kind = 2 := (by omega); have k3 : ¬e.kind = 3 := (by omega); simp [k1, k2, k3]; done) | (simp_all; omega)
        · skip
          replace h21 := of_decide_eq_false h21
          refine .e (.fieldAddr fo41_3 rfl) rfl rfl <| .e (.load ag9 rfl .here rfl) rfl rfl <| .e (.streq rfl rfl) rfl rfl <| .e (.pickF rfl rfl) rfl rfl <| .e (.pickT rfl rfl) rfl rfl <| .e (.move rfl) rfl rfl ?_
          refine .split 27 rfl (fun h27 => ?_) (fun h27 => ?_)
          · skip
            replace h27 := of_decide_eq_true h27
            refine .e (.fieldAddr fo41_3 rfl) rfl rfl <| .e (.load ag9 rfl .here rfl) rfl rfl <| .e (.lenS Try.underlying9 rfl rfl) rfl rfl <| .e (.leq rfl rfl) rfl rfl <| .e (.pickT rfl rfl) rfl rfl <| .e (.assign rfl) rfl rfl ?_
            refine .nil <| .go <| .seq <| .seq <| .region <| .e (.fieldAddr fo41_2 rfl) rfl rfl ?_
            refine .e (.load ag38 rfl .here rfl) rfl rfl <| .e (.eql rfl rfl) rfl rfl <| .nil <| .go ?_
            refine .split 35 rfl (fun h35 => ?_) (fun h35 => ?_)
            · skip
              replace h35 := of_decide_eq_true h35
              refine .cond_true rfl <| .region <| .e (.move rfl) rfl rfl <| .e (.move rfl) rfl rfl ?_
              refine .split 37 rfl (fun h37 => ?_) (fun h37 => ?_)
              · skip
                replace h37 := of_decide_eq_true h37
                refine .e (.fieldAddr fo41_4 rfl) rfl rfl <| .e (.load ag39 rfl .here rfl) rfl rfl <| .on rfl <| .callP cal45 rfl rfl rfl (rmem_ok hmv0) <| .e (.pickT rfl rfl) rfl rfl <| .e (.assign rfl) rfl rfl <| .nil ?_
                refine .go <| .seq <| .seq <| .region <| .e (.move rfl) rfl rfl <| .e (.not rfl) rfl rfl ?_
                refine .nil <| .go ?_
                refine .split 50 rfl (fun h50 => ?_) (fun h50 => ?_)
                · skip
                  refine .cond_true rfl <| .seq <| .region <| .e (.assign rfl) rfl rfl <| .nil <| .go ?_
                  refine .ret <| .ret ?_
                  refine .tail ?_
                  refine Post.retE rfl rfl ?_
                  refine congrArg (Value.int .i64) ?_
                  unfold entWhy entOk
                  first | (simp_all; done) | (simp_all; intros; omega) | (have k1 : ¬e.kind = 1 := (by omega); have k2 : ¬e.kind = 2 := (by omega); have k3 : ¬e.kind = 3 := (by omega); simp [k1, k2, k3]; done) | (simp_all; omega)
                · skip
                  refine .cond_false rfl <| .skip <| .go <| .seq <| .region <| .e (.assign rfl) rfl rfl ?_
                  refine .nil <| .go <| .ret ?_
                  refine .tail ?_
                  refine Post.retE rfl rfl ?_
                  refine congrArg (Value.int .i64) ?_
                  unfold entWhy entOk
                  first | (simp_all; done) | (simp_all; intros; omega) | (have k1 : ¬e.kind = 1 := (by omega); have k2 : ¬e.kind = 2 := (by omega); have k3 : ¬e.kind = 3 := (by omega); simp [k1, k2, k3]; done) | (simp_all; omega)
              · skip
                replace h37 := of_decide_eq_false h37
                refine .off rfl rfl <| .off rfl rfl <| .off rfl rfl <| .e (.pickF rfl rfl) rfl rfl <| .e (.assign rfl) rfl rfl <| .nil ?_
                refine .go <| .seq <| .seq <| .region <| .e (.move rfl) rfl rfl <| .e (.not rfl) rfl rfl ?_
                refine .nil <| .go <| .cond_true rfl <| .seq <| .region <| .e (.assign rfl) rfl rfl ?_
                refine .nil <| .go <| .ret <| .ret ?_
                refine .tail ?_
                refine Post.retE rfl rfl ?_
                refine congrArg (Value.int .i64) ?_
                unfold entWhy entOk
                first | (simp_all; done) | (simp_all; intros; omega) | (have k1 : ¬e.kind = 1 := (by omega); have k2 : ¬e.kind = 2 := (by omega); have k3 : ¬e.kind = 3 := (by omega); simp [k1, k2, k3]; done) | (simp_all; omega)
            · skip
              replace h35 := of_decide_eq_false h35
              refine .cond_false rfl <| .region <| .e (.move rfl) rfl rfl <| .e (.move rfl) rfl rfl ?_
              refine .split 43 rfl (fun h43 => ?_) (fun h43 => ?_)
              · skip
                replace h43 := of_decide_eq_true h43
                refine .e (.fieldAddr fo41_4 rfl) rfl rfl <| .e (.load ag39 rfl .here rfl) rfl rfl <| .e (.len sl39 rfl rfl) rfl rfl <| .e (.eql rfl rfl) rfl rfl <| .e (.pickT rfl rfl) rfl rfl <| .e (.assign rfl) rfl rfl ?_
                refine .nil <| .go <| .seq <| .seq <| .region <| .e (.move rfl) rfl rfl ?_
                refine .e (.not rfl) rfl rfl <| .nil <| .go ?_
                refine .split 50 rfl (fun h50 => ?_) (fun h50 => ?_)
                · skip
                  first | replace h50 := of_decide_eq_false ((Bool.not_eq_true' _).mp h50) | replace h50 := of_decide_eq_false (by simpa using h50)
                  refine .cond_true rfl <| .seq <| .region <| .e (.assign rfl) rfl rfl <| .nil <| .go ?_
                  refine .ret <| .ret ?_
                  refine .tail ?_
                  refine Post.retE rfl rfl ?_
                  refine congrArg (Value.int .i64) ?_
                  unfold entWhy entOk
                  first | (simp_all; done) | (simp_all; intros; omega) | (have k1 : ¬e.kind = 1 := (by omega); have k2 : ¬e.kind = 2 := (by omega); have k3 : ¬e.kind = 3 := (by omega); simp [k1, k2, k3]; done) | (simp_all; omega)
                · skip
                  first | replace h50 := of_decide_eq_true ((Bool.not_eq_false' _).mp h50) | replace h50 := of_decide_eq_true (by simpa using h50)
                  refine .cond_false rfl <| .skip <| .go <| .seq <| .region <| .e (.assign rfl) rfl rfl ?_
                  refine .nil <| .go <| .ret ?_
                  refine .tail ?_
                  refine Post.retE rfl rfl ?_
                  refine congrArg (Value.int .i64) ?_
                  unfold entWhy entOk
                  first | (simp_all; done) | (simp_all; intros; omega) | (have k1 : ¬e.kind = 1 := (by omega); have k2 : ¬e.kind = 2 := (by omega); have k3 : ¬e.kind = 3 := (by omega); simp [k1, k2, k3]; done) | (simp_all; omega)
              · skip
                replace h43 := of_decide_eq_false h43
                refine .off rfl rfl <| .off rfl rfl <| .off rfl rfl <| .off rfl rfl <| .e (.pickF rfl rfl) rfl rfl <| .e (.assign rfl) rfl rfl ?_
                refine .nil <| .go <| .seq <| .seq <| .region <| .e (.move rfl) rfl rfl ?_
                refine .e (.not rfl) rfl rfl <| .nil <| .go <| .cond_true rfl <| .seq <| .region ?_
                refine .e (.assign rfl) rfl rfl <| .nil <| .go <| .ret <| .ret ?_
                refine .tail ?_
                refine Post.retE rfl rfl ?_
                refine congrArg (Value.int .i64) ?_
                unfold entWhy entOk
                first | (simp_all; done) | (simp_all; intros; omega) | (have k1 : ¬e.kind = 1 := (by omega); have k2 : ¬e.kind = 2 := (by omega); have k3 : ¬e.kind = 3 := (by omega); simp [k1, k2, k3]; done) | (simp_all; omega)
          · skip
            replace h27 := of_decide_eq_false h27
            refine .off rfl rfl <| .off rfl rfl <| .off rfl rfl <| .off rfl rfl <| .e (.pickF rfl rfl) rfl rfl <| .e (.assign rfl) rfl rfl ?_
            refine .nil <| .go <| .seq <| .seq <| .region <| .e (.fieldAddr fo41_2 rfl) rfl rfl ?_
            refine .e (.load ag38 rfl .here rfl) rfl rfl <| .e (.eql rfl rfl) rfl rfl <| .nil <| .go ?_
            refine .split 35 rfl (fun h35 => ?_) (fun h35 => ?_)
            · skip
              replace h35 := of_decide_eq_true h35
              refine .cond_true rfl <| .region <| .e (.move rfl) rfl rfl <| .e (.move rfl) rfl rfl <| .off rfl rfl <| .off rfl rfl ?_
              refine .off rfl rfl <| .e (.pickF rfl rfl) rfl rfl <| .e (.assign rfl) rfl rfl <| .nil <| .go <| .seq ?_
              refine .seq <| .region <| .e (.move rfl) rfl rfl <| .e (.not rfl) rfl rfl <| .nil <| .go ?_
              refine .cond_true rfl <| .seq <| .region <| .e (.assign rfl) rfl rfl <| .nil <| .go ?_
              refine .ret <| .ret ?_
              refine .tail ?_
              refine Post.retE rfl rfl ?_
              refine congrArg (Value.int .i64) ?_
              unfold entWhy entOk
              first | (simp_all; done) | (simp_all; intros; omega) | (have k1 : ¬e.kind = 1 := (by omega); have k2 : ¬e.kind = 2 := (by omega); have k3 : ¬e.kind = 3 := (by omega); simp [k1, k2, k3]; done) | (simp_all; omega)
            · skip
              replace h35 := of_decide_eq_false h35
              refine .cond_false rfl <| .region <| .e (.move rfl) rfl rfl <| .e (.move rfl) rfl rfl <| .off rfl rfl <| .off rfl rfl ?_
              refine .off rfl rfl <| .off rfl rfl <| .e (.pickF rfl rfl) rfl rfl <| .e (.assign rfl) rfl rfl <| .nil <| .go ?_
              refine .seq <| .seq <| .region <| .e (.move rfl) rfl rfl <| .e (.not rfl) rfl rfl <| .nil ?_
              refine .go <| .cond_true rfl <| .seq <| .region <| .e (.assign rfl) rfl rfl <| .nil ?_
              refine .go <| .ret <| .ret ?_
              refine .tail ?_
              refine Post.retE rfl rfl ?_
              refine congrArg (Value.int .i64) ?_
              unfold entWhy entOk
              first | (simp_all; done) | (simp_all; intros; omega) | (have k1 : ¬e.kind = 1 := (by omega); have k2 : ¬e.kind = 2 := (by omega); have k3 : ¬e.kind = 3 := (by omega); simp [k1, k2, k3]; done) | (simp_all; omega)
      · skip
        replace h17 := of_decide_eq_false h17
        refine .off rfl rfl <| .off rfl rfl <| .off rfl rfl <| .off rfl rfl <| .off rfl rfl <| .off rfl rfl ?_
        refine .off rfl rfl <| .off rfl rfl <| .e (.pickF rfl rfl) rfl rfl <| .e (.move rfl) rfl rfl <| .off rfl rfl <| .off rfl rfl ?_
        refine .off rfl rfl <| .off rfl rfl <| .e (.pickF rfl rfl) rfl rfl <| .e (.assign rfl) rfl rfl <| .nil <| .go ?_
        refine .seq <| .seq <| .region <| .e (.fieldAddr fo41_2 rfl) rfl rfl <| .e (.load ag38 rfl .here rfl) rfl rfl <| .e (.eql rfl rfl) rfl rfl ?_
        refine .nil <| .go ?_
        refine .split 35 rfl (fun h35 => ?_) (fun h35 => ?_)
        · skip
          replace h35 := of_decide_eq_true h35
          refine .cond_true rfl <| .region <| .e (.move rfl) rfl rfl <| .e (.move rfl) rfl rfl <| .off rfl rfl <| .off rfl rfl ?_
          refine .off rfl rfl <| .e (.pickF rfl rfl) rfl rfl <| .e (.assign rfl) rfl rfl <| .nil <| .go <| .seq ?_
          refine .seq <| .region <| .e (.move rfl) rfl rfl <| .e (.not rfl) rfl rfl <| .nil <| .go ?_
          refine .cond_true rfl <| .seq <| .region <| .e (.assign rfl) rfl rfl <| .nil <| .go ?_
          refine .ret <| .ret ?_
          refine .tail ?_
          refine Post.retE rfl rfl ?_
          refine congrArg (Value.int .i64) ?_
          unfold entWhy entOk
          first | (simp_all; done) | (simp_all; intros; omega) | (have k1 : ¬e.kind = 1 := (by omega); have k2 : ¬e.kind = 2 := (by omega); have k3 : ¬e.kind = 3 := (by omega); simp [k1, k2, k3]; done) | (simp_all; omega)
        · skip
          replace h35 := of_decide_eq_false h35
          refine .cond_false rfl <| .region <| .e (.move rfl) rfl rfl <| .e (.move rfl) rfl rfl <| .off rfl rfl <| .off rfl rfl ?_
          refine .off rfl rfl <| .off rfl rfl <| .e (.pickF rfl rfl) rfl rfl <| .e (.assign rfl) rfl rfl <| .nil <| .go ?_
          refine .seq <| .seq <| .region <| .e (.move rfl) rfl rfl <| .e (.not rfl) rfl rfl <| .nil ?_
          refine .go <| .cond_true rfl <| .seq <| .region <| .e (.assign rfl) rfl rfl <| .nil ?_
          refine .go <| .ret <| .ret ?_
          refine .tail ?_
          refine Post.retE rfl rfl ?_
          refine congrArg (Value.int .i64) ?_
          unfold entWhy entOk
          first | (simp_all; done) | (simp_all; intros; omega) | (have k1 : ¬e.kind = 1 := (by omega); have k2 : ¬e.kind = 2 := (by omega); have k3 : ¬e.kind = 3 := (by omega); simp [k1, k2, k3]; done) | (simp_all; omega)
    · skip
      replace h12 := of_decide_eq_false h12
      refine .off rfl rfl <| .off rfl rfl <| .off rfl rfl <| .e (.pickF rfl rfl) rfl rfl <| .e (.move rfl) rfl rfl <| .off rfl rfl ?_
      refine .off rfl rfl <| .off rfl rfl <| .off rfl rfl <| .off rfl rfl <| .off rfl rfl <| .off rfl rfl ?_
      refine .off rfl rfl <| .e (.pickF rfl rfl) rfl rfl <| .e (.move rfl) rfl rfl <| .off rfl rfl <| .off rfl rfl <| .off rfl rfl ?_
      refine .off rfl rfl <| .e (.pickF rfl rfl) rfl rfl <| .e (.assign rfl) rfl rfl <| .nil <| .go <| .seq ?_
      refine .seq <| .region <| .e (.fieldAddr fo41_2 rfl) rfl rfl <| .e (.load ag38 rfl .here rfl) rfl rfl <| .e (.eql rfl rfl) rfl rfl <| .nil ?_
      refine .go ?_
      refine .split 35 rfl (fun h35 => ?_) (fun h35 => ?_)
      · skip
        replace h35 := of_decide_eq_true h35
        refine .cond_true rfl <| .region <| .e (.move rfl) rfl rfl <| .e (.move rfl) rfl rfl <| .off rfl rfl <| .off rfl rfl ?_
        refine .off rfl rfl <| .e (.pickF rfl rfl) rfl rfl <| .e (.assign rfl) rfl rfl <| .nil <| .go <| .seq ?_
        refine .seq <| .region <| .e (.move rfl) rfl rfl <| .e (.not rfl) rfl rfl <| .nil <| .go ?_
        refine .cond_true rfl <| .seq <| .region <| .e (.assign rfl) rfl rfl <| .nil <| .go ?_
        refine .ret <| .ret ?_
        refine .tail ?_
        refine Post.retE rfl rfl ?_
        refine congrArg (Value.int .i64) ?_
        unfold entWhy entOk
        first | (simp_all; done) | (simp_all; intros; omega) | (have k1 : ¬e.kind = 1 := (by omega); have k2 : ¬e.kind = 2 := (by omega); have k3 : ¬e.kind = 3 := (by omega); simp [k1, k2, k3]; done) | (simp_all; omega)
      · skip
        replace h35 := of_decide_eq_false h35
        refine .cond_false rfl <| .region <| .e (.move rfl) rfl rfl <| .e (.move rfl) rfl rfl <| .off rfl rfl <| .off rfl rfl ?_
        refine .off rfl rfl <| .off rfl rfl <| .e (.pickF rfl rfl) rfl rfl <| .e (.assign rfl) rfl rfl <| .nil <| .go ?_
        refine .seq <| .seq <| .region <| .e (.move rfl) rfl rfl <| .e (.not rfl) rfl rfl <| .nil ?_
        refine .go <| .cond_true rfl <| .seq <| .region <| .e (.assign rfl) rfl rfl <| .nil ?_
        refine .go <| .ret <| .ret ?_
        refine .tail ?_
        refine Post.retE rfl rfl ?_
        refine congrArg (Value.int .i64) ?_
        unfold entWhy entOk
        first | (simp_all; done) | (simp_all; intros; omega) | (have k1 : ¬e.kind = 1 := (by omega); have k2 : ¬e.kind = 2 := (by omega); have k3 : ¬e.kind = 3 := (by omega); simp [k1, k2, k3]; done) | (simp_all; omega)
  · skip
    replace h7 := of_decide_eq_false h7
    refine .off rfl rfl <| .off rfl rfl <| .off rfl rfl <| .e (.pickF rfl rfl) rfl rfl <| .e (.move rfl) rfl rfl <| .off rfl rfl ?_
    refine .off rfl rfl <| .off rfl rfl <| .e (.pickF rfl rfl) rfl rfl <| .e (.move rfl) rfl rfl <| .off rfl rfl <| .off rfl rfl ?_
    refine .off rfl rfl <| .off rfl rfl <| .off rfl rfl <| .off rfl rfl <| .off rfl rfl <| .off rfl rfl ?_
    refine .e (.pickF rfl rfl) rfl rfl <| .e (.move rfl) rfl rfl <| .off rfl rfl <| .off rfl rfl <| .off rfl rfl <| .off rfl rfl ?_
    refine .e (.pickF rfl rfl) rfl rfl <| .e (.assign rfl) rfl rfl <| .nil <| .go <| .seq <| .seq ?_
    refine .region <| .e (.fieldAddr fo41_2 rfl) rfl rfl <| .e (.load ag38 rfl .here rfl) rfl rfl <| .e (.eql rfl rfl) rfl rfl <| .nil <| .go ?_
    refine .split 35 rfl (fun h35 => ?_) (fun h35 => ?_)
    · skip
      replace h35 := of_decide_eq_true h35
      refine .cond_true rfl <| .region <| .e (.move rfl) rfl rfl <| .e (.move rfl) rfl rfl <| .off rfl rfl <| .off rfl rfl ?_
      refine .off rfl rfl <| .e (.pickF rfl rfl) rfl rfl <| .e (.assign rfl) rfl rfl <| .nil <| .go <| .seq ?_
      refine .seq <| .region <| .e (.move rfl) rfl rfl <| .e (.not rfl) rfl rfl <| .nil <| .go ?_
      refine .cond_true rfl <| .seq <| .region <| .e (.assign rfl) rfl rfl <| .nil <| .go ?_
      refine .ret <| .ret ?_
      refine .tail ?_
      refine Post.retE rfl rfl ?_
      refine congrArg (Value.int .i64) ?_
      unfold entWhy entOk
      first | (simp_all; done) | (simp_all; intros; omega) | (have k1 : ¬e.kind = 1 := (by omega); have k2 : ¬e.kind = 2 := (by omega); have k3 : ¬e.kind = 3 := (by omega); simp [k1, k2, k3]; done) | (simp_all; omega)
    · skip
      replace h35 := of_decide_eq_false h35
      refine .cond_false rfl <| .region <| .e (.move rfl) rfl rfl <| .e (.move rfl) rfl rfl <| .off rfl rfl <| .off rfl rfl ?_
      refine .off rfl rfl <| .off rfl rfl <| .e (.pickF rfl rfl) rfl rfl <| .e (.assign rfl) rfl rfl <| .nil <| .go ?_
      refine .seq <| .seq <| .region <| .e (.move rfl) rfl rfl <| .e (.not rfl) rfl rfl <| .nil ?_
      refine .go <| .cond_true rfl <| .seq <| .region <| .e (.assign rfl) rfl rfl <| .nil ?_
      refine .go <| .ret <| .ret ?_
      refine .tail ?_
      refine Post.retE rfl rfl ?_
      refine congrArg (Value.int .i64) ?_
      unfold entWhy entOk
      first | (simp_all; done) | (simp_all; intros; omega) | (have k1 : ¬e.kind = 1 := (by omega); have k2 : ¬e.kind = 2 := (by omega); have k3 : ¬e.kind = 3 := (by omega); simp [k1, k2, k3]; done) | (simp_all; omega)

end Go.Proofs.Yteajcmnbjpbnpaa
