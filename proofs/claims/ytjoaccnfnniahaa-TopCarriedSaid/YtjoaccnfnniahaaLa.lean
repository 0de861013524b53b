/- Walks of functions over a symbolic memory, printed by a program of the session. -/
import Derived.Test.YtjoaccnfnniahaaSyJ
import Derived.Test.YtjoaccnfnniahaaFacts
namespace Go.Proofs.Ytjoaccnfnniahaa
open Go.Sy
set_option linter.unusedSimpArgs false
set_option linter.unusedVariables false

theorem wrap_pred {k : Nat} (h0 : 0 < k) (h : k < 9223372036854775809) : IntKind.i64.wrap ((k : Int) - 1) = ((k - 1 : Nat) : Int) := by
  have e : (k : Int) - 1 = ((k - 1 : Nat) : Int) := by omega
  rw [e]; exact IntWalk.i64_in _ (by omega)

def lastTo (l : List Int) (k : Nat) : Int := if k = 0 then 0 else l.getD (k - 1) 0
def mBad (l : List Int) (k : Nat) : Bool := decide (l.getD k 0 < 1 ∨ 7 < l.getD k 0 ∨ (0 < k ∧ l.getD k 0 ≤ l.getD (k - 1) 0))
def mTo (l : List Int) (k : Nat) : Bool := (List.range k).all fun j => !mBad l j
def mOk (l : List Int) : Bool := mTo l l.length && decide (0 < (l.length : Int))
theorem mTo_succ (l : List Int) (k : Nat) : mTo l (k + 1) = (mTo l k && !mBad l k) := by unfold mTo; rw [List.range_succ, List.all_append]; simp
theorem mTo_bad {l : List Int} {k n : Nat} (hk : k < n) (h : mBad l k = true) : mTo l n = false := by
  unfold mTo
  rw [Bool.eq_false_iff]; intro h2
  have := List.all_eq_true.1 h2 k (List.mem_range.2 hk)
  rw [h] at this; cases this
theorem mOk_bad {l : List Int} {k : Nat} (hk : k < l.length) (h : mBad l k = true) : mOk l = false := by unfold mOk; rw [mTo_bad hk h]; rfl
theorem intD {l : List Int} {k : Nat} (hk : k < l.length) : l.getD k 0 = l[k] := by simp [hk]
def Minv (l : List Int) (k : Nat) (at_ : Int) : Prop := mTo l k = true ∧ at_ = lastTo l k ∧ (k = 0 → at_ = 0) ∧ (0 < k → 1 ≤ at_)
theorem Minv.zero {l : List Int} : Minv l 0 0 := ⟨rfl, rfl, fun _ => rfl, fun h => absurd h (by omega)⟩
theorem Minv.step {l : List Int} {k : Nat} {at_ : Int} (h : Minv l k at_) (hk : k < l.length) (h1 : ¬l[k] ≤ at_) (h2 : ¬l[k] > 7) : Minv l (k + 1) l[k] := by
  obtain ⟨a, b, c, d⟩ := h
  have e : lastTo l (k + 1) = l[k] := by unfold lastTo; rw [if_neg (by omega), show k + 1 - 1 = k by omega, intD hk]
  refine ⟨?_, e.symm, fun h => absurd h (by omega), fun _ => ?_⟩
  · rw [mTo_succ, a]
    unfold mBad
    rw [intD hk]
    have : ¬(l[k] < 1 ∨ 7 < l[k] ∨ (0 < k ∧ l[k] ≤ l.getD (k - 1) 0)) := by
      rcases Nat.eq_zero_or_pos k with h0 | h0
      · have := c h0; omega
      · have := d h0
        unfold lastTo at b
        rw [if_neg (by omega)] at b
        omega
    rw [decide_eq_false this]; rfl
  · rcases Nat.eq_zero_or_pos k with h0 | h0
    · have := c h0; omega
    · have := d h0; omega
theorem Minv.bad {l : List Int} {k : Nat} {at_ : Int} (h : Minv l k at_) (hk : k < l.length) (h1 : l[k] ≤ at_ ∨ l[k] > 7) : mBad l k = true := by
  obtain ⟨a, b, c, d⟩ := h
  unfold mBad
  rw [intD hk]
  refine decide_eq_true ?_
  rcases Nat.eq_zero_or_pos k with h0 | h0
  · have := c h0; omega
  · have := d h0
    unfold lastTo at b
    rw [if_neg (by omega)] at b
    omega
theorem Minv.end_ {l : List Int} {k : Nat} {at_ : Int} (h : Minv l k at_) (hk : k = l.length) : decide (at_ > 0) = mOk l := by
  subst hk
  obtain ⟨a, b, c, d⟩ := h
  unfold mOk
  rw [a, Bool.true_and]
  refine decide_eq_decide.2 ?_
  rcases Nat.eq_zero_or_pos l.length with h0 | h0
  · have := c h0; omega
  · have := d h0; omega
def entOk (e : Ent) : Bool := (decide (0 < e.index) && decide ((e.data.size : Int) ≤ 4096)) && (if e.kind = 1 then decide (e.data = ⟨#[]⟩) && decide ((e.members.length : Int) = 0) else if e.kind = 2 then decide ((e.members.length : Int) = 0) else if e.kind = 3 then decide (e.data = ⟨#[]⟩) && mOk e.members else false)
def entWhy (e : Ent) : Int := if entOk e = true then 0 else 4

set_option maxHeartbeats 1000000 in
set_option maxRecDepth 20000 in
theorem mem_ok {I : Imm} {O : Own} {v : Value} {l : List Int} (hl : IntsR I v l) :
    Pure Try.prog 43 [v] I O (.bool (mOk l)) := by
  have hl0 := hl
  obtain ⟨la, lcap, rfl, hl1, hl2, -⟩ := hl
  refine Go.Sy.Does.enter Try.func43 rfl Try.ntmps43 rfl ?_
  refine .seq <| .region <| .e (.assign rfl) rfl rfl <| .nil <| .go <| .seq ?_
  refine .region <| .e (.assign rfl) rfl rfl <| .nil <| .go <| .seq <| .seq ?_
  refine .region <| .e (.move rfl) rfl rfl <| .e (.len sl24 rfl rfl) rfl rfl <| .e (.move rfl) rfl rfl <| .nil <| .go ?_
  refine .block ?_
  refine .loopM [2, 3, 5, 8, 9, 10, 11, 12, 13, 14, 15, 16, 17, 18, 19, 20] (fun s => l.length - s.1) (fun s => s.1 ≤ l.length ∧ Minv l s.1 s.2) (fun s => [(8, .int .i64 s.1), (3, .int .i64 s.2)]) (fun _ => _) (fun _ => _) (((0, 0) : Nat × Int)) ⟨by omega, Minv.zero⟩ ⟨rfl, rfl, trivial⟩ rfl rfl ?_
  intro ⟨k, x⟩ hk
  dsimp only at hk ⊢
  obtain ⟨hk, hi⟩ := hk
  refine .seq <| .region <| .e (.lss rfl rfl) rfl rfl <| .nil <| .go <| .seq ?_
  refine .split 9 rfl (fun h9 => ?_) (fun h9 => ?_)
  · skip
    replace h9 := of_decide_eq_true h9
    refine .cond_true rfl <| .skip <| .go <| .seq <| .block <| .seq ?_
    refine .region ?_
    obtain ⟨eb10, eo10, cs10, hd10, hat10, hr10⟩ := SlR.at_ hl0 (k := k) (by omega)
    cases hd10
    obtain ⟨e10, hi10⟩ := hr10
    subst e10
    refine .e (.indexAddrL sl24 rfl rfl rfl (by omega)) rfl rfl <| .e (.loadI ag3 rfl (hat10.cell (j := 0) rfl)) rfl rfl <| .e (.assign rfl) rfl rfl <| .nil <| .go <| .seq ?_
    refine .seq <| .region <| .e (.move rfl) rfl rfl <| .e (.move rfl) rfl rfl <| .e (.leq rfl rfl) rfl rfl <| .e (.move rfl) rfl rfl ?_
    refine .split 15 rfl (fun h15 => ?_) (fun h15 => ?_)
    · skip
      replace h15 := of_decide_eq_true h15
      refine .off rfl rfl <| .off rfl rfl <| .e (.pickT rfl rfl) rfl rfl <| .nil <| .go <| .cond_true rfl ?_
      refine .seq <| .region <| .e (.assign rfl) rfl rfl <| .nil <| .go <| .ret ?_
      refine .ret <| .blk_ret <| .ret <| .ret <| .blk_ret <| .ret ?_
      refine Post.retE rfl rfl ?_
      exact congrArg Value.bool (mOk_bad (k := k) (by omega) (hi.bad (by omega) (by first | exact .inl h15 | exact .inr h18))).symm
    · skip
      replace h15 := of_decide_eq_false h15
      refine .e (.move rfl) rfl rfl <| .e (.gtr rfl rfl) rfl rfl <| .e (.pickF rfl rfl) rfl rfl <| .nil <| .go ?_
      refine .split 18 rfl (fun h18 => ?_) (fun h18 => ?_)
      · skip
        replace h18 := of_decide_eq_true h18
        refine .cond_true rfl <| .seq <| .region <| .e (.assign rfl) rfl rfl <| .nil <| .go ?_
        refine .ret <| .ret <| .blk_ret <| .ret <| .ret <| .blk_ret ?_
        refine .ret ?_
        refine Post.retE rfl rfl ?_
        exact congrArg Value.bool (mOk_bad (k := k) (by omega) (hi.bad (by omega) (by first | exact .inl h15 | exact .inr h18))).symm
      · skip
        replace h18 := of_decide_eq_false h18
        refine .cond_false rfl <| .skip <| .go <| .region <| .e (.move rfl) rfl rfl <| .e (.assign rfl) rfl rfl ?_
        refine .nil <| .blk_normal <| .go <| .region <| .e (.add rfl rfl (by first | exact wrap_succ (by omega) | exact IntWalk.i64_in _ (by omega) | exact rfl)) rfl rfl <| .e (.move rfl) rfl rfl ?_
        refine .nil ?_
        exact .mid ((k + 1, l[k])) ⟨by dsimp only; omega, by dsimp only; omega, hi.step (by omega) h15 h18⟩ ⟨rfl, rfl, trivial⟩ rfl rfl (.pre 18 rfl (.app rfl .base))
  · skip
    replace h9 := of_decide_eq_false h9
    refine .cond_false rfl <| .exit <| .exit <| .exit <| .blk_exit <| .go ?_
    refine .seq <| .region <| .e (.move rfl) rfl rfl <| .e (.gtr rfl rfl) rfl rfl <| .e (.assign rfl) rfl rfl <| .nil ?_
    refine .go <| .ret ?_
    refine Post.retE rfl rfl ?_
    exact congrArg Value.bool (hi.end_ (by omega))

set_option maxHeartbeats 1000000 in
set_option maxRecDepth 20000 in
theorem wCheck_ok {I : Imm} {O : Own} {ec : List Value} {e : Ent} (he : EntR I ec e) :
    Pure Try.prog 26 [.agg ⟨ec⟩] I O (.int .i64 (entWhy e)) := by
  have he0 := he
  obtain ⟨mv, rfl, hmv⟩ := he.ex
  have hmv0 := hmv
  obtain ⟨ma, mcap, rfl, hm1, hm2, -⟩ := hmv
  refine Go.Sy.Does.enter Try.func26 rfl Try.ntmps26 rfl ?_
  refine .seq <| .region <| .on rfl <| .box rfl rfl rfl fun c1 _ _ => .e (.assign rfl) rfl rfl <| .nil <| .go ?_
  refine .seq <| .region <| .e (.fieldAddr fo77_0 rfl) rfl rfl <| .e (.load ag40 rfl .here rfl) rfl rfl <| .e (.gtr rfl rfl) rfl rfl <| .e (.move rfl) rfl rfl ?_
  refine .split 7 rfl (fun h7 => ?_) (fun h7 => ?_)
  · skip
    replace h7 := of_decide_eq_true h7
    refine .e (.fieldAddr fo77_3 rfl) rfl rfl <| .e (.load ag9 rfl .here rfl) rfl rfl <| .e (.lenS Try.underlying9 rfl rfl) rfl rfl <| .e (.leq rfl rfl) rfl rfl <| .e (.pickT rfl rfl) rfl rfl <| .e (.assign rfl) rfl rfl ?_
    refine .nil <| .go <| .seq <| .seq <| .region <| .e (.fieldAddr fo77_2 rfl) rfl rfl ?_
    refine .e (.load ag75 rfl .here rfl) rfl rfl <| .nil <| .go <| .block <| .seq <| .region ?_
    refine .e (.eql rfl rfl) rfl rfl <| .e (.assign rfl) rfl rfl <| .nil <| .go ?_
    refine .split 15 rfl (fun h15 => ?_) (fun h15 => ?_)
    · skip
      replace h15 := of_decide_eq_true h15
      refine .cond_true rfl <| .region <| .e (.move rfl) rfl rfl <| .e (.move rfl) rfl rfl ?_
      refine .split 18 rfl (fun h18 => ?_) (fun h18 => ?_)
      · skip
        replace h18 := of_decide_eq_true h18
        refine .e (.fieldAddr fo77_3 rfl) rfl rfl <| .e (.load ag9 rfl .here rfl) rfl rfl <| .e (.streq rfl rfl) rfl rfl <| .e (.pickT rfl rfl) rfl rfl <| .e (.move rfl) rfl rfl ?_
        refine .split 23 rfl (fun h23 => ?_) (fun h23 => ?_)
        · skip
          replace h23 := of_decide_eq_true h23
          refine .e (.fieldAddr fo77_4 rfl) rfl rfl <| .e (.load ag24 rfl .here rfl) rfl rfl <| .e (.len sl24 rfl rfl) rfl rfl <| .e (.eql rfl rfl) rfl rfl <| .e (.pickT rfl rfl) rfl rfl <| .e (.assign rfl) rfl rfl ?_
          refine .nil <| .blk_normal <| .go <| .seq <| .seq <| .region ?_
          refine .e (.move rfl) rfl rfl <| .e (.not rfl) rfl rfl <| .nil <| .go ?_
          refine .split 52 rfl (fun h52 => ?_) (fun h52 => ?_)
          · skip
            first | replace h52 := of_decide_eq_false ((Bool.not_eq_true' _).mp h52) | replace h52 := of_decide_eq_false (by simpa using h52)
            refine .cond_true rfl <| .seq <| .region <| .e (.assign rfl) rfl rfl <| .nil <| .go ?_
            refine .ret <| .ret ?_
            refine .tail ?_
            refine Post.retE rfl rfl ?_
            refine congrArg (Value.int .i64) ?_
            unfold entWhy entOk
            first | (simp_all; done) | (simp_all; intros; omega) | (have k1 : ¬e.kind = 1 := (by omega); have k2 : ¬e.kind = 2 := (by omega); have k3 : ¬e.kind = 3 := (by omega); simp [k1, k2, k3]; done) | (simp_all; omega)
          · skip
            first | replace h52 := of_decide_eq_true ((Bool.not_eq_false' _).mp h52) | replace h52 := of_decide_eq_true (by simpa using h52)
            refine .cond_false rfl <| .skip <| .go <| .seq <| .region <| .e (.assign rfl) rfl rfl ?_
            refine .nil <| .go <| .ret ?_
            refine .tail ?_
            refine Post.retE rfl rfl ?_
            refine congrArg (Value.int .i64) ?_
            unfold entWhy entOk
            first | (simp_all; done) | (simp_all; intros; omega) | (have k1 : ¬e.kind = 1 := (by omega); have k2 : ¬e.kind = 2 := (by omega); have k3 : ¬e.kind = 3 := (by omega); simp [k1, k2, k3]; done) | (simp_all; omega)
        · skip
          replace h23 := of_decide_eq_false h23
          refine .off rfl rfl <| .off rfl rfl <| .off rfl rfl <| .off rfl rfl <| .e (.pickF rfl rfl) rfl rfl <| .e (.assign rfl) rfl rfl ?_
          refine .nil <| .blk_normal <| .go <| .seq <| .seq <| .region ?_
          refine .e (.move rfl) rfl rfl <| .e (.not rfl) rfl rfl <| .nil <| .go <| .cond_true rfl <| .seq ?_
          refine .region <| .e (.assign rfl) rfl rfl <| .nil <| .go <| .ret <| .ret ?_
          refine .tail ?_
          refine Post.retE rfl rfl ?_
          refine congrArg (Value.int .i64) ?_
          unfold entWhy entOk
          first | (simp_all; done) | (simp_all; intros; omega) | (have k1 : ¬e.kind = 1 := (by omega); have k2 : ¬e.kind = 2 := (by omega); have k3 : ¬e.kind = 3 := (by omega); simp [k1, k2, k3]; done) | (simp_all; omega)
      · skip
        replace h18 := of_decide_eq_false h18
        refine .off rfl rfl <| .off rfl rfl <| .off rfl rfl <| .e (.pickF rfl rfl) rfl rfl <| .e (.move rfl) rfl rfl <| .off rfl rfl ?_
        refine .off rfl rfl <| .off rfl rfl <| .off rfl rfl <| .e (.pickF rfl rfl) rfl rfl <| .e (.assign rfl) rfl rfl <| .nil ?_
        refine .blk_normal <| .go <| .seq <| .seq <| .region <| .e (.move rfl) rfl rfl ?_
        refine .e (.not rfl) rfl rfl <| .nil <| .go <| .cond_true rfl <| .seq <| .region ?_
        refine .e (.assign rfl) rfl rfl <| .nil <| .go <| .ret <| .ret ?_
        refine .tail ?_
        refine Post.retE rfl rfl ?_
        refine congrArg (Value.int .i64) ?_
        unfold entWhy entOk
        first | (simp_all; done) | (simp_all; intros; omega) | (have k1 : ¬e.kind = 1 := (by omega); have k2 : ¬e.kind = 2 := (by omega); have k3 : ¬e.kind = 3 := (by omega); simp [k1, k2, k3]; done) | (simp_all; omega)
    · skip
      replace h15 := of_decide_eq_false h15
      refine .cond_false rfl <| .seq <| .region <| .e (.eql rfl rfl) rfl rfl <| .e (.assign rfl) rfl rfl <| .nil ?_
      refine .go ?_
      refine .split 29 rfl (fun h29 => ?_) (fun h29 => ?_)
      · skip
        replace h29 := of_decide_eq_true h29
        refine .cond_true rfl <| .region <| .e (.move rfl) rfl rfl <| .e (.move rfl) rfl rfl ?_
        refine .split 32 rfl (fun h32 => ?_) (fun h32 => ?_)
        · skip
          replace h32 := of_decide_eq_true h32
          refine .e (.fieldAddr fo77_4 rfl) rfl rfl <| .e (.load ag24 rfl .here rfl) rfl rfl <| .e (.len sl24 rfl rfl) rfl rfl <| .e (.eql rfl rfl) rfl rfl <| .e (.pickT rfl rfl) rfl rfl <| .e (.assign rfl) rfl rfl ?_
          refine .nil <| .blk_normal <| .go <| .seq <| .seq <| .region ?_
          refine .e (.move rfl) rfl rfl <| .e (.not rfl) rfl rfl <| .nil <| .go ?_
          refine .split 52 rfl (fun h52 => ?_) (fun h52 => ?_)
          · skip
            first | replace h52 := of_decide_eq_false ((Bool.not_eq_true' _).mp h52) | replace h52 := of_decide_eq_false (by simpa using h52)
            refine .cond_true rfl <| .seq <| .region <| .e (.assign rfl) rfl rfl <| .nil <| .go ?_
            refine .ret <| .ret ?_
            refine .tail ?_
            refine Post.retE rfl rfl ?_
            refine congrArg (Value.int .i64) ?_
            unfold entWhy entOk
            first | (simp_all; done) | (simp_all; intros; omega) | (have k1 : ¬e.kind = 1 := (by omega); have k2 : ¬e.kind = 2 := (by omega); have k3 : ¬e.kind = 3 := (by omega); simp [k1, k2, k3]; done) | (simp_all; omega)
          · skip
            first | replace h52 := of_decide_eq_true ((Bool.not_eq_false' _).mp h52) | replace h52 := of_decide_eq_true (by simpa using h52)
            refine .cond_false rfl <| .skip <| .go <| .seq <| .region <| .e (.assign rfl) rfl rfl ?_
            refine .nil <| .go <| .ret ?_
            refine .tail ?_
            refine Post.retE rfl rfl ?_
            refine congrArg (Value.int .i64) ?_
            unfold entWhy entOk
            first | (simp_all; done) | (simp_all; intros; omega) | (have k1 : ¬e.kind = 1 := (by omega); have k2 : ¬e.kind = 2 := (by omega); have k3 : ¬e.kind = 3 := (by omega); simp [k1, k2, k3]; done) | (simp_all; omega)
        · skip
          replace h32 := of_decide_eq_false h32
          refine .off rfl rfl <| .off rfl rfl <| .off rfl rfl <| .off rfl rfl <| .e (.pickF rfl rfl) rfl rfl <| .e (.assign rfl) rfl rfl ?_
          refine .nil <| .blk_normal <| .go <| .seq <| .seq <| .region ?_
          refine .e (.move rfl) rfl rfl <| .e (.not rfl) rfl rfl <| .nil <| .go <| .cond_true rfl <| .seq ?_
          refine .region <| .e (.assign rfl) rfl rfl <| .nil <| .go <| .ret <| .ret ?_
          refine .tail ?_
          refine Post.retE rfl rfl ?_
          refine congrArg (Value.int .i64) ?_
          unfold entWhy entOk
          first | (simp_all; done) | (simp_all; intros; omega) | (have k1 : ¬e.kind = 1 := (by omega); have k2 : ¬e.kind = 2 := (by omega); have k3 : ¬e.kind = 3 := (by omega); simp [k1, k2, k3]; done) | (simp_all; omega)
      · skip
        replace h29 := of_decide_eq_false h29
        refine .cond_false rfl <| .seq <| .region <| .e (.eql rfl rfl) rfl rfl <| .e (.assign rfl) rfl rfl <| .nil ?_
        refine .go ?_
        refine .split 38 rfl (fun h38 => ?_) (fun h38 => ?_)
        · skip
          replace h38 := of_decide_eq_true h38
          refine .cond_true rfl <| .region <| .e (.move rfl) rfl rfl <| .e (.move rfl) rfl rfl ?_
          refine .split 41 rfl (fun h41 => ?_) (fun h41 => ?_)
          · skip
            replace h41 := of_decide_eq_true h41
            refine .e (.fieldAddr fo77_3 rfl) rfl rfl <| .e (.load ag9 rfl .here rfl) rfl rfl <| .e (.streq rfl rfl) rfl rfl <| .e (.pickT rfl rfl) rfl rfl <| .e (.move rfl) rfl rfl ?_
            refine .split 46 rfl (fun h46 => ?_) (fun h46 => ?_)
            · skip
              replace h46 := of_decide_eq_true h46
              refine .e (.fieldAddr fo77_4 rfl) rfl rfl <| .e (.load ag24 rfl .here rfl) rfl rfl <| .on rfl <| .callP cal43 rfl rfl rfl (mem_ok hmv0) <| .e (.pickT rfl rfl) rfl rfl <| .e (.assign rfl) rfl rfl <| .nil ?_
              refine .blk_normal <| .go <| .seq <| .seq <| .region <| .e (.move rfl) rfl rfl ?_
              refine .e (.not rfl) rfl rfl <| .nil <| .go ?_
              refine .split 52 rfl (fun h52 => ?_) (fun h52 => ?_)
              · skip
                refine .cond_true rfl <| .seq <| .region <| .e (.assign rfl) rfl rfl <| .nil <| .go ?_
                refine .ret <| .ret ?_
                refine .tail ?_
                refine Post.retE rfl rfl ?_
                refine congrArg (Value.int .i64) ?_
                unfold entWhy entOk
                first | (simp_all; done) | (simp_all; intros; omega) | (have k1 : ¬e.kind = 1 := (by omega); have k2 : ¬e.kind = 2 := (by omega); have k3 : ¬e.kind = 3 := (by omega); simp [k1, k2, k3]; done) | (simp_all; omega)
              · skip
                refine .cond_false rfl <| .skip <| .go <| .seq <| .region <| .e (.assign rfl) rfl rfl ?_
                refine .nil <| .go <| .ret ?_
                refine .tail ?_
                refine Post.retE rfl rfl ?_
                refine congrArg (Value.int .i64) ?_
                unfold entWhy entOk
                first | (simp_all; done) | (simp_all; intros; omega) | (have k1 : ¬e.kind = 1 := (by omega); have k2 : ¬e.kind = 2 := (by omega); have k3 : ¬e.kind = 3 := (by omega); simp [k1, k2, k3]; done) | (simp_all; omega)
            · skip
              replace h46 := of_decide_eq_false h46
              refine .off rfl rfl <| .off rfl rfl <| .off rfl rfl <| .e (.pickF rfl rfl) rfl rfl <| .e (.assign rfl) rfl rfl <| .nil ?_
              refine .blk_normal <| .go <| .seq <| .seq <| .region <| .e (.move rfl) rfl rfl ?_
              refine .e (.not rfl) rfl rfl <| .nil <| .go <| .cond_true rfl <| .seq <| .region ?_
              refine .e (.assign rfl) rfl rfl <| .nil <| .go <| .ret <| .ret ?_
              refine .tail ?_
              refine Post.retE rfl rfl ?_
              refine congrArg (Value.int .i64) ?_
              unfold entWhy entOk
              first | (simp_all; done) | (simp_all; intros; omega) | (have k1 : ¬e.kind = 1 := (by omega); have k2 : ¬e.kind = 2 := (by omega); have k3 : ¬e.kind = 3 := (by omega); simp [k1, k2, k3]; done) | (simp_all; omega)
          · skip
            replace h41 := of_decide_eq_false h41
            refine .off rfl rfl <| .off rfl rfl <| .off rfl rfl <| .e (.pickF rfl rfl) rfl rfl <| .e (.move rfl) rfl rfl <| .off rfl rfl ?_
            refine .off rfl rfl <| .off rfl rfl <| .e (.pickF rfl rfl) rfl rfl <| .e (.assign rfl) rfl rfl <| .nil <| .blk_normal ?_
            refine .go <| .seq <| .seq <| .region <| .e (.move rfl) rfl rfl <| .e (.not rfl) rfl rfl ?_
            refine .nil <| .go <| .cond_true rfl <| .seq <| .region <| .e (.assign rfl) rfl rfl ?_
            refine .nil <| .go <| .ret <| .ret ?_
            refine .tail ?_
            refine Post.retE rfl rfl ?_
            refine congrArg (Value.int .i64) ?_
            unfold entWhy entOk
            first | (simp_all; done) | (simp_all; intros; omega) | (have k1 : ¬e.kind = 1 := (by omega); have k2 : ¬e.kind = 2 := (by omega); have k3 : ¬e.kind = 3 := (by omega); simp [k1, k2, k3]; done) | (simp_all; omega)
        · skip
          replace h38 := of_decide_eq_false h38
          refine .cond_false rfl <| .region <| .e (.assign rfl) rfl rfl <| .nil <| .blk_normal <| .go ?_
          refine .seq <| .seq <| .region <| .e (.move rfl) rfl rfl <| .e (.not rfl) rfl rfl <| .nil ?_
          refine .go <| .cond_true rfl <| .seq <| .region <| .e (.assign rfl) rfl rfl <| .nil ?_
          refine .go <| .ret <| .ret ?_
          refine .tail ?_
          refine Post.retE rfl rfl ?_
          refine congrArg (Value.int .i64) ?_
          unfold entWhy entOk
          first | (simp_all; done) | (simp_all; intros; omega) | (have k1 : ¬e.kind = 1 := (by omega); have k2 : ¬e.kind = 2 := (by omega); have k3 : ¬e.kind = 3 := (by omega); simp [k1, k2, k3]; done) | (simp_all; omega)
  · skip
    replace h7 := of_decide_eq_false h7
    refine .off rfl rfl <| .off rfl rfl <| .off rfl rfl <| .off rfl rfl <| .e (.pickF rfl rfl) rfl rfl <| .e (.assign rfl) rfl rfl ?_
    refine .nil <| .go <| .seq <| .seq <| .region <| .e (.fieldAddr fo77_2 rfl) rfl rfl ?_
    refine .e (.load ag75 rfl .here rfl) rfl rfl <| .nil <| .go <| .block <| .seq <| .region ?_
    refine .e (.eql rfl rfl) rfl rfl <| .e (.assign rfl) rfl rfl <| .nil <| .go ?_
    refine .split 15 rfl (fun h15 => ?_) (fun h15 => ?_)
    · skip
      replace h15 := of_decide_eq_true h15
      refine .cond_true rfl <| .region <| .e (.move rfl) rfl rfl <| .e (.move rfl) rfl rfl <| .off rfl rfl <| .off rfl rfl ?_
      refine .off rfl rfl <| .e (.pickF rfl rfl) rfl rfl <| .e (.move rfl) rfl rfl <| .off rfl rfl <| .off rfl rfl <| .off rfl rfl ?_
      refine .off rfl rfl <| .e (.pickF rfl rfl) rfl rfl <| .e (.assign rfl) rfl rfl <| .nil <| .blk_normal <| .go ?_
      refine .seq <| .seq <| .region <| .e (.move rfl) rfl rfl <| .e (.not rfl) rfl rfl <| .nil ?_
      refine .go <| .cond_true rfl <| .seq <| .region <| .e (.assign rfl) rfl rfl <| .nil ?_
      refine .go <| .ret <| .ret ?_
      refine .tail ?_
      refine Post.retE rfl rfl ?_
      refine congrArg (Value.int .i64) ?_
      unfold entWhy entOk
      first | (simp_all; done) | (simp_all; intros; omega) | (have k1 : ¬e.kind = 1 := (by omega); have k2 : ¬e.kind = 2 := (by omega); have k3 : ¬e.kind = 3 := (by omega); simp [k1, k2, k3]; done) | (simp_all; omega)
    · skip
      replace h15 := of_decide_eq_false h15
      refine .cond_false rfl <| .seq <| .region <| .e (.eql rfl rfl) rfl rfl <| .e (.assign rfl) rfl rfl <| .nil ?_
      refine .go ?_
      refine .split 29 rfl (fun h29 => ?_) (fun h29 => ?_)
      · skip
        replace h29 := of_decide_eq_true h29
        refine .cond_true rfl <| .region <| .e (.move rfl) rfl rfl <| .e (.move rfl) rfl rfl <| .off rfl rfl <| .off rfl rfl ?_
        refine .off rfl rfl <| .off rfl rfl <| .e (.pickF rfl rfl) rfl rfl <| .e (.assign rfl) rfl rfl <| .nil <| .blk_normal ?_
        refine .go <| .seq <| .seq <| .region <| .e (.move rfl) rfl rfl <| .e (.not rfl) rfl rfl ?_
        refine .nil <| .go <| .cond_true rfl <| .seq <| .region <| .e (.assign rfl) rfl rfl ?_
        refine .nil <| .go <| .ret <| .ret ?_
        refine .tail ?_
        refine Post.retE rfl rfl ?_
        refine congrArg (Value.int .i64) ?_
        unfold entWhy entOk
        first | (simp_all; done) | (simp_all; intros; omega) | (have k1 : ¬e.kind = 1 := (by omega); have k2 : ¬e.kind = 2 := (by omega); have k3 : ¬e.kind = 3 := (by omega); simp [k1, k2, k3]; done) | (simp_all; omega)
      · skip
        replace h29 := of_decide_eq_false h29
        refine .cond_false rfl <| .seq <| .region <| .e (.eql rfl rfl) rfl rfl <| .e (.assign rfl) rfl rfl <| .nil ?_
        refine .go ?_
        refine .split 38 rfl (fun h38 => ?_) (fun h38 => ?_)
        · skip
          replace h38 := of_decide_eq_true h38
          refine .cond_true rfl <| .region <| .e (.move rfl) rfl rfl <| .e (.move rfl) rfl rfl <| .off rfl rfl <| .off rfl rfl ?_
          refine .off rfl rfl <| .e (.pickF rfl rfl) rfl rfl <| .e (.move rfl) rfl rfl <| .off rfl rfl <| .off rfl rfl <| .off rfl rfl ?_
          refine .e (.pickF rfl rfl) rfl rfl <| .e (.assign rfl) rfl rfl <| .nil <| .blk_normal <| .go <| .seq ?_
          refine .seq <| .region <| .e (.move rfl) rfl rfl <| .e (.not rfl) rfl rfl <| .nil <| .go ?_
          refine .cond_true rfl <| .seq <| .region <| .e (.assign rfl) rfl rfl <| .nil <| .go ?_
          refine .ret <| .ret ?_
          refine .tail ?_
          refine Post.retE rfl rfl ?_
          refine congrArg (Value.int .i64) ?_
          unfold entWhy entOk
          first | (simp_all; done) | (simp_all; intros; omega) | (have k1 : ¬e.kind = 1 := (by omega); have k2 : ¬e.kind = 2 := (by omega); have k3 : ¬e.kind = 3 := (by omega); simp [k1, k2, k3]; done) | (simp_all; omega)
        · skip
          replace h38 := of_decide_eq_false h38
          refine .cond_false rfl <| .region <| .e (.assign rfl) rfl rfl <| .nil <| .blk_normal <| .go ?_
          refine .seq <| .seq <| .region <| .e (.move rfl) rfl rfl <| .e (.not rfl) rfl rfl <| .nil ?_
          refine .go <| .cond_true rfl <| .seq <| .region <| .e (.assign rfl) rfl rfl <| .nil ?_
          refine .go <| .ret <| .ret ?_
          refine .tail ?_
          refine Post.retE rfl rfl ?_
          refine congrArg (Value.int .i64) ?_
          unfold entWhy entOk
          first | (simp_all; done) | (simp_all; intros; omega) | (have k1 : ¬e.kind = 1 := (by omega); have k2 : ¬e.kind = 2 := (by omega); have k3 : ¬e.kind = 3 := (by omega); simp [k1, k2, k3]; done) | (simp_all; omega)

end Go.Proofs.Ytjoaccnfnniahaa

namespace Go.Proofs.Ytjoaccnfnniahaa
open Go.Sy
set_option linter.unusedSimpArgs false
set_option linter.unusedVariables false

theorem ent_zero' {e : Ent} : decide (entWhy e = 0) = entOk e := by unfold entWhy; cases entOk e <;> rfl
theorem ent_of {e : Ent} (h : entWhy e = 0) : entOk e = true := by rw [← ent_zero']; exact decide_eq_true h
theorem ent_no {e : Ent} (h : ¬entWhy e = 0) : entOk e = false := by rw [← ent_zero']; exact decide_eq_false h
def ent0 : Ent := ⟨0, 0, 0, ⟨#[]⟩, []⟩
theorem entD {l : List Ent} {k : Nat} (hk : k < l.length) : l.getD k ent0 = l[k] := by simp [hk]
def prevT (l : Lg) (k : Nat) : Int := if k = 0 then l.term else (l.ents.getD (k - 1) ent0).term
def eOk (l : Lg) (k : Nat) : Bool := entOk (l.ents.getD k ent0) && (decide ((l.ents.getD k ent0).index = l.base + (k : Int) + 1) && decide (prevT l k ≤ (l.ents.getD k ent0).term))
def logTo (l : Lg) (k : Nat) : Bool := decide (0 < l.base ∨ l.term = 0) && (List.range k).all (eOk l)
def logOk (l : Lg) : Bool := logTo l l.ents.length
def logWhy (l : Lg) : Int := if logOk l = true then 0 else 10
theorem logTo_succ (l : Lg) (k : Nat) : logTo l (k + 1) = (logTo l k && eOk l k) := by
  unfold logTo; rw [List.range_succ, List.all_append]; simp [Bool.and_assoc]
theorem logTo_bad {l : Lg} {k n : Nat} (hk : k < n) (h : eOk l k = false) : logTo l n = false := by
  unfold logTo
  have : (List.range n).all (eOk l) = false := by
    rw [Bool.eq_false_iff]; intro h2
    have := List.all_eq_true.1 h2 k (List.mem_range.2 hk)
    rw [h] at this; cases this
  rw [this]; simp
theorem prevT_succ {l : Lg} {k : Nat} (hk : k < l.ents.length) : prevT l (k + 1) = l.ents[k].term := by
  unfold prevT; rw [if_neg (by omega), show k + 1 - 1 = k by omega, entD hk]
def atT (l : Lg) (k : Nat) : Int := (l.base + (k : Int)) % 18446744073709551616
theorem at_zero {l : Lg} (h : U64 l.base) : l.base = atT l 0 := by unfold atT U64 at *; simp; omega
theorem at_succ (l : Lg) (k : Nat) : IntKind.u64.wrap (atT l k + 1) = atT l (k + 1) := by
  unfold atT
  simp [IntKind.wrap, IntKind.bits, IntKind.signed]
  omega
theorem ent_zero {e : Ent} : decide (entWhy e = 0) = entOk e := by unfold entWhy; cases entOk e <;> rfl
theorem entOk_index {e : Ent} (h : entOk e = true) : 0 < e.index := by
  unfold entOk at h
  simp only [Bool.and_eq_true, decide_eq_true_eq] at h
  exact h.1.1
theorem logTo_le {l : Lg} (hb : U64 l.base) (hu : ∀ j (hj : j < l.ents.length), U64 l.ents[j].index) {k : Nat} (hk : k ≤ l.ents.length) (h : logTo l k = true) : l.base + (k : Int) ≤ 18446744073709551615 := by
  unfold U64 at *
  cases k with
  | zero => omega
  | succ k =>
    rw [logTo_succ, Bool.and_eq_true] at h
    have h2 := h.2
    unfold eOk at h2
    simp only [Bool.and_eq_true, decide_eq_true_eq] at h2
    rw [entD (by omega)] at h2
    have := hu k (by omega)
    omega
theorem next_eq {l : Lg} {k : Nat} (hb : U64 l.base) (hu : ∀ j (hj : j < l.ents.length), U64 l.ents[j].index) (hk : k < l.ents.length) :
    (logTo l k && (decide (entWhy l.ents[k] = 0) && (decide (l.ents[k].index = atT l (k + 1)) && decide (l.ents[k].term ≥ prevT l k)))) = logTo l (k + 1) := by
  rw [logTo_succ, ent_zero]
  unfold eOk
  rw [entD hk]
  cases h : logTo l k
  · rfl
  · cases h2 : entOk l.ents[k]
    · rfl
    · have h3 := logTo_le hb hu (by omega) h
      have h4 := entOk_index h2
      have h5 := hu k hk
      have e : decide (l.ents[k].index = atT l (k + 1)) = decide (l.ents[k].index = l.base + (k : Int) + 1) := by
        refine decide_eq_decide.2 ?_
        unfold atT U64 at *
        omega
      rw [e]
theorem logWhy_bad {l : Lg} (h : logTo l l.ents.length = false) : 10 = logWhy l := by unfold logWhy logOk; rw [h]; rfl
theorem logWhy_ok {l : Lg} (h : logTo l l.ents.length = true) : 0 = logWhy l := by unfold logWhy logOk; rw [h]; rfl
theorem logTo_start {l : Lg} (h : ¬(0 < l.base ∨ l.term = 0)) (n : Nat) : logTo l n = false := by unfold logTo; rw [decide_eq_false h]; rfl

set_option maxHeartbeats 1000000 in
set_option maxRecDepth 20000 in
theorem lCheck_ok {I : Imm} {O : Own} {lc : List Value} {l : Lg} (hl : LgR I lc l) :
    Pure Try.prog 12 [.agg ⟨lc⟩] I O (.int .i64 (logWhy l)) := by
  have hl0 := hl
  obtain ⟨ev, rfl, hev⟩ := hl.ex
  have hev0 := hev
  obtain ⟨va, vcap, rfl, hv1, hv2, -⟩ := hev
  have hbase := hl0.base
  have hterm := hl0.term
  unfold U64 at hbase hterm
  have hu : ∀ j (hj : j < l.ents.length), U64 l.ents[j].index := fun j hj => by
    obtain ⟨_, _, _, _, _, hr⟩ := SlR.at_ hev0 hj
    exact hr.index
  refine Go.Sy.Does.enter Try.func12 rfl Try.ntmps12 rfl ?_
  refine .seq <| .region <| .on rfl <| .box rfl rfl rfl fun c1 _ _ => .e (.assign rfl) rfl rfl <| .nil <| .go ?_
  refine .seq ?_
  refine .draw [(c1, _)] mixed (.cons .here .nil) ?_
  refine .t 0 rfl (.fieldAddr fo43_0 rfl) rfl rfl (by kernel_rfl) <| .t 1 rfl (.load ag40 rfl .here rfl) rfl rfl (by kernel_rfl) <| .t 2 rfl (.fieldAddr fo43_1 rfl) rfl rfl (by kernel_rfl) <| .t 3 rfl (.load ag40 rfl .here rfl) rfl rfl (by kernel_rfl) <| .t 4 rfl (.assign rfl) rfl rfl (by kernel_rfl) <| .t 5 rfl (.assign rfl) rfl rfl (by kernel_rfl) ?_
  refine .done (by kernel_rfl) <| .go <| .seq <| .region <| .e (.move rfl) rfl rfl <| .e (.gtr rfl rfl) rfl rfl ?_
  refine .e (.move rfl) rfl rfl ?_
  refine .split 14 rfl (fun h14 => ?_) (fun h14 => ?_)
  · skip
    replace h14 := of_decide_eq_true h14
    refine .off rfl rfl <| .off rfl rfl <| .e (.pickT rfl rfl) rfl rfl <| .e (.assign rfl) rfl rfl <| .nil <| .go ?_
    refine .seq <| .seq <| .region <| .e (.fieldAddr fo43_2 rfl) rfl rfl <| .e (.load ag41 rfl .here rfl) rfl rfl <| .e (.len sl41 rfl rfl) rfl rfl ?_
    refine .e (.move rfl) rfl rfl <| .nil <| .go <| .block ?_
    refine .loopM [3, 4, 5, 7, 21, 22, 23, 24, 25, 26, 27, 28, 29, 30, 31, 32, 33, 34, 35, 36, 37, 38, 39, 40, 41, 42, 43, 44, 45, 46, 47] (fun k => l.ents.length - k) (fun k => k ≤ l.ents.length) (fun k => [(21, .int .i64 k), (3, .int .u64 (atT l k)), (4, .int .u64 (prevT l k)), (5, .bool (logTo l k))]) (fun _ => _) (fun _ => _) (0) (by omega) ⟨rfl, congrArg (fun x => some (Value.int .u64 x)) (at_zero hl0.base), rfl, congrArg (fun x => some (Value.bool x)) (by unfold logTo; simp [h14]), trivial⟩ rfl rfl ?_
    intro k hk
    refine .seq <| .region <| .e (.lss rfl rfl) rfl rfl <| .nil <| .go <| .seq ?_
    refine .split 22 rfl (fun h22 => ?_) (fun h22 => ?_)
    · skip
      replace h22 := of_decide_eq_true h22
      refine .cond_true rfl <| .skip <| .go <| .seq <| .block <| .seq ?_
      refine .region ?_
      obtain ⟨eb23, eo23, cs23, hd23, hat23, hr23⟩ := SlR.at_ hev0 (k := k) (by omega)
      cases hd23
      have he23 := hr23
      obtain ⟨mv23, rfl, hmv23⟩ := hr23.ex
      obtain ⟨ma23, mc23, rfl, -⟩ := hmv23
      have hix23 := he23.index
      have htm23 := he23.term
      unfold U64 at hix23 htm23
      refine .e (.indexAddrL sl41 rfl rfl rfl (by omega)) rfl rfl <| .e (.loadIA ag77 sz77 rfl hat23 rfl) rfl rfl <| .on rfl <| .alloc zr77 rfl fun c2 _ _ => .on rfl <| .storeW sz77 rfl rfl rfl rfl rfl rfl .here <| .nil <| .go ?_
      refine .seq <| .region <| .e (.move rfl) rfl rfl <| .e (.add rfl rfl (at_succ l k)) rfl rfl <| .e (.assign rfl) rfl rfl <| .nil ?_
      refine .go <| .seq <| .region <| .e (.move rfl) rfl rfl <| .e (.move rfl) rfl rfl ?_
      refine .split 28 rfl (fun h28 => ?_) (fun h28 => ?_)
      · skip
        refine .e (.loadW ag77 sz77 rfl .here rfl) rfl rfl <| .on rfl <| .callP cal26 rfl rfl rfl (wCheck_ok he23) <| .e (.eql rfl rfl) rfl rfl <| .e (.pickT rfl rfl) rfl rfl <| .e (.move rfl) rfl rfl ?_
        refine .split 33 rfl (fun h33 => ?_) (fun h33 => ?_)
        · skip
          replace h33 := of_decide_eq_true h33
          refine .e (.fieldAddr fo77_0 rfl) rfl rfl <| .e (.load ag40 rfl .here rfl) rfl rfl <| .e (.move rfl) rfl rfl <| .e (.eql rfl rfl) rfl rfl <| .e (.pickT rfl rfl) rfl rfl <| .e (.move rfl) rfl rfl ?_
          refine .split 39 rfl (fun h39 => ?_) (fun h39 => ?_)
          · skip
            replace h39 := of_decide_eq_true h39
            refine .e (.fieldAddr fo77_1 rfl) rfl rfl <| .e (.load ag40 rfl .here rfl) rfl rfl <| .e (.move rfl) rfl rfl <| .e (.geq rfl rfl) rfl rfl <| .e (.pickT rfl rfl) rfl rfl <| .e (.assign rfl) rfl rfl ?_
            refine .nil <| .go <| .region <| .e (.fieldAddr fo77_1 rfl) rfl rfl <| .e (.load ag40 rfl .here rfl) rfl rfl <| .e (.assign rfl) rfl rfl ?_
            refine .nil <| .blk_normal <| .go <| .region <| .e (.add rfl rfl (by first | exact wrap_succ (by omega) | exact IntWalk.i64_in _ (by omega) | exact rfl)) rfl rfl <| .e (.move rfl) rfl rfl ?_
            refine .nil ?_
            refine .tail ?_
            have ep := prevT_succ (l := l) (k := k) (by omega)
            exact .mid (k + 1) ⟨by omega, by omega⟩ ⟨rfl, rfl, congrArg (fun x => some (Value.int .u64 x)) ep.symm, congrArg (fun x => some (Value.bool x)) (by rw [← next_eq hl0.base hu (show k < l.ents.length by omega)]; simp [h28, h33, h39]), trivial⟩ rfl rfl (.pre 35 rfl (.app rfl .base))
          · skip
            replace h39 := of_decide_eq_false h39
            refine .off rfl rfl <| .off rfl rfl <| .off rfl rfl <| .off rfl rfl <| .e (.pickF rfl rfl) rfl rfl <| .e (.assign rfl) rfl rfl ?_
            refine .nil <| .go <| .region <| .e (.fieldAddr fo77_1 rfl) rfl rfl <| .e (.load ag40 rfl .here rfl) rfl rfl <| .e (.assign rfl) rfl rfl ?_
            refine .nil <| .blk_normal <| .go <| .region <| .e (.add rfl rfl (by first | exact wrap_succ (by omega) | exact IntWalk.i64_in _ (by omega) | exact rfl)) rfl rfl <| .e (.move rfl) rfl rfl ?_
            refine .nil ?_
            refine .tail ?_
            have ep := prevT_succ (l := l) (k := k) (by omega)
            exact .mid (k + 1) ⟨by omega, by omega⟩ ⟨rfl, rfl, congrArg (fun x => some (Value.int .u64 x)) ep.symm, congrArg (fun x => some (Value.bool x)) (by rw [← next_eq hl0.base hu (show k < l.ents.length by omega)]; simp [h28, h33, h39]), trivial⟩ rfl rfl (.pre 35 rfl (.app rfl .base))
        · skip
          replace h33 := of_decide_eq_false h33
          refine .off rfl rfl <| .off rfl rfl <| .off rfl rfl <| .off rfl rfl <| .e (.pickF rfl rfl) rfl rfl <| .e (.move rfl) rfl rfl ?_
          refine .off rfl rfl <| .off rfl rfl <| .off rfl rfl <| .off rfl rfl <| .e (.pickF rfl rfl) rfl rfl <| .e (.assign rfl) rfl rfl ?_
          refine .nil <| .go <| .region <| .e (.fieldAddr fo77_1 rfl) rfl rfl <| .e (.load ag40 rfl .here rfl) rfl rfl <| .e (.assign rfl) rfl rfl ?_
          refine .nil <| .blk_normal <| .go <| .region <| .e (.add rfl rfl (by first | exact wrap_succ (by omega) | exact IntWalk.i64_in _ (by omega) | exact rfl)) rfl rfl <| .e (.move rfl) rfl rfl ?_
          refine .nil ?_
          refine .tail ?_
          have ep := prevT_succ (l := l) (k := k) (by omega)
          exact .mid (k + 1) ⟨by omega, by omega⟩ ⟨rfl, rfl, congrArg (fun x => some (Value.int .u64 x)) ep.symm, congrArg (fun x => some (Value.bool x)) (by rw [← next_eq hl0.base hu (show k < l.ents.length by omega)]; simp [h28, h33]), trivial⟩ rfl rfl (.pre 34 rfl (.app rfl .base))
      · skip
        refine .off rfl rfl <| .off rfl rfl <| .off rfl rfl <| .e (.pickF rfl rfl) rfl rfl <| .e (.move rfl) rfl rfl <| .off rfl rfl ?_
        refine .off rfl rfl <| .off rfl rfl <| .off rfl rfl <| .e (.pickF rfl rfl) rfl rfl <| .e (.move rfl) rfl rfl <| .off rfl rfl ?_
        refine .off rfl rfl <| .off rfl rfl <| .off rfl rfl <| .e (.pickF rfl rfl) rfl rfl <| .e (.assign rfl) rfl rfl <| .nil ?_
        refine .go <| .region <| .e (.fieldAddr fo77_1 rfl) rfl rfl <| .e (.load ag40 rfl .here rfl) rfl rfl <| .e (.assign rfl) rfl rfl <| .nil ?_
        refine .blk_normal <| .go <| .region <| .e (.add rfl rfl (by first | exact wrap_succ (by omega) | exact IntWalk.i64_in _ (by omega) | exact rfl)) rfl rfl <| .e (.move rfl) rfl rfl <| .nil ?_
        refine .tail ?_
        have ep := prevT_succ (l := l) (k := k) (by omega)
        exact .mid (k + 1) ⟨by omega, by omega⟩ ⟨rfl, rfl, congrArg (fun x => some (Value.int .u64 x)) ep.symm, congrArg (fun x => some (Value.bool x)) (by rw [← next_eq hl0.base hu (show k < l.ents.length by omega)]; simp [h28]), trivial⟩ rfl rfl (.pre 33 rfl (.app rfl .base))
    · skip
      replace h22 := of_decide_eq_false h22
      refine .cond_false rfl <| .exit <| .exit <| .exit <| .blk_exit <| .go ?_
      refine .seq <| .seq <| .region <| .e (.move rfl) rfl rfl <| .e (.not rfl) rfl rfl <| .nil ?_
      refine .go ?_
      refine .split 49 rfl (fun h49 => ?_) (fun h49 => ?_)
      · skip
        refine .cond_true rfl <| .seq <| .region <| .e (.assign rfl) rfl rfl <| .nil <| .go ?_
        refine .ret <| .ret ?_
        refine .tail ?_
        refine Post.retE rfl rfl ?_
        exact congrArg (Value.int .i64) (logWhy_bad (by rw [← show k = l.ents.length by omega]; simpa using h49))
      · skip
        refine .cond_false rfl <| .skip <| .go <| .seq <| .region <| .e (.assign rfl) rfl rfl ?_
        refine .nil <| .go <| .ret ?_
        refine .tail ?_
        refine Post.retE rfl rfl ?_
        exact congrArg (Value.int .i64) (logWhy_ok (by rw [← show k = l.ents.length by omega]; simpa using h49))
  · skip
    replace h14 := of_decide_eq_false h14
    refine .e (.move rfl) rfl rfl <| .e (.eql rfl rfl) rfl rfl <| .e (.pickF rfl rfl) rfl rfl <| .e (.assign rfl) rfl rfl <| .nil <| .go ?_
    refine .seq <| .seq <| .region <| .e (.fieldAddr fo43_2 rfl) rfl rfl <| .e (.load ag41 rfl .here rfl) rfl rfl <| .e (.len sl41 rfl rfl) rfl rfl ?_
    refine .e (.move rfl) rfl rfl <| .nil <| .go <| .block ?_
    refine .loopM [3, 4, 5, 7, 21, 22, 23, 24, 25, 26, 27, 28, 29, 30, 31, 32, 33, 34, 35, 36, 37, 38, 39, 40, 41, 42, 43, 44, 45, 46, 47] (fun k => l.ents.length - k) (fun k => k ≤ l.ents.length) (fun k => [(21, .int .i64 k), (3, .int .u64 (atT l k)), (4, .int .u64 (prevT l k)), (5, .bool (logTo l k))]) (fun _ => _) (fun _ => _) (0) (by omega) ⟨rfl, congrArg (fun x => some (Value.int .u64 x)) (at_zero hl0.base), rfl, congrArg (fun x => some (Value.bool x)) (by unfold logTo; simp [h14]), trivial⟩ rfl rfl ?_
    intro k hk
    refine .seq <| .region <| .e (.lss rfl rfl) rfl rfl <| .nil <| .go <| .seq ?_
    refine .split 22 rfl (fun h22 => ?_) (fun h22 => ?_)
    · skip
      replace h22 := of_decide_eq_true h22
      refine .cond_true rfl <| .skip <| .go <| .seq <| .block <| .seq ?_
      refine .region ?_
      obtain ⟨eb23, eo23, cs23, hd23, hat23, hr23⟩ := SlR.at_ hev0 (k := k) (by omega)
      cases hd23
      have he23 := hr23
      obtain ⟨mv23, rfl, hmv23⟩ := hr23.ex
      obtain ⟨ma23, mc23, rfl, -⟩ := hmv23
      have hix23 := he23.index
      have htm23 := he23.term
      unfold U64 at hix23 htm23
      refine .e (.indexAddrL sl41 rfl rfl rfl (by omega)) rfl rfl <| .e (.loadIA ag77 sz77 rfl hat23 rfl) rfl rfl <| .on rfl <| .alloc zr77 rfl fun c3 _ _ => .on rfl <| .storeW sz77 rfl rfl rfl rfl rfl rfl .here <| .nil <| .go ?_
      refine .seq <| .region <| .e (.move rfl) rfl rfl <| .e (.add rfl rfl (at_succ l k)) rfl rfl <| .e (.assign rfl) rfl rfl <| .nil ?_
      refine .go <| .seq <| .region <| .e (.move rfl) rfl rfl <| .e (.move rfl) rfl rfl ?_
      refine .split 28 rfl (fun h28 => ?_) (fun h28 => ?_)
      · skip
        refine .e (.loadW ag77 sz77 rfl .here rfl) rfl rfl <| .on rfl <| .callP cal26 rfl rfl rfl (wCheck_ok he23) <| .e (.eql rfl rfl) rfl rfl <| .e (.pickT rfl rfl) rfl rfl <| .e (.move rfl) rfl rfl ?_
        refine .split 33 rfl (fun h33 => ?_) (fun h33 => ?_)
        · skip
          replace h33 := of_decide_eq_true h33
          refine .e (.fieldAddr fo77_0 rfl) rfl rfl <| .e (.load ag40 rfl .here rfl) rfl rfl <| .e (.move rfl) rfl rfl <| .e (.eql rfl rfl) rfl rfl <| .e (.pickT rfl rfl) rfl rfl <| .e (.move rfl) rfl rfl ?_
          refine .split 39 rfl (fun h39 => ?_) (fun h39 => ?_)
          · skip
            replace h39 := of_decide_eq_true h39
            refine .e (.fieldAddr fo77_1 rfl) rfl rfl <| .e (.load ag40 rfl .here rfl) rfl rfl <| .e (.move rfl) rfl rfl <| .e (.geq rfl rfl) rfl rfl <| .e (.pickT rfl rfl) rfl rfl <| .e (.assign rfl) rfl rfl ?_
            refine .nil <| .go <| .region <| .e (.fieldAddr fo77_1 rfl) rfl rfl <| .e (.load ag40 rfl .here rfl) rfl rfl <| .e (.assign rfl) rfl rfl ?_
            refine .nil <| .blk_normal <| .go <| .region <| .e (.add rfl rfl (by first | exact wrap_succ (by omega) | exact IntWalk.i64_in _ (by omega) | exact rfl)) rfl rfl <| .e (.move rfl) rfl rfl ?_
            refine .nil ?_
            refine .tail ?_
            have ep := prevT_succ (l := l) (k := k) (by omega)
            exact .mid (k + 1) ⟨by omega, by omega⟩ ⟨rfl, rfl, congrArg (fun x => some (Value.int .u64 x)) ep.symm, congrArg (fun x => some (Value.bool x)) (by rw [← next_eq hl0.base hu (show k < l.ents.length by omega)]; simp [h28, h33, h39]), trivial⟩ rfl rfl (.pre 35 rfl (.app rfl .base))
          · skip
            replace h39 := of_decide_eq_false h39
            refine .off rfl rfl <| .off rfl rfl <| .off rfl rfl <| .off rfl rfl <| .e (.pickF rfl rfl) rfl rfl <| .e (.assign rfl) rfl rfl ?_
            refine .nil <| .go <| .region <| .e (.fieldAddr fo77_1 rfl) rfl rfl <| .e (.load ag40 rfl .here rfl) rfl rfl <| .e (.assign rfl) rfl rfl ?_
            refine .nil <| .blk_normal <| .go <| .region <| .e (.add rfl rfl (by first | exact wrap_succ (by omega) | exact IntWalk.i64_in _ (by omega) | exact rfl)) rfl rfl <| .e (.move rfl) rfl rfl ?_
            refine .nil ?_
            refine .tail ?_
            have ep := prevT_succ (l := l) (k := k) (by omega)
            exact .mid (k + 1) ⟨by omega, by omega⟩ ⟨rfl, rfl, congrArg (fun x => some (Value.int .u64 x)) ep.symm, congrArg (fun x => some (Value.bool x)) (by rw [← next_eq hl0.base hu (show k < l.ents.length by omega)]; simp [h28, h33, h39]), trivial⟩ rfl rfl (.pre 35 rfl (.app rfl .base))
        · skip
          replace h33 := of_decide_eq_false h33
          refine .off rfl rfl <| .off rfl rfl <| .off rfl rfl <| .off rfl rfl <| .e (.pickF rfl rfl) rfl rfl <| .e (.move rfl) rfl rfl ?_
          refine .off rfl rfl <| .off rfl rfl <| .off rfl rfl <| .off rfl rfl <| .e (.pickF rfl rfl) rfl rfl <| .e (.assign rfl) rfl rfl ?_
          refine .nil <| .go <| .region <| .e (.fieldAddr fo77_1 rfl) rfl rfl <| .e (.load ag40 rfl .here rfl) rfl rfl <| .e (.assign rfl) rfl rfl ?_
          refine .nil <| .blk_normal <| .go <| .region <| .e (.add rfl rfl (by first | exact wrap_succ (by omega) | exact IntWalk.i64_in _ (by omega) | exact rfl)) rfl rfl <| .e (.move rfl) rfl rfl ?_
          refine .nil ?_
          refine .tail ?_
          have ep := prevT_succ (l := l) (k := k) (by omega)
          exact .mid (k + 1) ⟨by omega, by omega⟩ ⟨rfl, rfl, congrArg (fun x => some (Value.int .u64 x)) ep.symm, congrArg (fun x => some (Value.bool x)) (by rw [← next_eq hl0.base hu (show k < l.ents.length by omega)]; simp [h28, h33]), trivial⟩ rfl rfl (.pre 34 rfl (.app rfl .base))
      · skip
        refine .off rfl rfl <| .off rfl rfl <| .off rfl rfl <| .e (.pickF rfl rfl) rfl rfl <| .e (.move rfl) rfl rfl <| .off rfl rfl ?_
        refine .off rfl rfl <| .off rfl rfl <| .off rfl rfl <| .e (.pickF rfl rfl) rfl rfl <| .e (.move rfl) rfl rfl <| .off rfl rfl ?_
        refine .off rfl rfl <| .off rfl rfl <| .off rfl rfl <| .e (.pickF rfl rfl) rfl rfl <| .e (.assign rfl) rfl rfl <| .nil ?_
        refine .go <| .region <| .e (.fieldAddr fo77_1 rfl) rfl rfl <| .e (.load ag40 rfl .here rfl) rfl rfl <| .e (.assign rfl) rfl rfl <| .nil ?_
        refine .blk_normal <| .go <| .region <| .e (.add rfl rfl (by first | exact wrap_succ (by omega) | exact IntWalk.i64_in _ (by omega) | exact rfl)) rfl rfl <| .e (.move rfl) rfl rfl <| .nil ?_
        refine .tail ?_
        have ep := prevT_succ (l := l) (k := k) (by omega)
        exact .mid (k + 1) ⟨by omega, by omega⟩ ⟨rfl, rfl, congrArg (fun x => some (Value.int .u64 x)) ep.symm, congrArg (fun x => some (Value.bool x)) (by rw [← next_eq hl0.base hu (show k < l.ents.length by omega)]; simp [h28]), trivial⟩ rfl rfl (.pre 33 rfl (.app rfl .base))
    · skip
      replace h22 := of_decide_eq_false h22
      refine .cond_false rfl <| .exit <| .exit <| .exit <| .blk_exit <| .go ?_
      refine .seq <| .seq <| .region <| .e (.move rfl) rfl rfl <| .e (.not rfl) rfl rfl <| .nil ?_
      refine .go ?_
      refine .split 49 rfl (fun h49 => ?_) (fun h49 => ?_)
      · skip
        refine .cond_true rfl <| .seq <| .region <| .e (.assign rfl) rfl rfl <| .nil <| .go ?_
        refine .ret <| .ret ?_
        refine .tail ?_
        refine Post.retE rfl rfl ?_
        exact congrArg (Value.int .i64) (logWhy_bad (by rw [← show k = l.ents.length by omega]; simpa using h49))
      · skip
        refine .cond_false rfl <| .skip <| .go <| .seq <| .region <| .e (.assign rfl) rfl rfl ?_
        refine .nil <| .go <| .ret ?_
        refine .tail ?_
        refine Post.retE rfl rfl ?_
        exact congrArg (Value.int .i64) (logWhy_ok (by rw [← show k = l.ents.length by omega]; simpa using h49))

end Go.Proofs.Ytjoaccnfnniahaa

namespace Go.Proofs.Ytjoaccnfnniahaa
open Go.Sy
set_option linter.unusedSimpArgs false
set_option linter.unusedVariables false

theorem logOk_why {l : Lg} (h : logWhy l = 0) : logTo l l.ents.length = true := by
  unfold logWhy logOk at h
  cases h2 : logTo l l.ents.length
  · rw [h2] at h; cases h
  · rfl
theorem logNo_why {l : Lg} (h : ¬logWhy l = 0) : logOk l = false ∧ logWhy l = 10 := by
  unfold logWhy at *
  cases h2 : logOk l
  · exact ⟨rfl, rfl⟩
  · rw [h2] at h; exact absurd rfl h
theorem logTo_mono {l : Lg} {k n : Nat} (hk : k ≤ n) (h : logTo l n = true) : logTo l k = true := by
  unfold logTo at *
  rw [Bool.and_eq_true] at *
  exact ⟨h.1, List.all_eq_true.2 fun j hj => List.all_eq_true.1 h.2 j (List.mem_range.2 (by have := List.mem_range.1 hj; omega))⟩
theorem ent_ix {l : Lg} {n j : Nat} (h : logTo l n = true) (hj : j < n) (hl : j < l.ents.length) : l.ents[j].index = l.base + (j : Int) + 1 := by
  have h2 := logTo_mono (show j + 1 ≤ n by omega) h
  rw [logTo_succ, Bool.and_eq_true] at h2
  have h3 := h2.2
  unfold eOk at h3
  simp only [Bool.and_eq_true, decide_eq_true_eq] at h3
  rw [entD hl] at h3
  exact h3.2.1
def endOf (l : Lg) : Int := l.base + (l.ents.length : Int)
def termAt (l : Lg) (i : Int) : Int := if i = l.base then l.term else (l.ents.getD (i - l.base - 1).toNat ent0).term
theorem termAt_end (l : Lg) : termAt l (endOf l) = prevT l l.ents.length := by
  unfold termAt endOf prevT
  by_cases h : l.ents.length = 0
  · rw [if_pos (by omega), if_pos h]
  · rw [if_neg (by omega), if_neg h]
    congr 2
    omega
theorem end_wrap (l : Lg) : IntKind.u64.wrap (l.base + IntKind.u64.wrap (l.ents.length : Int)) = atT l l.ents.length := by
  unfold atT
  simp [IntKind.wrap, IntKind.bits, IntKind.signed]
theorem at_end {l : Lg} (hb : U64 l.base) (h : endOf l ≤ 18446744073709551615) : atT l l.ents.length = endOf l := by unfold atT endOf U64 at *; omega
def endR (l : Lg) : Int × Int × Int := if logOk l = true then (endOf l, prevT l l.ents.length, 0) else (0, 0, 10)
def tripV (p : Int × Int × Int) : Value := .tuple ⟨[.int .u64 p.1, .int .u64 p.2.1, .int .i64 p.2.2]⟩
theorem tripV_eq {p : Int × Int × Int} {a b c : Int} (h : p = (a, b, c)) : Value.tuple ⟨[.int .u64 a, .int .u64 b, .int .i64 c]⟩ = tripV p := by subst h; rfl
theorem endR_no {l : Lg} {w : Int} (h : ¬logWhy l = 0) (hw : w = 10) : endR l = (0, 0, w) := by subst hw; unfold endR; rw [(logNo_why h).1]; rfl
theorem endR_yes {l : Lg} (h : logWhy l = 0) : endR l = (endOf l, prevT l l.ents.length, 0) := by unfold endR logOk; rw [logOk_why h]; rfl
def termR (l : Lg) (i : Int) : Int × Int := if logOk l = false then (0, 10) else if i < l.base then (0, 15) else if endOf l < i then (0, 6) else (termAt l i, 0)
def twoV (p : Int × Int) : Value := .tuple ⟨[.int .u64 p.1, .int .i64 p.2]⟩
theorem twoV_eq {p : Int × Int} {a b : Int} (h : p = (a, b)) : Value.tuple ⟨[.int .u64 a, .int .i64 b]⟩ = twoV p := by subst h; rfl
theorem termR_no {l : Lg} {i w : Int} (h : ¬logWhy l = 0) (hw : w = 10) : termR l i = (0, w) := by subst hw; unfold termR; rw [(logNo_why h).1]; rfl
theorem termR_in {l : Lg} {i : Int} (h : logWhy l = 0) : termR l i = if i < l.base then (0, 15) else if endOf l < i then (0, 6) else (termAt l i, 0) := by
  unfold termR logOk; rw [logOk_why h]; rfl
def newR (l : Lg) (i t : Int) : Bool × Int := if logOk l = false then (false, 10) else (decide (prevT l l.ents.length < t ∨ (t = prevT l l.ents.length ∧ endOf l ≤ i)), 0)
def btV (p : Bool × Int) : Value := .tuple ⟨[.bool p.1, .int .i64 p.2]⟩
theorem btV_eq {p : Bool × Int} {a : Bool} {b : Int} (h : p = (a, b)) : Value.tuple ⟨[.bool a, .int .i64 b]⟩ = btV p := by subst h; rfl
theorem newR_no {l : Lg} {i t w : Int} (h : ¬logWhy l = 0) (hw : w = 10) : newR l i t = (false, w) := by subst hw; unfold newR; rw [(logNo_why h).1]; rfl
theorem newR_yes {l : Lg} {i t : Int} {b : Bool} (h : logWhy l = 0) (hb : b = decide (prevT l l.ents.length < t ∨ (t = prevT l l.ents.length ∧ endOf l ≤ i))) : newR l i t = (b, 0) := by
  subst hb; unfold newR logOk; rw [logOk_why h]; rfl

set_option maxHeartbeats 1000000 in
set_option maxRecDepth 20000 in
theorem lend_ok {I : Imm} {O : Own} {lc : List Value} {l : Lg} (hl : LgR I lc l) :
    Pure Try.prog 27 [.agg ⟨lc⟩] I O (.int .u64 (atT l l.ents.length)) := by
  have hl0 := hl
  obtain ⟨ev, rfl, hev⟩ := hl.ex
  have hev0 := hev
  obtain ⟨va, vcap, rfl, hv1, hv2, -⟩ := hev
  have hbase := hl0.base
  have hterm := hl0.term
  unfold U64 at hbase hterm
  refine Go.Sy.Does.enter Try.func27 rfl Try.ntmps27 rfl ?_
  refine .seq <| .region <| .on rfl <| .box rfl rfl rfl fun c1 _ _ => .e (.assign rfl) rfl rfl <| .nil <| .go ?_
  refine .seq <| .region <| .e (.fieldAddr fo43_0 rfl) rfl rfl <| .e (.load ag40 rfl .here rfl) rfl rfl <| .e (.fieldAddr fo43_2 rfl) rfl rfl <| .e (.load ag41 rfl .here rfl) rfl rfl ?_
  refine .e (.len sl41 rfl rfl) rfl rfl <| .e (.conv Try.underlying3 Try.underlying40 rfl) rfl rfl <| .e (.add rfl rfl (end_wrap l)) rfl rfl <| .e (.assign rfl) rfl rfl <| .nil <| .go ?_
  refine .ret ?_
  refine .tail ?_
  refine Post.retE rfl rfl ?_
  rfl

set_option maxHeartbeats 1000000 in
set_option maxRecDepth 20000 in
theorem lterm_ok {I : Imm} {O : Own} {lc : List Value} {l : Lg} (hl : LgR I lc l) {i : Int} (h1 : l.base ≤ i) (h2 : i ≤ endOf l) :
    Pure Try.prog 28 [.agg ⟨lc⟩, .int .u64 i] I O (.int .u64 (termAt l i)) := by
  have hl0 := hl
  obtain ⟨ev, rfl, hev⟩ := hl.ex
  have hev0 := hev
  obtain ⟨va, vcap, rfl, hv1, hv2, -⟩ := hev
  have hbase := hl0.base
  have hterm := hl0.term
  unfold U64 at hbase hterm
  unfold endOf at h2
  refine Go.Sy.Does.enter Try.func28 rfl Try.ntmps28 rfl ?_
  refine .seq <| .region <| .on rfl <| .box rfl rfl rfl fun c1 _ _ => .e (.assign rfl) rfl rfl <| .nil <| .go ?_
  refine .seq <| .seq <| .region <| .e (.move rfl) rfl rfl <| .e (.fieldAddr fo43_0 rfl) rfl rfl <| .e (.load ag40 rfl .here rfl) rfl rfl ?_
  refine .e (.eql rfl rfl) rfl rfl <| .nil <| .go ?_
  refine .split 8 rfl (fun h8 => ?_) (fun h8 => ?_)
  · skip
    replace h8 := of_decide_eq_true h8
    refine .cond_true rfl <| .seq <| .region <| .e (.fieldAddr fo43_1 rfl) rfl rfl <| .e (.load ag40 rfl .here rfl) rfl rfl <| .e (.assign rfl) rfl rfl ?_
    refine .nil <| .go <| .ret <| .ret ?_
    refine .tail ?_
    refine Post.retE rfl rfl ?_
    refine congrArg (Value.int .u64) ?_
    unfold termAt
    rw [if_pos h8]
  · skip
    replace h8 := of_decide_eq_false h8
    have hlen := hl0.base
    refine .cond_false rfl <| .skip <| .go <| .seq <| .region <| .e (.fieldAddr fo43_2 rfl) rfl rfl ?_
    refine .e (.load ag41 rfl .here rfl) rfl rfl <| .e (.move rfl) rfl rfl <| .e (.fieldAddr fo43_0 rfl) rfl rfl <| .e (.load ag40 rfl .here rfl) rfl rfl <| .e (.sub rfl rfl (IntWalk.u64_in _ (by omega))) rfl rfl <| .e (.sub rfl rfl (IntWalk.u64_in _ (by omega))) rfl rfl ?_
    obtain ⟨eb18, eo18, cs18, hd18, hat18, hr18⟩ := SlR.at_ hev0 (k := (i - l.base - 1).toNat) (by omega)
    cases hd18
    have he18 := hr18
    obtain ⟨mv18, rfl, hmv18⟩ := hr18.ex
    obtain ⟨ma18, mc18, rfl, -⟩ := hmv18
    refine .e (.indexAddrL sl41 rfl rfl (by omega) (by omega)) rfl rfl <| .e (.fieldAddr fo77_1 rfl) rfl rfl <| .e (.loadI ag40 rfl (hat18.cell (j := 1) rfl)) rfl rfl <| .e (.assign rfl) rfl rfl <| .nil <| .go ?_
    refine .ret ?_
    refine .tail ?_
    refine Post.retE rfl rfl ?_
    refine congrArg (Value.int .u64) ?_
    unfold termAt
    rw [if_neg h8, entD (show (i - l.base - 1).toNat < l.ents.length by omega)]

set_option maxHeartbeats 1000000 in
set_option maxRecDepth 20000 in
theorem lEnd_ok {I : Imm} {O : Own} {lc : List Value} {l : Lg} (hl : LgR I lc l) :
    Pure Try.prog 13 [.agg ⟨lc⟩] I O (tripV (endR l)) := by
  have hl0 := hl
  obtain ⟨ev, rfl, hev⟩ := hl.ex
  have hev0 := hev
  obtain ⟨va, vcap, rfl, hv1, hv2, -⟩ := hev
  have hbase := hl0.base
  have hterm := hl0.term
  unfold U64 at hbase hterm
  have hu : ∀ j (hj : j < l.ents.length), U64 l.ents[j].index := fun j hj => by
    obtain ⟨_, _, _, _, _, hr⟩ := SlR.at_ hev0 hj
    exact hr.index
  refine Go.Sy.Does.enter Try.func13 rfl Try.ntmps13 rfl ?_
  refine .seq <| .region <| .on rfl <| .box rfl rfl rfl fun c1 _ _ => .e (.assign rfl) rfl rfl <| .e (.assign rfl) rfl rfl <| .e (.assign rfl) rfl rfl ?_
  refine .nil <| .go <| .seq <| .seq <| .region <| .e (.loadW ag43 sz43 rfl .here rfl) rfl rfl ?_
  refine .on rfl <| .callP cal12 rfl rfl rfl (lCheck_ok hl0) <| .e (.assign rfl) rfl rfl <| .nil <| .go <| .seq <| .region ?_
  refine .e (.move rfl) rfl rfl <| .e (.neq rfl rfl) rfl rfl <| .nil <| .go ?_
  refine .split 9 rfl (fun h9 => ?_) (fun h9 => ?_)
  · skip
    first | replace h9 := of_decide_eq_false ((Bool.not_eq_true' _).mp h9) | replace h9 := of_decide_eq_false (by simpa using h9)
    refine .cond_true rfl <| .seq <| .region <| .e (.move rfl) rfl rfl <| .e (.assign rfl) rfl rfl <| .e (.assign rfl) rfl rfl ?_
    refine .e (.assign rfl) rfl rfl <| .nil <| .go <| .ret <| .ret ?_
    refine Post.retsE rfl (.tmp rfl (.tmp rfl (.tmp rfl .nil))) rfl (fun w h => h.tail) ?_
    exact tripV_eq (endR_no h9 (logNo_why h9).2)
  · skip
    first | replace h9 := of_decide_eq_true ((Bool.not_eq_false' _).mp h9) | replace h9 := of_decide_eq_true (by simpa using h9)
    have hok := logOk_why h9
    have hle := logTo_le hl0.base hu (Nat.le_refl _) hok
    have hae := at_end hl0.base (show endOf l ≤ 18446744073709551615 by unfold endOf; omega)
    refine .cond_false rfl <| .skip <| .go <| .seq ?_
    refine .draw [(c1, _)] mixed (.cons .here .nil) ?_
    refine .t 0 rfl (.loadW ag43 sz43 rfl .here rfl) rfl rfl (by kernel_rfl) <| .t 2 rfl (.loadW ag43 sz43 rfl .here rfl) rfl rfl (by kernel_rfl) <| .t 3 rfl (.loadW ag43 sz43 rfl .here rfl) rfl rfl (by kernel_rfl) <| .one (i := 1) (by kernel_rfl) rfl rfl <| .callP cal27 rfl rfl rfl (lend_ok hl0) ?_
    refine ⟨(.cons .here .nil), Imm.le_refl _, ?_⟩
    refine .one (i := 4) (by kernel_rfl) rfl rfl <| .callP cal27 rfl rfl rfl (lend_ok hl0) ?_
    refine ⟨(.cons .here .nil), Imm.le_refl _, ?_⟩
    refine .one (i := 5) (by kernel_rfl) rfl rfl <| .callP cal28 rfl rfl rfl (lterm_ok hl0 (by rw [hae]; unfold endOf; omega) (by omega)) ?_
    refine ⟨(.cons .here .nil), Imm.le_refl _, ?_⟩
    refine .t 6 rfl (.assign rfl) rfl rfl (by kernel_rfl) <| .t 7 rfl (.assign rfl) rfl rfl (by kernel_rfl) <| .t 8 rfl (.assign rfl) rfl rfl (by kernel_rfl) <| .done (by kernel_rfl) <| .go <| .ret ?_
    refine Post.retsE rfl (.tmp rfl (.tmp rfl (.tmp rfl .nil))) rfl (fun w h => h.tail) ?_
    exact tripV_eq ((endR_yes h9).trans (by rw [hae, termAt_end]))

end Go.Proofs.Ytjoaccnfnniahaa
