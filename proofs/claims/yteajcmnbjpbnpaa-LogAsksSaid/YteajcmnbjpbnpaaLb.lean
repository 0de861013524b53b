/- Walks of functions over a symbolic memory, printed by a program of the session. -/
import Derived.Test.YteajcmnbjpbnpaaLa
namespace Go.Proofs.Yteajcmnbjpbnpaa
open Go.Sy
set_option linter.unusedSimpArgs false
set_option linter.unusedVariables false

theorem ent_zero' {e : Ent} : decide (entWhy e = 0) = entOk e := by unfold entWhy; cases entOk e <;> rfl
theorem ent_of {e : Ent} (h : entWhy e = 0) : entOk e = true := by rw [← ent_zero']; exact decide_eq_true h
theorem ent_no {e : Ent} (h : ¬entWhy e = 0) : entOk e = false := by rw [← ent_zero']; exact decide_eq_false h
def ent0 : Ent := ⟨0, 0, 0, ⟨#[]⟩, []⟩
theorem entD {l : List Ent} {k : Nat} (hk : k < l.length) : l.getD k ent0 = l[k] := by simp [hk]
def prevT (l : Lg) (k : Nat) : Int := if k = 0 then l.term else (l.ents.getD (k - 1) ent0).term
def eOk (l : Lg) (k : Nat) : Bool := entOk (l.ents.getD k ent0) && (decide ((l.ents.getD k ent0).index = l.base + (k : Int) + 1) && decide (prevT l k ≤ (l.ents.getD k ent0).term))
def logTo (l : Lg) (k : Nat) : Bool := decide (0 < l.base ∨ l.term = 0) && (List.range k).all (eOk l)
def logOk (l : Lg) : Bool := logTo l l.ents.length
def logWhy (l : Lg) : Int := if logOk l = true then 0 else 10
theorem logTo_succ (l : Lg) (k : Nat) : logTo l (k + 1) = (logTo l k && eOk l k) := by
  unfold logTo; rw [List.range_succ, List.all_append]; simp [Bool.and_assoc]
theorem logTo_bad {l : Lg} {k n : Nat} (hk : k < n) (h : eOk l k = false) : logTo l n = false := by
  unfold logTo
  have : (List.range n).all (eOk l) = false := by
    rw [Bool.eq_false_iff]; intro h2
    have := List.all_eq_true.1 h2 k (List.mem_range.2 hk)
    rw [h] at this; cases this
  rw [this]; simp
theorem prevT_succ {l : Lg} {k : Nat} (hk : k < l.ents.length) : prevT l (k + 1) = l.ents[k].term := by
  unfold prevT; rw [if_neg (by omega), show k + 1 - 1 = k by omega, entD hk]
def atT (l : Lg) (k : Nat) : Int := (l.base + (k : Int)) % 18446744073709551616
theorem at_zero {l : Lg} (h : U64 l.base) : l.base = atT l 0 := by unfold atT U64 at *; simp; omega
theorem at_succ (l : Lg) (k : Nat) : IntKind.u64.wrap (atT l k + 1) = atT l (k + 1) := by
  unfold atT
  simp [IntKind.wrap, IntKind.bits, IntKind.signed]
  omega
theorem ent_zero {e : Ent} : decide (entWhy e = 0) = entOk e := by unfold entWhy; cases entOk e <;> rfl
theorem entOk_index {e : Ent} (h : entOk e = true) : 0 < e.index := by
  unfold entOk at h
  simp only [Bool.and_eq_true, decide_eq_true_eq] at h
  exact h.1.1
theorem logTo_le {l : Lg} (hb : U64 l.base) (hu : ∀ j (hj : j < l.ents.length), U64 l.ents[j].index) {k : Nat} (hk : k ≤ l.ents.length) (h : logTo l k = true) : l.base + (k : Int) ≤ 18446744073709551615 := by
  unfold U64 at *
  cases k with
  | zero => omega
  | succ k =>
    rw [logTo_succ, Bool.and_eq_true] at h
    have h2 := h.2
    unfold eOk at h2
    simp only [Bool.and_eq_true, decide_eq_true_eq] at h2
    rw [entD (by omega)] at h2
    have := hu k (by omega)
    omega
theorem next_eq {l : Lg} {k : Nat} (hb : U64 l.base) (hu : ∀ j (hj : j < l.ents.length), U64 l.ents[j].index) (hk : k < l.ents.length) :
    (logTo l k && (decide (entWhy l.ents[k] = 0) && (decide (l.ents[k].index = atT l (k + 1)) && decide (l.ents[k].term ≥ prevT l k)))) = logTo l (k + 1) := by
  rw [logTo_succ, ent_zero]
  unfold eOk
  rw [entD hk]
  cases h : logTo l k
  · rfl
  · cases h2 : entOk l.ents[k]
    · rfl
    · have h3 := logTo_le hb hu (by omega) h
      have h4 := entOk_index h2
      have h5 := hu k hk
      have e : decide (l.ents[k].index = atT l (k + 1)) = decide (l.ents[k].index = l.base + (k : Int) + 1) := by
        refine decide_eq_decide.2 ?_
        unfold atT U64 at *
        omega
      rw [e]
theorem logWhy_bad {l : Lg} (h : logTo l l.ents.length = false) : 10 = logWhy l := by unfold logWhy logOk; rw [h]; rfl
theorem logWhy_ok {l : Lg} (h : logTo l l.ents.length = true) : 0 = logWhy l := by unfold logWhy logOk; rw [h]; rfl
theorem logTo_start {l : Lg} (h : ¬(0 < l.base ∨ l.term = 0)) (n : Nat) : logTo l n = false := by unfold logTo; rw [decide_eq_false h]; rfl

set_option maxHeartbeats 1000000 in
set_option maxRecDepth 20000 in
theorem lCheck_ok {I : Imm} {O : Own} {lc : List Value} {l : Lg} (hl : LgR I lc l) :
    Pure Try.prog 18 [.agg ⟨lc⟩] I O (.int .i64 (logWhy l)) := by
  have hl0 := hl
  obtain ⟨ev, rfl, hev⟩ := hl.ex
  have hev0 := hev
  obtain ⟨va, vcap, rfl, hv1, hv2, -⟩ := hev
  have hbase := hl0.base
  have hterm := hl0.term
  unfold U64 at hbase hterm
  have hu : ∀ j (hj : j < l.ents.length), U64 l.ents[j].index := fun j hj => by
    obtain ⟨_, _, _, _, _, hr⟩ := SlR.at_ hev0 hj
    exact hr.index
  refine Go.Sy.Does.enter Try.func18 rfl Try.ntmps18 rfl ?_
  refine .seq <| .region <| .on rfl <| .box rfl rfl rfl fun c1 _ _ => .e (.assign rfl) rfl rfl <| .nil <| .go ?_
  refine .seq ?_
  refine .draw [(c1, _)] mixed (.cons .here .nil) ?_
  refine .t 0 rfl (.fieldAddr fo25_0 rfl) rfl rfl (by kernel_rfl) <| .t 1 rfl (.load ag22 rfl .here rfl) rfl rfl (by kernel_rfl) <| .t 2 rfl (.fieldAddr fo25_1 rfl) rfl rfl (by kernel_rfl) <| .t 3 rfl (.load ag22 rfl .here rfl) rfl rfl (by kernel_rfl) <| .t 4 rfl (.assign rfl) rfl rfl (by kernel_rfl) <| .t 5 rfl (.assign rfl) rfl rfl (by kernel_rfl) ?_
  refine .done (by kernel_rfl) <| .go <| .seq <| .region <| .e (.move rfl) rfl rfl <| .e (.gtr rfl rfl) rfl rfl ?_
  refine .e (.move rfl) rfl rfl ?_
  refine .split 14 rfl (fun h14 => ?_) (fun h14 => ?_)
  · skip
    replace h14 := of_decide_eq_true h14
    refine .off rfl rfl <| .off rfl rfl <| .e (.pickT rfl rfl) rfl rfl <| .e (.assign rfl) rfl rfl <| .nil <| .go ?_
    refine .seq <| .seq <| .region <| .e (.fieldAddr fo25_2 rfl) rfl rfl <| .e (.load ag23 rfl .here rfl) rfl rfl <| .e (.len sl23 rfl rfl) rfl rfl ?_
    refine .e (.move rfl) rfl rfl <| .nil <| .go <| .block ?_
    refine .loopM [3, 4, 5, 7, 21, 22, 23, 24, 25, 26, 27, 28, 29, 30, 31, 32, 33, 34, 35, 36, 37, 38, 39, 40, 41, 42, 43, 44, 45, 46, 47] (fun k => l.ents.length - k) (fun k => k ≤ l.ents.length) (fun k => [(21, .int .i64 k), (3, .int .u64 (atT l k)), (4, .int .u64 (prevT l k)), (5, .bool (logTo l k))]) (fun _ => _) (fun _ => _) (0) (by omega) ⟨rfl, congrArg (fun x => some (Value.int .u64 x)) (at_zero hl0.base), rfl, congrArg (fun x => some (Value.bool x)) (by unfold logTo; simp [h14]), trivial⟩ rfl rfl ?_
    intro k hk
    refine .seq <| .region <| .e (.lss rfl rfl) rfl rfl <| .nil <| .go <| .seq ?_
    refine .split 22 rfl (fun h22 => ?_) (fun h22 => ?_)
    · skip
      replace h22 := of_decide_eq_true h22
      refine .cond_true rfl <| .skip <| .go <| .seq <| .block <| .seq ?_
      refine .region ?_
      obtain ⟨eb23, eo23, cs23, hd23, hat23, hr23⟩ := SlR.at_ hev0 (k := k) (by omega)
      cases hd23
      have he23 := hr23
      obtain ⟨mv23, rfl, hmv23⟩ := hr23.ex
      obtain ⟨ma23, mc23, rfl, -⟩ := hmv23
      have hix23 := he23.index
      have htm23 := he23.term
      unfold U64 at hix23 htm23
      refine .e (.indexAddrL sl23 rfl rfl rfl (by omega)) rfl rfl <| .e (.loadIA ag41 sz41 rfl hat23 rfl) rfl rfl <| .on rfl <| .alloc zr41 rfl fun c2 _ _ => .on rfl <| .storeW sz41 rfl rfl rfl rfl rfl rfl .here <| .nil <| .go ?_
      refine .seq <| .region <| .e (.move rfl) rfl rfl <| .e (.add rfl rfl (at_succ l k)) rfl rfl <| .e (.assign rfl) rfl rfl <| .nil ?_
      refine .go <| .seq <| .region <| .e (.move rfl) rfl rfl <| .e (.move rfl) rfl rfl ?_
      refine .split 28 rfl (fun h28 => ?_) (fun h28 => ?_)
      · skip
        refine .e (.loadW ag41 sz41 rfl .here rfl) rfl rfl <| .on rfl <| .callP cal41 rfl rfl rfl (wCheck_ok he23) <| .e (.eql rfl rfl) rfl rfl <| .e (.pickT rfl rfl) rfl rfl <| .e (.move rfl) rfl rfl ?_
        refine .split 33 rfl (fun h33 => ?_) (fun h33 => ?_)
        · skip
          replace h33 := of_decide_eq_true h33
          refine .e (.fieldAddr fo41_0 rfl) rfl rfl <| .e (.load ag22 rfl .here rfl) rfl rfl <| .e (.move rfl) rfl rfl <| .e (.eql rfl rfl) rfl rfl <| .e (.pickT rfl rfl) rfl rfl <| .e (.move rfl) rfl rfl ?_
          refine .split 39 rfl (fun h39 => ?_) (fun h39 => ?_)
          · skip
            replace h39 := of_decide_eq_true h39
            refine .e (.fieldAddr fo41_1 rfl) rfl rfl <| .e (.load ag22 rfl .here rfl) rfl rfl <| .e (.move rfl) rfl rfl <| .e (.geq rfl rfl) rfl rfl <| .e (.pickT rfl rfl) rfl rfl <| .e (.assign rfl) rfl rfl ?_
            refine .nil <| .go <| .region <| .e (.fieldAddr fo41_1 rfl) rfl rfl <| .e (.load ag22 rfl .here rfl) rfl rfl <| .e (.assign rfl) rfl rfl ?_
            refine .nil <| .blk_normal <| .go <| .region <| .e (.add rfl rfl (by first | exact wrap_succ (by omega) | exact IntWalk.i64_in _ (by omega) | exact rfl)) rfl rfl <| .e (.move rfl) rfl rfl ?_
            refine .nil ?_
            refine .tail ?_
            have ep := prevT_succ (l := l) (k := k) (by omega)
            exact .mid (k + 1) ⟨by omega, by omega⟩ ⟨rfl, rfl, congrArg (fun x => some (Value.int .u64 x)) ep.symm, congrArg (fun x => some (Value.bool x)) (by rw [← next_eq hl0.base hu (show k < l.ents.length by omega)]; simp [h28, h33, h39]), trivial⟩ rfl rfl (.pre 35 rfl (.app rfl .base))
          · skip
            replace h39 := of_decide_eq_false h39
            refine .off rfl rfl <| .off rfl rfl <| .off rfl rfl <| .off rfl rfl <| .e (.pickF rfl rfl) rfl rfl <| .e (.assign rfl) rfl rfl ?_
            refine .nil <| .go <| .region <| .e (.fieldAddr fo41_1 rfl) rfl rfl <| .e (.load ag22 rfl .here rfl) rfl rfl <| .e (.assign rfl) rfl rfl ?_
            refine .nil <| .blk_normal <| .go <| .region <| .e (.add rfl rfl (by first | exact wrap_succ (by omega) | exact IntWalk.i64_in _ (by omega) | exact rfl)) rfl rfl <| .e (.move rfl) rfl rfl ?_
            refine .nil ?_
            refine .tail ?_
            have ep := prevT_succ (l := l) (k := k) (by omega)
            exact .mid (k + 1) ⟨by omega, by omega⟩ ⟨rfl, rfl, congrArg (fun x => some (Value.int .u64 x)) ep.symm, congrArg (fun x => some (Value.bool x)) (by rw [← next_eq hl0.base hu (show k < l.ents.length by omega)]; simp [h28, h33, h39]), trivial⟩ rfl rfl (.pre 35 rfl (.app rfl .base))
        · skip
          replace h33 := of_decide_eq_false h33
          refine .off rfl rfl <| .off rfl rfl <| .off rfl rfl <| .off rfl rfl <| .e (.pickF rfl rfl) rfl rfl <| .e (.move rfl) rfl rfl ?_
          refine .off rfl rfl <| .off rfl rfl <| .off rfl rfl <| .off rfl rfl <| .e (.pickF rfl rfl) rfl rfl <| .e (.assign rfl) rfl rfl ?_
          refine .nil <| .go <| .region <| .e (.fieldAddr fo41_1 rfl) rfl rfl <| .e (.load ag22 rfl .here rfl) rfl rfl <| .e (.assign rfl) rfl rfl ?_
          refine .nil <| .blk_normal <| .go <| .region <| .e (.add rfl rfl (by first | exact wrap_succ (by omega) | exact IntWalk.i64_in _ (by omega) | exact rfl)) rfl rfl <| .e (.move rfl) rfl rfl ?_
          refine .nil ?_
          refine .tail ?_
          have ep := prevT_succ (l := l) (k := k) (by omega)
          exact .mid (k + 1) ⟨by omega, by omega⟩ ⟨rfl, rfl, congrArg (fun x => some (Value.int .u64 x)) ep.symm, congrArg (fun x => some (Value.bool x)) (by rw [← next_eq hl0.base hu (show k < l.ents.length by omega)]; simp [h28, h33]), trivial⟩ rfl rfl (.pre 34 rfl (.app rfl .base))
      · skip
        refine .off rfl rfl <| .off rfl rfl <| .off rfl rfl <| .e (.pickF rfl rfl) rfl rfl <| .e (.move rfl) rfl rfl <| .off rfl rfl ?_
        refine .off rfl rfl <| .off rfl rfl <| .off rfl rfl <| .e (.pickF rfl rfl) rfl rfl <| .e (.move rfl) rfl rfl <| .off rfl rfl ?_
        refine .off rfl rfl <| .off rfl rfl <| .off rfl rfl <| .e (.pickF rfl rfl) rfl rfl <| .e (.assign rfl) rfl rfl <| .nil ?_
        refine .go <| .region <| .e (.fieldAddr fo41_1 rfl) rfl rfl <| .e (.load ag22 rfl .here rfl) rfl rfl <| .e (.assign rfl) rfl rfl <| .nil ?_
        refine .blk_normal <| .go <| .region <| .e (.add rfl rfl (by first | exact wrap_succ (by omega) | exact IntWalk.i64_in _ (by omega) | exact rfl)) rfl rfl <| .e (.move rfl) rfl rfl <| .nil ?_
        refine .tail ?_
        have ep := prevT_succ (l := l) (k := k) (by omega)
        exact .mid (k + 1) ⟨by omega, by omega⟩ ⟨rfl, rfl, congrArg (fun x => some (Value.int .u64 x)) ep.symm, congrArg (fun x => some (Value.bool x)) (by rw [← next_eq hl0.base hu (show k < l.ents.length by omega)]; simp [h28]), trivial⟩ rfl rfl (.pre 33 rfl (.app rfl .base))
    · skip
      replace h22 := of_decide_eq_false h22
      refine .cond_false rfl <| .exit <| .exit <| .exit <| .blk_exit <| .go ?_
      refine .seq <| .seq <| .region <| .e (.move rfl) rfl rfl <| .e (.not rfl) rfl rfl <| .nil ?_
      refine .go ?_
      refine .split 49 rfl (fun h49 => ?_) (fun h49 => ?_)
      · skip
        refine .cond_true rfl <| .seq <| .region <| .e (.assign rfl) rfl rfl <| .nil <| .go ?_
        refine .ret <| .ret ?_
        refine .tail ?_
        refine Post.retE rfl rfl ?_
        exact congrArg (Value.int .i64) (logWhy_bad (by rw [← show k = l.ents.length by omega]; simpa using h49))
      · skip
        refine .cond_false rfl <| .skip <| .go <| .seq <| .region <| .e (.assign rfl) rfl rfl ?_
        refine .nil <| .go <| .ret ?_
        refine .tail ?_
        refine Post.retE rfl rfl ?_
        exact congrArg (Value.int .i64) (logWhy_ok (by rw [← show k = l.ents.length by omega]; simpa using h49))
  · skip
    replace h14 := of_decide_eq_false h14
    refine .e (.move rfl) rfl rfl <| .e (.eql rfl rfl) rfl rfl <| .e (.pickF rfl rfl) rfl rfl <| .e (.assign rfl) rfl rfl <| .nil <| .go ?_
    refine .seq <| .seq <| .region <| .e (.fieldAddr fo25_2 rfl) rfl rfl <| .e (.load ag23 rfl .here rfl) rfl rfl <| .e (.len sl23 rfl rfl) rfl rfl ?_
    refine .e (.move rfl) rfl rfl <| .nil <| .go <| .block ?_
    refine .loopM [3, 4, 5, 7, 21, 22, 23, 24, 25, 26, 27, 28, 29, 30, 31, 32, 33, 34, 35, 36, 37, 38, 39, 40, 41, 42, 43, 44, 45, 46, 47] (fun k => l.ents.length - k) (fun k => k ≤ l.ents.length) (fun k => [(21, .int .i64 k), (3, .int .u64 (atT l k)), (4, .int .u64 (prevT l k)), (5, .bool (logTo l k))]) (fun _ => _) (fun _ => _) (0) (by omega) ⟨rfl, congrArg (fun x => some (Value.int .u64 x)) (at_zero hl0.base), rfl, congrArg (fun x => some (Value.bool x)) (by unfold logTo; simp [h14]), trivial⟩ rfl rfl ?_
    intro k hk
    refine .seq <| .region <| .e (.lss rfl rfl) rfl rfl <| .nil <| .go <| .seq ?_
    refine .split 22 rfl (fun h22 => ?_) (fun h22 => ?_)
    · skip
      replace h22 := of_decide_eq_true h22
      refine .cond_true rfl <| .skip <| .go <| .seq <| .block <| .seq ?_
      refine .region ?_
      obtain ⟨eb23, eo23, cs23, hd23, hat23, hr23⟩ := SlR.at_ hev0 (k := k) (by omega)
      cases hd23
      have he23 := hr23
      obtain ⟨mv23, rfl, hmv23⟩ := hr23.ex
      obtain ⟨ma23, mc23, rfl, -⟩ := hmv23
      have hix23 := he23.index
      have htm23 := he23.term
      unfold U64 at hix23 htm23
      refine .e (.indexAddrL sl23 rfl rfl rfl (by omega)) rfl rfl <| .e (.loadIA ag41 sz41 rfl hat23 rfl) rfl rfl <| .on rfl <| .alloc zr41 rfl fun c3 _ _ => .on rfl <| .storeW sz41 rfl rfl rfl rfl rfl rfl .here <| .nil <| .go ?_
      refine .seq <| .region <| .e (.move rfl) rfl rfl <| .e (.add rfl rfl (at_succ l k)) rfl rfl <| .e (.assign rfl) rfl rfl <| .nil ?_
      refine .go <| .seq <| .region <| .e (.move rfl) rfl rfl <| .e (.move rfl) rfl rfl ?_
      refine .split 28 rfl (fun h28 => ?_) (fun h28 => ?_)
      · skip
        refine .e (.loadW ag41 sz41 rfl .here rfl) rfl rfl <| .on rfl <| .callP cal41 rfl rfl rfl (wCheck_ok he23) <| .e (.eql rfl rfl) rfl rfl <| .e (.pickT rfl rfl) rfl rfl <| .e (.move rfl) rfl rfl ?_
        refine .split 33 rfl (fun h33 => ?_) (fun h33 => ?_)
        · skip
          replace h33 := of_decide_eq_true h33
          refine .e (.fieldAddr fo41_0 rfl) rfl rfl <| .e (.load ag22 rfl .here rfl) rfl rfl <| .e (.move rfl) rfl rfl <| .e (.eql rfl rfl) rfl rfl <| .e (.pickT rfl rfl) rfl rfl <| .e (.move rfl) rfl rfl ?_
          refine .split 39 rfl (fun h39 => ?_) (fun h39 => ?_)
          · skip
            replace h39 := of_decide_eq_true h39
            refine .e (.fieldAddr fo41_1 rfl) rfl rfl <| .e (.load ag22 rfl .here rfl) rfl rfl <| .e (.move rfl) rfl rfl <| .e (.geq rfl rfl) rfl rfl <| .e (.pickT rfl rfl) rfl rfl <| .e (.assign rfl) rfl rfl ?_
            refine .nil <| .go <| .region <| .e (.fieldAddr fo41_1 rfl) rfl rfl <| .e (.load ag22 rfl .here rfl) rfl rfl <| .e (.assign rfl) rfl rfl ?_
            refine .nil <| .blk_normal <| .go <| .region <| .e (.add rfl rfl (by first | exact wrap_succ (by omega) | exact IntWalk.i64_in _ (by omega) | exact rfl)) rfl rfl <| .e (.move rfl) rfl rfl ?_
            refine .nil ?_
            refine .tail ?_
            have ep := prevT_succ (l := l) (k := k) (by omega)
            exact .mid (k + 1) ⟨by omega, by omega⟩ ⟨rfl, rfl, congrArg (fun x => some (Value.int .u64 x)) ep.symm, congrArg (fun x => some (Value.bool x)) (by rw [← next_eq hl0.base hu (show k < l.ents.length by omega)]; simp [h28, h33, h39]), trivial⟩ rfl rfl (.pre 35 rfl (.app rfl .base))
          · skip
            replace h39 := of_decide_eq_false h39
            refine .off rfl rfl <| .off rfl rfl <| .off rfl rfl <| .off rfl rfl <| .e (.pickF rfl rfl) rfl rfl <| .e (.assign rfl) rfl rfl ?_
            refine .nil <| .go <| .region <| .e (.fieldAddr fo41_1 rfl) rfl rfl <| .e (.load ag22 rfl .here rfl) rfl rfl <| .e (.assign rfl) rfl rfl ?_
            refine .nil <| .blk_normal <| .go <| .region <| .e (.add rfl rfl (by first | exact wrap_succ (by omega) | exact IntWalk.i64_in _ (by omega) | exact rfl)) rfl rfl <| .e (.move rfl) rfl rfl ?_
            refine .nil ?_
            refine .tail ?_
            have ep := prevT_succ (l := l) (k := k) (by omega)
            exact .mid (k + 1) ⟨by omega, by omega⟩ ⟨rfl, rfl, congrArg (fun x => some (Value.int .u64 x)) ep.symm, congrArg (fun x => some (Value.bool x)) (by rw [← next_eq hl0.base hu (show k < l.ents.length by omega)]; simp [h28, h33, h39]), trivial⟩ rfl rfl (.pre 35 rfl (.app rfl .base))
        · skip
          replace h33 := of_decide_eq_false h33
          refine .off rfl rfl <| .off rfl rfl <| .off rfl rfl <| .off rfl rfl <| .e (.pickF rfl rfl) rfl rfl <| .e (.move rfl) rfl rfl ?_
          refine .off rfl rfl <| .off rfl rfl <| .off rfl rfl <| .off rfl rfl <| .e (.pickF rfl rfl) rfl rfl <| .e (.assign rfl) rfl rfl ?_
          refine .nil <| .go <| .region <| .e (.fieldAddr fo41_1 rfl) rfl rfl <| .e (.load ag22 rfl .here rfl) rfl rfl <| .e (.assign rfl) rfl rfl ?_
          refine .nil <| .blk_normal <| .go <| .region <| .e (.add rfl rfl (by first | exact wrap_succ (by omega) | exact IntWalk.i64_in _ (by omega) | exact rfl)) rfl rfl <| .e (.move rfl) rfl rfl ?_
          refine .nil ?_
          refine .tail ?_
          have ep := prevT_succ (l := l) (k := k) (by omega)
          exact .mid (k + 1) ⟨by omega, by omega⟩ ⟨rfl, rfl, congrArg (fun x => some (Value.int .u64 x)) ep.symm, congrArg (fun x => some (Value.bool x)) (by rw [← next_eq hl0.base hu (show k < l.ents.length by omega)]; simp [h28, h33]), trivial⟩ rfl rfl (.pre 34 rfl (.app rfl .base))
      · skip
        refine .off rfl rfl <| .off rfl rfl <| .off rfl rfl <| .e (.pickF rfl rfl) rfl rfl <| .e (.move rfl) rfl rfl <| .off rfl rfl ?_
        refine .off rfl rfl <| .off rfl rfl <| .off rfl rfl <| .e (.pickF rfl rfl) rfl rfl <| .e (.move rfl) rfl rfl <| .off rfl rfl ?_
        refine .off rfl rfl <| .off rfl rfl <| .off rfl rfl <| .e (.pickF rfl rfl) rfl rfl <| .e (.assign rfl) rfl rfl <| .nil ?_
        refine .go <| .region <| .e (.fieldAddr fo41_1 rfl) rfl rfl <| .e (.load ag22 rfl .here rfl) rfl rfl <| .e (.assign rfl) rfl rfl <| .nil ?_
        refine .blk_normal <| .go <| .region <| .e (.add rfl rfl (by first | exact wrap_succ (by omega) | exact IntWalk.i64_in _ (by omega) | exact rfl)) rfl rfl <| .e (.move rfl) rfl rfl <| .nil ?_
        refine .tail ?_
        have ep := prevT_succ (l := l) (k := k) (by omega)
        exact .mid (k + 1) ⟨by omega, by omega⟩ ⟨rfl, rfl, congrArg (fun x => some (Value.int .u64 x)) ep.symm, congrArg (fun x => some (Value.bool x)) (by rw [← next_eq hl0.base hu (show k < l.ents.length by omega)]; simp [h28]), trivial⟩ rfl rfl (.pre 33 rfl (.app rfl .base))
    · skip
      replace h22 := of_decide_eq_false h22
      refine .cond_false rfl <| .exit <| .exit <| .exit <| .blk_exit <| .go ?_
      refine .seq <| .seq <| .region <| .e (.move rfl) rfl rfl <| .e (.not rfl) rfl rfl <| .nil ?_
      refine .go ?_
      refine .split 49 rfl (fun h49 => ?_) (fun h49 => ?_)
      · skip
        refine .cond_true rfl <| .seq <| .region <| .e (.assign rfl) rfl rfl <| .nil <| .go ?_
        refine .ret <| .ret ?_
        refine .tail ?_
        refine Post.retE rfl rfl ?_
        exact congrArg (Value.int .i64) (logWhy_bad (by rw [← show k = l.ents.length by omega]; simpa using h49))
      · skip
        refine .cond_false rfl <| .skip <| .go <| .seq <| .region <| .e (.assign rfl) rfl rfl ?_
        refine .nil <| .go <| .ret ?_
        refine .tail ?_
        refine Post.retE rfl rfl ?_
        exact congrArg (Value.int .i64) (logWhy_ok (by rw [← show k = l.ents.length by omega]; simpa using h49))

set_option maxHeartbeats 1000000 in
set_option maxRecDepth 20000 in
theorem rlCheck_ok {I : Imm} {O : Own} {lc : List Value} {l : Lg} (hl : LgR I lc l) :
    Pure Try.prog 30 [.agg ⟨lc⟩] I O (.int .i64 (logWhy l)) := by
  have hl0 := hl
  obtain ⟨ev, rfl, hev⟩ := hl.ex
  have hev0 := hev
  obtain ⟨va, vcap, rfl, hv1, hv2, -⟩ := hev
  have hbase := hl0.base
  have hterm := hl0.term
  unfold U64 at hbase hterm
  have hu : ∀ j (hj : j < l.ents.length), U64 l.ents[j].index := fun j hj => by
    obtain ⟨_, _, _, _, _, hr⟩ := SlR.at_ hev0 hj
    exact hr.index
  refine Go.Sy.Does.enter Try.func30 rfl Try.ntmps30 rfl ?_
  refine .seq <| .region <| .on rfl <| .box rfl rfl rfl fun c1 _ _ => .e (.assign rfl) rfl rfl <| .nil <| .go ?_
  refine .seq ?_
  refine .draw [(c1, _)] mixed (.cons .here .nil) ?_
  refine .t 0 rfl (.fieldAddr fo25_0 rfl) rfl rfl (by kernel_rfl) <| .t 1 rfl (.load ag22 rfl .here rfl) rfl rfl (by kernel_rfl) <| .t 2 rfl (.fieldAddr fo25_1 rfl) rfl rfl (by kernel_rfl) <| .t 3 rfl (.load ag22 rfl .here rfl) rfl rfl (by kernel_rfl) <| .t 4 rfl (.assign rfl) rfl rfl (by kernel_rfl) <| .t 5 rfl (.assign rfl) rfl rfl (by kernel_rfl) ?_
  refine .done (by kernel_rfl) <| .go <| .seq <| .seq <| .region <| .e (.move rfl) rfl rfl ?_
  refine .e (.eql rfl rfl) rfl rfl <| .e (.move rfl) rfl rfl ?_
  refine .split 13 rfl (fun h13 => ?_) (fun h13 => ?_)
  · skip
    replace h13 := of_decide_eq_true h13
    refine .e (.move rfl) rfl rfl <| .e (.neq rfl rfl) rfl rfl <| .e (.pickT rfl rfl) rfl rfl <| .nil <| .go ?_
    refine .split 16 rfl (fun h16 => ?_) (fun h16 => ?_)
    · skip
      first | replace h16 := of_decide_eq_false ((Bool.not_eq_true' _).mp h16) | replace h16 := of_decide_eq_false (by simpa using h16)
      refine .cond_true rfl <| .seq <| .region <| .e (.assign rfl) rfl rfl <| .nil <| .go ?_
      refine .ret <| .ret ?_
      refine .tail ?_
      refine Post.retE rfl rfl ?_
      exact congrArg (Value.int .i64) (logWhy_bad (logTo_start (by omega) _))
    · skip
      first | replace h16 := of_decide_eq_true ((Bool.not_eq_false' _).mp h16) | replace h16 := of_decide_eq_true (by simpa using h16)
      refine .cond_false rfl <| .skip <| .go <| .seq <| .seq <| .region ?_
      refine .e (.fieldAddr fo25_2 rfl) rfl rfl <| .e (.load ag23 rfl .here rfl) rfl rfl <| .e (.len sl23 rfl rfl) rfl rfl <| .e (.move rfl) rfl rfl <| .nil <| .go ?_
      refine .block ?_
      refine .loopM [2, 3, 4, 6, 20, 21, 22, 23, 24, 25, 26, 27, 28, 29, 30, 31, 32, 33, 34, 35, 36, 37, 38, 39, 40, 41, 42, 43, 44] (fun k => l.ents.length - k) (fun k => k ≤ l.ents.length ∧ logTo l k = true) (fun k => [(20, .int .i64 k), (3, .int .u64 (l.base + (k : Int))), (4, .int .u64 (prevT l k))]) (fun _ => _) (fun _ => _) (0) ⟨by omega, (by unfold logTo; rw [decide_eq_true (by omega)]; rfl)⟩ ⟨rfl, congrArg (fun x => some (Value.int .u64 x)) (show l.base = l.base + ((0 : Nat) : Int) by omega), rfl, trivial⟩ rfl rfl ?_
      intro k hk
      obtain ⟨hk, hok⟩ := hk
      have hle := logTo_le hl0.base hu hk hok
      refine .seq <| .region <| .e (.lss rfl rfl) rfl rfl <| .nil <| .go <| .seq ?_
      refine .split 21 rfl (fun h21 => ?_) (fun h21 => ?_)
      · skip
        replace h21 := of_decide_eq_true h21
        refine .cond_true rfl <| .skip <| .go <| .seq <| .block <| .seq ?_
        refine .region ?_
        obtain ⟨eb22, eo22, cs22, hd22, hat22, hr22⟩ := SlR.at_ hev0 (k := k) (by omega)
        cases hd22
        have he22 := hr22
        obtain ⟨mv22, rfl, hmv22⟩ := hr22.ex
        obtain ⟨ma22, mc22, rfl, -⟩ := hmv22
        have hix22 := he22.index
        have htm22 := he22.term
        unfold U64 at hix22 htm22
        refine .e (.indexAddrL sl23 rfl rfl rfl (by omega)) rfl rfl <| .e (.loadIA ag41 sz41 rfl hat22 rfl) rfl rfl <| .on rfl <| .alloc zr41 rfl fun c2 _ _ => .on rfl <| .storeW sz41 rfl rfl rfl rfl rfl rfl .here <| .nil <| .go ?_
        refine .seq <| .seq <| .region <| .e (.loadW ag41 sz41 rfl .here rfl) rfl rfl <| .on rfl <| .callP cal36 rfl rfl rfl (r3Check_ok he22) <| .e (.neq rfl rfl) rfl rfl ?_
        refine .e (.move rfl) rfl rfl ?_
        refine .split 27 rfl (fun h27 => ?_) (fun h27 => ?_)
        · skip
          first | replace h27 := of_decide_eq_false ((Bool.not_eq_true' _).mp h27) | replace h27 := of_decide_eq_false (by simpa using h27)
          refine .off rfl rfl <| .off rfl rfl <| .off rfl rfl <| .off rfl rfl <| .off rfl rfl <| .e (.pickT rfl rfl) rfl rfl ?_
          refine .e (.move rfl) rfl rfl <| .off rfl rfl <| .off rfl rfl <| .off rfl rfl <| .off rfl rfl <| .e (.pickT rfl rfl) rfl rfl ?_
          refine .nil <| .go <| .cond_true rfl <| .seq <| .region <| .e (.assign rfl) rfl rfl ?_
          refine .nil <| .go <| .ret <| .ret <| .blk_ret <| .ret ?_
          refine .ret <| .blk_ret <| .ret ?_
          refine .tail <| .tail ?_
          refine Post.retE rfl rfl ?_
          exact congrArg (Value.int .i64) (logWhy_bad (logTo_bad (k := k) (by omega) (by unfold eOk; rw [entD (show k < l.ents.length by omega)]; first | (rw [ent_no h27]; rfl) | (rw [decide_eq_false (show ¬l.ents[k].index = l.base + (k : Int) + 1 by omega)]; simp) | (rw [decide_eq_false (show ¬prevT l k ≤ l.ents[k].term by omega)]; simp))))
        · skip
          first | replace h27 := of_decide_eq_true ((Bool.not_eq_false' _).mp h27) | replace h27 := of_decide_eq_true (by simpa using h27)
          have hpos := entOk_index (ent_of h27)
          refine .e (.fieldAddr fo41_0 rfl) rfl rfl <| .e (.load ag22 rfl .here rfl) rfl rfl <| .e (.sub rfl rfl (IntWalk.u64_in _ (by omega))) rfl rfl <| .e (.move rfl) rfl rfl <| .e (.neq rfl rfl) rfl rfl <| .e (.pickF rfl rfl) rfl rfl ?_
          refine .e (.move rfl) rfl rfl ?_
          refine .split 34 rfl (fun h34 => ?_) (fun h34 => ?_)
          · skip
            first | replace h34 := of_decide_eq_false ((Bool.not_eq_true' _).mp h34) | replace h34 := of_decide_eq_false (by simpa using h34)
            refine .off rfl rfl <| .off rfl rfl <| .off rfl rfl <| .off rfl rfl <| .e (.pickT rfl rfl) rfl rfl <| .nil ?_
            refine .go <| .cond_true rfl <| .seq <| .region <| .e (.assign rfl) rfl rfl <| .nil ?_
            refine .go <| .ret <| .ret <| .blk_ret <| .ret <| .ret ?_
            refine .blk_ret <| .ret ?_
            refine .tail <| .tail ?_
            refine Post.retE rfl rfl ?_
            exact congrArg (Value.int .i64) (logWhy_bad (logTo_bad (k := k) (by omega) (by unfold eOk; rw [entD (show k < l.ents.length by omega)]; first | (rw [ent_no h27]; rfl) | (rw [decide_eq_false (show ¬l.ents[k].index = l.base + (k : Int) + 1 by omega)]; simp) | (rw [decide_eq_false (show ¬prevT l k ≤ l.ents[k].term by omega)]; simp))))
          · skip
            first | replace h34 := of_decide_eq_true ((Bool.not_eq_false' _).mp h34) | replace h34 := of_decide_eq_true (by simpa using h34)
            refine .e (.fieldAddr fo41_1 rfl) rfl rfl <| .e (.load ag22 rfl .here rfl) rfl rfl <| .e (.move rfl) rfl rfl <| .e (.lss rfl rfl) rfl rfl <| .e (.pickF rfl rfl) rfl rfl <| .nil ?_
            refine .go ?_
            refine .split 39 rfl (fun h39 => ?_) (fun h39 => ?_)
            · skip
              replace h39 := of_decide_eq_true h39
              refine .cond_true rfl <| .seq <| .region <| .e (.assign rfl) rfl rfl <| .nil <| .go ?_
              refine .ret <| .ret <| .blk_ret <| .ret <| .ret <| .blk_ret ?_
              refine .ret ?_
              refine .tail <| .tail ?_
              refine Post.retE rfl rfl ?_
              exact congrArg (Value.int .i64) (logWhy_bad (logTo_bad (k := k) (by omega) (by unfold eOk; rw [entD (show k < l.ents.length by omega)]; first | (rw [ent_no h27]; rfl) | (rw [decide_eq_false (show ¬l.ents[k].index = l.base + (k : Int) + 1 by omega)]; simp) | (rw [decide_eq_false (show ¬prevT l k ≤ l.ents[k].term by omega)]; simp))))
            · skip
              replace h39 := of_decide_eq_false h39
              refine .cond_false rfl <| .skip <| .go ?_
              refine .draw [(c2, _)] mixed (.cons .here .nil) ?_
              refine .t 0 rfl (.fieldAddr fo41_0 rfl) rfl rfl (by kernel_rfl) <| .t 1 rfl (.load ag22 rfl .here rfl) rfl rfl (by kernel_rfl) <| .t 2 rfl (.fieldAddr fo41_1 rfl) rfl rfl (by kernel_rfl) <| .t 3 rfl (.load ag22 rfl .here rfl) rfl rfl (by kernel_rfl) <| .t 4 rfl (.assign rfl) rfl rfl (by kernel_rfl) <| .t 5 rfl (.assign rfl) rfl rfl (by kernel_rfl) ?_
              refine .done (by kernel_rfl) <| .blk_normal <| .go <| .region <| .e (.add rfl rfl (by first | exact wrap_succ (by omega) | exact IntWalk.i64_in _ (by omega) | exact rfl)) rfl rfl <| .e (.move rfl) rfl rfl ?_
              refine .nil ?_
              refine .tail ?_
              have ep := prevT_succ (l := l) (k := k) (by omega)
              exact .mid (k + 1) ⟨by omega, by omega, (by rw [logTo_succ, hok]; unfold eOk; rw [entD (show k < l.ents.length by omega), ent_of h27, decide_eq_true (show l.ents[k].index = l.base + (k : Int) + 1 by omega), decide_eq_true (show prevT l k ≤ l.ents[k].term by omega)]; rfl)⟩ ⟨rfl, congrArg (fun x => some (Value.int .u64 x)) (show l.ents[k].index = l.base + ((k + 1 : Nat) : Int) by omega), congrArg (fun x => some (Value.int .u64 x)) ep.symm, trivial⟩ rfl rfl (.pre 32 rfl (.app rfl .base))
      · skip
        replace h21 := of_decide_eq_false h21
        refine .cond_false rfl <| .exit <| .exit <| .exit <| .blk_exit <| .go ?_
        refine .seq <| .region <| .e (.assign rfl) rfl rfl <| .nil <| .go <| .ret ?_
        refine .tail ?_
        refine Post.retE rfl rfl ?_
        exact congrArg (Value.int .i64) (logWhy_ok (by rw [← show k = l.ents.length by omega]; exact hok))
  · skip
    replace h13 := of_decide_eq_false h13
    refine .off rfl rfl <| .off rfl rfl <| .e (.pickF rfl rfl) rfl rfl <| .nil <| .go <| .cond_false rfl ?_
    refine .skip <| .go <| .seq <| .seq <| .region <| .e (.fieldAddr fo25_2 rfl) rfl rfl ?_
    refine .e (.load ag23 rfl .here rfl) rfl rfl <| .e (.len sl23 rfl rfl) rfl rfl <| .e (.move rfl) rfl rfl <| .nil <| .go <| .block ?_
    refine .loopM [2, 3, 4, 6, 20, 21, 22, 23, 24, 25, 26, 27, 28, 29, 30, 31, 32, 33, 34, 35, 36, 37, 38, 39, 40, 41, 42, 43, 44] (fun k => l.ents.length - k) (fun k => k ≤ l.ents.length ∧ logTo l k = true) (fun k => [(20, .int .i64 k), (3, .int .u64 (l.base + (k : Int))), (4, .int .u64 (prevT l k))]) (fun _ => _) (fun _ => _) (0) ⟨by omega, (by unfold logTo; rw [decide_eq_true (by omega)]; rfl)⟩ ⟨rfl, congrArg (fun x => some (Value.int .u64 x)) (show l.base = l.base + ((0 : Nat) : Int) by omega), rfl, trivial⟩ rfl rfl ?_
    intro k hk
    obtain ⟨hk, hok⟩ := hk
    have hle := logTo_le hl0.base hu hk hok
    refine .seq <| .region <| .e (.lss rfl rfl) rfl rfl <| .nil <| .go <| .seq ?_
    refine .split 21 rfl (fun h21 => ?_) (fun h21 => ?_)
    · skip
      replace h21 := of_decide_eq_true h21
      refine .cond_true rfl <| .skip <| .go <| .seq <| .block <| .seq ?_
      refine .region ?_
      obtain ⟨eb22, eo22, cs22, hd22, hat22, hr22⟩ := SlR.at_ hev0 (k := k) (by omega)
      cases hd22
      have he22 := hr22
      obtain ⟨mv22, rfl, hmv22⟩ := hr22.ex
      obtain ⟨ma22, mc22, rfl, -⟩ := hmv22
      have hix22 := he22.index
      have htm22 := he22.term
      unfold U64 at hix22 htm22
      refine .e (.indexAddrL sl23 rfl rfl rfl (by omega)) rfl rfl <| .e (.loadIA ag41 sz41 rfl hat22 rfl) rfl rfl <| .on rfl <| .alloc zr41 rfl fun c3 _ _ => .on rfl <| .storeW sz41 rfl rfl rfl rfl rfl rfl .here <| .nil <| .go ?_
      refine .seq <| .seq <| .region <| .e (.loadW ag41 sz41 rfl .here rfl) rfl rfl <| .on rfl <| .callP cal36 rfl rfl rfl (r3Check_ok he22) <| .e (.neq rfl rfl) rfl rfl ?_
      refine .e (.move rfl) rfl rfl ?_
      refine .split 27 rfl (fun h27 => ?_) (fun h27 => ?_)
      · skip
        first | replace h27 := of_decide_eq_false ((Bool.not_eq_true' _).mp h27) | replace h27 := of_decide_eq_false (by simpa using h27)
        refine .off rfl rfl <| .off rfl rfl <| .off rfl rfl <| .off rfl rfl <| .off rfl rfl <| .e (.pickT rfl rfl) rfl rfl ?_
        refine .e (.move rfl) rfl rfl <| .off rfl rfl <| .off rfl rfl <| .off rfl rfl <| .off rfl rfl <| .e (.pickT rfl rfl) rfl rfl ?_
        refine .nil <| .go <| .cond_true rfl <| .seq <| .region <| .e (.assign rfl) rfl rfl ?_
        refine .nil <| .go <| .ret <| .ret <| .blk_ret <| .ret ?_
        refine .ret <| .blk_ret <| .ret ?_
        refine .tail <| .tail ?_
        refine Post.retE rfl rfl ?_
        exact congrArg (Value.int .i64) (logWhy_bad (logTo_bad (k := k) (by omega) (by unfold eOk; rw [entD (show k < l.ents.length by omega)]; first | (rw [ent_no h27]; rfl) | (rw [decide_eq_false (show ¬l.ents[k].index = l.base + (k : Int) + 1 by omega)]; simp) | (rw [decide_eq_false (show ¬prevT l k ≤ l.ents[k].term by omega)]; simp))))
      · skip
        first | replace h27 := of_decide_eq_true ((Bool.not_eq_false' _).mp h27) | replace h27 := of_decide_eq_true (by simpa using h27)
        have hpos := entOk_index (ent_of h27)
        refine .e (.fieldAddr fo41_0 rfl) rfl rfl <| .e (.load ag22 rfl .here rfl) rfl rfl <| .e (.sub rfl rfl (IntWalk.u64_in _ (by omega))) rfl rfl <| .e (.move rfl) rfl rfl <| .e (.neq rfl rfl) rfl rfl <| .e (.pickF rfl rfl) rfl rfl ?_
        refine .e (.move rfl) rfl rfl ?_
        refine .split 34 rfl (fun h34 => ?_) (fun h34 => ?_)
        · skip
          first | replace h34 := of_decide_eq_false ((Bool.not_eq_true' _).mp h34) | replace h34 := of_decide_eq_false (by simpa using h34)
          refine .off rfl rfl <| .off rfl rfl <| .off rfl rfl <| .off rfl rfl <| .e (.pickT rfl rfl) rfl rfl <| .nil ?_
          refine .go <| .cond_true rfl <| .seq <| .region <| .e (.assign rfl) rfl rfl <| .nil ?_
          refine .go <| .ret <| .ret <| .blk_ret <| .ret <| .ret ?_
          refine .blk_ret <| .ret ?_
          refine .tail <| .tail ?_
          refine Post.retE rfl rfl ?_
          exact congrArg (Value.int .i64) (logWhy_bad (logTo_bad (k := k) (by omega) (by unfold eOk; rw [entD (show k < l.ents.length by omega)]; first | (rw [ent_no h27]; rfl) | (rw [decide_eq_false (show ¬l.ents[k].index = l.base + (k : Int) + 1 by omega)]; simp) | (rw [decide_eq_false (show ¬prevT l k ≤ l.ents[k].term by omega)]; simp))))
        · skip
          first | replace h34 := of_decide_eq_true ((Bool.not_eq_false' _).mp h34) | replace h34 := of_decide_eq_true (by simpa using h34)
          refine .e (.fieldAddr fo41_1 rfl) rfl rfl <| .e (.load ag22 rfl .here rfl) rfl rfl <| .e (.move rfl) rfl rfl <| .e (.lss rfl rfl) rfl rfl <| .e (.pickF rfl rfl) rfl rfl <| .nil ?_
          refine .go ?_
          refine .split 39 rfl (fun h39 => ?_) (fun h39 => ?_)
          · skip
            replace h39 := of_decide_eq_true h39
            refine .cond_true rfl <| .seq <| .region <| .e (.assign rfl) rfl rfl <| .nil <| .go ?_
            refine .ret <| .ret <| .blk_ret <| .ret <| .ret <| .blk_ret ?_
            refine .ret ?_
            refine .tail <| .tail ?_
            refine Post.retE rfl rfl ?_
            exact congrArg (Value.int .i64) (logWhy_bad (logTo_bad (k := k) (by omega) (by unfold eOk; rw [entD (show k < l.ents.length by omega)]; first | (rw [ent_no h27]; rfl) | (rw [decide_eq_false (show ¬l.ents[k].index = l.base + (k : Int) + 1 by omega)]; simp) | (rw [decide_eq_false (show ¬prevT l k ≤ l.ents[k].term by omega)]; simp))))
          · skip
            replace h39 := of_decide_eq_false h39
            refine .cond_false rfl <| .skip <| .go ?_
            refine .draw [(c3, _)] mixed (.cons .here .nil) ?_
            refine .t 0 rfl (.fieldAddr fo41_0 rfl) rfl rfl (by kernel_rfl) <| .t 1 rfl (.load ag22 rfl .here rfl) rfl rfl (by kernel_rfl) <| .t 2 rfl (.fieldAddr fo41_1 rfl) rfl rfl (by kernel_rfl) <| .t 3 rfl (.load ag22 rfl .here rfl) rfl rfl (by kernel_rfl) <| .t 4 rfl (.assign rfl) rfl rfl (by kernel_rfl) <| .t 5 rfl (.assign rfl) rfl rfl (by kernel_rfl) ?_
            refine .done (by kernel_rfl) <| .blk_normal <| .go <| .region <| .e (.add rfl rfl (by first | exact wrap_succ (by omega) | exact IntWalk.i64_in _ (by omega) | exact rfl)) rfl rfl <| .e (.move rfl) rfl rfl ?_
            refine .nil ?_
            refine .tail ?_
            have ep := prevT_succ (l := l) (k := k) (by omega)
            exact .mid (k + 1) ⟨by omega, by omega, (by rw [logTo_succ, hok]; unfold eOk; rw [entD (show k < l.ents.length by omega), ent_of h27, decide_eq_true (show l.ents[k].index = l.base + (k : Int) + 1 by omega), decide_eq_true (show prevT l k ≤ l.ents[k].term by omega)]; rfl)⟩ ⟨rfl, congrArg (fun x => some (Value.int .u64 x)) (show l.ents[k].index = l.base + ((k + 1 : Nat) : Int) by omega), congrArg (fun x => some (Value.int .u64 x)) ep.symm, trivial⟩ rfl rfl (.pre 32 rfl (.app rfl .base))
    · skip
      replace h21 := of_decide_eq_false h21
      refine .cond_false rfl <| .exit <| .exit <| .exit <| .blk_exit <| .go ?_
      refine .seq <| .region <| .e (.assign rfl) rfl rfl <| .nil <| .go <| .ret ?_
      refine .tail ?_
      refine Post.retE rfl rfl ?_
      exact congrArg (Value.int .i64) (logWhy_ok (by rw [← show k = l.ents.length by omega]; exact hok))

end Go.Proofs.Yteajcmnbjpbnpaa
