/- Walks of functions over a symbolic memory, printed by a program of the session. -/
import Derived.Test.YteajcmnbjpbnpaaLc
namespace Go.Proofs.Yteajcmnbjpbnpaa
open Go.Sy
set_option linter.unusedSimpArgs false
set_option linter.unusedVariables false

theorem logOk_why {l : Lg} (h : logWhy l = 0) : logTo l l.ents.length = true := by
  unfold logWhy logOk at h
  cases h2 : logTo l l.ents.length
  · rw [h2] at h; cases h
  · rfl
theorem logNo_why {l : Lg} (h : ¬logWhy l = 0) : logOk l = false ∧ logWhy l = 10 := by
  unfold logWhy at *
  cases h2 : logOk l
  · exact ⟨rfl, rfl⟩
  · rw [h2] at h; exact absurd rfl h
theorem logTo_mono {l : Lg} {k n : Nat} (hk : k ≤ n) (h : logTo l n = true) : logTo l k = true := by
  unfold logTo at *
  rw [Bool.and_eq_true] at *
  exact ⟨h.1, List.all_eq_true.2 fun j hj => List.all_eq_true.1 h.2 j (List.mem_range.2 (by have := List.mem_range.1 hj; omega))⟩
theorem ent_ix {l : Lg} {n j : Nat} (h : logTo l n = true) (hj : j < n) (hl : j < l.ents.length) : l.ents[j].index = l.base + (j : Int) + 1 := by
  have h2 := logTo_mono (show j + 1 ≤ n by omega) h
  rw [logTo_succ, Bool.and_eq_true] at h2
  have h3 := h2.2
  unfold eOk at h3
  simp only [Bool.and_eq_true, decide_eq_true_eq] at h3
  rw [entD hl] at h3
  exact h3.2.1
def endOf (l : Lg) : Int := l.base + (l.ents.length : Int)
def termAt (l : Lg) (i : Int) : Int := if i = l.base then l.term else (l.ents.getD (i - l.base - 1).toNat ent0).term
theorem termAt_end (l : Lg) : termAt l (endOf l) = prevT l l.ents.length := by
  unfold termAt endOf prevT
  by_cases h : l.ents.length = 0
  · rw [if_pos (by omega), if_pos h]
  · rw [if_neg (by omega), if_neg h]
    congr 2
    omega
theorem end_wrap (l : Lg) : IntKind.u64.wrap (l.base + IntKind.u64.wrap (l.ents.length : Int)) = atT l l.ents.length := by
  unfold atT
  simp [IntKind.wrap, IntKind.bits, IntKind.signed]
theorem at_end {l : Lg} (hb : U64 l.base) (h : endOf l ≤ 18446744073709551615) : atT l l.ents.length = endOf l := by unfold atT endOf U64 at *; omega
def endR (l : Lg) : Int × Int × Int := if logOk l = true then (endOf l, prevT l l.ents.length, 0) else (0, 0, 10)
def tripV (p : Int × Int × Int) : Value := .tuple ⟨[.int .u64 p.1, .int .u64 p.2.1, .int .i64 p.2.2]⟩
theorem tripV_eq {p : Int × Int × Int} {a b c : Int} (h : p = (a, b, c)) : Value.tuple ⟨[.int .u64 a, .int .u64 b, .int .i64 c]⟩ = tripV p := by subst h; rfl
theorem endR_no {l : Lg} {w : Int} (h : ¬logWhy l = 0) (hw : w = 10) : endR l = (0, 0, w) := by subst hw; unfold endR; rw [(logNo_why h).1]; rfl
theorem endR_yes {l : Lg} (h : logWhy l = 0) : endR l = (endOf l, prevT l l.ents.length, 0) := by unfold endR logOk; rw [logOk_why h]; rfl
def termR (l : Lg) (i : Int) : Int × Int := if logOk l = false then (0, 10) else if i < l.base then (0, 15) else if endOf l < i then (0, 6) else (termAt l i, 0)
def twoV (p : Int × Int) : Value := .tuple ⟨[.int .u64 p.1, .int .i64 p.2]⟩
theorem twoV_eq {p : Int × Int} {a b : Int} (h : p = (a, b)) : Value.tuple ⟨[.int .u64 a, .int .i64 b]⟩ = twoV p := by subst h; rfl
theorem termR_no {l : Lg} {i w : Int} (h : ¬logWhy l = 0) (hw : w = 10) : termR l i = (0, w) := by subst hw; unfold termR; rw [(logNo_why h).1]; rfl
theorem termR_in {l : Lg} {i : Int} (h : logWhy l = 0) : termR l i = if i < l.base then (0, 15) else if endOf l < i then (0, 6) else (termAt l i, 0) := by
  unfold termR logOk; rw [logOk_why h]; rfl
def newR (l : Lg) (i t : Int) : Bool × Int := if logOk l = false then (false, 10) else (decide (prevT l l.ents.length < t ∨ (t = prevT l l.ents.length ∧ endOf l ≤ i)), 0)
def btV (p : Bool × Int) : Value := .tuple ⟨[.bool p.1, .int .i64 p.2]⟩
theorem btV_eq {p : Bool × Int} {a : Bool} {b : Int} (h : p = (a, b)) : Value.tuple ⟨[.bool a, .int .i64 b]⟩ = btV p := by subst h; rfl
theorem newR_no {l : Lg} {i t w : Int} (h : ¬logWhy l = 0) (hw : w = 10) : newR l i t = (false, w) := by subst hw; unfold newR; rw [(logNo_why h).1]; rfl
theorem newR_yes {l : Lg} {i t : Int} {b : Bool} (h : logWhy l = 0) (hb : b = decide (prevT l l.ents.length < t ∨ (t = prevT l l.ents.length ∧ endOf l ≤ i))) : newR l i t = (b, 0) := by
  subst hb; unfold newR logOk; rw [logOk_why h]; rfl

set_option maxHeartbeats 1000000 in
set_option maxRecDepth 20000 in
theorem lend_ok {I : Imm} {O : Own} {lc : List Value} {l : Lg} (hl : LgR I lc l) :
    Pure Try.prog 33 [.agg ⟨lc⟩] I O (.int .u64 (atT l l.ents.length)) := by
  have hl0 := hl
  obtain ⟨ev, rfl, hev⟩ := hl.ex
  have hev0 := hev
  obtain ⟨va, vcap, rfl, hv1, hv2, -⟩ := hev
  have hbase := hl0.base
  have hterm := hl0.term
  unfold U64 at hbase hterm
  refine Go.Sy.Does.enter Try.func33 rfl Try.ntmps33 rfl ?_
  refine .seq <| .region <| .on rfl <| .box rfl rfl rfl fun c1 _ _ => .e (.assign rfl) rfl rfl <| .nil <| .go ?_
  refine .seq <| .region <| .e (.fieldAddr fo25_0 rfl) rfl rfl <| .e (.load ag22 rfl .here rfl) rfl rfl <| .e (.fieldAddr fo25_2 rfl) rfl rfl <| .e (.load ag23 rfl .here rfl) rfl rfl ?_
  refine .e (.len sl23 rfl rfl) rfl rfl <| .e (.conv Try.underlying3 Try.underlying22 rfl) rfl rfl <| .e (.add rfl rfl (end_wrap l)) rfl rfl <| .e (.assign rfl) rfl rfl <| .nil <| .go ?_
  refine .ret ?_
  refine .tail ?_
  refine Post.retE rfl rfl ?_
  rfl

set_option maxHeartbeats 1000000 in
set_option maxRecDepth 20000 in
theorem lterm_ok {I : Imm} {O : Own} {lc : List Value} {l : Lg} (hl : LgR I lc l) {i : Int} (h1 : l.base ≤ i) (h2 : i ≤ endOf l) :
    Pure Try.prog 34 [.agg ⟨lc⟩, .int .u64 i] I O (.int .u64 (termAt l i)) := by
  have hl0 := hl
  obtain ⟨ev, rfl, hev⟩ := hl.ex
  have hev0 := hev
  obtain ⟨va, vcap, rfl, hv1, hv2, -⟩ := hev
  have hbase := hl0.base
  have hterm := hl0.term
  unfold U64 at hbase hterm
  unfold endOf at h2
  refine Go.Sy.Does.enter Try.func34 rfl Try.ntmps34 rfl ?_
  refine .seq <| .region <| .on rfl <| .box rfl rfl rfl fun c1 _ _ => .e (.assign rfl) rfl rfl <| .nil <| .go ?_
  refine .seq <| .seq <| .region <| .e (.move rfl) rfl rfl <| .e (.fieldAddr fo25_0 rfl) rfl rfl <| .e (.load ag22 rfl .here rfl) rfl rfl ?_
  refine .e (.eql rfl rfl) rfl rfl <| .nil <| .go ?_
  refine .split 8 rfl (fun h8 => ?_) (fun h8 => ?_)
  · skip
    replace h8 := of_decide_eq_true h8
    refine .cond_true rfl <| .seq <| .region <| .e (.fieldAddr fo25_1 rfl) rfl rfl <| .e (.load ag22 rfl .here rfl) rfl rfl <| .e (.assign rfl) rfl rfl ?_
    refine .nil <| .go <| .ret <| .ret ?_
    refine .tail ?_
    refine Post.retE rfl rfl ?_
    refine congrArg (Value.int .u64) ?_
    unfold termAt
    rw [if_pos h8]
  · skip
    replace h8 := of_decide_eq_false h8
    have hlen := hl0.base
    refine .cond_false rfl <| .skip <| .go <| .seq <| .region <| .e (.fieldAddr fo25_2 rfl) rfl rfl ?_
    refine .e (.load ag23 rfl .here rfl) rfl rfl <| .e (.move rfl) rfl rfl <| .e (.fieldAddr fo25_0 rfl) rfl rfl <| .e (.load ag22 rfl .here rfl) rfl rfl <| .e (.sub rfl rfl (IntWalk.u64_in _ (by omega))) rfl rfl <| .e (.sub rfl rfl (IntWalk.u64_in _ (by omega))) rfl rfl ?_
    obtain ⟨eb18, eo18, cs18, hd18, hat18, hr18⟩ := SlR.at_ hev0 (k := (i - l.base - 1).toNat) (by omega)
    cases hd18
    have he18 := hr18
    obtain ⟨mv18, rfl, hmv18⟩ := hr18.ex
    obtain ⟨ma18, mc18, rfl, -⟩ := hmv18
    refine .e (.indexAddrL sl23 rfl rfl (by omega) (by omega)) rfl rfl <| .e (.fieldAddr fo41_1 rfl) rfl rfl <| .e (.loadI ag22 rfl (hat18.cell (j := 1) rfl)) rfl rfl <| .e (.assign rfl) rfl rfl <| .nil <| .go ?_
    refine .ret ?_
    refine .tail ?_
    refine Post.retE rfl rfl ?_
    refine congrArg (Value.int .u64) ?_
    unfold termAt
    rw [if_neg h8, entD (show (i - l.base - 1).toNat < l.ents.length by omega)]

set_option maxHeartbeats 1000000 in
set_option maxRecDepth 20000 in
theorem rat_ok {I : Imm} {O : Own} {lc : List Value} {l : Lg} (hl : LgR I lc l) {i : Int} (h1 : l.base ≤ i) (h2 : i ≤ endOf l) :
    Pure Try.prog 38 [.agg ⟨lc⟩, .int .u64 i] I O (.int .u64 (termAt l i)) := by
  have hl0 := hl
  obtain ⟨ev, rfl, hev⟩ := hl.ex
  have hev0 := hev
  obtain ⟨va, vcap, rfl, hv1, hv2, -⟩ := hev
  have hbase := hl0.base
  have hterm := hl0.term
  unfold U64 at hbase hterm
  unfold endOf at h2
  refine Go.Sy.Does.enter Try.func38 rfl Try.ntmps38 rfl ?_
  refine .seq <| .region <| .on rfl <| .box rfl rfl rfl fun c1 _ _ => .e (.assign rfl) rfl rfl <| .nil <| .go ?_
  refine .seq <| .seq <| .region <| .e (.move rfl) rfl rfl <| .e (.fieldAddr fo25_0 rfl) rfl rfl <| .e (.load ag22 rfl .here rfl) rfl rfl ?_
  refine .e (.eql rfl rfl) rfl rfl <| .nil <| .go ?_
  refine .split 8 rfl (fun h8 => ?_) (fun h8 => ?_)
  · skip
    replace h8 := of_decide_eq_true h8
    refine .cond_true rfl <| .seq <| .region <| .e (.fieldAddr fo25_1 rfl) rfl rfl <| .e (.load ag22 rfl .here rfl) rfl rfl <| .e (.assign rfl) rfl rfl ?_
    refine .nil <| .go <| .ret <| .ret ?_
    refine .tail ?_
    refine Post.retE rfl rfl ?_
    refine congrArg (Value.int .u64) ?_
    unfold termAt
    rw [if_pos h8]
  · skip
    replace h8 := of_decide_eq_false h8
    have hlen := hl0.base
    refine .cond_false rfl <| .skip <| .go <| .seq <| .region <| .e (.fieldAddr fo25_2 rfl) rfl rfl ?_
    refine .e (.load ag23 rfl .here rfl) rfl rfl <| .e (.move rfl) rfl rfl <| .e (.fieldAddr fo25_0 rfl) rfl rfl <| .e (.load ag22 rfl .here rfl) rfl rfl <| .e (.sub rfl rfl (IntWalk.u64_in _ (by omega))) rfl rfl <| .e (.sub rfl rfl (IntWalk.u64_in _ (by omega))) rfl rfl ?_
    obtain ⟨eb18, eo18, cs18, hd18, hat18, hr18⟩ := SlR.at_ hev0 (k := (i - l.base - 1).toNat) (by omega)
    cases hd18
    have he18 := hr18
    obtain ⟨mv18, rfl, hmv18⟩ := hr18.ex
    obtain ⟨ma18, mc18, rfl, -⟩ := hmv18
    refine .e (.indexAddrL sl23 rfl rfl (by omega) (by omega)) rfl rfl <| .e (.fieldAddr fo41_1 rfl) rfl rfl <| .e (.loadI ag22 rfl (hat18.cell (j := 1) rfl)) rfl rfl <| .e (.assign rfl) rfl rfl <| .nil <| .go ?_
    refine .ret ?_
    refine .tail ?_
    refine Post.retE rfl rfl ?_
    refine congrArg (Value.int .u64) ?_
    unfold termAt
    rw [if_neg h8, entD (show (i - l.base - 1).toNat < l.ents.length by omega)]

set_option maxHeartbeats 1000000 in
set_option maxRecDepth 20000 in
theorem lEnd_ok {I : Imm} {O : Own} {lc : List Value} {l : Lg} (hl : LgR I lc l) :
    Pure Try.prog 20 [.agg ⟨lc⟩] I O (tripV (endR l)) := by
  have hl0 := hl
  obtain ⟨ev, rfl, hev⟩ := hl.ex
  have hev0 := hev
  obtain ⟨va, vcap, rfl, hv1, hv2, -⟩ := hev
  have hbase := hl0.base
  have hterm := hl0.term
  unfold U64 at hbase hterm
  have hu : ∀ j (hj : j < l.ents.length), U64 l.ents[j].index := fun j hj => by
    obtain ⟨_, _, _, _, _, hr⟩ := SlR.at_ hev0 hj
    exact hr.index
  refine Go.Sy.Does.enter Try.func20 rfl Try.ntmps20 rfl ?_
  refine .seq <| .region <| .on rfl <| .box rfl rfl rfl fun c1 _ _ => .e (.assign rfl) rfl rfl <| .e (.assign rfl) rfl rfl <| .e (.assign rfl) rfl rfl ?_
  refine .nil <| .go <| .seq <| .seq <| .region <| .e (.loadW ag25 sz25 rfl .here rfl) rfl rfl ?_
  refine .on rfl <| .callP cal18 rfl rfl rfl (lCheck_ok hl0) <| .e (.assign rfl) rfl rfl <| .nil <| .go <| .seq <| .region ?_
  refine .e (.move rfl) rfl rfl <| .e (.neq rfl rfl) rfl rfl <| .nil <| .go ?_
  refine .split 9 rfl (fun h9 => ?_) (fun h9 => ?_)
  · skip
    first | replace h9 := of_decide_eq_false ((Bool.not_eq_true' _).mp h9) | replace h9 := of_decide_eq_false (by simpa using h9)
    refine .cond_true rfl <| .seq <| .region <| .e (.move rfl) rfl rfl <| .e (.assign rfl) rfl rfl <| .e (.assign rfl) rfl rfl ?_
    refine .e (.assign rfl) rfl rfl <| .nil <| .go <| .ret <| .ret ?_
    refine Post.retsE rfl (.tmp rfl (.tmp rfl (.tmp rfl .nil))) rfl (fun w h => h.tail) ?_
    exact tripV_eq (endR_no h9 (logNo_why h9).2)
  · skip
    first | replace h9 := of_decide_eq_true ((Bool.not_eq_false' _).mp h9) | replace h9 := of_decide_eq_true (by simpa using h9)
    have hok := logOk_why h9
    have hle := logTo_le hl0.base hu (Nat.le_refl _) hok
    have hae := at_end hl0.base (show endOf l ≤ 18446744073709551615 by unfold endOf; omega)
    refine .cond_false rfl <| .skip <| .go <| .seq ?_
    refine .draw [(c1, _)] mixed (.cons .here .nil) ?_
    refine .t 0 rfl (.loadW ag25 sz25 rfl .here rfl) rfl rfl (by kernel_rfl) <| .t 2 rfl (.loadW ag25 sz25 rfl .here rfl) rfl rfl (by kernel_rfl) <| .t 3 rfl (.loadW ag25 sz25 rfl .here rfl) rfl rfl (by kernel_rfl) <| .one (i := 1) (by kernel_rfl) rfl rfl <| .callP cal33 rfl rfl rfl (lend_ok hl0) ?_
    refine ⟨(.cons .here .nil), Imm.le_refl _, ?_⟩
    refine .one (i := 4) (by kernel_rfl) rfl rfl <| .callP cal33 rfl rfl rfl (lend_ok hl0) ?_
    refine ⟨(.cons .here .nil), Imm.le_refl _, ?_⟩
    refine .one (i := 5) (by kernel_rfl) rfl rfl <| .callP cal34 rfl rfl rfl (lterm_ok hl0 (by rw [hae]; unfold endOf; omega) (by omega)) ?_
    refine ⟨(.cons .here .nil), Imm.le_refl _, ?_⟩
    refine .t 6 rfl (.assign rfl) rfl rfl (by kernel_rfl) <| .t 7 rfl (.assign rfl) rfl rfl (by kernel_rfl) <| .t 8 rfl (.assign rfl) rfl rfl (by kernel_rfl) <| .done (by kernel_rfl) <| .go <| .ret ?_
    refine Post.retsE rfl (.tmp rfl (.tmp rfl (.tmp rfl .nil))) rfl (fun w h => h.tail) ?_
    exact tripV_eq ((endR_yes h9).trans (by rw [hae, termAt_end]))

set_option maxHeartbeats 1000000 in
set_option maxRecDepth 20000 in
theorem lTerm_ok {I : Imm} {O : Own} {lc : List Value} {l : Lg} (hl : LgR I lc l) {i : Int} (hi : U64 i) :
    Pure Try.prog 19 [.agg ⟨lc⟩, .int .u64 i] I O (twoV (termR l i)) := by
  have hl0 := hl
  obtain ⟨ev, rfl, hev⟩ := hl.ex
  have hev0 := hev
  obtain ⟨va, vcap, rfl, hv1, hv2, -⟩ := hev
  have hbase := hl0.base
  have hterm := hl0.term
  unfold U64 at hbase hterm
  have hu : ∀ j (hj : j < l.ents.length), U64 l.ents[j].index := fun j hj => by
    obtain ⟨_, _, _, _, _, hr⟩ := SlR.at_ hev0 hj
    exact hr.index
  refine Go.Sy.Does.enter Try.func19 rfl Try.ntmps19 rfl ?_
  refine .seq <| .region <| .on rfl <| .box rfl rfl rfl fun c1 _ _ => .e (.assign rfl) rfl rfl <| .e (.assign rfl) rfl rfl <| .nil ?_
  refine .go <| .seq <| .seq <| .region <| .e (.loadW ag25 sz25 rfl .here rfl) rfl rfl <| .on rfl <| .callP cal18 rfl rfl rfl (lCheck_ok hl0) ?_
  refine .e (.assign rfl) rfl rfl <| .nil <| .go <| .block <| .seq <| .region ?_
  refine .e (.move rfl) rfl rfl <| .e (.neq rfl rfl) rfl rfl <| .e (.assign rfl) rfl rfl <| .nil <| .go ?_
  refine .split 9 rfl (fun h9 => ?_) (fun h9 => ?_)
  · skip
    first | replace h9 := of_decide_eq_false ((Bool.not_eq_true' _).mp h9) | replace h9 := of_decide_eq_false (by simpa using h9)
    refine .cond_true rfl <| .seq <| .region <| .e (.move rfl) rfl rfl <| .e (.assign rfl) rfl rfl <| .e (.assign rfl) rfl rfl ?_
    refine .nil <| .go <| .ret <| .blk_ret <| .ret ?_
    refine Post.retsE rfl (.tmp rfl (.tmp rfl .nil)) rfl (fun w h => h.tail) ?_
    exact twoV_eq (termR_no h9 (logNo_why h9).2)
  · skip
    first | replace h9 := of_decide_eq_true ((Bool.not_eq_false' _).mp h9) | replace h9 := of_decide_eq_true (by simpa using h9)
    have hok := logOk_why h9
    have hle := logTo_le hl0.base hu (Nat.le_refl _) hok
    have hae := at_end hl0.base (show endOf l ≤ 18446744073709551615 by unfold endOf; omega)
    refine .cond_false rfl <| .seq <| .region <| .e (.move rfl) rfl rfl <| .e (.fieldAddr fo25_0 rfl) rfl rfl <| .e (.load ag22 rfl .here rfl) rfl rfl ?_
    refine .e (.lss rfl rfl) rfl rfl <| .e (.assign rfl) rfl rfl <| .nil <| .go ?_
    refine .split 13 rfl (fun h13 => ?_) (fun h13 => ?_)
    · skip
      replace h13 := of_decide_eq_true h13
      refine .cond_true rfl <| .seq <| .region <| .e (.assign rfl) rfl rfl <| .e (.assign rfl) rfl rfl <| .nil ?_
      refine .go <| .ret <| .blk_ret <| .ret ?_
      refine Post.retsE rfl (.tmp rfl (.tmp rfl .nil)) rfl (fun w h => h.tail) ?_
      refine twoV_eq ((termR_in h9).trans ?_)
      rw [if_pos h13]
    · skip
      replace h13 := of_decide_eq_false h13
      refine .cond_false rfl <| .seq <| .region <| .e (.move rfl) rfl rfl <| .e (.loadW ag25 sz25 rfl .here rfl) rfl rfl <| .on rfl <| .callP cal33 rfl rfl rfl (lend_ok hl0) ?_
      refine .e (.gtr rfl rfl) rfl rfl <| .e (.assign rfl) rfl rfl <| .nil <| .go ?_
      refine .split 18 rfl (fun h18 => ?_) (fun h18 => ?_)
      · skip
        replace h18 := of_decide_eq_true h18
        refine .cond_true rfl <| .seq <| .region <| .e (.assign rfl) rfl rfl <| .e (.assign rfl) rfl rfl <| .nil ?_
        refine .go <| .ret <| .blk_ret <| .ret ?_
        refine Post.retsE rfl (.tmp rfl (.tmp rfl .nil)) rfl (fun w h => h.tail) ?_
        refine twoV_eq ((termR_in h9).trans ?_)
        rw [if_neg h13, if_pos (by omega)]
      · skip
        replace h18 := of_decide_eq_false h18
        refine .cond_false rfl <| .skip <| .blk_normal <| .go <| .seq <| .region ?_
        refine .e (.loadW ag25 sz25 rfl .here rfl) rfl rfl <| .e (.move rfl) rfl rfl <| .on rfl <| .callP cal34 rfl rfl rfl (lterm_ok hl0 (by omega) (by omega)) <| .e (.assign rfl) rfl rfl <| .e (.assign rfl) rfl rfl <| .nil ?_
        refine .go <| .ret ?_
        refine Post.retsE rfl (.tmp rfl (.tmp rfl .nil)) rfl (fun w h => h.tail) ?_
        refine twoV_eq ((termR_in h9).trans ?_)
        rw [if_neg h13, if_neg (by omega)]

set_option maxHeartbeats 1000000 in
set_option maxRecDepth 20000 in
theorem lNewer_ok {I : Imm} {O : Own} {lc : List Value} {l : Lg} (hl : LgR I lc l) {i t : Int} :
    Pure Try.prog 21 [.agg ⟨lc⟩, .int .u64 i, .int .u64 t] I O (btV (newR l i t)) := by
  have hl0 := hl
  obtain ⟨ev, rfl, hev⟩ := hl.ex
  have hev0 := hev
  obtain ⟨va, vcap, rfl, hv1, hv2, -⟩ := hev
  have hbase := hl0.base
  have hterm := hl0.term
  unfold U64 at hbase hterm
  refine Go.Sy.Does.enter Try.func21 rfl Try.ntmps21 rfl ?_
  refine .seq <| .region <| .on rfl <| .box rfl rfl rfl fun c1 _ _ => .e (.assign rfl) rfl rfl <| .e (.assign rfl) rfl rfl <| .nil ?_
  refine .go <| .seq <| .region <| .e (.loadW ag25 sz25 rfl .here rfl) rfl rfl <| .on rfl <| .callP cal20 rfl rfl rfl (lEnd_ok hl0) <| .e (.move rfl) rfl rfl ?_
  refine .e (.extract rfl rfl) rfl rfl <| .e (.extract rfl rfl) rfl rfl <| .e (.extract rfl rfl) rfl rfl <| .e (.assign rfl) rfl rfl <| .e (.assign rfl) rfl rfl <| .e (.assign rfl) rfl rfl ?_
  refine .nil <| .go <| .seq <| .region <| .e (.move rfl) rfl rfl <| .e (.eql rfl rfl) rfl rfl ?_
  refine .e (.move rfl) rfl rfl ?_
  refine .split 19 rfl (fun h19 => ?_) (fun h19 => ?_)
  · skip
    replace h19 := of_decide_eq_true h19
    refine .e (.move rfl) rfl rfl <| .e (.move rfl) rfl rfl <| .e (.gtr rfl rfl) rfl rfl <| .e (.move rfl) rfl rfl ?_
    refine .split 23 rfl (fun h23 => ?_) (fun h23 => ?_)
    · skip
      replace h23 := of_decide_eq_true h23
      refine .off rfl rfl <| .off rfl rfl <| .off rfl rfl <| .off rfl rfl <| .off rfl rfl <| .off rfl rfl ?_
      refine .off rfl rfl <| .off rfl rfl <| .e (.pickT rfl rfl) rfl rfl <| .e (.pickT rfl rfl) rfl rfl <| .e (.move rfl) rfl rfl <| .e (.assign rfl) rfl rfl ?_
      refine .e (.assign rfl) rfl rfl <| .nil <| .go <| .ret ?_
      refine Post.retsE rfl (.tmp rfl (.tmp rfl .nil)) rfl (fun w h => h.tail) ?_
      by_cases hw : logWhy l = 0
      · have hE := endR_yes hw
        simp only [hE] at *
        first | (exact btV_eq (newR_yes hw (by simp_all; done))) | (exact btV_eq (newR_yes hw (by simp_all; omega))) | (exfalso; simp_all; done)
      · have hE := endR_no hw rfl
        simp only [hE] at *
        first | (exact btV_eq (newR_no hw rfl)) | (exfalso; simp_all; done)
    · skip
      replace h23 := of_decide_eq_false h23
      refine .e (.move rfl) rfl rfl <| .e (.move rfl) rfl rfl <| .e (.eql rfl rfl) rfl rfl <| .e (.move rfl) rfl rfl ?_
      refine .split 27 rfl (fun h27 => ?_) (fun h27 => ?_)
      · skip
        replace h27 := of_decide_eq_true h27
        refine .e (.move rfl) rfl rfl <| .e (.move rfl) rfl rfl <| .e (.geq rfl rfl) rfl rfl <| .e (.pickT rfl rfl) rfl rfl <| .e (.pickF rfl rfl) rfl rfl <| .e (.pickT rfl rfl) rfl rfl ?_
        refine .e (.move rfl) rfl rfl <| .e (.assign rfl) rfl rfl <| .e (.assign rfl) rfl rfl <| .nil <| .go <| .ret ?_
        refine Post.retsE rfl (.tmp rfl (.tmp rfl .nil)) rfl (fun w h => h.tail) ?_
        by_cases hw : logWhy l = 0
        · have hE := endR_yes hw
          simp only [hE] at *
          first | (exact btV_eq (newR_yes hw (by simp_all; done))) | (exact btV_eq (newR_yes hw (by simp_all; omega))) | (exfalso; simp_all; done)
        · have hE := endR_no hw rfl
          simp only [hE] at *
          first | (exact btV_eq (newR_no hw rfl)) | (exfalso; simp_all; done)
      · skip
        replace h27 := of_decide_eq_false h27
        refine .off rfl rfl <| .off rfl rfl <| .off rfl rfl <| .e (.pickF rfl rfl) rfl rfl <| .e (.pickF rfl rfl) rfl rfl <| .e (.pickT rfl rfl) rfl rfl ?_
        refine .e (.move rfl) rfl rfl <| .e (.assign rfl) rfl rfl <| .e (.assign rfl) rfl rfl <| .nil <| .go <| .ret ?_
        refine Post.retsE rfl (.tmp rfl (.tmp rfl .nil)) rfl (fun w h => h.tail) ?_
        by_cases hw : logWhy l = 0
        · have hE := endR_yes hw
          simp only [hE] at *
          first | (exact btV_eq (newR_yes hw (by simp_all; done))) | (exact btV_eq (newR_yes hw (by simp_all; omega))) | (exfalso; simp_all; done)
        · have hE := endR_no hw rfl
          simp only [hE] at *
          first | (exact btV_eq (newR_no hw rfl)) | (exfalso; simp_all; done)
  · skip
    replace h19 := of_decide_eq_false h19
    refine .off rfl rfl <| .off rfl rfl <| .off rfl rfl <| .off rfl rfl <| .off rfl rfl <| .off rfl rfl ?_
    refine .off rfl rfl <| .off rfl rfl <| .off rfl rfl <| .off rfl rfl <| .off rfl rfl <| .off rfl rfl ?_
    refine .off rfl rfl <| .e (.pickF rfl rfl) rfl rfl <| .e (.move rfl) rfl rfl <| .e (.assign rfl) rfl rfl <| .e (.assign rfl) rfl rfl <| .nil ?_
    refine .go <| .ret ?_
    refine Post.retsE rfl (.tmp rfl (.tmp rfl .nil)) rfl (fun w h => h.tail) ?_
    by_cases hw : logWhy l = 0
    · have hE := endR_yes hw
      simp only [hE] at *
      first | (exact btV_eq (newR_yes hw (by simp_all; done))) | (exact btV_eq (newR_yes hw (by simp_all; omega))) | (exfalso; simp_all; done)
    · have hE := endR_no hw rfl
      simp only [hE] at *
      first | (exact btV_eq (newR_no hw rfl)) | (exfalso; simp_all; done)

end Go.Proofs.Yteajcmnbjpbnpaa
