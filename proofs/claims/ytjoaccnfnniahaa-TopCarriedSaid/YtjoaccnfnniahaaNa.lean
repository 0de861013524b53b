/- Walks of functions over a symbolic memory, printed by a program of the session. -/
import Derived.Test.YtjoaccnfnniahaaSyK
import Derived.Test.YtjoaccnfnniahaaSyS
import Derived.Test.YtjoaccnfnniahaaPa
import Derived.Test.YtjoaccnfnniahaaFacts
import Derived.Test.YtjoaccnfnniahaaFact2
namespace Go.Proofs.Ytjoaccnfnniahaa
open Go.Sy
set_option linter.unusedSimpArgs false
set_option linter.unusedVariables false

def blen : Nat → Nat
  | 0 => 0
  | n + 1 => blen ((n + 1) / 2) + 1
decreasing_by omega
theorem blen_pos {n : Nat} (h : 0 < n) : blen n = blen (n / 2) + 1 := by
  cases n with
  | zero => omega
  | succ m => rw [blen]
theorem blen_sh {n j : Nat} (h : 2 ^ j ≤ n) : blen n = j + blen (n / 2 ^ j) := by
  induction j generalizing n with
  | zero => simp
  | succ j ih =>
    have hp := Nat.two_pow_pos j
    rw [Nat.pow_succ] at h
    rw [blen_pos (by omega), ih (n := n / 2) (by rw [Nat.le_div_iff_mul_le (by decide)]; exact h), Nat.div_div_eq_div_mul, Nat.pow_succ, Nat.mul_comm 2]; omega
theorem blen_lt (n : Nat) : n < 2 ^ blen n := by
  induction n using Nat.strongRecOn with
  | _ n ih =>
    rcases Nat.eq_zero_or_pos n with rfl | h
    · exact Nat.two_pow_pos _
    · have := ih (n / 2) (by omega)
      rw [blen_pos h, Nat.pow_succ]; omega
theorem blen_ge {n : Nat} (h : 0 < n) : 2 ^ (blen n - 1) ≤ n := by
  induction n using Nat.strongRecOn with
  | _ n ih =>
    rw [blen_pos h, Nat.add_sub_cancel]
    rcases Nat.eq_zero_or_pos (n / 2) with h2 | h2
    · rw [h2]; simp [blen]; omega
    · have h3 := ih (n / 2) (by omega) h2
      have e : blen (n / 2) = blen (n / 2) - 1 + 1 := by rw [blen_pos h2]; rfl
      rw [e, Nat.pow_succ]; omega
theorem blen_le {n j : Nat} (h : n < 2 ^ j) : blen n ≤ j := by
  rcases Nat.eq_zero_or_pos n with rfl | h0
  · simp [blen]
  · have h1 := blen_ge h0
    have h2 : 2 ^ (blen n - 1) < 2 ^ j := by omega
    have := (Nat.pow_lt_pow_iff_right (by decide)).1 h2
    omega
def tab8 : ByteArray := ⟨([0, 1, 2, 2, 3, 3, 3, 3, 4, 4, 4, 4, 4, 4, 4, 4, 5, 5, 5, 5, 5, 5, 5, 5, 5, 5, 5, 5, 5, 5, 5, 5, 6, 6, 6, 6, 6, 6, 6, 6, 6, 6, 6, 6, 6, 6, 6, 6, 6, 6, 6, 6, 6, 6, 6, 6, 6, 6, 6, 6, 6, 6, 6, 6, 7, 7, 7, 7, 7, 7, 7, 7, 7, 7, 7, 7, 7, 7, 7, 7, 7, 7, 7, 7, 7, 7, 7, 7, 7, 7, 7, 7, 7, 7, 7, 7, 7, 7, 7, 7, 7, 7, 7, 7, 7, 7, 7, 7, 7, 7, 7, 7, 7, 7, 7, 7, 7, 7, 7, 7, 7, 7, 7, 7, 7, 7, 7, 7, 8, 8, 8, 8, 8, 8, 8, 8, 8, 8, 8, 8, 8, 8, 8, 8, 8, 8, 8, 8, 8, 8, 8, 8, 8, 8, 8, 8, 8, 8, 8, 8, 8, 8, 8, 8, 8, 8, 8, 8, 8, 8, 8, 8, 8, 8, 8, 8, 8, 8, 8, 8, 8, 8, 8, 8, 8, 8, 8, 8, 8, 8, 8, 8, 8, 8, 8, 8, 8, 8, 8, 8, 8, 8, 8, 8, 8, 8, 8, 8, 8, 8, 8, 8, 8, 8, 8, 8, 8, 8, 8, 8, 8, 8, 8, 8, 8, 8, 8, 8, 8, 8, 8, 8, 8, 8, 8, 8, 8, 8, 8, 8, 8, 8, 8, 8, 8, 8, 8, 8, 8, 8, 8, 8, 8, 8, 8, 8]).toArray⟩
theorem tab_all : (List.range 256).all (fun k => (tab8.data.toList.getD k 0).toNat == blen k) = true := by decide +kernel
theorem tab_size : tab8.data.toList.length = 256 := by decide +kernel
theorem tab_len {k : Nat} (h : k < 256) : k < tab8.data.toList.length := by rw [tab_size]; exact h
theorem tab_at {k : Nat} (h : k < 256) : (((tab8.data.toList[k]'(tab_len h)).toNat : Nat) : Int) = ((blen k : Nat) : Int) := by
  have h1 := List.all_eq_true.1 tab_all k (List.mem_range.2 h)
  rw [beq_iff_eq, List.getD_eq_getElem?_getD, List.getElem?_eq_getElem (tab_len h)] at h1
  exact congrArg Int.ofNat h1
theorem shrN (n : Nat) {j : Nat} {a : Int} (h : (min a.toNat IntKind.u64.bits) = j) : (n : Int).fdiv (2 ^ (min a.toNat IntKind.u64.bits)) = ((n / 2 ^ j : Nat) : Int) := by
  rw [h, Int.fdiv_eq_ediv_of_nonneg _ (Int.pow_nonneg (by decide))]
  simp
def kby (n : Nat) : Nat := (blen n + 7) / 8
theorem kby_le {n : Nat} (h : n < 18446744073709551616) : kby n ≤ 8 := by
  have := blen_le (n := n) (j := 64) h
  unfold kby; omega
theorem kby_lt (n : Nat) : n < 256 ^ kby n := by
  refine Nat.lt_of_lt_of_le (blen_lt n) ?_
  rw [show (256 : Nat) = 2 ^ 8 from rfl, ← Nat.pow_mul]
  exact Nat.pow_le_pow_right (by decide) (by unfold kby; omega)
theorem kby_ge {n : Nat} (h : 0 < kby n) : 256 ^ (kby n - 1) ≤ n := by
  have h0 : 0 < n := by
    rcases Nat.eq_zero_or_pos n with rfl | h0
    · unfold kby blen at h; omega
    · exact h0
  refine Nat.le_trans ?_ (blen_ge h0)
  rw [show (256 : Nat) = 2 ^ 8 from rfl, ← Nat.pow_mul]
  exact Nat.pow_le_pow_right (by decide) (by unfold kby at *; omega)
theorem quo8 {n : Nat} (h : n < 18446744073709551616) : IntKind.i64.wrap (((blen n : Nat) : Int) + 7 |>.tdiv 8) = ((kby n : Nat) : Int) := by
  have := blen_le (n := n) (j := 64) h
  have e : (((blen n : Nat) : Int) + 7).tdiv 8 = ((kby n : Nat) : Int) := by rw [Int.tdiv_eq_ediv_of_nonneg (by omega)]; unfold kby; omega
  rw [e]; exact IntWalk.i64_in _ (by have := kby_le h; omega)
def numTo (n k : Nat) : Nat → List Int
  | 0 => (List.replicate (k + 1) 0).set 0 (IntKind.u8.wrap (k : Int))
  | i + 1 => (numTo n k i).set (k - i) (byteAt (n : Int) i)
theorem numTo_len (n k : Nat) : ∀ i, (numTo n k i).length = k + 1
  | 0 => by rw [numTo, List.length_set, List.length_replicate]
  | i + 1 => by rw [numTo, List.length_set]; exact numTo_len n k i
theorem num_zero (n k : Nat) : setL (List.replicate (k + 1) (.int .u8 0)) (0 + 0 * 1) [.int .u8 (IntKind.u8.wrap (k : Int))] = u8s (numTo n k 0) := by
  have e : List.replicate (k + 1) (Value.int .u8 0) = u8s (List.replicate (k + 1) 0) := by simp [u8s]
  rw [e, u8s_set (by simp)]; rfl
def numB (n : Nat) : ByteArray := bytesOf (numTo n (kby n) (kby n))
theorem numB_size (n : Nat) : (numB n).size = kby n + 1 := by unfold numB; rw [bytesOf_size, numTo_len]
def textB (s : ByteArray) : ByteArray := numB s.size ++ s
def takeN (s : ByteArray) : Int × ByteArray × Int :=
  if s = ⟨#[]⟩ then (0, ⟨#[]⟩, 3) else
  if 8 < (s.data.toList.getD 0 0).toNat ∨ (0 < (s.data.toList.getD 0 0).toNat ∧ s.extract 1 s.size ≠ ⟨#[]⟩ ∧ ((s.extract 1 s.size).data.toList.getD 0 0).toNat = 0) then (0, ⟨#[]⟩, 4) else
  if (s.extract 1 s.size).size < (s.data.toList.getD 0 0).toNat then (0, ⟨#[]⟩, 3) else
  (valB ((s.extract 1 s.size).extract 0 (s.data.toList.getD 0 0).toNat), (s.extract 1 s.size).extract (s.data.toList.getD 0 0).toNat (s.extract 1 s.size).size, 0)
def triN (p : Int × ByteArray × Int) : Value := .tuple ⟨[.int .u64 p.1, .string p.2.1, .int .i64 p.2.2]⟩
theorem triN_eq {p : Int × ByteArray × Int} {a c : Int} {b : ByteArray} (h : p = (a, b, c)) : Value.tuple ⟨[.int .u64 a, .string b, .int .i64 c]⟩ = triN p := by subst h; rfl
def takeT (s : ByteArray) : ByteArray × ByteArray × Int :=
  if (takeN s).2.2 = 0 then (if 65536 < (takeN s).1 then (⟨#[]⟩, ⟨#[]⟩, 2) else if ((takeN s).2.1.size : Int) < (takeN s).1 then (⟨#[]⟩, ⟨#[]⟩, 3) else
  ((takeN s).2.1.extract 0 (takeN s).1.toNat, (takeN s).2.1.extract (takeN s).1.toNat (takeN s).2.1.size, 0)) else (⟨#[]⟩, ⟨#[]⟩, (takeN s).2.2)
theorem valB_u64 (s : ByteArray) : 0 ≤ valB s ∧ valB s ≤ 18446744073709551615 := by
  unfold valB
  cases s.size with
  | zero => exact ⟨Int.le_refl _, (show (0 : Int) ≤ 18446744073709551615 by decide)⟩
  | succ i => exact u64_wrap_nn _
theorem takeN_u64 (s : ByteArray) : 0 ≤ (takeN s).1 ∧ (takeN s).1 ≤ 18446744073709551615 := by
  unfold takeN
  repeat' split
  all_goals first | exact valB_u64 _ | (dsimp only; omega)
theorem takeN_size (s : ByteArray) : (takeN s).2.1.size ≤ s.size := by
  unfold takeN
  repeat' split
  all_goals first | exact Nat.zero_le _ | (dsimp only; rw [ByteArray.size_extract, ByteArray.size_extract]; omega)
theorem takeT_size (s : ByteArray) : (takeT s).1.size + (takeT s).2.1.size ≤ s.size := by
  have := takeN_size s
  unfold takeT
  repeat' split
  all_goals first | exact Nat.zero_le _ | (dsimp only; rw [ByteArray.size_extract, ByteArray.size_extract]; omega)
theorem ne_len {s : ByteArray} (h : ¬s = ⟨#[]⟩) : 0 < s.data.toList.length := by
  obtain ⟨⟨l⟩⟩ := s
  cases l with
  | nil => exact absurd rfl h
  | cons x l => simp
theorem hd_eq {s : ByteArray} (h : 0 < s.data.toList.length) : (s.data.toList.getD 0 0) = s.data.toList[0] := by
  rw [List.getD_eq_getElem?_getD, List.getElem?_eq_getElem h]; rfl

end Go.Proofs.Ytjoaccnfnniahaa

namespace Go.Proofs.Ytjoaccnfnniahaa
open Go.Sy
set_option linter.unusedSimpArgs false
set_option linter.unusedVariables false

set_option maxHeartbeats 1000000 in
set_option maxRecDepth 20000 in
theorem len64_ok {I : Imm} {O : Own} {n : Nat} (hn : n < 18446744073709551616) :
    Pure Try.prog 77 [.int .u64 (n : Nat)] I O (.int .i64 (blen n : Nat)) := by
  refine Go.Sy.Does.enter Try.func77 rfl Try.ntmps77 rfl ?_
  refine .seq <| .region <| .e (.assign rfl) rfl rfl <| .nil <| .go <| .seq ?_
  refine .seq <| .region <| .e (.move rfl) rfl rfl <| .e (.geq rfl rfl) rfl rfl <| .nil <| .go ?_
  refine .split 4 rfl (fun h4 => ?_) (fun h4 => ?_)
  · skip
    replace h4 := of_decide_eq_true h4
    refine .cond_true rfl <| .seq <| .region <| .e (.move rfl) rfl rfl ?_
    have hb6 := blen_sh (n := n) (j := 32) (by omega)
    refine .e ((.shrC rfl rfl (by decide) (shrN n (j := 32) (by decide)))) rfl rfl <| .e (.assign rfl) rfl rfl <| .nil <| .go <| .region <| .e (.assign rfl) rfl rfl ?_
    refine .nil <| .go <| .seq <| .seq <| .region <| .e (.move rfl) rfl rfl ?_
    refine .e (.geq rfl rfl) rfl rfl <| .nil <| .go ?_
    refine .split 8 rfl (fun h8 => ?_) (fun h8 => ?_)
    · skip
      replace h8 := of_decide_eq_true h8
      refine .cond_true rfl <| .seq <| .region <| .e (.move rfl) rfl rfl ?_
      have hb10 := blen_sh (n := (n / 2 ^ 32)) (j := 16) (by omega)
      refine .e ((.shrC rfl rfl (by decide) (shrN (n / 2 ^ 32) (j := 16) (by decide)))) rfl rfl <| .e (.assign rfl) rfl rfl <| .nil <| .go <| .region <| .e (.move rfl) rfl rfl ?_
      refine .e (.add (c := 48) rfl rfl (by decide)) rfl rfl <| .e (.assign rfl) rfl rfl <| .nil <| .go <| .seq <| .seq ?_
      refine .region <| .e (.move rfl) rfl rfl <| .e (.geq rfl rfl) rfl rfl <| .nil <| .go ?_
      refine .split 14 rfl (fun h14 => ?_) (fun h14 => ?_)
      · skip
        replace h14 := of_decide_eq_true h14
        refine .cond_true rfl <| .seq <| .region <| .e (.move rfl) rfl rfl ?_
        have hb16 := blen_sh (n := ((n / 2 ^ 32) / 2 ^ 16)) (j := 8) (by omega)
        refine .e ((.shrC rfl rfl (by decide) (shrN ((n / 2 ^ 32) / 2 ^ 16) (j := 8) (by decide)))) rfl rfl <| .e (.assign rfl) rfl rfl <| .nil <| .go <| .region <| .e (.move rfl) rfl rfl ?_
        refine .e (.add (c := 56) rfl rfl (by decide)) rfl rfl <| .e (.assign rfl) rfl rfl <| .nil <| .go <| .seq <| .region ?_
        refine .e (.move rfl) rfl rfl <| .e (.move rfl) rfl rfl <| .e ((EV.cast (.conv Try.underlying40 Try.underlying5 rfl) (congrArg (Value.int .u8) (IntWalk.u8_in (((((n / 2 ^ 32) / 2 ^ 16) / 2 ^ 8) : Nat) : Int) (by omega))))) rfl rfl <| .e ((EV.cast (.indexS (j := (((n / 2 ^ 32) / 2 ^ 16) / 2 ^ 8)) (s := tab8) Try.underlying9 rfl rfl rfl (tab_len (by omega))) (congrArg (Value.int .u8) (tab_at (by omega))))) rfl rfl <| .e ((EV.cast (.conv Try.underlying5 Try.underlying3 rfl) (congrArg (Value.int .i64) (IntWalk.i64_in _ (by have := blen_le (n := (((n / 2 ^ 32) / 2 ^ 16) / 2 ^ 8)) (j := 8) (by omega); omega))))) rfl rfl ?_
        have hbl := blen_le (n := (((n / 2 ^ 32) / 2 ^ 16) / 2 ^ 8)) (j := 8) (by omega)
        refine .e (.add rfl rfl (IntWalk.i64_in _ (by omega))) rfl rfl <| .e (.assign rfl) rfl rfl <| .nil <| .go <| .ret ?_
        refine Post.retE rfl rfl ?_
        exact congrArg (Value.int .i64) (by omega)
      · skip
        replace h14 := of_decide_eq_false h14
        refine .cond_false rfl <| .skip <| .go <| .seq <| .region <| .e (.move rfl) rfl rfl ?_
        refine .e (.move rfl) rfl rfl <| .e ((EV.cast (.conv Try.underlying40 Try.underlying5 rfl) (congrArg (Value.int .u8) (IntWalk.u8_in ((((n / 2 ^ 32) / 2 ^ 16) : Nat) : Int) (by omega))))) rfl rfl <| .e ((EV.cast (.indexS (j := ((n / 2 ^ 32) / 2 ^ 16)) (s := tab8) Try.underlying9 rfl rfl rfl (tab_len (by omega))) (congrArg (Value.int .u8) (tab_at (by omega))))) rfl rfl <| .e ((EV.cast (.conv Try.underlying5 Try.underlying3 rfl) (congrArg (Value.int .i64) (IntWalk.i64_in _ (by have := blen_le (n := ((n / 2 ^ 32) / 2 ^ 16)) (j := 8) (by omega); omega))))) rfl rfl ?_
        have hbl := blen_le (n := ((n / 2 ^ 32) / 2 ^ 16)) (j := 8) (by omega)
        refine .e (.add rfl rfl (IntWalk.i64_in _ (by omega))) rfl rfl <| .e (.assign rfl) rfl rfl <| .nil <| .go <| .ret ?_
        refine Post.retE rfl rfl ?_
        exact congrArg (Value.int .i64) (by omega)
    · skip
      replace h8 := of_decide_eq_false h8
      refine .cond_false rfl <| .skip <| .go <| .seq <| .seq <| .region ?_
      refine .e (.move rfl) rfl rfl <| .e (.geq rfl rfl) rfl rfl <| .nil <| .go ?_
      refine .split 14 rfl (fun h14 => ?_) (fun h14 => ?_)
      · skip
        replace h14 := of_decide_eq_true h14
        refine .cond_true rfl <| .seq <| .region <| .e (.move rfl) rfl rfl ?_
        have hb16 := blen_sh (n := (n / 2 ^ 32)) (j := 8) (by omega)
        refine .e ((.shrC rfl rfl (by decide) (shrN (n / 2 ^ 32) (j := 8) (by decide)))) rfl rfl <| .e (.assign rfl) rfl rfl <| .nil <| .go <| .region <| .e (.move rfl) rfl rfl ?_
        refine .e (.add (c := 40) rfl rfl (by decide)) rfl rfl <| .e (.assign rfl) rfl rfl <| .nil <| .go <| .seq <| .region ?_
        refine .e (.move rfl) rfl rfl <| .e (.move rfl) rfl rfl <| .e ((EV.cast (.conv Try.underlying40 Try.underlying5 rfl) (congrArg (Value.int .u8) (IntWalk.u8_in ((((n / 2 ^ 32) / 2 ^ 8) : Nat) : Int) (by omega))))) rfl rfl <| .e ((EV.cast (.indexS (j := ((n / 2 ^ 32) / 2 ^ 8)) (s := tab8) Try.underlying9 rfl rfl rfl (tab_len (by omega))) (congrArg (Value.int .u8) (tab_at (by omega))))) rfl rfl <| .e ((EV.cast (.conv Try.underlying5 Try.underlying3 rfl) (congrArg (Value.int .i64) (IntWalk.i64_in _ (by have := blen_le (n := ((n / 2 ^ 32) / 2 ^ 8)) (j := 8) (by omega); omega))))) rfl rfl ?_
        have hbl := blen_le (n := ((n / 2 ^ 32) / 2 ^ 8)) (j := 8) (by omega)
        refine .e (.add rfl rfl (IntWalk.i64_in _ (by omega))) rfl rfl <| .e (.assign rfl) rfl rfl <| .nil <| .go <| .ret ?_
        refine Post.retE rfl rfl ?_
        exact congrArg (Value.int .i64) (by omega)
      · skip
        replace h14 := of_decide_eq_false h14
        refine .cond_false rfl <| .skip <| .go <| .seq <| .region <| .e (.move rfl) rfl rfl ?_
        refine .e (.move rfl) rfl rfl <| .e ((EV.cast (.conv Try.underlying40 Try.underlying5 rfl) (congrArg (Value.int .u8) (IntWalk.u8_in (((n / 2 ^ 32) : Nat) : Int) (by omega))))) rfl rfl <| .e ((EV.cast (.indexS (j := (n / 2 ^ 32)) (s := tab8) Try.underlying9 rfl rfl rfl (tab_len (by omega))) (congrArg (Value.int .u8) (tab_at (by omega))))) rfl rfl <| .e ((EV.cast (.conv Try.underlying5 Try.underlying3 rfl) (congrArg (Value.int .i64) (IntWalk.i64_in _ (by have := blen_le (n := (n / 2 ^ 32)) (j := 8) (by omega); omega))))) rfl rfl ?_
        have hbl := blen_le (n := (n / 2 ^ 32)) (j := 8) (by omega)
        refine .e (.add rfl rfl (IntWalk.i64_in _ (by omega))) rfl rfl <| .e (.assign rfl) rfl rfl <| .nil <| .go <| .ret ?_
        refine Post.retE rfl rfl ?_
        exact congrArg (Value.int .i64) (by omega)
  · skip
    replace h4 := of_decide_eq_false h4
    refine .cond_false rfl <| .skip <| .go <| .seq <| .seq <| .region ?_
    refine .e (.move rfl) rfl rfl <| .e (.geq rfl rfl) rfl rfl <| .nil <| .go ?_
    refine .split 8 rfl (fun h8 => ?_) (fun h8 => ?_)
    · skip
      replace h8 := of_decide_eq_true h8
      refine .cond_true rfl <| .seq <| .region <| .e (.move rfl) rfl rfl ?_
      have hb10 := blen_sh (n := n) (j := 16) (by omega)
      refine .e ((.shrC rfl rfl (by decide) (shrN n (j := 16) (by decide)))) rfl rfl <| .e (.assign rfl) rfl rfl <| .nil <| .go <| .region <| .e (.move rfl) rfl rfl ?_
      refine .e (.add (c := 16) rfl rfl (by decide)) rfl rfl <| .e (.assign rfl) rfl rfl <| .nil <| .go <| .seq <| .seq ?_
      refine .region <| .e (.move rfl) rfl rfl <| .e (.geq rfl rfl) rfl rfl <| .nil <| .go ?_
      refine .split 14 rfl (fun h14 => ?_) (fun h14 => ?_)
      · skip
        replace h14 := of_decide_eq_true h14
        refine .cond_true rfl <| .seq <| .region <| .e (.move rfl) rfl rfl ?_
        have hb16 := blen_sh (n := (n / 2 ^ 16)) (j := 8) (by omega)
        refine .e ((.shrC rfl rfl (by decide) (shrN (n / 2 ^ 16) (j := 8) (by decide)))) rfl rfl <| .e (.assign rfl) rfl rfl <| .nil <| .go <| .region <| .e (.move rfl) rfl rfl ?_
        refine .e (.add (c := 24) rfl rfl (by decide)) rfl rfl <| .e (.assign rfl) rfl rfl <| .nil <| .go <| .seq <| .region ?_
        refine .e (.move rfl) rfl rfl <| .e (.move rfl) rfl rfl <| .e ((EV.cast (.conv Try.underlying40 Try.underlying5 rfl) (congrArg (Value.int .u8) (IntWalk.u8_in ((((n / 2 ^ 16) / 2 ^ 8) : Nat) : Int) (by omega))))) rfl rfl <| .e ((EV.cast (.indexS (j := ((n / 2 ^ 16) / 2 ^ 8)) (s := tab8) Try.underlying9 rfl rfl rfl (tab_len (by omega))) (congrArg (Value.int .u8) (tab_at (by omega))))) rfl rfl <| .e ((EV.cast (.conv Try.underlying5 Try.underlying3 rfl) (congrArg (Value.int .i64) (IntWalk.i64_in _ (by have := blen_le (n := ((n / 2 ^ 16) / 2 ^ 8)) (j := 8) (by omega); omega))))) rfl rfl ?_
        have hbl := blen_le (n := ((n / 2 ^ 16) / 2 ^ 8)) (j := 8) (by omega)
        refine .e (.add rfl rfl (IntWalk.i64_in _ (by omega))) rfl rfl <| .e (.assign rfl) rfl rfl <| .nil <| .go <| .ret ?_
        refine Post.retE rfl rfl ?_
        exact congrArg (Value.int .i64) (by omega)
      · skip
        replace h14 := of_decide_eq_false h14
        refine .cond_false rfl <| .skip <| .go <| .seq <| .region <| .e (.move rfl) rfl rfl ?_
        refine .e (.move rfl) rfl rfl <| .e ((EV.cast (.conv Try.underlying40 Try.underlying5 rfl) (congrArg (Value.int .u8) (IntWalk.u8_in (((n / 2 ^ 16) : Nat) : Int) (by omega))))) rfl rfl <| .e ((EV.cast (.indexS (j := (n / 2 ^ 16)) (s := tab8) Try.underlying9 rfl rfl rfl (tab_len (by omega))) (congrArg (Value.int .u8) (tab_at (by omega))))) rfl rfl <| .e ((EV.cast (.conv Try.underlying5 Try.underlying3 rfl) (congrArg (Value.int .i64) (IntWalk.i64_in _ (by have := blen_le (n := (n / 2 ^ 16)) (j := 8) (by omega); omega))))) rfl rfl ?_
        have hbl := blen_le (n := (n / 2 ^ 16)) (j := 8) (by omega)
        refine .e (.add rfl rfl (IntWalk.i64_in _ (by omega))) rfl rfl <| .e (.assign rfl) rfl rfl <| .nil <| .go <| .ret ?_
        refine Post.retE rfl rfl ?_
        exact congrArg (Value.int .i64) (by omega)
    · skip
      replace h8 := of_decide_eq_false h8
      refine .cond_false rfl <| .skip <| .go <| .seq <| .seq <| .region ?_
      refine .e (.move rfl) rfl rfl <| .e (.geq rfl rfl) rfl rfl <| .nil <| .go ?_
      refine .split 14 rfl (fun h14 => ?_) (fun h14 => ?_)
      · skip
        replace h14 := of_decide_eq_true h14
        refine .cond_true rfl <| .seq <| .region <| .e (.move rfl) rfl rfl ?_
        have hb16 := blen_sh (n := n) (j := 8) (by omega)
        refine .e ((.shrC rfl rfl (by decide) (shrN n (j := 8) (by decide)))) rfl rfl <| .e (.assign rfl) rfl rfl <| .nil <| .go <| .region <| .e (.move rfl) rfl rfl ?_
        refine .e (.add (c := 8) rfl rfl (by decide)) rfl rfl <| .e (.assign rfl) rfl rfl <| .nil <| .go <| .seq <| .region ?_
        refine .e (.move rfl) rfl rfl <| .e (.move rfl) rfl rfl <| .e ((EV.cast (.conv Try.underlying40 Try.underlying5 rfl) (congrArg (Value.int .u8) (IntWalk.u8_in (((n / 2 ^ 8) : Nat) : Int) (by omega))))) rfl rfl <| .e ((EV.cast (.indexS (j := (n / 2 ^ 8)) (s := tab8) Try.underlying9 rfl rfl rfl (tab_len (by omega))) (congrArg (Value.int .u8) (tab_at (by omega))))) rfl rfl <| .e ((EV.cast (.conv Try.underlying5 Try.underlying3 rfl) (congrArg (Value.int .i64) (IntWalk.i64_in _ (by have := blen_le (n := (n / 2 ^ 8)) (j := 8) (by omega); omega))))) rfl rfl ?_
        have hbl := blen_le (n := (n / 2 ^ 8)) (j := 8) (by omega)
        refine .e (.add rfl rfl (IntWalk.i64_in _ (by omega))) rfl rfl <| .e (.assign rfl) rfl rfl <| .nil <| .go <| .ret ?_
        refine Post.retE rfl rfl ?_
        exact congrArg (Value.int .i64) (by omega)
      · skip
        replace h14 := of_decide_eq_false h14
        refine .cond_false rfl <| .skip <| .go <| .seq <| .region <| .e (.move rfl) rfl rfl ?_
        refine .e (.move rfl) rfl rfl <| .e ((EV.cast (.conv Try.underlying40 Try.underlying5 rfl) (congrArg (Value.int .u8) (IntWalk.u8_in ((n : Nat) : Int) (by omega))))) rfl rfl <| .e ((EV.cast (.indexS (j := n) (s := tab8) Try.underlying9 rfl rfl rfl (tab_len (by omega))) (congrArg (Value.int .u8) (tab_at (by omega))))) rfl rfl <| .e ((EV.cast (.conv Try.underlying5 Try.underlying3 rfl) (congrArg (Value.int .i64) (IntWalk.i64_in _ (by have := blen_le (n := n) (j := 8) (by omega); omega))))) rfl rfl ?_
        have hbl := blen_le (n := n) (j := 8) (by omega)
        refine .e (.add rfl rfl (IntWalk.i64_in _ (by omega))) rfl rfl <| .e (.assign rfl) rfl rfl <| .nil <| .go <| .ret ?_
        refine Post.retE rfl rfl ?_
        exact congrArg (Value.int .i64) (by omega)

set_option maxHeartbeats 1000000 in
set_option maxRecDepth 20000 in
theorem number_ok {I : Imm} {O : Own} {n : Nat} (hn : n < 18446744073709551616) :
    Pure Try.prog 68 [.int .u64 (n : Nat)] I O (.string (numB n)) := by
  refine Go.Sy.Does.enter Try.func68 rfl Try.ntmps68 rfl ?_
  refine .seq <| .region <| .e (.assign rfl) rfl rfl <| .nil <| .go <| .seq ?_
  refine .region <| .e (.move rfl) rfl rfl <| .on rfl <| .callP cal77 rfl rfl rfl (len64_ok hn) <| .e (.add rfl rfl (IntWalk.i64_in _ (by have := blen_le (n := n) (j := 64) hn; omega))) rfl rfl <| .e (.quo rfl rfl (by decide) (quo8 hn)) rfl rfl <| .e (.assign rfl) rfl rfl ?_
  refine .nil <| .go <| .seq <| .region <| .e (.move rfl) rfl rfl <| .e (.add rfl rfl (wrap_succ (by have := kby_le hn; omega))) rfl rfl ?_
  have hkb := kby_le hn
  refine .on rfl <| .makeSlice (m := kby n + 1) Try.underlying92 sz5 by5 zv5 rfl rfl rfl (by omega) (by omega) rfl fun c1 _ _ => .e (.assign rfl) rfl rfl <| .nil <| .go <| .seq <| .region ?_
  refine .e (.move rfl) rfl rfl <| .e (.move rfl) rfl rfl <| .e (.conv Try.underlying3 Try.underlying5 rfl) rfl rfl <| .e (.indexAddrL sl92 rfl rfl rfl (Nat.zero_lt_succ _)) rfl rfl <| .on rfl <| .store sz5 rfl rfl rfl rfl rfl (Nat.ble_eq_true_of_le (by simp)) .here <| .nil ?_
  refine .go <| .seq <| .seq <| .region <| .e (.move rfl) rfl rfl <| .e (.move rfl) rfl rfl ?_
  refine .nil <| .go <| .block ?_
  rw [num_zero n (kby n)]
  refine .loopM [5, 18, 19, 20, 21, 22, 23, 24, 25, 26, 27, 28, 29, 30, 31] (fun i => kby n - i) (fun i => i ≤ kby n) (fun i => [(18, .int .i64 i)]) (fun _ => _) (fun i => (c1, .cells ⟨u8s (numTo n (kby n) i)⟩ 5 (0, 0)) :: _) (0) (Nat.zero_le _) ⟨rfl, trivial⟩ rfl rfl ?_
  intro i hi
  refine .seq <| .region <| .e (.lss rfl rfl) rfl rfl <| .nil <| .go <| .seq ?_
  refine .split 19 rfl (fun h19 => ?_) (fun h19 => ?_)
  · skip
    replace h19 := of_decide_eq_true h19
    refine .cond_true rfl <| .skip <| .go <| .seq <| .block <| .seq ?_
    refine .region <| .e (.move rfl) rfl rfl <| .e (.assign rfl) rfl rfl <| .nil <| .go <| .region ?_
    refine .e (.move rfl) rfl rfl <| .e (.move rfl) rfl rfl <| .e (.move rfl) rfl rfl <| .e (.sub rfl rfl (wrap_subN (by omega) (by omega))) rfl rfl <| .e (.move rfl) rfl rfl <| .e (.move rfl) rfl rfl ?_
    refine .e (.mul rfl rfl (wrap_mul8 (by omega))) rfl rfl <| .e ((.shrC rfl rfl (by omega) rfl)) rfl rfl <| .e (.conv Try.underlying40 Try.underlying5 rfl) rfl rfl <| .e (.indexAddrL sl92 rfl rfl rfl (by omega)) rfl rfl <| .on rfl <| .store sz5 rfl rfl rfl rfl rfl (Nat.ble_eq_true_of_le (by first | (simp [u8s, numTo_len]; done) | (simp [u8s, numTo_len]; omega))) .here <| .nil ?_
    refine .blk_normal <| .go <| .region <| .e (.add rfl rfl (by first | exact wrap_succ (by omega) | exact IntWalk.i64_in _ (by omega) | exact rfl)) rfl rfl <| .e (.move rfl) rfl rfl <| .nil ?_
    rw [u8s_set (by rw [numTo_len]; omega)]
    exact .mid (i + 1) ⟨by omega, by omega⟩ ⟨rfl, trivial⟩ rfl rfl (.pre 16 rfl (.app rfl .base))
  · skip
    replace h19 := of_decide_eq_false h19
    refine .cond_false rfl <| .exit <| .exit <| .exit <| .blk_exit <| .go ?_
    refine .seq <| .region <| .e (.move rfl) rfl rfl <| .e ((.bytesStr (zs := numTo n (kby n) i) Try.underlying92 Try.underlying9 Try.underlying5 rfl .here (numTo_len n (kby n) i) (fun j u hu => by simpa using hu))) rfl rfl <| .e (.assign rfl) rfl rfl <| .nil ?_
    refine .go <| .ret ?_
    refine .tail ?_
    refine Post.retE rfl rfl ?_
    unfold numB
    exact congrArg (fun i => Value.string (bytesOf (numTo n (kby n) i))) (show i = kby n by omega)

set_option maxHeartbeats 1000000 in
set_option maxRecDepth 20000 in
theorem text_ok {I : Imm} {O : Own} {s : ByteArray} (hs : s.size ≤ 140737488351232) :
    Pure Try.prog 69 [.string s] I O (.string (textB s)) := by
  refine Go.Sy.Does.enter Try.func69 rfl Try.ntmps69 rfl ?_
  refine .seq <| .region <| .e (.assign rfl) rfl rfl <| .nil <| .go <| .seq ?_
  refine .region <| .e (.move rfl) rfl rfl <| .e (.lenS Try.underlying9 rfl rfl) rfl rfl <| .e ((EV.cast (.conv Try.underlying3 Try.underlying40 rfl) (congrArg (Value.int .u64) (IntWalk.u64_in ((s.size : Nat) : Int) (by omega))))) rfl rfl <| .on rfl <| .callP cal68 rfl rfl rfl (number_ok (n := s.size) (by omega)) <| .e (.move rfl) rfl rfl ?_
  refine .e (.strcat rfl rfl (show (numB s.size).size + s.size ≤ 9223372036854775807 by rw [numB_size]; have := kby_le (n := s.size) (by omega); omega)) rfl rfl <| .e (.assign rfl) rfl rfl <| .nil <| .go <| .ret ?_
  refine Post.retE rfl rfl ?_
  rfl

end Go.Proofs.Ytjoaccnfnniahaa

namespace Go.Proofs.Ytjoaccnfnniahaa
open Go.Sy
set_option linter.unusedSimpArgs false
set_option linter.unusedVariables false

theorem takeN_ne {s t : ByteArray} {k : Nat} (h : ¬s = ⟨#[]⟩) (hk : (s.data.toList.getD 0 0).toNat = k) (ht : s.extract 1 s.size = t) : takeN s = if 8 < k ∨ (0 < k ∧ t ≠ ⟨#[]⟩ ∧ (t.data.toList.getD 0 0).toNat = 0) then (0, ⟨#[]⟩, 4) else if t.size < k then (0, ⟨#[]⟩, 3) else (valB (t.extract 0 k), t.extract k t.size, 0) := by
  subst hk ht; unfold takeN; rw [if_neg h]
theorem takeT_eq {s r : ByteArray} {n e : Int} (h : takeN s = (n, r, e)) : takeT s = if e = 0 then (if 65536 < n then (⟨#[]⟩, ⟨#[]⟩, 2) else if (r.size : Int) < n then (⟨#[]⟩, ⟨#[]⟩, 3) else (r.extract 0 n.toNat, r.extract n.toNat r.size, 0)) else (⟨#[]⟩, ⟨#[]⟩, e) := by
  unfold takeT; rw [h]

set_option maxHeartbeats 4000000 in
set_option maxRecDepth 20000 in
theorem TakeNumber_ok {I : Imm} {O : Own} {s : ByteArray} (hs : StrOk s) :
    Pure Try.prog 71 [.string s] I O (triN (takeN s)) := by
  have hs0 := hs
  unfold StrOk at hs0
  refine Go.Sy.Does.enter Try.func71 rfl Try.ntmps71 rfl ?_
  refine .seq <| .region <| .e (.assign rfl) rfl rfl <| .e (.assign rfl) rfl rfl <| .e (.assign rfl) rfl rfl <| .nil ?_
  refine .go <| .seq <| .seq <| .region <| .e (.move rfl) rfl rfl <| .e (.streq rfl rfl) rfl rfl ?_
  refine .nil <| .go ?_
  refine .split 7 rfl (fun h7 => ?_) (fun h7 => ?_)
  · skip
    replace h7 := of_decide_eq_true h7
    refine .cond_true rfl <| .seq <| .region <| .e (.assign rfl) rfl rfl <| .e (.assign rfl) rfl rfl <| .e (.assign rfl) rfl rfl ?_
    refine .nil <| .go <| .ret <| .ret ?_
    refine Post.retsE rfl (.tmp rfl (.tmp rfl (.tmp rfl .nil))) rfl (fun w h => h) ?_
    exact triN_eq (by unfold takeN; rw [if_pos h7])
  · skip
    replace h7 := of_decide_eq_false h7
    have hl0 := ne_len h7
    obtain ⟨k, hk⟩ : ∃ k : Nat, s.data.toList[0].toNat = k := ⟨_, rfl⟩
    have hk' : (s.data.toList.getD 0 0).toNat = k := by rw [hd_eq hl0]; exact hk
    have hk256 : k < 256 := by rw [← hk]; exact UInt8.toNat_lt _
    obtain ⟨t, ht⟩ : ∃ t, s.extract 1 s.size = t := ⟨_, rfl⟩
    have htz : t.size = s.size - 1 := by rw [← ht, ByteArray.size_extract]; omega
    have hl0' : 0 < s.size := by simpa using hl0
    refine .cond_false rfl <| .skip <| .go <| .seq <| .region <| .e (.move rfl) rfl rfl ?_
    refine .e ((EV.cast (.indexS (j := 0) Try.underlying9 rfl rfl rfl hl0) (congrArg (fun x : Nat => Value.int .u8 (x : Int)) hk))) rfl rfl <| .e ((EV.cast (.conv Try.underlying5 Try.underlying3 rfl) (congrArg (Value.int .i64) (IntWalk.i64_in ((k : Nat) : Int) (by omega))))) rfl rfl <| .e (.assign rfl) rfl rfl <| .nil <| .go <| .seq ?_
    refine .seq <| .region <| .e (.move rfl) rfl rfl <| .e ((EV.cast (.strL (l := 1) Try.underlying9 rfl rfl rfl (by omega)) (congrArg Value.string ht))) rfl rfl <| .e (.assign rfl) rfl rfl <| .nil ?_
    refine .go <| .block <| .seq <| .region <| .e (.move rfl) rfl rfl <| .e (.gtr rfl rfl) rfl rfl ?_
    refine .e (.move rfl) rfl rfl ?_
    refine .split 16 rfl (fun h16 => ?_) (fun h16 => ?_)
    · skip
      replace h16 := of_decide_eq_true h16
      refine .off rfl rfl <| .off rfl rfl <| .off rfl rfl <| .off rfl rfl <| .off rfl rfl <| .off rfl rfl ?_
      refine .off rfl rfl <| .off rfl rfl <| .off rfl rfl <| .off rfl rfl <| .off rfl rfl <| .e (.pickT rfl rfl) rfl rfl ?_
      refine .e (.assign rfl) rfl rfl <| .nil <| .go <| .cond_true rfl <| .seq <| .region ?_
      refine .e (.assign rfl) rfl rfl <| .e (.assign rfl) rfl rfl <| .e (.assign rfl) rfl rfl <| .nil <| .go <| .ret ?_
      refine .blk_ret <| .ret ?_
      refine Post.retsE rfl (.tmp rfl (.tmp rfl (.tmp rfl .nil))) rfl (fun w h => h) ?_
      exact triN_eq (by rw [takeN_ne h7 hk' ht]; rw [if_pos (.inl (by omega))])
    · skip
      replace h16 := of_decide_eq_false h16
      refine .e (.move rfl) rfl rfl <| .e (.gtr rfl rfl) rfl rfl <| .e (.move rfl) rfl rfl ?_
      refine .split 19 rfl (fun h19 => ?_) (fun h19 => ?_)
      · skip
        replace h19 := of_decide_eq_true h19
        refine .e (.move rfl) rfl rfl <| .e (.strne rfl rfl) rfl rfl <| .e (.pickT rfl rfl) rfl rfl <| .e (.move rfl) rfl rfl ?_
        refine .split 23 rfl (fun h23 => ?_) (fun h23 => ?_)
        · skip
          first | replace h23 := of_decide_eq_false ((Bool.not_eq_true' _).mp h23) | replace h23 := of_decide_eq_false (by simpa using h23)
          have hl1 := ne_len h23
          refine .e (.move rfl) rfl rfl <| .e ((.indexS (j := 0) Try.underlying9 rfl rfl rfl hl1)) rfl rfl <| .e (.eql rfl rfl) rfl rfl <| .e (.pickT rfl rfl) rfl rfl <| .e (.pickF rfl rfl) rfl rfl <| .e (.assign rfl) rfl rfl ?_
          refine .nil <| .go ?_
          refine .split 13 rfl (fun h13 => ?_) (fun h13 => ?_)
          · skip
            replace h13 := of_decide_eq_true h13
            refine .cond_true rfl <| .seq <| .region <| .e (.assign rfl) rfl rfl <| .e (.assign rfl) rfl rfl <| .e (.assign rfl) rfl rfl ?_
            refine .nil <| .go <| .ret <| .blk_ret <| .ret ?_
            refine Post.retsE rfl (.tmp rfl (.tmp rfl (.tmp rfl .nil))) rfl (fun w h => h) ?_
            exact triN_eq (by rw [takeN_ne h7 hk' ht]; rw [if_pos (.inr ⟨by omega, h23, by rw [hd_eq hl1]; omega⟩)])
          · skip
            replace h13 := of_decide_eq_false h13
            refine .cond_false rfl <| .seq <| .region <| .e (.move rfl) rfl rfl <| .e (.move rfl) rfl rfl <| .e (.lenS Try.underlying9 rfl rfl) rfl rfl ?_
            refine .e (.gtr rfl rfl) rfl rfl <| .e (.assign rfl) rfl rfl <| .nil <| .go ?_
            refine .split 29 rfl (fun h29 => ?_) (fun h29 => ?_)
            · skip
              replace h29 := of_decide_eq_true h29
              refine .cond_true rfl <| .seq <| .region <| .e (.assign rfl) rfl rfl <| .e (.assign rfl) rfl rfl <| .e (.assign rfl) rfl rfl ?_
              refine .nil <| .go <| .ret <| .blk_ret <| .ret ?_
              refine Post.retsE rfl (.tmp rfl (.tmp rfl (.tmp rfl .nil))) rfl (fun w h => h) ?_
              exact triN_eq (by rw [takeN_ne h7 hk' ht]; rw [if_neg (by rintro (ha | ⟨ha, hb, hc⟩) <;> first | omega | (rw [hd_eq hl1] at hc; omega)), if_pos (by omega)])
            · skip
              replace h29 := of_decide_eq_false h29
              refine .cond_false rfl <| .skip <| .blk_normal <| .go <| .seq ?_
              refine .draw [] mixed .nil ?_
              refine .t 0 rfl (.move rfl) rfl rfl (by kernel_rfl) <| .t 1 rfl (.move rfl) rfl rfl (by kernel_rfl) <| .t 2 rfl ((.strH (h := k) Try.underlying9 rfl rfl rfl (by omega))) rfl rfl (by kernel_rfl) <| .t 4 rfl (.move rfl) rfl rfl (by kernel_rfl) <| .t 5 rfl (.move rfl) rfl rfl (by kernel_rfl) <| .t 6 rfl ((.strL (l := k) Try.underlying9 rfl rfl rfl (by omega))) rfl rfl (by kernel_rfl) ?_
              refine .one (i := 3) (by kernel_rfl) rfl rfl <| .callP cal25 rfl rfl rfl (value_ok (s := t.extract 0 k) (by unfold StrOk; rw [ByteArray.size_extract]; omega)) ?_
              refine ⟨.nil, Imm.le_refl _, ?_⟩
              refine .t 7 rfl (.assign rfl) rfl rfl (by kernel_rfl) <| .t 8 rfl (.assign rfl) rfl rfl (by kernel_rfl) <| .t 9 rfl (.assign rfl) rfl rfl (by kernel_rfl) <| .done (by kernel_rfl) <| .go <| .ret ?_
              refine Post.retsE rfl (.tmp rfl (.tmp rfl (.tmp rfl .nil))) rfl (fun w h => h) ?_
              exact triN_eq (by rw [takeN_ne h7 hk' ht]; rw [if_neg (by rintro (ha | ⟨ha, hb, hc⟩) <;> first | omega | (rw [hd_eq hl1] at hc; omega)), if_neg (by omega)])
        · skip
          first | replace h23 := of_decide_eq_true ((Bool.not_eq_false' _).mp h23) | replace h23 := of_decide_eq_true (by simpa using h23)
          refine .off rfl rfl <| .off rfl rfl <| .off rfl rfl <| .e (.pickF rfl rfl) rfl rfl <| .e (.pickF rfl rfl) rfl rfl <| .e (.assign rfl) rfl rfl ?_
          refine .nil <| .go <| .cond_false rfl <| .seq <| .region <| .e (.move rfl) rfl rfl ?_
          refine .e (.move rfl) rfl rfl <| .e (.lenS Try.underlying9 rfl rfl) rfl rfl <| .e (.gtr rfl rfl) rfl rfl <| .e (.assign rfl) rfl rfl <| .nil <| .go ?_
          refine .split 29 rfl (fun h29 => ?_) (fun h29 => ?_)
          · skip
            replace h29 := of_decide_eq_true h29
            refine .cond_true rfl <| .seq <| .region <| .e (.assign rfl) rfl rfl <| .e (.assign rfl) rfl rfl <| .e (.assign rfl) rfl rfl ?_
            refine .nil <| .go <| .ret <| .blk_ret <| .ret ?_
            refine Post.retsE rfl (.tmp rfl (.tmp rfl (.tmp rfl .nil))) rfl (fun w h => h) ?_
            exact triN_eq (by rw [takeN_ne h7 hk' ht]; rw [if_neg (by rintro (ha | ⟨ha, hb, hc⟩) <;> first | omega | exact hb h23), if_pos (by omega)])
          · skip
            replace h29 := of_decide_eq_false h29
            refine .cond_false rfl <| .skip <| .blk_normal <| .go <| .seq ?_
            refine .draw [] mixed .nil ?_
            refine .t 0 rfl (.move rfl) rfl rfl (by kernel_rfl) <| .t 1 rfl (.move rfl) rfl rfl (by kernel_rfl) <| .t 2 rfl ((.strH (h := k) Try.underlying9 rfl rfl rfl (by omega))) rfl rfl (by kernel_rfl) <| .t 4 rfl (.move rfl) rfl rfl (by kernel_rfl) <| .t 5 rfl (.move rfl) rfl rfl (by kernel_rfl) <| .t 6 rfl ((.strL (l := k) Try.underlying9 rfl rfl rfl (by omega))) rfl rfl (by kernel_rfl) ?_
            refine .one (i := 3) (by kernel_rfl) rfl rfl <| .callP cal25 rfl rfl rfl (value_ok (s := t.extract 0 k) (by unfold StrOk; rw [ByteArray.size_extract]; omega)) ?_
            refine ⟨.nil, Imm.le_refl _, ?_⟩
            refine .t 7 rfl (.assign rfl) rfl rfl (by kernel_rfl) <| .t 8 rfl (.assign rfl) rfl rfl (by kernel_rfl) <| .t 9 rfl (.assign rfl) rfl rfl (by kernel_rfl) <| .done (by kernel_rfl) <| .go <| .ret ?_
            refine Post.retsE rfl (.tmp rfl (.tmp rfl (.tmp rfl .nil))) rfl (fun w h => h) ?_
            exact triN_eq (by rw [takeN_ne h7 hk' ht]; rw [if_neg (by rintro (ha | ⟨ha, hb, hc⟩) <;> first | omega | exact hb h23), if_neg (by omega)])
      · skip
        replace h19 := of_decide_eq_false h19
        refine .off rfl rfl <| .off rfl rfl <| .e (.pickF rfl rfl) rfl rfl <| .e (.move rfl) rfl rfl <| .off rfl rfl <| .off rfl rfl ?_
        refine .off rfl rfl <| .e (.pickF rfl rfl) rfl rfl <| .e (.pickF rfl rfl) rfl rfl <| .e (.assign rfl) rfl rfl <| .nil <| .go ?_
        refine .cond_false rfl <| .seq <| .region <| .e (.move rfl) rfl rfl <| .e (.move rfl) rfl rfl <| .e (.lenS Try.underlying9 rfl rfl) rfl rfl ?_
        refine .e (.gtr rfl rfl) rfl rfl <| .e (.assign rfl) rfl rfl <| .nil <| .go ?_
        refine .split 29 rfl (fun h29 => ?_) (fun h29 => ?_)
        · skip
          replace h29 := of_decide_eq_true h29
          refine .cond_true rfl <| .seq <| .region <| .e (.assign rfl) rfl rfl <| .e (.assign rfl) rfl rfl <| .e (.assign rfl) rfl rfl ?_
          refine .nil <| .go <| .ret <| .blk_ret <| .ret ?_
          refine Post.retsE rfl (.tmp rfl (.tmp rfl (.tmp rfl .nil))) rfl (fun w h => h) ?_
          exact triN_eq (by rw [takeN_ne h7 hk' ht]; rw [if_neg (by rintro (ha | ⟨ha, hb, hc⟩) <;> omega), if_pos (by omega)])
        · skip
          replace h29 := of_decide_eq_false h29
          refine .cond_false rfl <| .skip <| .blk_normal <| .go <| .seq ?_
          refine .draw [] mixed .nil ?_
          refine .t 0 rfl (.move rfl) rfl rfl (by kernel_rfl) <| .t 1 rfl (.move rfl) rfl rfl (by kernel_rfl) <| .t 2 rfl ((.strH (h := k) Try.underlying9 rfl rfl rfl (by omega))) rfl rfl (by kernel_rfl) <| .t 4 rfl (.move rfl) rfl rfl (by kernel_rfl) <| .t 5 rfl (.move rfl) rfl rfl (by kernel_rfl) <| .t 6 rfl ((.strL (l := k) Try.underlying9 rfl rfl rfl (by omega))) rfl rfl (by kernel_rfl) ?_
          refine .one (i := 3) (by kernel_rfl) rfl rfl <| .callP cal25 rfl rfl rfl (value_ok (s := t.extract 0 k) (by unfold StrOk; rw [ByteArray.size_extract]; omega)) ?_
          refine ⟨.nil, Imm.le_refl _, ?_⟩
          refine .t 7 rfl (.assign rfl) rfl rfl (by kernel_rfl) <| .t 8 rfl (.assign rfl) rfl rfl (by kernel_rfl) <| .t 9 rfl (.assign rfl) rfl rfl (by kernel_rfl) <| .done (by kernel_rfl) <| .go <| .ret ?_
          refine Post.retsE rfl (.tmp rfl (.tmp rfl (.tmp rfl .nil))) rfl (fun w h => h) ?_
          exact triN_eq (by rw [takeN_ne h7 hk' ht]; rw [if_neg (by rintro (ha | ⟨ha, hb, hc⟩) <;> omega), if_neg (by omega)])

set_option maxHeartbeats 4000000 in
set_option maxRecDepth 20000 in
theorem TakeText_ok {I : Imm} {O : Own} {s : ByteArray} (hs : StrOk s) :
    Pure Try.prog 74 [.string s] I O (trio (takeT s)) := by
  have hs0 := hs
  unfold StrOk at hs0
  have hnz := takeN_u64 s
  have hrz := takeN_size s
  obtain ⟨n, r, e, hT⟩ : ∃ n r e, takeN s = (n, r, e) := ⟨_, _, _, rfl⟩
  rw [hT] at hnz hrz
  dsimp only at hnz hrz
  refine Go.Sy.Does.enter Try.func74 rfl Try.ntmps74 rfl ?_
  refine .seq <| .region <| .e (.assign rfl) rfl rfl <| .e (.assign rfl) rfl rfl <| .e (.assign rfl) rfl rfl <| .nil ?_
  refine .go <| .seq <| .region <| .e (.move rfl) rfl rfl <| .on rfl <| .callP cal71 rfl rfl rfl ((TakeNumber_ok hs).cast (congrArg triN hT)) <| .e (.move rfl) rfl rfl ?_
  refine .e (.extract rfl rfl) rfl rfl <| .e (.extract rfl rfl) rfl rfl <| .e (.extract rfl rfl) rfl rfl <| .e (.assign rfl) rfl rfl <| .e (.assign rfl) rfl rfl <| .e (.assign rfl) rfl rfl ?_
  refine .nil <| .go <| .seq <| .block <| .seq <| .region ?_
  refine .e (.move rfl) rfl rfl <| .e (.neq rfl rfl) rfl rfl <| .e (.assign rfl) rfl rfl <| .nil <| .go ?_
  refine .split 14 rfl (fun h14 => ?_) (fun h14 => ?_)
  · skip
    first | replace h14 := of_decide_eq_false ((Bool.not_eq_true' _).mp h14) | replace h14 := of_decide_eq_false (by simpa using h14)
    refine .cond_true rfl <| .seq <| .region <| .e (.move rfl) rfl rfl <| .e (.assign rfl) rfl rfl <| .e (.assign rfl) rfl rfl ?_
    refine .e (.assign rfl) rfl rfl <| .nil <| .go <| .ret <| .blk_ret <| .ret ?_
    refine Post.retsE rfl (.tmp rfl (.tmp rfl (.tmp rfl .nil))) rfl (fun w h => h) ?_
    exact trio_eq (by rw [takeT_eq hT]; rw [if_neg h14])
  · skip
    first | replace h14 := of_decide_eq_true ((Bool.not_eq_false' _).mp h14) | replace h14 := of_decide_eq_true (by simpa using h14)
    refine .cond_false rfl <| .seq <| .region <| .e (.move rfl) rfl rfl <| .e (.gtr rfl rfl) rfl rfl <| .e (.assign rfl) rfl rfl ?_
    refine .nil <| .go ?_
    refine .split 18 rfl (fun h18 => ?_) (fun h18 => ?_)
    · skip
      replace h18 := of_decide_eq_true h18
      refine .cond_true rfl <| .seq <| .region <| .e (.assign rfl) rfl rfl <| .e (.assign rfl) rfl rfl <| .e (.assign rfl) rfl rfl ?_
      refine .nil <| .go <| .ret <| .blk_ret <| .ret ?_
      refine Post.retsE rfl (.tmp rfl (.tmp rfl (.tmp rfl .nil))) rfl (fun w h => h) ?_
      exact trio_eq (by rw [takeT_eq hT]; rw [if_pos h14, if_pos h18])
    · skip
      replace h18 := of_decide_eq_false h18
      refine .cond_false rfl <| .seq <| .region <| .e (.move rfl) rfl rfl <| .e (.move rfl) rfl rfl <| .e (.lenS Try.underlying9 rfl rfl) rfl rfl ?_
      refine .e ((EV.cast (.conv Try.underlying3 Try.underlying40 rfl) (congrArg (Value.int .u64) (IntWalk.u64_in ((r.size : Nat) : Int) (by omega))))) rfl rfl <| .e (.gtr rfl rfl) rfl rfl <| .e (.assign rfl) rfl rfl <| .nil <| .go ?_
      refine .split 21 rfl (fun h21 => ?_) (fun h21 => ?_)
      · skip
        replace h21 := of_decide_eq_true h21
        refine .cond_true rfl <| .seq <| .region <| .e (.assign rfl) rfl rfl <| .e (.assign rfl) rfl rfl <| .e (.assign rfl) rfl rfl ?_
        refine .nil <| .go <| .ret <| .blk_ret <| .ret ?_
        refine Post.retsE rfl (.tmp rfl (.tmp rfl (.tmp rfl .nil))) rfl (fun w h => h) ?_
        exact trio_eq (by rw [takeT_eq hT]; rw [if_pos h14, if_neg h18, if_pos h21])
      · skip
        replace h21 := of_decide_eq_false h21
        refine .cond_false rfl <| .skip <| .blk_normal <| .go <| .seq ?_
        refine .draw [] mixed .nil ?_
        refine .t 0 rfl (.move rfl) rfl rfl (by kernel_rfl) <| .t 1 rfl (.move rfl) rfl rfl (by kernel_rfl) <| .t 2 rfl ((.strH (h := n.toNat) Try.underlying9 rfl rfl (by omega) (by show n.toNat ≤ r.size; omega))) rfl rfl (by kernel_rfl) <| .t 3 rfl (.move rfl) rfl rfl (by kernel_rfl) <| .t 4 rfl (.move rfl) rfl rfl (by kernel_rfl) <| .t 5 rfl ((.strL (l := n.toNat) Try.underlying9 rfl rfl (by omega) (by show n.toNat ≤ r.size; omega))) rfl rfl (by kernel_rfl) ?_
        refine .t 6 rfl (.assign rfl) rfl rfl (by kernel_rfl) <| .t 7 rfl (.assign rfl) rfl rfl (by kernel_rfl) <| .t 8 rfl (.assign rfl) rfl rfl (by kernel_rfl) <| .done (by kernel_rfl) <| .go <| .ret ?_
        refine Post.retsE rfl (.tmp rfl (.tmp rfl (.tmp rfl .nil))) rfl (fun w h => h) ?_
        exact trio_eq (by rw [takeT_eq hT]; rw [if_pos h14, if_neg h18, if_neg h21])

end Go.Proofs.Ytjoaccnfnniahaa

namespace Go.Proofs.Ytjoaccnfnniahaa
open Go.Sy
set_option linter.unusedSimpArgs false
set_option linter.unusedVariables false

def tkN (l : ByteArray) (b : Bool) : Int × ByteArray × Bool := ((takeN l).1, (takeN l).2.1, b || !decide ((takeN l).2.2 = 0))
def tkT (l : ByteArray) (b : Bool) : ByteArray × ByteArray × Bool := ((takeT l).1, (takeT l).2.1, b || !decide ((takeT l).2.2 = 0))
theorem tkN_str {l : ByteArray} {b : Bool} (h : StrOk l) : StrOk (tkN l b).2.1 := Nat.le_trans (takeN_size l) h
theorem tkT_str {l : ByteArray} {b : Bool} (h : StrOk l) : StrOk (tkT l b).2.1 := Nat.le_trans (Nat.le_trans (Nat.le_add_left _ _) (takeT_size l)) h
def TkO (c : Nat) (T : TypeId) (l : ByteArray) (b : Bool) : Nat × Obj := (c, .cells ⟨[.string l, .bool b]⟩ T (0, 0))

set_option maxHeartbeats 1000000 in
set_option maxRecDepth 20000 in
theorem tkNumber_ok {I : Imm} {O : Own} {c : Nat} {T : TypeId} {l : ByteArray} {b : Bool} (hs : StrOk l) :
    Go.Sy.Does Try.prog 54 [.pointer (some ⟨c, 0, none⟩)] I ((c, .cells ⟨[.string l, .bool b]⟩ T (0, 0)) :: O) (fun u I' O' => u = .int .u64 (tkN l b).1 ∧ I' = I ∧ O' = (c, .cells ⟨[.string (tkN l b).2.1, .bool (tkN l b).2.2]⟩ T (0, 0)) :: O) := by
  obtain ⟨n, r, e, hT⟩ : ∃ n r e, takeN l = (n, r, e) := ⟨_, _, _, rfl⟩
  refine Go.Sy.Does.enter Try.func54 rfl Try.ntmps54 rfl ?_
  refine .seq <| .region <| .e (.assign rfl) rfl rfl <| .nil <| .go <| .seq ?_
  refine .region <| .e (.move rfl) rfl rfl <| .e (.nilCheck rfl) rfl rfl <| .e (.fieldAddr fo115_0 rfl) rfl rfl <| .e (.load ag9 rfl .here rfl) rfl rfl <| .on rfl <| .callP cal71 rfl rfl rfl ((TakeNumber_ok hs).cast (congrArg triN hT)) ?_
  refine .e (.move rfl) rfl rfl <| .e (.extract rfl rfl) rfl rfl <| .e (.extract rfl rfl) rfl rfl <| .e (.extract rfl rfl) rfl rfl <| .e (.assign rfl) rfl rfl <| .e (.assign rfl) rfl rfl ?_
  refine .e (.assign rfl) rfl rfl <| .nil <| .go <| .seq <| .region <| .e (.move rfl) rfl rfl ?_
  refine .e (.move rfl) rfl rfl <| .e (.move rfl) rfl rfl <| .e (.move rfl) rfl rfl <| .e (.nilCheck rfl) rfl rfl <| .e (.fieldAddr fo115_1 rfl) rfl rfl <| .e (.load ag4 rfl .here rfl) rfl rfl ?_
  refine .e (.move rfl) rfl rfl ?_
  refine .split 22 rfl (fun h22 => ?_) (fun h22 => ?_)
  · skip
    refine .off rfl rfl <| .off rfl rfl <| .e (.pickT rfl rfl) rfl rfl <| .e (.nilCheck rfl) rfl rfl <| .e (.fieldAddr fo115_0 rfl) rfl rfl <| .on rfl <| .store sz9 rfl rfl rfl rfl rfl rfl .here ?_
    refine .e (.nilCheck rfl) rfl rfl <| .e (.fieldAddr fo115_1 rfl) rfl rfl <| .on rfl <| .store sz4 rfl rfl rfl rfl rfl rfl .here <| .nil <| .go <| .seq ?_
    refine .region <| .e (.move rfl) rfl rfl <| .e (.assign rfl) rfl rfl <| .nil <| .go <| .ret ?_
    refine Post.rets rfl (.tmp rfl .nil) rfl (Imm.le_refl _) (fun w h => h) ?_
    have hR : tkN l b = (n, r, true) := by unfold tkN; rw [hT]; simp_all
    rw [hR]
    exact ⟨rfl, rfl, rfl⟩
  · skip
    refine .e (.move rfl) rfl rfl <| .e (.neq rfl rfl) rfl rfl <| .e (.pickF rfl rfl) rfl rfl <| .e (.nilCheck rfl) rfl rfl <| .e (.fieldAddr fo115_0 rfl) rfl rfl <| .on rfl <| .store sz9 rfl rfl rfl rfl rfl rfl .here ?_
    refine .e (.nilCheck rfl) rfl rfl <| .e (.fieldAddr fo115_1 rfl) rfl rfl <| .on rfl <| .store sz4 rfl rfl rfl rfl rfl rfl .here <| .nil <| .go <| .seq ?_
    refine .region <| .e (.move rfl) rfl rfl <| .e (.assign rfl) rfl rfl <| .nil <| .go <| .ret ?_
    refine Post.rets rfl (.tmp rfl .nil) rfl (Imm.le_refl _) (fun w h => h) ?_
    have hR : tkN l b = (n, r, !decide (e = 0)) := by unfold tkN; rw [hT]; simp_all
    rw [hR]
    exact ⟨rfl, rfl, rfl⟩

set_option maxHeartbeats 1000000 in
set_option maxRecDepth 20000 in
theorem tkText_ok {I : Imm} {O : Own} {c : Nat} {T : TypeId} {l : ByteArray} {b : Bool} (hs : StrOk l) :
    Go.Sy.Does Try.prog 60 [.pointer (some ⟨c, 0, none⟩)] I ((c, .cells ⟨[.string l, .bool b]⟩ T (0, 0)) :: O) (fun u I' O' => u = .string (tkT l b).1 ∧ I' = I ∧ O' = (c, .cells ⟨[.string (tkT l b).2.1, .bool (tkT l b).2.2]⟩ T (0, 0)) :: O) := by
  obtain ⟨n, r, e, hT⟩ : ∃ n r e, takeT l = (n, r, e) := ⟨_, _, _, rfl⟩
  refine Go.Sy.Does.enter Try.func60 rfl Try.ntmps60 rfl ?_
  refine .seq <| .region <| .e (.assign rfl) rfl rfl <| .nil <| .go <| .seq ?_
  refine .region <| .e (.move rfl) rfl rfl <| .e (.nilCheck rfl) rfl rfl <| .e (.fieldAddr fo115_0 rfl) rfl rfl <| .e (.load ag9 rfl .here rfl) rfl rfl <| .on rfl <| .callP cal74 rfl rfl rfl ((TakeText_ok hs).cast (congrArg trio hT)) ?_
  refine .e (.move rfl) rfl rfl <| .e (.extract rfl rfl) rfl rfl <| .e (.extract rfl rfl) rfl rfl <| .e (.extract rfl rfl) rfl rfl <| .e (.assign rfl) rfl rfl <| .e (.assign rfl) rfl rfl ?_
  refine .e (.assign rfl) rfl rfl <| .nil <| .go <| .seq <| .region <| .e (.move rfl) rfl rfl ?_
  refine .e (.move rfl) rfl rfl <| .e (.move rfl) rfl rfl <| .e (.move rfl) rfl rfl <| .e (.nilCheck rfl) rfl rfl <| .e (.fieldAddr fo115_1 rfl) rfl rfl <| .e (.load ag4 rfl .here rfl) rfl rfl ?_
  refine .e (.move rfl) rfl rfl ?_
  refine .split 22 rfl (fun h22 => ?_) (fun h22 => ?_)
  · skip
    refine .off rfl rfl <| .off rfl rfl <| .e (.pickT rfl rfl) rfl rfl <| .e (.nilCheck rfl) rfl rfl <| .e (.fieldAddr fo115_0 rfl) rfl rfl <| .on rfl <| .store sz9 rfl rfl rfl rfl rfl rfl .here ?_
    refine .e (.nilCheck rfl) rfl rfl <| .e (.fieldAddr fo115_1 rfl) rfl rfl <| .on rfl <| .store sz4 rfl rfl rfl rfl rfl rfl .here <| .nil <| .go <| .seq ?_
    refine .region <| .e (.move rfl) rfl rfl <| .e (.assign rfl) rfl rfl <| .nil <| .go <| .ret ?_
    refine Post.rets rfl (.tmp rfl .nil) rfl (Imm.le_refl _) (fun w h => h) ?_
    have hR : tkT l b = (n, r, true) := by unfold tkT; rw [hT]; simp_all
    rw [hR]
    exact ⟨rfl, rfl, rfl⟩
  · skip
    refine .e (.move rfl) rfl rfl <| .e (.neq rfl rfl) rfl rfl <| .e (.pickF rfl rfl) rfl rfl <| .e (.nilCheck rfl) rfl rfl <| .e (.fieldAddr fo115_0 rfl) rfl rfl <| .on rfl <| .store sz9 rfl rfl rfl rfl rfl rfl .here ?_
    refine .e (.nilCheck rfl) rfl rfl <| .e (.fieldAddr fo115_1 rfl) rfl rfl <| .on rfl <| .store sz4 rfl rfl rfl rfl rfl rfl .here <| .nil <| .go <| .seq ?_
    refine .region <| .e (.move rfl) rfl rfl <| .e (.assign rfl) rfl rfl <| .nil <| .go <| .ret ?_
    refine Post.rets rfl (.tmp rfl .nil) rfl (Imm.le_refl _) (fun w h => h) ?_
    have hR : tkT l b = (n, r, !decide (e = 0)) := by unfold tkT; rw [hT]; simp_all
    rw [hR]
    exact ⟨rfl, rfl, rfl⟩

end Go.Proofs.Ytjoaccnfnniahaa
