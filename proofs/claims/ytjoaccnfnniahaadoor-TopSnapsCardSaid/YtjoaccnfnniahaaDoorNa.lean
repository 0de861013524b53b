/- Walks of functions over a symbolic memory, printed by a program of the session. -/
import Derived.Test.YtjoaccnfnniahaaDoorSyK
import Derived.Test.YtjoaccnfnniahaaDoorSyS
import Derived.Test.YtjoaccnfnniahaaDoorPa
import Derived.Test.YtjoaccnfnniahaaDoorFacts
namespace Go.Proofs.YtjoaccnfnniahaaDoor
open Go.Sy
set_option linter.unusedSimpArgs false
set_option linter.unusedVariables false

def blen : Nat → Nat
  | 0 => 0
  | n + 1 => blen ((n + 1) / 2) + 1
decreasing_by omega
theorem blen_pos {n : Nat} (h : 0 < n) : blen n = blen (n / 2) + 1 := by
  cases n with
  | zero => omega
  | succ m => rw [blen]
theorem blen_sh {n j : Nat} (h : 2 ^ j ≤ n) : blen n = j + blen (n / 2 ^ j) := by
  induction j generalizing n with
  | zero => simp
  | succ j ih =>
    have hp := Nat.two_pow_pos j
    rw [Nat.pow_succ] at h
    rw [blen_pos (by omega), ih (n := n / 2) (by rw [Nat.le_div_iff_mul_le (by decide)]; exact h), Nat.div_div_eq_div_mul, Nat.pow_succ, Nat.mul_comm 2]; omega
theorem blen_lt (n : Nat) : n < 2 ^ blen n := by
  induction n using Nat.strongRecOn with
  | _ n ih =>
    rcases Nat.eq_zero_or_pos n with rfl | h
    · exact Nat.two_pow_pos _
    · have := ih (n / 2) (by omega)
      rw [blen_pos h, Nat.pow_succ]; omega
theorem blen_ge {n : Nat} (h : 0 < n) : 2 ^ (blen n - 1) ≤ n := by
  induction n using Nat.strongRecOn with
  | _ n ih =>
    rw [blen_pos h, Nat.add_sub_cancel]
    rcases Nat.eq_zero_or_pos (n / 2) with h2 | h2
    · rw [h2]; simp [blen]; omega
    · have h3 := ih (n / 2) (by omega) h2
      have e : blen (n / 2) = blen (n / 2) - 1 + 1 := by rw [blen_pos h2]; rfl
      rw [e, Nat.pow_succ]; omega
theorem blen_le {n j : Nat} (h : n < 2 ^ j) : blen n ≤ j := by
  rcases Nat.eq_zero_or_pos n with rfl | h0
  · simp [blen]
  · have h1 := blen_ge h0
    have h2 : 2 ^ (blen n - 1) < 2 ^ j := by omega
    have := (Nat.pow_lt_pow_iff_right (by decide)).1 h2
    omega
def tab8 : ByteArray := ⟨([0, 1, 2, 2, 3, 3, 3, 3, 4, 4, 4, 4, 4, 4, 4, 4, 5, 5, 5, 5, 5, 5, 5, 5, 5, 5, 5, 5, 5, 5, 5, 5, 6, 6, 6, 6, 6, 6, 6, 6, 6, 6, 6, 6, 6, 6, 6, 6, 6, 6, 6, 6, 6, 6, 6, 6, 6, 6, 6, 6, 6, 6, 6, 6, 7, 7, 7, 7, 7, 7, 7, 7, 7, 7, 7, 7, 7, 7, 7, 7, 7, 7, 7, 7, 7, 7, 7, 7, 7, 7, 7, 7, 7, 7, 7, 7, 7, 7, 7, 7, 7, 7, 7, 7, 7, 7, 7, 7, 7, 7, 7, 7, 7, 7, 7, 7, 7, 7, 7, 7, 7, 7, 7, 7, 7, 7, 7, 7, 8, 8, 8, 8, 8, 8, 8, 8, 8, 8, 8, 8, 8, 8, 8, 8, 8, 8, 8, 8, 8, 8, 8, 8, 8, 8, 8, 8, 8, 8, 8, 8, 8, 8, 8, 8, 8, 8, 8, 8, 8, 8, 8, 8, 8, 8, 8, 8, 8, 8, 8, 8, 8, 8, 8, 8, 8, 8, 8, 8, 8, 8, 8, 8, 8, 8, 8, 8, 8, 8, 8, 8, 8, 8, 8, 8, 8, 8, 8, 8, 8, 8, 8, 8, 8, 8, 8, 8, 8, 8, 8, 8, 8, 8, 8, 8, 8, 8, 8, 8, 8, 8, 8, 8, 8, 8, 8, 8, 8, 8, 8, 8, 8, 8, 8, 8, 8, 8, 8, 8, 8, 8, 8, 8, 8, 8, 8, 8]).toArray⟩
theorem tab_all : (List.range 256).all (fun k => (tab8.data.toList.getD k 0).toNat == blen k) = true := by decide +kernel
theorem tab_size : tab8.data.toList.length = 256 := by decide +kernel
theorem tab_len {k : Nat} (h : k < 256) : k < tab8.data.toList.length := by rw [tab_size]; exact h
theorem tab_at {k : Nat} (h : k < 256) : (((tab8.data.toList[k]'(tab_len h)).toNat : Nat) : Int) = ((blen k : Nat) : Int) := by
  have h1 := List.all_eq_true.1 tab_all k (List.mem_range.2 h)
  rw [beq_iff_eq, List.getD_eq_getElem?_getD, List.getElem?_eq_getElem (tab_len h)] at h1
  exact congrArg Int.ofNat h1
theorem shrN (n : Nat) {j : Nat} {a : Int} (h : (min a.toNat IntKind.u64.bits) = j) : (n : Int).fdiv (2 ^ (min a.toNat IntKind.u64.bits)) = ((n / 2 ^ j : Nat) : Int) := by
  rw [h, Int.fdiv_eq_ediv_of_nonneg _ (Int.pow_nonneg (by decide))]
  simp
def kby (n : Nat) : Nat := (blen n + 7) / 8
theorem kby_le {n : Nat} (h : n < 18446744073709551616) : kby n ≤ 8 := by
  have := blen_le (n := n) (j := 64) h
  unfold kby; omega
theorem kby_lt (n : Nat) : n < 256 ^ kby n := by
  refine Nat.lt_of_lt_of_le (blen_lt n) ?_
  rw [show (256 : Nat) = 2 ^ 8 from rfl, ← Nat.pow_mul]
  exact Nat.pow_le_pow_right (by decide) (by unfold kby; omega)
theorem kby_ge {n : Nat} (h : 0 < kby n) : 256 ^ (kby n - 1) ≤ n := by
  have h0 : 0 < n := by
    rcases Nat.eq_zero_or_pos n with rfl | h0
    · unfold kby blen at h; omega
    · exact h0
  refine Nat.le_trans ?_ (blen_ge h0)
  rw [show (256 : Nat) = 2 ^ 8 from rfl, ← Nat.pow_mul]
  exact Nat.pow_le_pow_right (by decide) (by unfold kby at *; omega)
theorem quo8 {n : Nat} (h : n < 18446744073709551616) : IntKind.i64.wrap (((blen n : Nat) : Int) + 7 |>.tdiv 8) = ((kby n : Nat) : Int) := by
  have := blen_le (n := n) (j := 64) h
  have e : (((blen n : Nat) : Int) + 7).tdiv 8 = ((kby n : Nat) : Int) := by rw [Int.tdiv_eq_ediv_of_nonneg (by omega)]; unfold kby; omega
  rw [e]; exact IntWalk.i64_in _ (by have := kby_le h; omega)
def numTo (n k : Nat) : Nat → List Int
  | 0 => (List.replicate (k + 1) 0).set 0 (IntKind.u8.wrap (k : Int))
  | i + 1 => (numTo n k i).set (k - i) (byteAt (n : Int) i)
theorem numTo_len (n k : Nat) : ∀ i, (numTo n k i).length = k + 1
  | 0 => by rw [numTo, List.length_set, List.length_replicate]
  | i + 1 => by rw [numTo, List.length_set]; exact numTo_len n k i
theorem num_zero (n k : Nat) : setL (List.replicate (k + 1) (.int .u8 0)) (0 + 0 * 1) [.int .u8 (IntKind.u8.wrap (k : Int))] = u8s (numTo n k 0) := by
  have e : List.replicate (k + 1) (Value.int .u8 0) = u8s (List.replicate (k + 1) 0) := by simp [u8s]
  rw [e, u8s_set (by simp)]; rfl
def numB (n : Nat) : ByteArray := bytesOf (numTo n (kby n) (kby n))
theorem numB_size (n : Nat) : (numB n).size = kby n + 1 := by unfold numB; rw [bytesOf_size, numTo_len]
def textB (s : ByteArray) : ByteArray := numB s.size ++ s
def takeN (s : ByteArray) : Int × ByteArray × Int :=
  if s = ⟨#[]⟩ then (0, ⟨#[]⟩, 3) else
  if 8 < (s.data.toList.getD 0 0).toNat ∨ (0 < (s.data.toList.getD 0 0).toNat ∧ s.extract 1 s.size ≠ ⟨#[]⟩ ∧ ((s.extract 1 s.size).data.toList.getD 0 0).toNat = 0) then (0, ⟨#[]⟩, 4) else
  if (s.extract 1 s.size).size < (s.data.toList.getD 0 0).toNat then (0, ⟨#[]⟩, 3) else
  (valB ((s.extract 1 s.size).extract 0 (s.data.toList.getD 0 0).toNat), (s.extract 1 s.size).extract (s.data.toList.getD 0 0).toNat (s.extract 1 s.size).size, 0)
def triN (p : Int × ByteArray × Int) : Value := .tuple ⟨[.int .u64 p.1, .string p.2.1, .int .i64 p.2.2]⟩
theorem triN_eq {p : Int × ByteArray × Int} {a c : Int} {b : ByteArray} (h : p = (a, b, c)) : Value.tuple ⟨[.int .u64 a, .string b, .int .i64 c]⟩ = triN p := by subst h; rfl
def takeT (s : ByteArray) : ByteArray × ByteArray × Int :=
  if (takeN s).2.2 = 0 then (if 65536 < (takeN s).1 then (⟨#[]⟩, ⟨#[]⟩, 2) else if ((takeN s).2.1.size : Int) < (takeN s).1 then (⟨#[]⟩, ⟨#[]⟩, 3) else
  ((takeN s).2.1.extract 0 (takeN s).1.toNat, (takeN s).2.1.extract (takeN s).1.toNat (takeN s).2.1.size, 0)) else (⟨#[]⟩, ⟨#[]⟩, (takeN s).2.2)
theorem valB_u64 (s : ByteArray) : 0 ≤ valB s ∧ valB s ≤ 18446744073709551615 := by
  unfold valB
  cases s.size with
  | zero => exact ⟨Int.le_refl _, (show (0 : Int) ≤ 18446744073709551615 by decide)⟩
  | succ i => exact u64_wrap_nn _
theorem takeN_u64 (s : ByteArray) : 0 ≤ (takeN s).1 ∧ (takeN s).1 ≤ 18446744073709551615 := by
  unfold takeN
  repeat' split
  all_goals first | exact valB_u64 _ | (dsimp only; omega)
theorem takeN_size (s : ByteArray) : (takeN s).2.1.size ≤ s.size := by
  unfold takeN
  repeat' split
  all_goals first | exact Nat.zero_le _ | (dsimp only; rw [ByteArray.size_extract, ByteArray.size_extract]; omega)
theorem takeT_size (s : ByteArray) : (takeT s).1.size + (takeT s).2.1.size ≤ s.size := by
  have := takeN_size s
  unfold takeT
  repeat' split
  all_goals first | exact Nat.zero_le _ | (dsimp only; rw [ByteArray.size_extract, ByteArray.size_extract]; omega)
theorem ne_len {s : ByteArray} (h : ¬s = ⟨#[]⟩) : 0 < s.data.toList.length := by
  obtain ⟨⟨l⟩⟩ := s
  cases l with
  | nil => exact absurd rfl h
  | cons x l => simp
theorem hd_eq {s : ByteArray} (h : 0 < s.data.toList.length) : (s.data.toList.getD 0 0) = s.data.toList[0] := by
  rw [List.getD_eq_getElem?_getD, List.getElem?_eq_getElem h]; rfl

end Go.Proofs.YtjoaccnfnniahaaDoor
