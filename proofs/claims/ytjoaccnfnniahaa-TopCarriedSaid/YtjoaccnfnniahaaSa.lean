/- Walks of functions over a symbolic memory, printed by a program of the session. -/
import Derived.Test.YtjoaccnfnniahaaNa
import Derived.Test.YtjoaccnfnniahaaPb
namespace Go.Proofs.Ytjoaccnfnniahaa
open Go.Sy
set_option linter.unusedSimpArgs false
set_option linter.unusedVariables false

def snB (i : Nat) (n : ByteArray) : ByteArray := numB i ++ numB 0 ++ (numB 1 ++ numB 1) ++ textB n
def snV (mv : Value) (i : Nat) (n : ByteArray) : List Value := [.int .u64 (i : Nat), .int .u64 0, mv, .string n]
theorem numTo_get {n k j : Nat} (hj : j ≤ k) : ∀ i, i ≤ k → (numTo n k i)[j]? = some (if j = 0 then IntKind.u8.wrap (k : Int) else if k - i < j then byteAt (n : Int) (k - j) else 0)
  | 0, _ => by
    unfold numTo
    rw [List.getElem?_set]
    by_cases h : 0 = j
    · subst h; simp
    · rw [if_neg h, if_neg (Ne.symm h), if_neg (by omega), List.getElem?_replicate, if_pos (by omega)]
  | i + 1, hi => by
    have ih := numTo_get (n := n) hj i (by omega)
    unfold numTo
    rw [List.getElem?_set]
    by_cases h : k - i = j
    · rw [if_pos h, if_pos (by rw [numTo_len]; omega)]
      by_cases h0 : j = 0
      · omega
      · rw [if_neg h0, if_pos (by omega), show k - j = i by omega]
    · rw [if_neg h, ih]
      by_cases h0 : j = 0
      · rw [if_pos h0, if_pos h0]
      · rw [if_neg h0, if_neg h0]
        by_cases h1 : k - i < j
        · rw [if_pos h1, if_pos (by omega)]
        · rw [if_neg h1, if_neg (by omega)]
theorem num_get {n j : Nat} (hn : n < 18446744073709551616) (hj : j ≤ kby n) : (numB n).data.toList[j]? = some (UInt8.ofNat (if j = 0 then kby n else n / 256 ^ (kby n - j) % 256)) := by
  have hk := kby_le hn
  have h := numTo_get (n := n) hj (kby n) (Nat.le_refl _)
  unfold numB bytesOf
  simp only [List.getElem?_map, h, Option.map_some]
  by_cases h0 : j = 0
  · rw [if_pos h0, if_pos h0, IntWalk.u8_in _ (by omega), Int.toNat_natCast]
  · rw [if_neg h0, if_neg h0, if_pos (by omega), byteAt_nat (by omega), Int.toNat_natCast]
theorem val_tail {s : ByteArray} {n k : Nat} (hk : k ≤ 8) (hn : n < 256 ^ k) (hb : ∀ j, j < k → s.data.toList.getD j 0 = UInt8.ofNat (n / 256 ^ (k - 1 - j) % 256)) : ∀ i, i ≤ k → valTo s i = ((n / 256 ^ (k - i) : Nat) : Int)
  | 0, _ => by rw [Nat.sub_zero, Nat.div_eq_of_lt hn]; rfl
  | i + 1, hi => by
    have ih := val_tail hk hn hb i (by omega)
    have hx : n / 256 ^ (k - i) < 72057594037927936 := by
      refine Nat.lt_of_lt_of_le ?_ (show 256 ^ i ≤ 72057594037927936 from Nat.le_trans (Nat.pow_le_pow_right (by decide) (show i ≤ 7 by omega)) (by decide))
      rw [Nat.div_lt_iff_lt_mul (Nat.pow_pos (by decide)), ← Nat.pow_add, show i + (k - i) = k by omega]; exact hn
    rw [valTo_step ih hx (hb i (by omega)) (Nat.mod_lt _ (by decide))]
    have e : n / 256 ^ (k - i) = n / 256 ^ (k - (i + 1)) / 256 := by rw [Nat.div_div_eq_div_mul, ← Nat.pow_succ, show (k - (i + 1)).succ = k - i by omega]
    rw [e, show k - 1 - i = k - (i + 1) by omega]
    congr 1
    omega
theorem szl (s : ByteArray) : s.data.toList.length = s.size := by simp
theorem takeN_num {n : Nat} {r : ByteArray} (hn : n < 18446744073709551616) : takeN (numB n ++ r) = ((n : Int), r, 0) := by
  have hz := numB_size n
  have hk8 := kby_le hn
  have hlt := kby_lt n
  have hge := @kby_ge n
  have hg : ∀ {j : Nat}, j ≤ kby n → (numB n).data.toList[j]? = some (UInt8.ofNat (if j = 0 then kby n else n / 256 ^ (kby n - j) % 256)) := fun hj => num_get hn hj
  generalize numB n = N at *
  generalize kby n = k at *
  have hne : ¬(N ++ r) = ⟨#[]⟩ := fun h => by
    have := congrArg ByteArray.size h
    rw [ByteArray.size_append, hz] at this
    have e : (⟨#[]⟩ : ByteArray).size = 0 := rfl
    omega
  have hap : ∀ j, j ≤ k → (N ++ r).data.toList[j]? = N.data.toList[j]? := fun j hj => by
    rw [ByteArray.data_append, Array.toList_append, List.getElem?_append_left (by rw [szl]; omega)]
  have h0 : ((N ++ r).data.toList.getD 0 0).toNat = k := by
    rw [List.getD_eq_getElem?_getD, hap 0 (Nat.zero_le _), hg (Nat.zero_le _)]
    simp; omega
  obtain ⟨t, ht⟩ : ∃ t, N.extract 1 N.size = t := ⟨_, rfl⟩
  have htz : t.size = k := by rw [← ht, ByteArray.size_extract]; omega
  obtain ⟨H, hH⟩ : ∃ H, N.extract 0 1 = H := ⟨_, rfl⟩
  have hHz : H.size = 1 := by rw [← hH, ByteArray.size_extract]; omega
  have hNH : N = H ++ t := by
    have h := ByteArray.extract_eq_extract_append_extract (a := N) (i := 0) (k := N.size) 1 (Nat.zero_le _) (by omega)
    rw [ByteArray.extract_zero_size, hH, ht] at h; exact h
  have hte : (N ++ r).extract 1 (N ++ r).size = t ++ r := by
    have e5 : N ++ r = H ++ (t ++ r) := by rw [hNH, ByteArray.append_assoc]
    rw [e5]
    exact ByteArray.extract_append_eq_right hHz.symm (by rw [ByteArray.size_append])
  have htg : ∀ j, j < k → (t.data.toList)[j]? = some (UInt8.ofNat (n / 256 ^ (k - 1 - j) % 256)) := fun j hj => by
    have := hg (show j + 1 ≤ k by omega)
    rw [if_neg (by omega), show k - (j + 1) = k - 1 - j by omega] at this
    rw [← this, ← ht, ByteArray.data_extract, Array.toList_extract]
    simp only [List.extract, List.getElem?_take, List.getElem?_drop]
    rw [if_pos (by omega), Nat.add_comm]
  have e1 : (t ++ r).extract 0 (k) = t := ByteArray.extract_append_eq_left htz.symm
  have e2 : (t ++ r).extract (k) (t ++ r).size = r := ByteArray.extract_append_eq_right htz.symm (by rw [ByteArray.size_append])
  have hv : valB t = (n : Int) := by
    unfold valB
    rw [htz, val_tail hk8 hlt (fun j hj => by rw [List.getD_eq_getElem?_getD, htg j hj]; rfl) (k) (Nat.le_refl _), Nat.sub_self]
    simp
  rw [takeN_ne hne h0 hte, e1, e2, hv, if_neg, if_neg (by rw [ByteArray.size_append]; omega)]
  rintro (ha | ⟨ha, -, hc⟩)
  · omega
  · have h1 := htg 0 ha
    have h2 : (t ++ r).data.toList[0]? = t.data.toList[0]? := by
      rw [ByteArray.data_append, Array.toList_append, List.getElem?_append_left (by rw [szl]; omega)]
    rw [List.getD_eq_getElem?_getD, h2, h1] at hc
    have h3 : n / 256 ^ (k - 1 - 0) % 256 = 0 := by simpa using hc
    have h4 := hge ha
    have h5 : n / 256 ^ (k - 1) < 256 := by
      rw [Nat.div_lt_iff_lt_mul (Nat.pow_pos (by decide)), Nat.mul_comm, ← Nat.pow_succ, show (k - 1).succ = k by omega]; exact hlt
    have h6 : 0 < n / 256 ^ (k - 1) := Nat.div_pos h4 (Nat.pow_pos (by decide))
    rw [Nat.sub_zero, Nat.mod_eq_of_lt h5] at h3
    omega
theorem tkN_num {n : Nat} {r : ByteArray} (hn : n < 18446744073709551616) : tkN (numB n ++ r) false = ((n : Int), r, false) := by unfold tkN; rw [takeN_num hn]; rfl
theorem takeT_text {s r : ByteArray} (hs : s.size ≤ 65536) : takeT (textB s ++ r) = (s, r, 0) := by
  have e : textB s ++ r = numB s.size ++ (s ++ r) := by unfold textB; rw [ByteArray.append_assoc]
  rw [e, takeT_eq (takeN_num (by omega)), if_pos rfl, if_neg (by omega), if_neg (by rw [ByteArray.size_append]; omega), Int.toNat_natCast]
  rw [ByteArray.extract_append_eq_left rfl, ByteArray.extract_append_eq_right rfl (by rw [ByteArray.size_append])]
theorem tkT_text {s r : ByteArray} (hs : s.size ≤ 65536) : tkT (textB s ++ r) false = (s, r, false) := by unfold tkT; rw [takeT_text hs]; rfl

end Go.Proofs.Ytjoaccnfnniahaa
