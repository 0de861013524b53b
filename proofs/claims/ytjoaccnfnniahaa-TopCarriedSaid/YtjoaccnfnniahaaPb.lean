/- Walks of functions over a symbolic memory, printed by a program of the session. -/
import Derived.Test.YtjoaccnfnniahaaDg
namespace Go.Proofs.Ytjoaccnfnniahaa
open Go.Sy
set_option linter.unusedSimpArgs false
set_option linter.unusedVariables false

theorem or64_nat {x c : Nat} (hx : x < 72057594037927936) (hc : c < 256) : or64 (shl64 (x : Int)) (c : Int) = ((x * 256 + c : Nat) : Int) := by
  have e1 : shl64 (x : Int) = ((x * 256 : Nat) : Int) := by
    unfold shl64
    rw [show ((x : Int) * 2 ^ (min (8 : Int).toNat IntKind.u64.bits)) = ((x * 256 : Nat) : Int) by rw [show min (8 : Int).toNat IntKind.u64.bits = 8 from by decide]; omega]
    exact IntWalk.u64_in _ (by omega)
  rw [e1]
  unfold or64
  rw [show ((BitVec.ofInt IntKind.u64.bits ((x * 256 : Nat) : Int) ||| BitVec.ofInt IntKind.u64.bits (c : Int)).toNat) = x * 256 + c by
    rw [show IntKind.u64.bits = 64 from rfl, BitVec.toNat_or, BitVec.ofInt_natCast, BitVec.ofInt_natCast, BitVec.toNat_ofNat, BitVec.toNat_ofNat, Nat.mod_eq_of_lt (by omega), Nat.mod_eq_of_lt (by omega)]
    have := Nat.two_pow_add_eq_or_of_lt (i := 8) (b := c) (by omega) x
    rw [Nat.mul_comm]; exact this.symm]
  exact IntWalk.u64_in _ (by omega)
theorem byteAt_nat {n i : Nat} (hi : i ≤ 7) : byteAt (n : Int) i = ((n / 256 ^ i % 256 : Nat) : Int) := by
  unfold byteAt
  have e : (2 : Int) ^ (min (((8 * i : Nat) : Int)).toNat IntKind.u64.bits) = ((256 ^ i : Nat) : Int) := by
    rw [show min (((8 * i : Nat) : Int)).toNat IntKind.u64.bits = 8 * i by rw [show IntKind.u64.bits = 64 from rfl, Int.toNat_natCast]; omega, show (256 : Nat) = 2 ^ 8 from rfl, ← Nat.pow_mul]
    simp
  rw [e, Int.fdiv_eq_ediv_of_nonneg _ (Int.natCast_nonneg _), ← Int.natCast_ediv]
  unfold IntKind.wrap
  simp [IntKind.bits, IntKind.signed]
theorem fix4 (n : Nat) : (fixB (n : Int) 4).data.toList = [UInt8.ofNat (n / 16777216 % 256), UInt8.ofNat (n / 65536 % 256), UInt8.ofNat (n / 256 % 256), UInt8.ofNat (n % 256)] := by
  unfold fixB bytesOf
  simp [fixTo, List.replicate, byteAt_nat]
  exact ⟨congrArg _ (by omega), congrArg _ (by omega), congrArg _ (by omega), congrArg _ (by omega)⟩
theorem valTo_step {s : ByteArray} {i : Nat} {x c : Nat} (h : valTo s i = (x : Int)) (hx : x < 72057594037927936) (hc : s.data.toList.getD i 0 = UInt8.ofNat c) (hl : c < 256) : valTo s (i + 1) = ((x * 256 + c : Nat) : Int) := by
  show or64 (shl64 (valTo s i)) (IntKind.u64.wrap ((s.data.toList.getD i 0).toNat : Nat)) = _
  rw [h, hc, UInt8.toNat_ofNat', Nat.mod_eq_of_lt (by omega), IntWalk.u64_in _ (by omega)]
  exact or64_nat hx hl
theorem val_fix {n : Nat} (h : n ≤ 65536) : valB (fixB (n : Int) 4) = (n : Int) := by
  have e := fix4 n
  unfold valB
  rw [fixB_size]
  have h0 : valTo (fixB (n : Int) 4) 0 = ((0 : Nat) : Int) := rfl
  have h1 := valTo_step h0 (by omega) (by rw [e]; rfl) (show n / 16777216 % 256 < 256 by omega)
  have h2 := valTo_step h1 (by omega) (by rw [e]; rfl) (show n / 65536 % 256 < 256 by omega)
  have h3 := valTo_step h2 (by omega) (by rw [e]; rfl) (show n / 256 % 256 < 256 by omega)
  have h4 := valTo_step h3 (by omega) (by rw [e]; rfl) (show n % 256 < 256 by omega)
  rw [h4]; omega
theorem frm4_val {p : ByteArray} (h : p.size ≤ 65536) : valB (frm4 p) = (p.size : Int) := by
  unfold frm4
  rw [IntWalk.u64_in _ (by omega)]; exact val_fix h
theorem frm4_size (p : ByteArray) : (frm4 p).size = 4 := fixB_size _ _
theorem frame_parts (p : ByteArray) : ∃ c : ByteArray, c.size = 2 ∧ frameB p = frm4 p ++ c ++ p := ⟨_, fixB_size _ _, rfl⟩
theorem frameR_ok {p : ByteArray} (h : p.size ≤ 65536) : frameR p = (frameB p, 0) := by unfold frameR; rw [if_neg (by omega)]
theorem take_frame {p r : ByteArray} (h : p.size ≤ 65536) : takeR (frameB p ++ r) = (p, r, 0) := by
  obtain ⟨c, hc, hf⟩ := frame_parts p
  have h4 := frm4_size p
  have hs := frameB_size p
  have hv := frm4_val h
  have hR := frameR_ok h
  generalize frameB p = F at *
  generalize frm4 p = G at *
  have e0 : (F ++ r).extract 0 4 = G := by
    rw [hf, ByteArray.append_assoc, ByteArray.append_assoc]; exact ByteArray.extract_append_eq_left h4.symm
  have e9 : F.extract 6 (6 + p.size) = p := by rw [hf]; exact ByteArray.extract_append_eq_right (by rw [ByteArray.size_append]; omega) (by rw [ByteArray.size_append]; omega)
  have e8 : r.extract (6 - F.size) (6 + p.size - F.size) = ByteArray.empty := by rw [ByteArray.extract_eq_empty_iff]; omega
  have e1 : (F ++ r).extract 6 (6 + p.size) = p := by rw [ByteArray.extract_append, e9, e8, ByteArray.append_empty]
  have e2 : (F ++ r).extract 0 (6 + p.size) = F := ByteArray.extract_append_eq_left (by omega)
  have hz : (F ++ r).size = p.size + 6 + r.size := by rw [ByteArray.size_append, hs]
  have e3 : (F ++ r).extract (6 + p.size) (F ++ r).size = r := ByteArray.extract_append_eq_right (by omega) (by rw [ByteArray.size_append])
  unfold takeR
  simp only [e0, hv, Int.toNat_natCast, e1, e2, e3, hR]
  rw [if_neg (by omega), if_neg (by omega), if_neg (by omega), if_pos trivial]
theorem take_short {p : ByteArray} {m : Nat} (h : p.size ≤ 65536) (hm : m < (frameB p).size) : takeR ((frameB p).extract 0 m) = (⟨#[]⟩, ⟨#[]⟩, 3) := by
  obtain ⟨c, hc, hf⟩ := frame_parts p
  have h4 := frm4_size p
  have hs := frameB_size p
  have hv := frm4_val h
  generalize frameB p = F at *
  generalize frm4 p = G at *
  have hz : (F.extract 0 m).size = m := by rw [ByteArray.size_extract]; omega
  unfold takeR
  by_cases h1 : m < 4
  · rw [if_pos (by omega)]
  · have e0 : (F.extract 0 m).extract 0 4 = G := by
      rw [ByteArray.extract_extract, hf, ByteArray.append_assoc]; exact ByteArray.extract_append_eq_left (by omega)
    rw [if_neg (by omega), e0, hv, if_neg (by omega), if_pos (by omega)]
theorem take_none : takeR ⟨#[]⟩ = (⟨#[]⟩, ⟨#[]⟩, 3) := by unfold takeR; rw [if_pos (by decide)]
theorem frame_in {p a : ByteArray} (h : frameR p = (a, 0)) : p.size ≤ 65536 ∧ a = frameB p := by
  unfold frameR at h
  split at h
  · cases h
  · cases h; exact ⟨by omega, rfl⟩
def catTo (l : List ByteArray) : Nat → ByteArray
  | 0 => ⟨#[]⟩
  | k + 1 => catTo l k ++ frameB (l.getD k ⟨#[]⟩)
theorem cat_le (l : List ByteArray) {i j : Nat} (h : i ≤ j) : ∃ r, catTo l j = catTo l i ++ r := by
  induction j with
  | zero => obtain rfl : i = 0 := by omega
            exact ⟨ByteArray.empty, by rw [ByteArray.append_empty]⟩
  | succ j ih =>
    by_cases e : i = j + 1
    · subst e; exact ⟨ByteArray.empty, by rw [ByteArray.append_empty]⟩
    · obtain ⟨r, hr⟩ := ih (by omega)
      exact ⟨r ++ frameB (l.getD j ⟨#[]⟩), by rw [catTo, hr, ByteArray.append_assoc]⟩
theorem cat_mono (l : List ByteArray) {i j : Nat} (h : i ≤ j) : (catTo l i).size ≤ (catTo l j).size := by
  obtain ⟨r, hr⟩ := cat_le l h
  rw [hr, ByteArray.size_append]; omega
theorem cat_size {l : List ByteArray} {k : Nat} (hs : ∀ j (hj : j < l.length), j < k → l[j].size ≤ 65536) (hk : k ≤ l.length) : (catTo l k).size ≤ k * 65542 := by
  induction k with
  | zero => exact Nat.le_refl _
  | succ k ih =>
    have := ih (fun j hj h => hs j hj (by omega)) (by omega)
    have h2 := hs k (by omega) (by omega)
    rw [catTo, ByteArray.size_append, frameB_size, List.getD_eq_getElem?_getD, List.getElem?_eq_getElem (show k < l.length by omega)]
    show _ + (l[k].size + 6) ≤ _
    omega
def sureTo (bs : List Bool) : Nat → Nat
  | 0 => 0
  | k + 1 => if bs.getD k false = true then k + 1 else sureTo bs k
theorem sure_le (bs : List Bool) : ∀ k, sureTo bs k ≤ k
  | 0 => Nat.le_refl _
  | k + 1 => by
    have := sure_le bs k
    unfold sureTo; split <;> omega
def fN : ByteArray := ⟨#[102]⟩
def diskAt (l : List ByteArray) (bs : List Bool) (k : Nat) : Dsk := ⟨if k = 0 then [] else [⟨fN, catTo l k, ((catTo l (sureTo bs k)).size : Int)⟩], false, -1⟩
theorem has_nil {s : ByteArray} {b : Bool} {z : Int} : hasF ⟨[], b, z⟩ s = false := rfl
theorem has_one {s y : ByteArray} {b : Bool} {z w : Int} : hasF ⟨[⟨s, y, w⟩], b, z⟩ s = true := by unfold hasF hasBy; simp
theorem pos_one {s y : ByteArray} {b : Bool} {z w : Int} : posF ⟨[⟨s, y, w⟩], b, z⟩ s = 0 := by unfold posF; exact pos_of (by simp) (fun j _ h => by omega) (fun _ => lt_irr s)
theorem pos_nil {s : ByteArray} {b : Bool} {z : Int} : posF ⟨[], b, z⟩ s = 0 := rfl
theorem why_nil {b : Bool} {z : Int} : diskWhy ⟨[], b, z⟩ = 0 := rfl
theorem why_one {s y : ByteArray} {b : Bool} {z w : Int} (h0 : 0 ≤ w) (h1 : w ≤ (y.size : Int)) : diskWhy ⟨[⟨s, y, w⟩], b, z⟩ = 0 := by
  unfold diskWhy diskOk filesTo fAt
  simp [h0, h1]
theorem fN_ok : namedB fN = true := by decide
theorem add_nil {s x : ByteArray} (hn : namedB s = true) : addR ⟨[], false, -1⟩ s x = (⟨[⟨s, x, 0⟩], false, -1⟩, 0) := by
  have e : refA ⟨[], false, -1⟩ s = 0 := by unfold refA; rw [if_neg (by rw [hn]; simp), if_neg (fun h => absurd h.2 (by simp))]
  unfold addR
  rw [if_pos why_nil, if_neg (by simp), if_pos e, if_neg (by simp), if_neg (by simp)]
  have e2 : (⟨#[]⟩ : ByteArray) ++ x = x := ByteArray.empty_append
  have e3 : putF ⟨[], false, -1⟩ s x = [⟨s, ⟨#[]⟩ ++ x, 0⟩] := by
    unfold putF; rw [at_no has_nil, base_no has_nil, pos_nil]; rfl
  rw [e3, e2]
theorem add_one {s y x : ByteArray} {w : Int} (hn : namedB s = true) (h0 : 0 ≤ w) (h1 : w ≤ (y.size : Int)) : addR ⟨[⟨s, y, w⟩], false, -1⟩ s x = (⟨[⟨s, y ++ x, w⟩], false, -1⟩, 0) := by
  have e : refA ⟨[⟨s, y, w⟩], false, -1⟩ s = 0 := by unfold refA; rw [if_neg (by rw [hn]; simp), if_neg (fun h => absurd h.2 (by simp))]
  unfold addR
  rw [if_pos (why_one h0 h1), if_neg (by simp), if_pos e, if_neg (by simp), if_neg (by simp)]
  have e3 : putF ⟨[⟨s, y, w⟩], false, -1⟩ s x = [⟨s, y ++ x, w⟩] := by
    unfold putF; rw [at_yes has_one, base_yes has_one, pos_one]; rfl
  rw [e3]
theorem sync_one {s y : ByteArray} {w : Int} (h0 : 0 ≤ w) (h1 : w ≤ (y.size : Int)) : syncR ⟨[⟨s, y, w⟩], false, -1⟩ s = (⟨[⟨s, y, (y.size : Int)⟩], false, -1⟩, 0) := by
  have e : refS ⟨[⟨s, y, w⟩], false, -1⟩ s = 0 := by unfold refS; rw [if_pos has_one]
  unfold syncR
  rw [if_pos (why_one h0 h1), if_neg (by simp), if_pos e, if_neg (by simp), if_neg (by simp)]
  have e3 : syncF ⟨[⟨s, y, w⟩], false, -1⟩ s = [⟨s, y, (y.size : Int)⟩] := by
    unfold syncF; rw [at_yes has_one, pos_one]; rfl
  rw [e3]
def midAt (l : List ByteArray) (bs : List Bool) (k : Nat) : Dsk := ⟨[⟨fN, catTo l (k + 1), ((catTo l (sureTo bs k)).size : Int)⟩], false, -1⟩
theorem add_mid {l : List ByteArray} {bs : List Bool} {k : Nat} (hk : k < l.length) : addR (diskAt l bs k) fN (frameB l[k]) = (midAt l bs k, 0) := by
  have e : catTo l (k + 1) = catTo l k ++ frameB l[k] := by rw [catTo, List.getD_eq_getElem?_getD, List.getElem?_eq_getElem hk]; rfl
  unfold diskAt midAt
  rw [e]
  by_cases h : k = 0
  · subst h
    rw [if_pos rfl, add_nil fN_ok]
    have e2 : catTo l 0 ++ frameB l[0] = frameB l[0] := ByteArray.empty_append
    rw [e2]; rfl
  · rw [if_neg h, add_one fN_ok (by omega) (by have := cat_mono l (sure_le bs k); omega)]
theorem mid_sync {l : List ByteArray} {bs : List Bool} {k : Nat} (h : bs.getD k false = true) : syncR (midAt l bs k) fN = (diskAt l bs (k + 1), 0) := by
  unfold diskAt midAt
  rw [sync_one (by omega) (by have := cat_mono l (show sureTo bs k ≤ k + 1 by have := sure_le bs k; omega); omega), if_neg (by omega)]
  rw [sureTo, if_pos h]
theorem mid_skip {l : List ByteArray} {bs : List Bool} {k : Nat} (h : bs.getD k false = false) : midAt l bs k = diskAt l bs (k + 1) := by
  unfold diskAt midAt
  rw [if_neg (by omega)]
  rw [sureTo, if_neg (by rw [h]; simp)]
def cutN (l : List ByteArray) (bs : List Bool) (ks : List Int) (k : Nat) : Nat := (cutY ⟨fN, catTo l k, ((catTo l (sureTo bs k)).size : Int)⟩ (ks.getD 0 0)).toNat
def afterD (l : List ByteArray) (bs : List Bool) (ks : List Int) (k : Nat) : Dsk := ⟨if k = 0 then [] else [⟨fN, (catTo l k).extract 0 (cutN l bs ks k), (cutN l bs ks k : Int)⟩], false, -1⟩
theorem cutN_le {l : List ByteArray} {bs : List Bool} {ks : List Int} {k : Nat} : (catTo l (sureTo bs k)).size ≤ cutN l bs ks k ∧ cutN l bs ks k ≤ (catTo l k).size := by
  have h := cut_le (f := ⟨fN, catTo l k, ((catTo l (sureTo bs k)).size : Int)⟩) (z := ks.getD 0 0) (by show (0 : Int) ≤ ((catTo l (sureTo bs k)).size : Int); omega) (by have := cat_mono l (sure_le bs k); show ((catTo l (sureTo bs k)).size : Int) ≤ ((catTo l k).size : Int); omega)
  dsimp only at h
  unfold cutN
  omega
theorem crash_at {l : List ByteArray} {bs : List Bool} {ks : List Int} {k : Nat} : crashR (diskAt l bs k) ks = (afterD l bs ks k, 0) := by
  have hm := cat_mono l (sure_le bs k)
  by_cases h : k = 0
  · subst h; unfold diskAt crashR afterD; rw [if_pos rfl, if_pos why_nil]; rfl
  · have h1 := cut_le (f := ⟨fN, catTo l k, ((catTo l (sureTo bs k)).size : Int)⟩) (z := ks.getD 0 0) (by show (0 : Int) ≤ ((catTo l (sureTo bs k)).size : Int); omega) (by show ((catTo l (sureTo bs k)).size : Int) ≤ ((catTo l k).size : Int); omega)
    unfold diskAt crashR afterD
    rw [if_neg h, if_pos (why_one (by omega) (by omega)), if_neg h]
    show ((⟨[crashF ⟨fN, catTo l k, _⟩ (ks.getD 0 0)], false, -1⟩, 0) : Dsk × Int) = _
    unfold crashF cutN
    dsimp only at h1 ⊢
    rw [Int.toNat_of_nonneg h1.1]
theorem read_none {l : List ByteArray} {bs : List Bool} {ks : List Int} : readR (afterD l bs ks 0) fN = (⟨#[]⟩, 6) := rfl
theorem read_at {l : List ByteArray} {bs : List Bool} {ks : List Int} {k : Nat} (h : k ≠ 0) : readR (afterD l bs ks k) fN = ((catTo l k).extract 0 (cutN l bs ks k), 0) := by
  have h2 := cutN_le (l := l) (bs := bs) (ks := ks) (k := k)
  unfold readR afterD
  rw [if_neg h]
  have ha : askedR ⟨[⟨fN, (catTo l k).extract 0 (cutN l bs ks k), (cutN l bs ks k : Int)⟩], false, -1⟩ = 0 := by
    unfold askedR; rw [if_pos (why_one (by omega) (by rw [ByteArray.size_extract]; omega))]; rfl
  rw [if_pos ha, if_pos has_one, pos_one]; rfl
/-- One turn of the reader. -/
theorem take_step {l : List ByteArray} {bs : List Bool} {ks : List Int} {k n : Nat} (hk : k ≤ l.length) (hs : ∀ j (hj : j < l.length), j < k → l[j].size ≤ 65536) (hn : n ≤ k) (hc : (catTo l n).size ≤ cutN l bs ks k) :
    (∃ h : n < k, (catTo l (n + 1)).size ≤ cutN l bs ks k ∧ takeR ((catTo l k).extract (catTo l n).size (cutN l bs ks k)) = (l[n]'(by omega), (catTo l k).extract (catTo l (n + 1)).size (cutN l bs ks k), 0)) ∨
    takeR ((catTo l k).extract (catTo l n).size (cutN l bs ks k)) = (⟨#[]⟩, ⟨#[]⟩, 3) ∧ sureTo bs k ≤ n := by
  obtain ⟨hc1, hc2⟩ := cutN_le (l := l) (bs := bs) (ks := ks) (k := k)
  generalize cutN l bs ks k = Y at *
  by_cases h : n < k
  · have e : catTo l (n + 1) = catTo l n ++ frameB (l[n]'(by omega)) := by rw [catTo, List.getD_eq_getElem?_getD, List.getElem?_eq_getElem (show n < l.length by omega)]; rfl
    have ez := congrArg ByteArray.size e
    rw [ByteArray.size_append] at ez
    obtain ⟨r, hr⟩ := cat_le l (show n + 1 ≤ k by omega)
    have h6 := hs n (by omega) h
    by_cases h1 : (catTo l (n + 1)).size ≤ Y
    · refine .inl ⟨h, h1, ?_⟩
      rw [ByteArray.extract_eq_extract_append_extract (catTo l (n + 1)).size (by omega) h1]
      have e2 : (catTo l k).extract (catTo l n).size (catTo l (n + 1)).size = frameB (l[n]'(by omega)) := by
        rw [hr, ByteArray.extract_append, show r.extract ((catTo l n).size - (catTo l (n + 1)).size) ((catTo l (n + 1)).size - (catTo l (n + 1)).size) = ByteArray.empty by rw [ByteArray.extract_eq_empty_iff]; omega, ByteArray.append_empty]
        conv => lhs; arg 1; rw [e]
        exact ByteArray.extract_append_eq_right rfl ez
      rw [e2]; exact take_frame h6
    · refine .inr ⟨?_, ?_⟩
      · have e3 : (catTo l k).extract (catTo l n).size Y = (frameB (l[n]'(by omega))).extract 0 (Y - (catTo l n).size) := by
          rw [hr, e, ByteArray.append_assoc, ByteArray.extract_append, ByteArray.extract_append, Nat.sub_self, show (catTo l n).extract (catTo l n).size Y = ByteArray.empty by rw [ByteArray.extract_eq_empty_iff]; omega, ByteArray.empty_append, show r.extract (0 - (frameB (l[n]'(by omega))).size) (Y - (catTo l n).size - (frameB (l[n]'(by omega))).size) = ByteArray.empty by rw [ByteArray.extract_eq_empty_iff]; omega, ByteArray.append_empty]
        rw [e3]; exact take_short h6 (by omega)
      · rcases Nat.lt_or_ge n (sureTo bs k) with h3 | h3
        · have := cat_mono l (show n + 1 ≤ sureTo bs k by omega); omega
        · exact h3
  · obtain rfl : n = k := by omega
    refine .inr ⟨?_, sure_le bs n⟩
    rw [show (catTo l n).extract (catTo l n).size Y = ByteArray.empty by rw [ByteArray.extract_eq_empty_iff]; omega]
    exact take_none

end Go.Proofs.Ytjoaccnfnniahaa
