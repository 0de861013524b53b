/- Walks of functions over a symbolic memory, printed by a program of the session. -/
import Derived.Test.YtjoaccnfnniahaaSyJ
import Derived.Test.YtjoaccnfnniahaaSyS
import Derived.Test.YtjoaccnfnniahaaSyH
import Derived.Test.YtjoaccnfnniahaaFacts
namespace Go.Proofs.Ytjoaccnfnniahaa
open Go.Sy
set_option linter.unusedSimpArgs false
set_option linter.unusedVariables false

def shl16 (a b : Int) : Int := IntKind.u16.wrap (a * 2 ^ (min b.toNat IntKind.u16.bits))
def shr16 (a b : Int) : Int := a.fdiv (2 ^ (min b.toNat IntKind.u16.bits))
def xor16 (a b : Int) : Int := IntKind.u16.wrap ((BitVec.ofInt IntKind.u16.bits a ^^^ BitVec.ofInt IntKind.u16.bits b).toNat : Nat)
def bit1 (x : Int) : Int := xor16 (shl16 x 1) (IntKind.u16.wrap (4129 * shr16 x 15))
def bitTo (x : Int) : Nat → Int
  | 0 => x
  | j + 1 => bit1 (bitTo x j)
def byteIn (x : Int) (c : UInt8) : Int := xor16 x (shl16 (IntKind.u16.wrap (c.toNat : Nat)) 8)
def sumTo (s : ByteArray) : Nat → Int
  | 0 => 65535
  | k + 1 => bitTo (byteIn (sumTo s k) (s.data.toList.getD k 0)) 8
theorem sum_ten : sumTo ⟨#[49, 50, 51, 52, 53, 54, 55, 56, 57]⟩ 9 = 10673 := by decide +kernel
def byteAt (n : Int) (i : Nat) : Int := IntKind.u8.wrap (n.fdiv (2 ^ (min (((8 * i : Nat) : Int)).toNat IntKind.u64.bits)))
def fixTo (n : Int) (k : Nat) : Nat → List Int
  | 0 => List.replicate k 0
  | i + 1 => (fixTo n k i).set (k - 1 - i) (byteAt n i)
theorem fixTo_len (n : Int) (k : Nat) : ∀ i, (fixTo n k i).length = k
  | 0 => List.length_replicate
  | i + 1 => by rw [fixTo, List.length_set]; exact fixTo_len n k i
theorem u8s_zero (n : Int) (k : Nat) : u8s (fixTo n k 0) = List.replicate k (.int .u8 0) := by simp [u8s, fixTo]
def fixB (n : Int) (k : Nat) : ByteArray := bytesOf (fixTo n k k)
theorem fixB_size (n : Int) (k : Nat) : (fixB n k).size = k := by unfold fixB; rw [bytesOf_size, fixTo_len]
theorem wrap_subN {a b : Nat} (h : b ≤ a) (ha : a < 9223372036854775808) : IntKind.i64.wrap ((a : Int) - (b : Int)) = ((a - b : Nat) : Int) := by
  have e : (a : Int) - (b : Int) = ((a - b : Nat) : Int) := by omega
  rw [e]; exact IntWalk.i64_in _ (by omega)
theorem wrap_pred' {k : Nat} (h0 : 0 < k) (h : k < 9223372036854775809) : IntKind.i64.wrap ((k : Int) - 1) = ((k - 1 : Nat) : Int) := by
  have e : (k : Int) - 1 = ((k - 1 : Nat) : Int) := by omega
  rw [e]; exact IntWalk.i64_in _ (by omega)
theorem wrap_mul8 {i : Nat} (h : i ≤ 8) : IntKind.i64.wrap (8 * (i : Int)) = ((8 * i : Nat) : Int) := (IntWalk.i64_in _ (by omega)).trans (by omega)
def shl64 (a : Int) : Int := IntKind.u64.wrap (a * 2 ^ (min (8 : Int).toNat IntKind.u64.bits))
def or64 (a b : Int) : Int := IntKind.u64.wrap ((BitVec.ofInt IntKind.u64.bits a ||| BitVec.ofInt IntKind.u64.bits b).toNat : Nat)
def valTo (s : ByteArray) : Nat → Int
  | 0 => 0
  | i + 1 => or64 (shl64 (valTo s i)) (IntKind.u64.wrap ((s.data.toList.getD i 0).toNat : Nat))
def valB (s : ByteArray) : Int := valTo s s.size
def frm4 (p : ByteArray) : ByteArray := fixB (IntKind.u64.wrap (p.size : Int)) 4
def frameB (p : ByteArray) : ByteArray := frm4 p ++ fixB (IntKind.u64.wrap (sumTo (frm4 p ++ p) (frm4 p ++ p).size)) 2 ++ p
def frameR (p : ByteArray) : ByteArray × Int := if 65536 < p.size then (⟨#[]⟩, 2) else (frameB p, 0)
theorem frameB_size (p : ByteArray) : (frameB p).size = p.size + 6 := by
  unfold frameB frm4
  rw [ByteArray.size_append, ByteArray.size_append, fixB_size, fixB_size]; omega
theorem u64_wrap_nn (x : Int) : 0 ≤ IntKind.u64.wrap x ∧ IntKind.u64.wrap x ≤ 18446744073709551615 := by
  simp [IntKind.wrap, IntKind.bits, IntKind.signed]; omega
theorem valB_nn (s : ByteArray) : 0 ≤ valB s := by
  unfold valB
  cases s.size with
  | zero => exact Int.le_refl _
  | succ i => exact (u64_wrap_nn _).1
def takeR (s : ByteArray) : ByteArray × ByteArray × Int :=
  if s.size < 4 then (⟨#[]⟩, ⟨#[]⟩, 3) else if 65536 < valB (s.extract 0 4) then (⟨#[]⟩, ⟨#[]⟩, 2) else if s.size < 6 ∨ (s.size : Int) - 6 < valB (s.extract 0 4) then (⟨#[]⟩, ⟨#[]⟩, 3) else
  if (frameR (s.extract 6 (6 + (valB (s.extract 0 4)).toNat))).1 = s.extract 0 (6 + (valB (s.extract 0 4)).toNat) then (s.extract 6 (6 + (valB (s.extract 0 4)).toNat), s.extract (6 + (valB (s.extract 0 4)).toNat) s.size, 0) else (⟨#[]⟩, ⟨#[]⟩, 4)
def trio (p : ByteArray × ByteArray × Int) : Value := .tuple ⟨[.string p.1, .string p.2.1, .int .i64 p.2.2]⟩
theorem trio_eq {p : ByteArray × ByteArray × Int} {a b : ByteArray} {c : Int} (h : p = (a, b, c)) : Value.tuple ⟨[.string a, .string b, .int .i64 c]⟩ = trio p := by subst h; rfl

set_option maxHeartbeats 1000000 in
set_option maxRecDepth 20000 in
theorem sum_ok {I : Imm} {O : Own} {s : ByteArray} (hs : s.size ≤ 9223372036854775000) :
    Pure Try.prog 18 [.string s] I O (.int .u16 (sumTo s s.size)) := by
  refine Go.Sy.Does.enter Try.func18 rfl Try.ntmps18 rfl ?_
  refine .seq <| .region <| .e (.assign rfl) rfl rfl <| .nil <| .go <| .scope ?_
  refine .seq <| .region <| .e (.assign rfl) rfl rfl <| .nil <| .go <| .seq ?_
  refine .label <| .go <| .seq <| .seq <| .region <| .e (.assign rfl) rfl rfl ?_
  refine .nil <| .go <| .block ?_
  refine .loopM [3, 4, 5, 6, 7, 8, 9, 10, 11, 12, 13, 14, 15, 16, 17, 18, 19, 20, 21, 22, 23, 24, 25, 26, 27, 28] (fun k => s.size + 1 - k) (fun k => k ≤ s.size) (fun k => [(4, .int .i64 k), (3, .int .u16 (sumTo s k))]) (fun _ => _) (fun _ => _) (0) (Nat.zero_le _) ⟨rfl, rfl, trivial⟩ rfl rfl ?_
  intro k hk
  refine .seq <| .block <| .seq <| .seq <| .region <| .e (.move rfl) rfl rfl ?_
  refine .e (.move rfl) rfl rfl <| .e (.lenS Try.underlying9 rfl rfl) rfl rfl <| .e (.eql rfl rfl) rfl rfl <| .nil <| .go ?_
  refine .split 11 rfl (fun h11 => ?_) (fun h11 => ?_)
  · skip
    replace h11 := of_decide_eq_true h11
    refine .cond_true rfl <| .exit <| .exit <| .blk_other rfl <| .exit <| .exit ?_
    refine .blk_exit <| .go <| .seq <| .region <| .e (.move rfl) rfl rfl <| .e (.assign rfl) rfl rfl ?_
    refine .nil <| .go <| .ret <| .sc_ret ?_
    refine Post.retE rfl rfl ?_
    exact congrArg (fun k : Nat => Value.int .u16 (sumTo s k)) (show k = s.size by omega)
  · skip
    replace h11 := of_decide_eq_false h11
    refine .cond_false rfl <| .skip <| .go <| .seq <| .region <| .e (.move rfl) rfl rfl ?_
    refine .e (.move rfl) rfl rfl <| .e (.move rfl) rfl rfl ?_
    have hkl : k < s.data.toList.length := by
      have e9 : s.data.toList.length = s.size := by simp
      omega
    refine .e ((.indexS (j := k) Try.underlying9 rfl rfl rfl hkl)) rfl rfl <| .e (.conv Try.underlying5 Try.underlying60 rfl) rfl rfl <| .e ((.shlC rfl rfl (by decide) rfl)) rfl rfl <| .e ((.xorC rfl rfl rfl)) rfl rfl <| .e (.assign rfl) rfl rfl <| .nil ?_
    refine .go <| .seq <| .region <| .e (.move rfl) rfl rfl <| .nil <| .go ?_
    refine .block ?_
    refine .loopM [3, 5, 19, 20, 21, 22, 23, 24, 25, 26, 27, 28] (fun j => 8 - j) (fun j => j ≤ 8) (fun j => [(19, .int .i64 j), (3, .int .u16 (bitTo (byteIn (sumTo s k) s.data.toList[k]) j))]) (fun _ => _) (fun _ => _) (0) (Nat.zero_le _) ⟨rfl, rfl, trivial⟩ rfl rfl ?_
    intro j hj
    refine .seq <| .region <| .e (.lss rfl rfl) rfl rfl <| .nil <| .go <| .seq ?_
    refine .split 20 rfl (fun h20 => ?_) (fun h20 => ?_)
    · skip
      replace h20 := of_decide_eq_true h20
      refine .cond_true rfl <| .skip <| .go <| .seq <| .block <| .seq ?_
      refine .region <| .e (.move rfl) rfl rfl <| .e ((.shrC rfl rfl (by decide) rfl)) rfl rfl <| .e (.assign rfl) rfl rfl <| .nil <| .go ?_
      refine .region <| .e (.move rfl) rfl rfl <| .e ((.shlC rfl rfl (by decide) rfl)) rfl rfl <| .e (.move rfl) rfl rfl <| .e (.mul rfl rfl rfl) rfl rfl <| .e ((.xorC rfl rfl rfl)) rfl rfl ?_
      refine .e (.assign rfl) rfl rfl <| .nil <| .blk_normal <| .go <| .region <| .e (.add rfl rfl (by first | exact wrap_succ (by omega) | exact IntWalk.i64_in _ (by omega) | exact rfl)) rfl rfl ?_
      refine .e (.move rfl) rfl rfl <| .nil ?_
      exact .mid (j + 1) ⟨by omega, by omega⟩ ⟨rfl, rfl, trivial⟩ rfl rfl (.pre 13 rfl (.app rfl .base))
    · skip
      replace h20 := of_decide_eq_false h20
      refine .cond_false rfl <| .exit <| .exit <| .exit <| .blk_exit <| .blk_normal ?_
      refine .go <| .region <| .e (.move rfl) rfl rfl <| .e (.add rfl rfl (by first | exact wrap_succ (by omega) | exact IntWalk.i64_in _ (by omega) | exact rfl)) rfl rfl <| .e (.assign rfl) rfl rfl <| .nil ?_
      have e3 : sumTo s (k + 1) = bitTo (byteIn (sumTo s k) s.data.toList[k]) j := by
        have ej : j = 8 := by omega
        rw [ej]; show bitTo (byteIn (sumTo s k) (s.data.toList.getD k 0)) 8 = _
        rw [List.getD_eq_getElem?_getD, List.getElem?_eq_getElem hkl]; rfl
      exact .mid (k + 1) ⟨by omega, by omega⟩ ⟨rfl, (by show some _ = some _; rw [e3]), trivial⟩ rfl rfl (.pre 5 rfl (.app rfl (.del rfl (.pre 14 rfl (.app rfl .base)))))

set_option maxHeartbeats 1000000 in
set_option maxRecDepth 20000 in
theorem fixed_ok {I : Imm} {O : Own} {n : Int} {k : Nat} (hk : k ≤ 8) :
    Pure Try.prog 19 [.int .u64 n, .int .i64 (k : Nat)] I O (.string (fixB n k)) := by
  refine Go.Sy.Does.enter Try.func19 rfl Try.ntmps19 rfl ?_
  refine .seq <| .region <| .e (.assign rfl) rfl rfl <| .nil <| .go <| .seq ?_
  refine .region <| .e (.move rfl) rfl rfl <| .on rfl <| .makeSlice Try.underlying92 sz5 by5 zv5 rfl rfl rfl (by omega) (by omega) rfl fun c1 _ _ => .e (.assign rfl) rfl rfl <| .nil <| .go ?_
  refine .seq <| .seq <| .region <| .e (.move rfl) rfl rfl <| .e (.len sl92 rfl rfl) rfl rfl <| .e (.move rfl) rfl rfl ?_
  refine .nil <| .go <| .block ?_
  rw [← u8s_zero n k]
  refine .loopM [6, 11, 12, 13, 14, 15, 16, 17, 18, 19, 20, 21, 22, 23, 24, 25] (fun i => k - i) (fun i => i ≤ k) (fun i => [(11, .int .i64 i)]) (fun _ => _) (fun i => (c1, .cells ⟨u8s (fixTo n k i)⟩ 5 (0, 0)) :: _) (0) (Nat.zero_le _) ⟨rfl, trivial⟩ rfl rfl ?_
  intro i hi
  refine .seq <| .region <| .e (.lss rfl rfl) rfl rfl <| .nil <| .go <| .seq ?_
  refine .split 12 rfl (fun h12 => ?_) (fun h12 => ?_)
  · skip
    replace h12 := of_decide_eq_true h12
    refine .cond_true rfl <| .skip <| .go <| .seq <| .block <| .seq ?_
    refine .region <| .e (.move rfl) rfl rfl <| .e (.assign rfl) rfl rfl <| .nil <| .go <| .region ?_
    refine .e (.move rfl) rfl rfl <| .e (.move rfl) rfl rfl <| .e (.sub rfl rfl (wrap_pred' (by omega) (by omega))) rfl rfl <| .e (.move rfl) rfl rfl <| .e (.sub rfl rfl (wrap_subN (by omega) (by omega))) rfl rfl <| .e (.move rfl) rfl rfl ?_
    refine .e (.move rfl) rfl rfl <| .e (.mul rfl rfl (wrap_mul8 (by omega))) rfl rfl <| .e ((.shrC rfl rfl (by omega) rfl)) rfl rfl <| .e (.conv Try.underlying40 Try.underlying5 rfl) rfl rfl <| .e (.indexAddrL sl92 rfl rfl rfl (by omega)) rfl rfl <| .on rfl <| .store sz5 rfl rfl rfl rfl rfl (Nat.ble_eq_true_of_le (by simp [u8s, fixTo_len]; omega)) .here ?_
    refine .nil <| .blk_normal <| .go <| .region <| .e (.add rfl rfl (by first | exact wrap_succ (by omega) | exact IntWalk.i64_in _ (by omega) | exact rfl)) rfl rfl <| .e (.move rfl) rfl rfl ?_
    refine .nil ?_
    rw [u8s_set (by rw [fixTo_len]; omega)]
    exact .mid (i + 1) ⟨by omega, by omega⟩ ⟨rfl, trivial⟩ rfl rfl (.pre 17 rfl (.app rfl .base))
  · skip
    replace h12 := of_decide_eq_false h12
    refine .cond_false rfl <| .exit <| .exit <| .exit <| .blk_exit <| .go ?_
    refine .seq <| .region <| .e (.move rfl) rfl rfl <| .e ((.bytesStr (zs := fixTo n k i) Try.underlying92 Try.underlying9 Try.underlying5 rfl .here (fixTo_len n k i) (fun j u hu => by simpa using hu))) rfl rfl <| .e (.assign rfl) rfl rfl <| .nil ?_
    refine .go <| .ret ?_
    refine .tail ?_
    refine Post.retE rfl rfl ?_
    unfold fixB
    exact congrArg (fun i => Value.string (bytesOf (fixTo n k i))) (show i = k by omega)

set_option maxHeartbeats 1000000 in
set_option maxRecDepth 20000 in
theorem value_ok {I : Imm} {O : Own} {s : ByteArray} (hs : StrOk s) :
    Pure Try.prog 25 [.string s] I O (.int .u64 (valB s)) := by
  unfold StrOk at hs
  refine Go.Sy.Does.enter Try.func25 rfl Try.ntmps25 rfl ?_
  refine .seq <| .region <| .e (.assign rfl) rfl rfl <| .nil <| .go <| .seq ?_
  refine .region <| .e (.assign rfl) rfl rfl <| .nil <| .go <| .seq <| .seq ?_
  refine .region <| .e (.move rfl) rfl rfl <| .e (.lenS Try.underlying9 rfl rfl) rfl rfl <| .e (.move rfl) rfl rfl <| .nil <| .go ?_
  refine .block ?_
  refine .loopM [3, 4, 7, 8, 9, 10, 11, 12, 13, 14, 15, 16, 17] (fun k => s.size - k) (fun k => k ≤ s.size) (fun k => [(7, .int .i64 k), (3, .int .u64 (valTo s k))]) (fun _ => _) (fun _ => _) (0) (Nat.zero_le _) ⟨rfl, rfl, trivial⟩ rfl rfl ?_
  intro k hk
  refine .seq <| .region <| .e (.lss rfl rfl) rfl rfl <| .nil <| .go <| .seq ?_
  refine .split 8 rfl (fun h8 => ?_) (fun h8 => ?_)
  · skip
    replace h8 := of_decide_eq_true h8
    refine .cond_true rfl <| .skip <| .go <| .seq <| .block <| .seq ?_
    refine .region <| .e (.move rfl) rfl rfl <| .e (.assign rfl) rfl rfl <| .nil <| .go <| .region ?_
    refine .e (.move rfl) rfl rfl <| .e ((.shlC rfl rfl (by decide) rfl)) rfl rfl <| .e (.move rfl) rfl rfl <| .e (.move rfl) rfl rfl ?_
    have hkl : k < s.data.toList.length := by
      have e9 : s.data.toList.length = s.size := by simp
      omega
    refine .e ((.indexS (j := k) Try.underlying9 rfl rfl rfl hkl)) rfl rfl <| .e (.conv Try.underlying5 Try.underlying40 rfl) rfl rfl <| .e ((.orC rfl rfl rfl)) rfl rfl <| .e (.assign rfl) rfl rfl <| .nil <| .blk_normal ?_
    refine .go <| .region <| .e (.add rfl rfl (by first | exact wrap_succ (by omega) | exact IntWalk.i64_in _ (by omega) | exact rfl)) rfl rfl <| .e (.move rfl) rfl rfl <| .nil ?_
    have e3 : valTo s (k + 1) = or64 (shl64 (valTo s k)) (IntKind.u64.wrap ((s.data.toList[k]).toNat : Nat)) := by
      show or64 (shl64 (valTo s k)) (IntKind.u64.wrap ((s.data.toList.getD k 0).toNat : Nat)) = _
      rw [List.getD_eq_getElem?_getD, List.getElem?_eq_getElem hkl]; rfl
    exact .mid (k + 1) ⟨by omega, by omega⟩ ⟨rfl, (by show some _ = some _; rw [e3]; rfl), trivial⟩ rfl rfl (.pre 14 rfl (.app rfl .base))
  · skip
    replace h8 := of_decide_eq_false h8
    refine .cond_false rfl <| .exit <| .exit <| .exit <| .blk_exit <| .go ?_
    refine .seq <| .region <| .e (.move rfl) rfl rfl <| .e (.assign rfl) rfl rfl <| .nil <| .go ?_
    refine .ret ?_
    refine Post.retE rfl rfl ?_
    exact congrArg (fun k : Nat => Value.int .u64 (valTo s k)) (show k = s.size by omega)

set_option maxHeartbeats 1000000 in
set_option maxRecDepth 20000 in
theorem Frame_ok {I : Imm} {O : Own} {p : ByteArray} (hp : StrOk p) :
    Pure Try.prog 6 [.string p] I O (.tuple ⟨[.string (frameR p).1, .int .i64 (frameR p).2]⟩) := by
  unfold StrOk at hp
  refine Go.Sy.Does.enter Try.func6 rfl Try.ntmps6 rfl ?_
  refine .seq <| .region <| .e (.assign rfl) rfl rfl <| .e (.assign rfl) rfl rfl <| .nil <| .go ?_
  refine .seq <| .seq <| .region <| .e (.move rfl) rfl rfl <| .e (.lenS Try.underlying9 rfl rfl) rfl rfl <| .e (.gtr rfl rfl) rfl rfl ?_
  refine .nil <| .go ?_
  refine .split 7 rfl (fun h7 => ?_) (fun h7 => ?_)
  · skip
    replace h7 := of_decide_eq_true h7
    refine .cond_true rfl <| .seq <| .region <| .e (.assign rfl) rfl rfl <| .e (.assign rfl) rfl rfl <| .nil ?_
    refine .go <| .ret <| .ret ?_
    refine Post.retsE rfl (.tmp rfl (.tmp rfl .nil)) rfl (fun w h => h) ?_
    unfold frameR
    rw [if_pos (by omega)]
    rfl
  · skip
    replace h7 := of_decide_eq_false h7
    have hs4 : (frm4 p).size = 4 := fixB_size _ _
    have hs4p : (frm4 p ++ p).size = 4 + p.size := by rw [ByteArray.size_append, hs4]
    refine .cond_false rfl <| .skip <| .go <| .seq <| .region <| .e (.move rfl) rfl rfl ?_
    refine .e (.lenS Try.underlying9 rfl rfl) rfl rfl <| .e (.conv Try.underlying3 Try.underlying40 rfl) rfl rfl <| .on rfl <| .callP cal19 rfl rfl rfl (fixed_ok (n := IntKind.u64.wrap (p.size : Int)) (k := 4) (by decide)) <| .e (.assign rfl) rfl rfl <| .nil <| .go ?_
    refine .seq <| .region <| .e (.move rfl) rfl rfl <| .e (.move rfl) rfl rfl <| .e (.move rfl) rfl rfl <| .e (.strcat rfl rfl (show (frm4 p).size + p.size ≤ 9223372036854775807 by omega)) rfl rfl ?_
    refine .on rfl <| .callP cal18 rfl rfl rfl (sum_ok (s := frm4 p ++ p) (by omega)) <| .e (.conv Try.underlying60 Try.underlying40 rfl) rfl rfl <| .on rfl <| .callP cal19 rfl rfl rfl (fixed_ok (k := 2) (by decide)) <| .e (.strcat rfl rfl (show (frm4 p).size + (fixB _ 2).size ≤ 9223372036854775807 by rw [hs4, fixB_size]; decide)) rfl rfl <| .e (.move rfl) rfl rfl <| .e (.strcat rfl rfl (by show (frm4 p ++ fixB _ 2).size + p.size ≤ _; rw [ByteArray.size_append, hs4, fixB_size]; omega)) rfl rfl ?_
    refine .e (.assign rfl) rfl rfl <| .e (.assign rfl) rfl rfl <| .nil <| .go <| .ret ?_
    refine Post.retsE rfl (.tmp rfl (.tmp rfl .nil)) rfl (fun w h => h) ?_
    unfold frameR
    rw [if_neg (by omega)]
    rfl

set_option maxHeartbeats 4000000 in
set_option maxRecDepth 20000 in
theorem TakeFrame_ok {I : Imm} {O : Own} {s : ByteArray} (hs : StrOk s) :
    Pure Try.prog 11 [.string s] I O (trio (takeR s)) := by
  have hs0 := hs
  unfold StrOk at hs0
  obtain ⟨v, hv⟩ : ∃ v, valB (s.extract 0 4) = v := ⟨_, rfl⟩
  have hvn := valB_nn (s.extract 0 4)
  rw [hv] at hvn
  refine Go.Sy.Does.enter Try.func11 rfl Try.ntmps11 rfl ?_
  refine .seq <| .region <| .e (.assign rfl) rfl rfl <| .e (.assign rfl) rfl rfl <| .e (.assign rfl) rfl rfl <| .nil ?_
  refine .go <| .seq <| .seq <| .region <| .e (.move rfl) rfl rfl <| .e (.lenS Try.underlying9 rfl rfl) rfl rfl ?_
  refine .e (.lss rfl rfl) rfl rfl <| .nil <| .go ?_
  refine .split 11 rfl (fun h11 => ?_) (fun h11 => ?_)
  · skip
    replace h11 := of_decide_eq_true h11
    refine .cond_true rfl <| .seq <| .region <| .e (.assign rfl) rfl rfl <| .e (.assign rfl) rfl rfl <| .e (.assign rfl) rfl rfl ?_
    refine .nil <| .go <| .ret <| .ret ?_
    refine Post.retsE rfl (.tmp rfl (.tmp rfl (.tmp rfl .nil))) rfl (fun w h => h) ?_
    exact trio_eq (by unfold takeR; simp only [hv]; rw [if_pos (by omega)])
  · skip
    replace h11 := of_decide_eq_false h11
    refine .cond_false rfl <| .skip <| .go <| .seq <| .region <| .e (.move rfl) rfl rfl ?_
    refine .e ((.strH (h := 4) Try.underlying9 rfl rfl rfl (by omega))) rfl rfl <| .on rfl <| .callP cal25 rfl rfl rfl ((value_ok (s := s.extract 0 4) (by unfold StrOk; rw [ByteArray.size_extract]; omega)).cast (congrArg (Value.int .u64) hv)) <| .e (.assign rfl) rfl rfl <| .nil <| .go <| .seq ?_
    refine .block <| .seq <| .region <| .e (.move rfl) rfl rfl <| .e (.gtr rfl rfl) rfl rfl <| .e (.assign rfl) rfl rfl ?_
    refine .nil <| .go ?_
    refine .split 15 rfl (fun h15 => ?_) (fun h15 => ?_)
    · skip
      replace h15 := of_decide_eq_true h15
      refine .cond_true rfl <| .seq <| .region <| .e (.assign rfl) rfl rfl <| .e (.assign rfl) rfl rfl <| .e (.assign rfl) rfl rfl ?_
      refine .nil <| .go <| .ret <| .blk_ret <| .ret ?_
      refine Post.retsE rfl (.tmp rfl (.tmp rfl (.tmp rfl .nil))) rfl (fun w h => h) ?_
      exact trio_eq (by unfold takeR; simp only [hv]; rw [if_neg (by omega), if_pos (by omega)])
    · skip
      replace h15 := of_decide_eq_false h15
      refine .cond_false rfl <| .seq <| .region <| .e (.move rfl) rfl rfl <| .e (.lenS Try.underlying9 rfl rfl) rfl rfl <| .e (.lss rfl rfl) rfl rfl ?_
      refine .e (.move rfl) rfl rfl ?_
      refine .split 22 rfl (fun h22 => ?_) (fun h22 => ?_)
      · skip
        replace h22 := of_decide_eq_true h22
        refine .off rfl rfl <| .off rfl rfl <| .off rfl rfl <| .off rfl rfl <| .off rfl rfl <| .off rfl rfl ?_
        refine .e (.pickT rfl rfl) rfl rfl <| .e (.assign rfl) rfl rfl <| .nil <| .go <| .cond_true rfl <| .seq ?_
        refine .region <| .e (.assign rfl) rfl rfl <| .e (.assign rfl) rfl rfl <| .e (.assign rfl) rfl rfl <| .nil <| .go ?_
        refine .ret <| .blk_ret <| .ret ?_
        refine Post.retsE rfl (.tmp rfl (.tmp rfl (.tmp rfl .nil))) rfl (fun w h => h) ?_
        exact trio_eq (by unfold takeR; simp only [hv]; rw [if_neg (by omega), if_neg (by omega), if_pos (by omega)])
      · skip
        replace h22 := of_decide_eq_false h22
        refine .e (.move rfl) rfl rfl <| .e (.move rfl) rfl rfl <| .e (.lenS Try.underlying9 rfl rfl) rfl rfl <| .e (.sub rfl rfl (IntWalk.i64_in _ (by omega))) rfl rfl <| .e ((EV.cast (.conv Try.underlying3 Try.underlying40 rfl) (congrArg (Value.int .u64) (IntWalk.u64_in _ (by omega))))) rfl rfl <| .e (.gtr rfl rfl) rfl rfl ?_
        refine .e (.pickF rfl rfl) rfl rfl <| .e (.assign rfl) rfl rfl <| .nil <| .go ?_
        refine .split 18 rfl (fun h18 => ?_) (fun h18 => ?_)
        · skip
          replace h18 := of_decide_eq_true h18
          refine .cond_true rfl <| .seq <| .region <| .e (.assign rfl) rfl rfl <| .e (.assign rfl) rfl rfl <| .e (.assign rfl) rfl rfl ?_
          refine .nil <| .go <| .ret <| .blk_ret <| .ret ?_
          refine Post.retsE rfl (.tmp rfl (.tmp rfl (.tmp rfl .nil))) rfl (fun w h => h) ?_
          exact trio_eq (by unfold takeR; simp only [hv]; rw [if_neg (by omega), if_neg (by omega), if_pos (by omega)])
        · skip
          replace h18 := of_decide_eq_false h18
          refine .cond_false rfl <| .skip <| .blk_normal <| .go <| .seq <| .region ?_
          refine .e (.move rfl) rfl rfl <| .e ((EV.cast (.conv Try.underlying40 Try.underlying3 rfl) (congrArg (Value.int .i64) (IntWalk.i64_in _ (by omega))))) rfl rfl <| .e (.add rfl rfl (IntWalk.i64_in _ (by omega))) rfl rfl <| .e (.assign rfl) rfl rfl <| .nil <| .go ?_
          refine .seq <| .seq <| .region <| .e (.move rfl) rfl rfl <| .e (.move rfl) rfl rfl <| .e ((.strLH (l := 6) (h := 6 + v.toNat) Try.underlying9 rfl rfl rfl rfl (by omega) (by omega) (by omega))) rfl rfl ?_
          refine .on rfl <| .callP cal6 rfl rfl rfl (Frame_ok (p := s.extract 6 (6 + v.toNat)) (by unfold StrOk; rw [ByteArray.size_extract]; omega)) <| .e (.move rfl) rfl rfl <| .e (.extract rfl rfl) rfl rfl <| .e (.extract rfl rfl) rfl rfl <| .e (.assign rfl) rfl rfl <| .e (.assign rfl) rfl rfl ?_
          refine .nil <| .go <| .seq <| .region <| .e (.move rfl) rfl rfl <| .e (.move rfl) rfl rfl ?_
          refine .e (.move rfl) rfl rfl <| .e ((.strH (h := 6 + v.toNat) Try.underlying9 rfl rfl (by omega) (by omega))) rfl rfl <| .e (.strne rfl rfl) rfl rfl <| .nil <| .go ?_
          refine .split 44 rfl (fun h44 => ?_) (fun h44 => ?_)
          · skip
            first | replace h44 := of_decide_eq_false ((Bool.not_eq_true' _).mp h44) | replace h44 := of_decide_eq_false (by simpa using h44)
            refine .cond_true rfl <| .seq <| .region <| .e (.assign rfl) rfl rfl <| .e (.assign rfl) rfl rfl <| .e (.assign rfl) rfl rfl ?_
            refine .nil <| .go <| .ret <| .ret ?_
            refine Post.retsE rfl (.tmp rfl (.tmp rfl (.tmp rfl .nil))) rfl (fun w h => h) ?_
            exact trio_eq (by unfold takeR; simp only [hv]; rw [if_neg (by omega), if_neg (by omega), if_neg (by omega), if_neg h44])
          · skip
            first | replace h44 := of_decide_eq_true ((Bool.not_eq_false' _).mp h44) | replace h44 := of_decide_eq_true (by simpa using h44)
            refine .cond_false rfl <| .skip <| .go <| .seq ?_
            refine .draw [] mixed .nil ?_
            refine .t 0 rfl (.move rfl) rfl rfl (by kernel_rfl) <| .t 1 rfl (.move rfl) rfl rfl (by kernel_rfl) <| .t 2 rfl ((.strLH (l := 6) (h := 6 + v.toNat) Try.underlying9 rfl rfl rfl rfl (by omega) (by omega) (by omega))) rfl rfl (by kernel_rfl) <| .t 3 rfl (.move rfl) rfl rfl (by kernel_rfl) <| .t 4 rfl (.move rfl) rfl rfl (by kernel_rfl) <| .t 5 rfl ((.strL (l := 6 + v.toNat) Try.underlying9 rfl rfl (by omega) (by omega))) rfl rfl (by kernel_rfl) ?_
            refine .t 6 rfl (.assign rfl) rfl rfl (by kernel_rfl) <| .t 7 rfl (.assign rfl) rfl rfl (by kernel_rfl) <| .t 8 rfl (.assign rfl) rfl rfl (by kernel_rfl) <| .done (by kernel_rfl) <| .go <| .ret ?_
            refine Post.retsE rfl (.tmp rfl (.tmp rfl (.tmp rfl .nil))) rfl (fun w h => h) ?_
            exact trio_eq (by unfold takeR; simp only [hv]; rw [if_neg (by omega), if_neg (by omega), if_neg (by omega), if_pos h44])

end Go.Proofs.Ytjoaccnfnniahaa
