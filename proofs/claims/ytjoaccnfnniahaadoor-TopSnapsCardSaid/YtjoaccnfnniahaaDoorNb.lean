/- Walks of functions over a symbolic memory, printed by a program of the session. -/
import Derived.Test.YtjoaccnfnniahaaDoorNa
import Derived.Test.YtjoaccnfnniahaaDoorFact2
namespace Go.Proofs.YtjoaccnfnniahaaDoor
open Go.Sy
set_option linter.unusedSimpArgs false
set_option linter.unusedVariables false

set_option maxHeartbeats 1000000 in
set_option maxRecDepth 20000 in
theorem len64_ok {I : Imm} {O : Own} {n : Nat} (hn : n < 18446744073709551616) :
    Pure Tryd.prog 55 [.int .u64 (n : Nat)] I O (.int .i64 (blen n : Nat)) := by
  refine Go.Sy.Does.enter Tryd.func55 rfl Tryd.ntmps55 rfl ?_
  refine .seq <| .region <| .e (.assign rfl) rfl rfl <| .nil <| .go <| .seq ?_
  refine .seq <| .region <| .e (.move rfl) rfl rfl <| .e (.geq rfl rfl) rfl rfl <| .nil <| .go ?_
  refine .split 4 rfl (fun h4 => ?_) (fun h4 => ?_)
  · skip
    replace h4 := of_decide_eq_true h4
    refine .cond_true rfl <| .seq <| .region <| .e (.move rfl) rfl rfl ?_
    have hb6 := blen_sh (n := n) (j := 32) (by omega)
    refine .e ((.shrC rfl rfl (by decide) (shrN n (j := 32) (by decide)))) rfl rfl <| .e (.assign rfl) rfl rfl <| .nil <| .go <| .region <| .e (.assign rfl) rfl rfl ?_
    refine .nil <| .go <| .seq <| .seq <| .region <| .e (.move rfl) rfl rfl ?_
    refine .e (.geq rfl rfl) rfl rfl <| .nil <| .go ?_
    refine .split 8 rfl (fun h8 => ?_) (fun h8 => ?_)
    · skip
      replace h8 := of_decide_eq_true h8
      refine .cond_true rfl <| .seq <| .region <| .e (.move rfl) rfl rfl ?_
      have hb10 := blen_sh (n := (n / 2 ^ 32)) (j := 16) (by omega)
      refine .e ((.shrC rfl rfl (by decide) (shrN (n / 2 ^ 32) (j := 16) (by decide)))) rfl rfl <| .e (.assign rfl) rfl rfl <| .nil <| .go <| .region <| .e (.move rfl) rfl rfl ?_
      refine .e (.add (c := 48) rfl rfl (by decide)) rfl rfl <| .e (.assign rfl) rfl rfl <| .nil <| .go <| .seq <| .seq ?_
      refine .region <| .e (.move rfl) rfl rfl <| .e (.geq rfl rfl) rfl rfl <| .nil <| .go ?_
      refine .split 14 rfl (fun h14 => ?_) (fun h14 => ?_)
      · skip
        replace h14 := of_decide_eq_true h14
        refine .cond_true rfl <| .seq <| .region <| .e (.move rfl) rfl rfl ?_
        have hb16 := blen_sh (n := ((n / 2 ^ 32) / 2 ^ 16)) (j := 8) (by omega)
        refine .e ((.shrC rfl rfl (by decide) (shrN ((n / 2 ^ 32) / 2 ^ 16) (j := 8) (by decide)))) rfl rfl <| .e (.assign rfl) rfl rfl <| .nil <| .go <| .region <| .e (.move rfl) rfl rfl ?_
        refine .e (.add (c := 56) rfl rfl (by decide)) rfl rfl <| .e (.assign rfl) rfl rfl <| .nil <| .go <| .seq <| .region ?_
        refine .e (.move rfl) rfl rfl <| .e (.move rfl) rfl rfl <| .e ((EV.cast (.conv Tryd.underlying28 Tryd.underlying5 rfl) (congrArg (Value.int .u8) (IntWalk.u8_in (((((n / 2 ^ 32) / 2 ^ 16) / 2 ^ 8) : Nat) : Int) (by omega))))) rfl rfl <| .e ((EV.cast (.indexS (j := (((n / 2 ^ 32) / 2 ^ 16) / 2 ^ 8)) (s := tab8) Tryd.underlying9 rfl rfl rfl (tab_len (by omega))) (congrArg (Value.int .u8) (tab_at (by omega))))) rfl rfl <| .e ((EV.cast (.conv Tryd.underlying5 Tryd.underlying3 rfl) (congrArg (Value.int .i64) (IntWalk.i64_in _ (by have := blen_le (n := (((n / 2 ^ 32) / 2 ^ 16) / 2 ^ 8)) (j := 8) (by omega); omega))))) rfl rfl ?_
        have hbl := blen_le (n := (((n / 2 ^ 32) / 2 ^ 16) / 2 ^ 8)) (j := 8) (by omega)
        refine .e (.add rfl rfl (IntWalk.i64_in _ (by omega))) rfl rfl <| .e (.assign rfl) rfl rfl <| .nil <| .go <| .ret ?_
        refine Post.retE rfl rfl ?_
        exact congrArg (Value.int .i64) (by omega)
      · skip
        replace h14 := of_decide_eq_false h14
        refine .cond_false rfl <| .skip <| .go <| .seq <| .region <| .e (.move rfl) rfl rfl ?_
        refine .e (.move rfl) rfl rfl <| .e ((EV.cast (.conv Tryd.underlying28 Tryd.underlying5 rfl) (congrArg (Value.int .u8) (IntWalk.u8_in ((((n / 2 ^ 32) / 2 ^ 16) : Nat) : Int) (by omega))))) rfl rfl <| .e ((EV.cast (.indexS (j := ((n / 2 ^ 32) / 2 ^ 16)) (s := tab8) Tryd.underlying9 rfl rfl rfl (tab_len (by omega))) (congrArg (Value.int .u8) (tab_at (by omega))))) rfl rfl <| .e ((EV.cast (.conv Tryd.underlying5 Tryd.underlying3 rfl) (congrArg (Value.int .i64) (IntWalk.i64_in _ (by have := blen_le (n := ((n / 2 ^ 32) / 2 ^ 16)) (j := 8) (by omega); omega))))) rfl rfl ?_
        have hbl := blen_le (n := ((n / 2 ^ 32) / 2 ^ 16)) (j := 8) (by omega)
        refine .e (.add rfl rfl (IntWalk.i64_in _ (by omega))) rfl rfl <| .e (.assign rfl) rfl rfl <| .nil <| .go <| .ret ?_
        refine Post.retE rfl rfl ?_
        exact congrArg (Value.int .i64) (by omega)
    · skip
      replace h8 := of_decide_eq_false h8
      refine .cond_false rfl <| .skip <| .go <| .seq <| .seq <| .region ?_
      refine .e (.move rfl) rfl rfl <| .e (.geq rfl rfl) rfl rfl <| .nil <| .go ?_
      refine .split 14 rfl (fun h14 => ?_) (fun h14 => ?_)
      · skip
        replace h14 := of_decide_eq_true h14
        refine .cond_true rfl <| .seq <| .region <| .e (.move rfl) rfl rfl ?_
        have hb16 := blen_sh (n := (n / 2 ^ 32)) (j := 8) (by omega)
        refine .e ((.shrC rfl rfl (by decide) (shrN (n / 2 ^ 32) (j := 8) (by decide)))) rfl rfl <| .e (.assign rfl) rfl rfl <| .nil <| .go <| .region <| .e (.move rfl) rfl rfl ?_
        refine .e (.add (c := 40) rfl rfl (by decide)) rfl rfl <| .e (.assign rfl) rfl rfl <| .nil <| .go <| .seq <| .region ?_
        refine .e (.move rfl) rfl rfl <| .e (.move rfl) rfl rfl <| .e ((EV.cast (.conv Tryd.underlying28 Tryd.underlying5 rfl) (congrArg (Value.int .u8) (IntWalk.u8_in ((((n / 2 ^ 32) / 2 ^ 8) : Nat) : Int) (by omega))))) rfl rfl <| .e ((EV.cast (.indexS (j := ((n / 2 ^ 32) / 2 ^ 8)) (s := tab8) Tryd.underlying9 rfl rfl rfl (tab_len (by omega))) (congrArg (Value.int .u8) (tab_at (by omega))))) rfl rfl <| .e ((EV.cast (.conv Tryd.underlying5 Tryd.underlying3 rfl) (congrArg (Value.int .i64) (IntWalk.i64_in _ (by have := blen_le (n := ((n / 2 ^ 32) / 2 ^ 8)) (j := 8) (by omega); omega))))) rfl rfl ?_
        have hbl := blen_le (n := ((n / 2 ^ 32) / 2 ^ 8)) (j := 8) (by omega)
        refine .e (.add rfl rfl (IntWalk.i64_in _ (by omega))) rfl rfl <| .e (.assign rfl) rfl rfl <| .nil <| .go <| .ret ?_
        refine Post.retE rfl rfl ?_
        exact congrArg (Value.int .i64) (by omega)
      · skip
        replace h14 := of_decide_eq_false h14
        refine .cond_false rfl <| .skip <| .go <| .seq <| .region <| .e (.move rfl) rfl rfl ?_
        refine .e (.move rfl) rfl rfl <| .e ((EV.cast (.conv Tryd.underlying28 Tryd.underlying5 rfl) (congrArg (Value.int .u8) (IntWalk.u8_in (((n / 2 ^ 32) : Nat) : Int) (by omega))))) rfl rfl <| .e ((EV.cast (.indexS (j := (n / 2 ^ 32)) (s := tab8) Tryd.underlying9 rfl rfl rfl (tab_len (by omega))) (congrArg (Value.int .u8) (tab_at (by omega))))) rfl rfl <| .e ((EV.cast (.conv Tryd.underlying5 Tryd.underlying3 rfl) (congrArg (Value.int .i64) (IntWalk.i64_in _ (by have := blen_le (n := (n / 2 ^ 32)) (j := 8) (by omega); omega))))) rfl rfl ?_
        have hbl := blen_le (n := (n / 2 ^ 32)) (j := 8) (by omega)
        refine .e (.add rfl rfl (IntWalk.i64_in _ (by omega))) rfl rfl <| .e (.assign rfl) rfl rfl <| .nil <| .go <| .ret ?_
        refine Post.retE rfl rfl ?_
        exact congrArg (Value.int .i64) (by omega)
  · skip
    replace h4 := of_decide_eq_false h4
    refine .cond_false rfl <| .skip <| .go <| .seq <| .seq <| .region ?_
    refine .e (.move rfl) rfl rfl <| .e (.geq rfl rfl) rfl rfl <| .nil <| .go ?_
    refine .split 8 rfl (fun h8 => ?_) (fun h8 => ?_)
    · skip
      replace h8 := of_decide_eq_true h8
      refine .cond_true rfl <| .seq <| .region <| .e (.move rfl) rfl rfl ?_
      have hb10 := blen_sh (n := n) (j := 16) (by omega)
      refine .e ((.shrC rfl rfl (by decide) (shrN n (j := 16) (by decide)))) rfl rfl <| .e (.assign rfl) rfl rfl <| .nil <| .go <| .region <| .e (.move rfl) rfl rfl ?_
      refine .e (.add (c := 16) rfl rfl (by decide)) rfl rfl <| .e (.assign rfl) rfl rfl <| .nil <| .go <| .seq <| .seq ?_
      refine .region <| .e (.move rfl) rfl rfl <| .e (.geq rfl rfl) rfl rfl <| .nil <| .go ?_
      refine .split 14 rfl (fun h14 => ?_) (fun h14 => ?_)
      · skip
        replace h14 := of_decide_eq_true h14
        refine .cond_true rfl <| .seq <| .region <| .e (.move rfl) rfl rfl ?_
        have hb16 := blen_sh (n := (n / 2 ^ 16)) (j := 8) (by omega)
        refine .e ((.shrC rfl rfl (by decide) (shrN (n / 2 ^ 16) (j := 8) (by decide)))) rfl rfl <| .e (.assign rfl) rfl rfl <| .nil <| .go <| .region <| .e (.move rfl) rfl rfl ?_
        refine .e (.add (c := 24) rfl rfl (by decide)) rfl rfl <| .e (.assign rfl) rfl rfl <| .nil <| .go <| .seq <| .region ?_
        refine .e (.move rfl) rfl rfl <| .e (.move rfl) rfl rfl <| .e ((EV.cast (.conv Tryd.underlying28 Tryd.underlying5 rfl) (congrArg (Value.int .u8) (IntWalk.u8_in ((((n / 2 ^ 16) / 2 ^ 8) : Nat) : Int) (by omega))))) rfl rfl <| .e ((EV.cast (.indexS (j := ((n / 2 ^ 16) / 2 ^ 8)) (s := tab8) Tryd.underlying9 rfl rfl rfl (tab_len (by omega))) (congrArg (Value.int .u8) (tab_at (by omega))))) rfl rfl <| .e ((EV.cast (.conv Tryd.underlying5 Tryd.underlying3 rfl) (congrArg (Value.int .i64) (IntWalk.i64_in _ (by have := blen_le (n := ((n / 2 ^ 16) / 2 ^ 8)) (j := 8) (by omega); omega))))) rfl rfl ?_
        have hbl := blen_le (n := ((n / 2 ^ 16) / 2 ^ 8)) (j := 8) (by omega)
        refine .e (.add rfl rfl (IntWalk.i64_in _ (by omega))) rfl rfl <| .e (.assign rfl) rfl rfl <| .nil <| .go <| .ret ?_
        refine Post.retE rfl rfl ?_
        exact congrArg (Value.int .i64) (by omega)
      · skip
        replace h14 := of_decide_eq_false h14
        refine .cond_false rfl <| .skip <| .go <| .seq <| .region <| .e (.move rfl) rfl rfl ?_
        refine .e (.move rfl) rfl rfl <| .e ((EV.cast (.conv Tryd.underlying28 Tryd.underlying5 rfl) (congrArg (Value.int .u8) (IntWalk.u8_in (((n / 2 ^ 16) : Nat) : Int) (by omega))))) rfl rfl <| .e ((EV.cast (.indexS (j := (n / 2 ^ 16)) (s := tab8) Tryd.underlying9 rfl rfl rfl (tab_len (by omega))) (congrArg (Value.int .u8) (tab_at (by omega))))) rfl rfl <| .e ((EV.cast (.conv Tryd.underlying5 Tryd.underlying3 rfl) (congrArg (Value.int .i64) (IntWalk.i64_in _ (by have := blen_le (n := (n / 2 ^ 16)) (j := 8) (by omega); omega))))) rfl rfl ?_
        have hbl := blen_le (n := (n / 2 ^ 16)) (j := 8) (by omega)
        refine .e (.add rfl rfl (IntWalk.i64_in _ (by omega))) rfl rfl <| .e (.assign rfl) rfl rfl <| .nil <| .go <| .ret ?_
        refine Post.retE rfl rfl ?_
        exact congrArg (Value.int .i64) (by omega)
    · skip
      replace h8 := of_decide_eq_false h8
      refine .cond_false rfl <| .skip <| .go <| .seq <| .seq <| .region ?_
      refine .e (.move rfl) rfl rfl <| .e (.geq rfl rfl) rfl rfl <| .nil <| .go ?_
      refine .split 14 rfl (fun h14 => ?_) (fun h14 => ?_)
      · skip
        replace h14 := of_decide_eq_true h14
        refine .cond_true rfl <| .seq <| .region <| .e (.move rfl) rfl rfl ?_
        have hb16 := blen_sh (n := n) (j := 8) (by omega)
        refine .e ((.shrC rfl rfl (by decide) (shrN n (j := 8) (by decide)))) rfl rfl <| .e (.assign rfl) rfl rfl <| .nil <| .go <| .region <| .e (.move rfl) rfl rfl ?_
        refine .e (.add (c := 8) rfl rfl (by decide)) rfl rfl <| .e (.assign rfl) rfl rfl <| .nil <| .go <| .seq <| .region ?_
        refine .e (.move rfl) rfl rfl <| .e (.move rfl) rfl rfl <| .e ((EV.cast (.conv Tryd.underlying28 Tryd.underlying5 rfl) (congrArg (Value.int .u8) (IntWalk.u8_in (((n / 2 ^ 8) : Nat) : Int) (by omega))))) rfl rfl <| .e ((EV.cast (.indexS (j := (n / 2 ^ 8)) (s := tab8) Tryd.underlying9 rfl rfl rfl (tab_len (by omega))) (congrArg (Value.int .u8) (tab_at (by omega))))) rfl rfl <| .e ((EV.cast (.conv Tryd.underlying5 Tryd.underlying3 rfl) (congrArg (Value.int .i64) (IntWalk.i64_in _ (by have := blen_le (n := (n / 2 ^ 8)) (j := 8) (by omega); omega))))) rfl rfl ?_
        have hbl := blen_le (n := (n / 2 ^ 8)) (j := 8) (by omega)
        refine .e (.add rfl rfl (IntWalk.i64_in _ (by omega))) rfl rfl <| .e (.assign rfl) rfl rfl <| .nil <| .go <| .ret ?_
        refine Post.retE rfl rfl ?_
        exact congrArg (Value.int .i64) (by omega)
      · skip
        replace h14 := of_decide_eq_false h14
        refine .cond_false rfl <| .skip <| .go <| .seq <| .region <| .e (.move rfl) rfl rfl ?_
        refine .e (.move rfl) rfl rfl <| .e ((EV.cast (.conv Tryd.underlying28 Tryd.underlying5 rfl) (congrArg (Value.int .u8) (IntWalk.u8_in ((n : Nat) : Int) (by omega))))) rfl rfl <| .e ((EV.cast (.indexS (j := n) (s := tab8) Tryd.underlying9 rfl rfl rfl (tab_len (by omega))) (congrArg (Value.int .u8) (tab_at (by omega))))) rfl rfl <| .e ((EV.cast (.conv Tryd.underlying5 Tryd.underlying3 rfl) (congrArg (Value.int .i64) (IntWalk.i64_in _ (by have := blen_le (n := n) (j := 8) (by omega); omega))))) rfl rfl ?_
        have hbl := blen_le (n := n) (j := 8) (by omega)
        refine .e (.add rfl rfl (IntWalk.i64_in _ (by omega))) rfl rfl <| .e (.assign rfl) rfl rfl <| .nil <| .go <| .ret ?_
        refine Post.retE rfl rfl ?_
        exact congrArg (Value.int .i64) (by omega)

set_option maxHeartbeats 1000000 in
set_option maxRecDepth 20000 in
theorem number_ok {I : Imm} {O : Own} {n : Nat} (hn : n < 18446744073709551616) :
    Pure Tryd.prog 33 [.int .u64 (n : Nat)] I O (.string (numB n)) := by
  refine Go.Sy.Does.enter Tryd.func33 rfl Tryd.ntmps33 rfl ?_
  refine .seq <| .region <| .e (.assign rfl) rfl rfl <| .nil <| .go <| .seq ?_
  refine .region <| .e (.move rfl) rfl rfl <| .on rfl <| .callP cal55 rfl rfl rfl (len64_ok hn) <| .e (.add rfl rfl (IntWalk.i64_in _ (by have := blen_le (n := n) (j := 64) hn; omega))) rfl rfl <| .e (.quo rfl rfl (by decide) (quo8 hn)) rfl rfl <| .e (.assign rfl) rfl rfl ?_
  refine .nil <| .go <| .seq <| .region <| .e (.move rfl) rfl rfl <| .e (.add rfl rfl (wrap_succ (by have := kby_le hn; omega))) rfl rfl ?_
  have hkb := kby_le hn
  refine .on rfl <| .makeSlice (m := kby n + 1) Tryd.underlying94 sz5 by5 zv5 rfl rfl rfl (by omega) (by omega) rfl fun c1 _ _ => .e (.assign rfl) rfl rfl <| .nil <| .go <| .seq <| .region ?_
  refine .e (.move rfl) rfl rfl <| .e (.move rfl) rfl rfl <| .e (.conv Tryd.underlying3 Tryd.underlying5 rfl) rfl rfl <| .e (.indexAddrL sl94 rfl rfl rfl (Nat.zero_lt_succ _)) rfl rfl <| .on rfl <| .store sz5 rfl rfl rfl rfl rfl (Nat.ble_eq_true_of_le (by simp)) .here <| .nil ?_
  refine .go <| .seq <| .seq <| .region <| .e (.move rfl) rfl rfl <| .e (.move rfl) rfl rfl ?_
  refine .nil <| .go <| .block ?_
  rw [num_zero n (kby n)]
  refine .loopM [5, 18, 19, 20, 21, 22, 23, 24, 25, 26, 27, 28, 29, 30, 31] (fun i => kby n - i) (fun i => i ≤ kby n) (fun i => [(18, .int .i64 i)]) (fun _ => _) (fun i => (c1, .cells ⟨u8s (numTo n (kby n) i)⟩ 5 (0, 0)) :: _) (0) (Nat.zero_le _) ⟨rfl, trivial⟩ rfl rfl ?_
  intro i hi
  refine .seq <| .region <| .e (.lss rfl rfl) rfl rfl <| .nil <| .go <| .seq ?_
  refine .split 19 rfl (fun h19 => ?_) (fun h19 => ?_)
  · skip
    replace h19 := of_decide_eq_true h19
    refine .cond_true rfl <| .skip <| .go <| .seq <| .block <| .seq ?_
    refine .region <| .e (.move rfl) rfl rfl <| .e (.assign rfl) rfl rfl <| .nil <| .go <| .region ?_
    refine .e (.move rfl) rfl rfl <| .e (.move rfl) rfl rfl <| .e (.move rfl) rfl rfl <| .e (.sub rfl rfl (wrap_subN (by omega) (by omega))) rfl rfl <| .e (.move rfl) rfl rfl <| .e (.move rfl) rfl rfl ?_
    refine .e (.mul rfl rfl (wrap_mul8 (by omega))) rfl rfl <| .e ((.shrC rfl rfl (by omega) rfl)) rfl rfl <| .e (.conv Tryd.underlying28 Tryd.underlying5 rfl) rfl rfl <| .e (.indexAddrL sl94 rfl rfl rfl (by omega)) rfl rfl <| .on rfl <| .store sz5 rfl rfl rfl rfl rfl (Nat.ble_eq_true_of_le (by first | (simp [u8s, numTo_len]; done) | (simp [u8s, numTo_len]; omega))) .here <| .nil ?_
    refine .blk_normal <| .go <| .region <| .e (.add rfl rfl (by first | exact wrap_succ (by omega) | exact IntWalk.i64_in _ (by omega) | exact rfl)) rfl rfl <| .e (.move rfl) rfl rfl <| .nil ?_
    rw [u8s_set (by rw [numTo_len]; omega)]
    exact .mid (i + 1) ⟨by omega, by omega⟩ ⟨rfl, trivial⟩ rfl rfl (.pre 16 rfl (.app rfl .base))
  · skip
    replace h19 := of_decide_eq_false h19
    refine .cond_false rfl <| .exit <| .exit <| .exit <| .blk_exit <| .go ?_
    refine .seq <| .region <| .e (.move rfl) rfl rfl <| .e ((.bytesStr (zs := numTo n (kby n) i) Tryd.underlying94 Tryd.underlying9 Tryd.underlying5 rfl .here (numTo_len n (kby n) i) (fun j u hu => by simpa using hu))) rfl rfl <| .e (.assign rfl) rfl rfl <| .nil ?_
    refine .go <| .ret ?_
    refine .tail ?_
    refine Post.retE rfl rfl ?_
    unfold numB
    exact congrArg (fun i => Value.string (bytesOf (numTo n (kby n) i))) (show i = kby n by omega)

set_option maxHeartbeats 1000000 in
set_option maxRecDepth 20000 in
theorem text_ok {I : Imm} {O : Own} {s : ByteArray} (hs : s.size ≤ 140737488351232) :
    Pure Tryd.prog 35 [.string s] I O (.string (textB s)) := by
  refine Go.Sy.Does.enter Tryd.func35 rfl Tryd.ntmps35 rfl ?_
  refine .seq <| .region <| .e (.assign rfl) rfl rfl <| .nil <| .go <| .seq ?_
  refine .region <| .e (.move rfl) rfl rfl <| .e (.lenS Tryd.underlying9 rfl rfl) rfl rfl <| .e ((EV.cast (.conv Tryd.underlying3 Tryd.underlying28 rfl) (congrArg (Value.int .u64) (IntWalk.u64_in ((s.size : Nat) : Int) (by omega))))) rfl rfl <| .on rfl <| .callP cal33 rfl rfl rfl (number_ok (n := s.size) (by omega)) <| .e (.move rfl) rfl rfl ?_
  refine .e (.strcat rfl rfl (show (numB s.size).size + s.size ≤ 9223372036854775807 by rw [numB_size]; have := kby_le (n := s.size) (by omega); omega)) rfl rfl <| .e (.assign rfl) rfl rfl <| .nil <| .go <| .ret ?_
  refine Post.retE rfl rfl ?_
  rfl

end Go.Proofs.YtjoaccnfnniahaaDoor
