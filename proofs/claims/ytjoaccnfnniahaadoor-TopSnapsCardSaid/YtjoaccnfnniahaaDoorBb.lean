/- Walks of functions over a symbolic memory, printed by a program of the session. -/
import Derived.Test.YtjoaccnfnniahaaDoorSyK
import Derived.Test.YtjoaccnfnniahaaDoorSyZ
import Derived.Test.YtjoaccnfnniahaaDoorFacts
namespace Go.Proofs.YtjoaccnfnniahaaDoor
open Go.Sy
set_option linter.unusedSimpArgs false
set_option linter.unusedVariables false

/-- A strings.Builder of the call's own, that holds s. -/
def Bld (c : Nat) (s : ByteArray) (ob : Own) : Prop := ∃ p v o, (p = .pointer none ∨ p = .pointer (some ⟨c, 0, none⟩)) ∧ OwnB 5 v s o ∧ ob = (c, .cells ⟨[p, v]⟩ 98 (0, 0)) :: o
theorem Bld.new {c : Nat} : Bld c ⟨#[]⟩ [(c, .cells ⟨[.pointer none, .slice none 0 0]⟩ 98 (0, 0))] := ⟨_, _, _, .inl rfl, OwnB.nil, rfl⟩

set_option maxHeartbeats 1000000 in
set_option maxRecDepth 20000 in
theorem copy0_ok {I : Imm} {O : Own} {c m cap : Nat} {ad : Option Addr} :
    Go.Sy.Does Tryd.prog 68 [.pointer (some ⟨c, 0, none⟩)] I ((c, .cells ⟨[.pointer none, .slice ad m cap]⟩ 98 (0, 0)) :: O) (fun u I' O' => u = .tuple ⟨[]⟩ ∧ I' = I ∧ O' = (c, .cells ⟨[.pointer (some ⟨c, 0, none⟩), .slice ad m cap]⟩ 98 (0, 0)) :: O) := by
  refine Go.Sy.Does.enter Tryd.func68 rfl Tryd.ntmps68 rfl ?_
  refine .seq <| .region <| .e (.move rfl) rfl rfl <| .e (.nilCheck rfl) rfl rfl <| .e (.fieldAddr fo98_0 rfl) rfl rfl <| .e (.load ag96 rfl .here rfl) rfl rfl ?_
  refine .e ((.eqv (EqOk.ptrNil Tryd.underlying96) rfl rfl)) rfl rfl <| .nil <| .go <| .cond_true rfl <| .region <| .e (.move rfl) rfl rfl ?_
  refine .e (.move rfl) rfl rfl <| .e ((.toUnsafe Tryd.underlying96 Tryd.underlying121 sz98 (by decide) rfl .here (Nat.zero_lt_succ 1))) rfl rfl <| .on rfl <| .ev (.noEscape Tryd.func76 (by kernel_rfl) (by kernel_rfl) (by kernel_rfl) (by kernel_rfl) rfl rfl) rfl <| .e ((.fromUnsafe Tryd.underlying121 Tryd.underlying96 sz98 rfl .here (by kernel_rfl))) rfl rfl <| .e (.nilCheck rfl) rfl rfl <| .e (.fieldAddr fo98_0 rfl) rfl rfl ?_
  refine .on rfl <| .store sz96 rfl rfl rfl rfl rfl rfl .here <| .nil <| .normal ?_
  refine Post.rets rfl .nil rfl (Imm.le_refl _) (fun w h => h) ?_
  exact ⟨rfl, rfl, rfl⟩

set_option maxHeartbeats 1000000 in
set_option maxRecDepth 20000 in
theorem copy1_ok {I : Imm} {O : Own} {c m cap : Nat} {ad : Option Addr} :
    Go.Sy.Does Tryd.prog 68 [.pointer (some ⟨c, 0, none⟩)] I ((c, .cells ⟨[.pointer (some ⟨c, 0, none⟩), .slice ad m cap]⟩ 98 (0, 0)) :: O) (fun u I' O' => u = .tuple ⟨[]⟩ ∧ I' = I ∧ O' = (c, .cells ⟨[.pointer (some ⟨c, 0, none⟩), .slice ad m cap]⟩ 98 (0, 0)) :: O) := by
  refine Go.Sy.Does.enter Tryd.func68 rfl Tryd.ntmps68 rfl ?_
  refine .seq <| .region <| .e (.move rfl) rfl rfl <| .e (.nilCheck rfl) rfl rfl <| .e (.fieldAddr fo98_0 rfl) rfl rfl <| .e (.load ag96 rfl .here rfl) rfl rfl ?_
  refine .e ((.eqv (EqOk.ptrSome Tryd.underlying96) rfl rfl)) rfl rfl <| .nil <| .go <| .cond_false rfl <| .seq <| .region ?_
  refine .e (.move rfl) rfl rfl <| .e (.nilCheck rfl) rfl rfl <| .e (.fieldAddr fo98_0 rfl) rfl rfl <| .e (.load ag96 rfl .here rfl) rfl rfl <| .e (.move rfl) rfl rfl <| .e ((.ptrSame Tryd.underlying96 sz98 rfl rfl)) rfl rfl ?_
  refine .nil <| .go <| .cond_false rfl <| .skip <| .normal ?_
  refine Post.rets rfl .nil rfl (Imm.le_refl _) (fun w h => h) ?_
  exact ⟨rfl, rfl, rfl⟩

theorem copy_ok {I : Imm} {O : Own} {c m cap : Nat} {ad : Option Addr} {p : Value} (hp : p = .pointer none ∨ p = .pointer (some ⟨c, 0, none⟩)) :
    Go.Sy.Does Tryd.prog 68 [.pointer (some ⟨c, 0, none⟩)] I ((c, .cells ⟨[p, .slice ad m cap]⟩ 98 (0, 0)) :: O) (fun u I' O' => u = .tuple ⟨[]⟩ ∧ I' = I ∧ O' = (c, .cells ⟨[.pointer (some ⟨c, 0, none⟩), .slice ad m cap]⟩ 98 (0, 0)) :: O) := by
  rcases hp with rfl | rfl
  · exact copy0_ok
  · exact copy1_ok

set_option maxHeartbeats 1000000 in
set_option maxRecDepth 20000 in
theorem bwrite0_ok {I : Imm} {O : Own} {c cap : Nat} {ad : Option Addr} {p : Value} {s x : ByteArray} {ob : Own} (hp : p = .pointer none ∨ p = .pointer (some ⟨c, 0, none⟩)) (ho : OwnB 5 (.slice ad s.size cap) s ob) (hsz : s.size + x.size ≤ 140737488355328) :
    Go.Sy.Does Tryd.prog 56 [.pointer (some ⟨c, 0, none⟩), .string x] I ((c, .cells ⟨[p, .slice ad s.size cap]⟩ 98 (0, 0)) :: (ob ++ O)) (fun u I' O' => u = .tuple ⟨[.int .i64 (x.size : Nat), .nilIface]⟩ ∧ I' = I ∧ ∃ ob', Bld c (s ++ x) ob' ∧ O' = ob' ++ O) := by
  refine Go.Sy.Does.enter Tryd.func56 rfl Tryd.ntmps56 rfl ?_
  refine .seq <| .region <| .e (.assign rfl) rfl rfl <| .e (.assign rfl) rfl rfl <| .nil <| .go ?_
  refine .seq <| .region <| .e (.move rfl) rfl rfl <| .on rfl <| .call cal68 rfl rfl rfl (copy_ok hp) fun v7 I7 O7 hI7 hK7 => ?_
  obtain ⟨rfl, hq7, rfl⟩ := hK7
  replace hq7 := hq7.symm
  subst hq7
  refine .nil <| .go <| .seq <| .region <| .e (.move rfl) rfl rfl <| .e (.move rfl) rfl rfl ?_
  refine .e (.nilCheck rfl) rfl rfl <| .e (.fieldAddr fo98_1 rfl) rfl rfl <| .e (.load ag94 rfl .here rfl) rfl rfl <| .e (.move rfl) rfl rfl <| .on rfl <| .appendS Tryd.underlying94 Tryd.underlying9 sz5 by5 zv5 rfl rfl rfl (.there <| .front) ho (by omega) (by omega) rfl fun v14 ob14 ho14 => ?_
  obtain ⟨ad14, cap14, rfl⟩ := ho14.form
  refine .e (.nilCheck rfl) rfl rfl <| .e (.fieldAddr fo98_1 rfl) rfl rfl <| .on rfl <| .store sz94 rfl rfl rfl rfl rfl rfl (.app <| .here) <| .nil <| .go <| .seq ?_
  refine .region <| .e (.move rfl) rfl rfl <| .e (.lenS Tryd.underlying9 rfl rfl) rfl rfl <| .e (.assign rfl) rfl rfl <| .e (.assign rfl) rfl rfl <| .nil ?_
  refine .go <| .ret ?_
  refine .front1 (.app <| .here) ?_
  refine Post.rets rfl (.tmp rfl (.tmp rfl .nil)) rfl (Imm.le_refl _) (fun w h => h) ?_
  exact ⟨rfl, rfl, _, ⟨_, _, _, .inr rfl, ho14, rfl⟩, rfl⟩

theorem bwrite_ok {I : Imm} {O : Own} {c : Nat} {s x : ByteArray} {ob : Own} (hB : Bld c s ob) (hsz : s.size + x.size ≤ 140737488355328) :
    Go.Sy.Does Tryd.prog 56 [.pointer (some ⟨c, 0, none⟩), .string x] I (ob ++ O) (fun u I' O' => u = .tuple ⟨[.int .i64 (x.size : Nat), .nilIface]⟩ ∧ I' = I ∧ ∃ ob', Bld c (s ++ x) ob' ∧ O' = ob' ++ O) := by
  obtain ⟨p, v, o, hp, ho, rfl⟩ := hB
  obtain ⟨ad, cap, rfl⟩ := ho.form
  exact bwrite0_ok hp ho hsz

end Go.Proofs.YtjoaccnfnniahaaDoor
