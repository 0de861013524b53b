/- Walks of functions over a symbolic memory, printed by a program of the session. -/
import Derived.Test.YtjoaccnfnniahaaDoorNc
namespace Go.Proofs.YtjoaccnfnniahaaDoor
open Go.Sy
set_option linter.unusedSimpArgs false
set_option linter.unusedVariables false

def tkN (l : ByteArray) (b : Bool) : Int × ByteArray × Bool := ((takeN l).1, (takeN l).2.1, b || !decide ((takeN l).2.2 = 0))
def tkT (l : ByteArray) (b : Bool) : ByteArray × ByteArray × Bool := ((takeT l).1, (takeT l).2.1, b || !decide ((takeT l).2.2 = 0))
theorem tkN_str {l : ByteArray} {b : Bool} (h : StrOk l) : StrOk (tkN l b).2.1 := Nat.le_trans (takeN_size l) h
theorem tkT_str {l : ByteArray} {b : Bool} (h : StrOk l) : StrOk (tkT l b).2.1 := Nat.le_trans (Nat.le_trans (Nat.le_add_left _ _) (takeT_size l)) h
def TkO (c : Nat) (T : TypeId) (l : ByteArray) (b : Bool) : Nat × Obj := (c, .cells ⟨[.string l, .bool b]⟩ T (0, 0))

set_option maxHeartbeats 1000000 in
set_option maxRecDepth 20000 in
theorem tkNumber_ok {I : Imm} {O : Own} {c : Nat} {T : TypeId} {l : ByteArray} {b : Bool} (hs : StrOk l) :
    Go.Sy.Does Tryd.prog 58 [.pointer (some ⟨c, 0, none⟩)] I ((c, .cells ⟨[.string l, .bool b]⟩ T (0, 0)) :: O) (fun u I' O' => u = .int .u64 (tkN l b).1 ∧ I' = I ∧ O' = (c, .cells ⟨[.string (tkN l b).2.1, .bool (tkN l b).2.2]⟩ T (0, 0)) :: O) := by
  obtain ⟨n, r, e, hT⟩ : ∃ n r e, takeN l = (n, r, e) := ⟨_, _, _, rfl⟩
  refine Go.Sy.Does.enter Tryd.func58 rfl Tryd.ntmps58 rfl ?_
  refine .seq <| .region <| .e (.assign rfl) rfl rfl <| .nil <| .go <| .seq ?_
  refine .region <| .e (.move rfl) rfl rfl <| .e (.nilCheck rfl) rfl rfl <| .e (.fieldAddr fo81_0 rfl) rfl rfl <| .e (.load ag9 rfl .here rfl) rfl rfl <| .on rfl <| .callP cal69 rfl rfl rfl ((TakeNumber_ok hs).cast (congrArg triN hT)) ?_
  refine .e (.move rfl) rfl rfl <| .e (.extract rfl rfl) rfl rfl <| .e (.extract rfl rfl) rfl rfl <| .e (.extract rfl rfl) rfl rfl <| .e (.assign rfl) rfl rfl <| .e (.assign rfl) rfl rfl ?_
  refine .e (.assign rfl) rfl rfl <| .nil <| .go <| .seq <| .region <| .e (.move rfl) rfl rfl ?_
  refine .e (.move rfl) rfl rfl <| .e (.move rfl) rfl rfl <| .e (.move rfl) rfl rfl <| .e (.nilCheck rfl) rfl rfl <| .e (.fieldAddr fo81_1 rfl) rfl rfl <| .e (.load ag4 rfl .here rfl) rfl rfl ?_
  refine .e (.move rfl) rfl rfl ?_
  refine .split 22 rfl (fun h22 => ?_) (fun h22 => ?_)
  · skip
    refine .off rfl rfl <| .off rfl rfl <| .e (.pickT rfl rfl) rfl rfl <| .e (.nilCheck rfl) rfl rfl <| .e (.fieldAddr fo81_0 rfl) rfl rfl <| .on rfl <| .store sz9 rfl rfl rfl rfl rfl rfl .here ?_
    refine .e (.nilCheck rfl) rfl rfl <| .e (.fieldAddr fo81_1 rfl) rfl rfl <| .on rfl <| .store sz4 rfl rfl rfl rfl rfl rfl .here <| .nil <| .go <| .seq ?_
    refine .region <| .e (.move rfl) rfl rfl <| .e (.assign rfl) rfl rfl <| .nil <| .go <| .ret ?_
    refine Post.rets rfl (.tmp rfl .nil) rfl (Imm.le_refl _) (fun w h => h) ?_
    have hR : tkN l b = (n, r, true) := by unfold tkN; rw [hT]; simp_all
    rw [hR]
    exact ⟨rfl, rfl, rfl⟩
  · skip
    refine .e (.move rfl) rfl rfl <| .e (.neq rfl rfl) rfl rfl <| .e (.pickF rfl rfl) rfl rfl <| .e (.nilCheck rfl) rfl rfl <| .e (.fieldAddr fo81_0 rfl) rfl rfl <| .on rfl <| .store sz9 rfl rfl rfl rfl rfl rfl .here ?_
    refine .e (.nilCheck rfl) rfl rfl <| .e (.fieldAddr fo81_1 rfl) rfl rfl <| .on rfl <| .store sz4 rfl rfl rfl rfl rfl rfl .here <| .nil <| .go <| .seq ?_
    refine .region <| .e (.move rfl) rfl rfl <| .e (.assign rfl) rfl rfl <| .nil <| .go <| .ret ?_
    refine Post.rets rfl (.tmp rfl .nil) rfl (Imm.le_refl _) (fun w h => h) ?_
    have hR : tkN l b = (n, r, !decide (e = 0)) := by unfold tkN; rw [hT]; simp_all
    rw [hR]
    exact ⟨rfl, rfl, rfl⟩

set_option maxHeartbeats 1000000 in
set_option maxRecDepth 20000 in
theorem tkText_ok {I : Imm} {O : Own} {c : Nat} {T : TypeId} {l : ByteArray} {b : Bool} (hs : StrOk l) :
    Go.Sy.Does Tryd.prog 60 [.pointer (some ⟨c, 0, none⟩)] I ((c, .cells ⟨[.string l, .bool b]⟩ T (0, 0)) :: O) (fun u I' O' => u = .string (tkT l b).1 ∧ I' = I ∧ O' = (c, .cells ⟨[.string (tkT l b).2.1, .bool (tkT l b).2.2]⟩ T (0, 0)) :: O) := by
  obtain ⟨n, r, e, hT⟩ : ∃ n r e, takeT l = (n, r, e) := ⟨_, _, _, rfl⟩
  refine Go.Sy.Does.enter Tryd.func60 rfl Tryd.ntmps60 rfl ?_
  refine .seq <| .region <| .e (.assign rfl) rfl rfl <| .nil <| .go <| .seq ?_
  refine .region <| .e (.move rfl) rfl rfl <| .e (.nilCheck rfl) rfl rfl <| .e (.fieldAddr fo81_0 rfl) rfl rfl <| .e (.load ag9 rfl .here rfl) rfl rfl <| .on rfl <| .callP cal70 rfl rfl rfl ((TakeText_ok hs).cast (congrArg trio hT)) ?_
  refine .e (.move rfl) rfl rfl <| .e (.extract rfl rfl) rfl rfl <| .e (.extract rfl rfl) rfl rfl <| .e (.extract rfl rfl) rfl rfl <| .e (.assign rfl) rfl rfl <| .e (.assign rfl) rfl rfl ?_
  refine .e (.assign rfl) rfl rfl <| .nil <| .go <| .seq <| .region <| .e (.move rfl) rfl rfl ?_
  refine .e (.move rfl) rfl rfl <| .e (.move rfl) rfl rfl <| .e (.move rfl) rfl rfl <| .e (.nilCheck rfl) rfl rfl <| .e (.fieldAddr fo81_1 rfl) rfl rfl <| .e (.load ag4 rfl .here rfl) rfl rfl ?_
  refine .e (.move rfl) rfl rfl ?_
  refine .split 22 rfl (fun h22 => ?_) (fun h22 => ?_)
  · skip
    refine .off rfl rfl <| .off rfl rfl <| .e (.pickT rfl rfl) rfl rfl <| .e (.nilCheck rfl) rfl rfl <| .e (.fieldAddr fo81_0 rfl) rfl rfl <| .on rfl <| .store sz9 rfl rfl rfl rfl rfl rfl .here ?_
    refine .e (.nilCheck rfl) rfl rfl <| .e (.fieldAddr fo81_1 rfl) rfl rfl <| .on rfl <| .store sz4 rfl rfl rfl rfl rfl rfl .here <| .nil <| .go <| .seq ?_
    refine .region <| .e (.move rfl) rfl rfl <| .e (.assign rfl) rfl rfl <| .nil <| .go <| .ret ?_
    refine Post.rets rfl (.tmp rfl .nil) rfl (Imm.le_refl _) (fun w h => h) ?_
    have hR : tkT l b = (n, r, true) := by unfold tkT; rw [hT]; simp_all
    rw [hR]
    exact ⟨rfl, rfl, rfl⟩
  · skip
    refine .e (.move rfl) rfl rfl <| .e (.neq rfl rfl) rfl rfl <| .e (.pickF rfl rfl) rfl rfl <| .e (.nilCheck rfl) rfl rfl <| .e (.fieldAddr fo81_0 rfl) rfl rfl <| .on rfl <| .store sz9 rfl rfl rfl rfl rfl rfl .here ?_
    refine .e (.nilCheck rfl) rfl rfl <| .e (.fieldAddr fo81_1 rfl) rfl rfl <| .on rfl <| .store sz4 rfl rfl rfl rfl rfl rfl .here <| .nil <| .go <| .seq ?_
    refine .region <| .e (.move rfl) rfl rfl <| .e (.assign rfl) rfl rfl <| .nil <| .go <| .ret ?_
    refine Post.rets rfl (.tmp rfl .nil) rfl (Imm.le_refl _) (fun w h => h) ?_
    have hR : tkT l b = (n, r, !decide (e = 0)) := by unfold tkT; rw [hT]; simp_all
    rw [hR]
    exact ⟨rfl, rfl, rfl⟩

end Go.Proofs.YtjoaccnfnniahaaDoor
