/- Walks of functions over a symbolic memory, printed by a program of the session. -/
import Derived.Test.YtjoaccnfnniahaaDoorSyH
import Derived.Test.YtjoaccnfnniahaaDoorFacts
import Derived.Test.YtjoaccnfnniahaaDoorTrim
namespace Go.Proofs.YtjoaccnfnniahaaDoor
open Go.Sy
set_option linter.unusedSimpArgs false
set_option linter.unusedVariables false

theorem trim_ok {I : Imm} {O : Own} {s : ByteArray} (hs : StrOk s) : Pure Tryd.prog 12 [.string s, .string ⟨#[97, 98, 99, 100, 101, 102, 103, 104, 105, 106, 107, 108, 109, 110, 111, 112, 113, 114, 115, 116, 117, 118, 119, 120, 121, 122, 48, 49, 50, 51, 52, 53, 54, 55, 56, 57, 45]⟩] I O (.string ⟨(Lib.trimS s.data.toList letters).toArray⟩) := .ofCalls fun w =>
  Any.strings_Trim_laid Tryd.lays160 (by kernel_rfl) s ⟨#[97, 98, 99, 100, 101, 102, 103, 104, 105, 106, 107, 108, 109, 110, 111, 112, 113, 114, 115, 116, 117, 118, 119, 120, 121, 122, 48, 49, 50, 51, 52, 53, 54, 55, 56, 57, 45]⟩ w hs (by decide) (Go.Proofs.ascii_of_all (by decide))
theorem isName_eq {s : ByteArray} : isName s = ((!decide (s = ⟨#[]⟩) && decide ((s.size : Int) ≤ 32)) && s.data.toList.all nameB) := by
  unfold isName
  have e : decide ((s.size : Int) ≤ 32) = decide (s.size ≤ 32) := decide_eq_decide.2 (by omega)
  rw [e]
  cases s.data.toList.all nameB <;> cases decide (s = ⟨#[]⟩) <;> cases decide (s.size ≤ 32) <;> rfl
theorem isName_no {s : ByteArray} {k : Nat} (hk : k < s.data.toList.length) (h : nameB s.data.toList[k] = false) : isName s = false := by
  unfold isName
  have : s.data.toList.all nameB = false := by
    rw [Bool.eq_false_iff]; intro h2
    have := List.all_eq_true.1 h2 _ (List.getElem_mem hk)
    rw [h] at this; cases this
  rw [this]; rfl
theorem all_step {s : ByteArray} {k : Nat} (hk : k < s.data.toList.length) (h : (s.data.toList.take k).all nameB = true) (hb : nameB s.data.toList[k] = true) : (s.data.toList.take (k + 1)).all nameB = true := by
  rw [List.take_succ_eq_append_getElem hk, List.all_append, h, List.all_cons, hb]; rfl

set_option maxHeartbeats 1000000 in
set_option maxRecDepth 20000 in
theorem Name_ok {I : Imm} {O : Own} {s : ByteArray} (hs : StrOk s) :
    Pure Tryd.prog 5 [.string s] I O (.bool (isName s)) := by
  refine Go.Sy.Does.enter Tryd.func5 rfl Tryd.ntmps5 rfl ?_
  refine .seq <| .region <| .e (.assign rfl) rfl rfl <| .nil <| .go <| .seq ?_
  refine .region <| .e (.move rfl) rfl rfl <| .e (.strne rfl rfl) rfl rfl <| .e (.move rfl) rfl rfl ?_
  refine .split 5 rfl (fun h5 => ?_) (fun h5 => ?_)
  · skip
    first | replace h5 := of_decide_eq_false ((Bool.not_eq_true' _).mp h5) | replace h5 := of_decide_eq_false (by simpa using h5)
    refine .e (.move rfl) rfl rfl <| .e (.lenS Tryd.underlying9 rfl rfl) rfl rfl <| .e (.leq rfl rfl) rfl rfl <| .e (.pickT rfl rfl) rfl rfl <| .e (.move rfl) rfl rfl ?_
    refine .split 10 rfl (fun h10 => ?_) (fun h10 => ?_)
    · skip
      replace h10 := of_decide_eq_true h10
      refine .e (.move rfl) rfl rfl <| .on rfl <| .callP cal12 rfl rfl rfl (trim_ok hs) <| .e ((EV.cast (u := .bool (s.data.toList.all nameB)) (.streq rfl rfl) (congrArg Value.bool trim_eq))) rfl rfl <| .e (.pickT rfl rfl) rfl rfl <| .e (.assign rfl) rfl rfl <| .nil ?_
      refine .go <| .ret ?_
      refine Post.retE rfl rfl ?_
      refine congrArg Value.bool ?_
      rw [isName_eq]
      generalize s.data.toList.all nameB = c
      simp [h5, h10]
    · skip
      replace h10 := of_decide_eq_false h10
      refine .off rfl rfl <| .off rfl rfl <| .off rfl rfl <| .e (.pickF rfl rfl) rfl rfl <| .e (.assign rfl) rfl rfl <| .nil ?_
      refine .go <| .ret ?_
      refine Post.retE rfl rfl ?_
      refine congrArg Value.bool ?_
      rw [isName_eq]
      generalize s.data.toList.all nameB = c
      simp [h5, h10]
  · skip
    first | replace h5 := of_decide_eq_true ((Bool.not_eq_false' _).mp h5) | replace h5 := of_decide_eq_true (by simpa using h5)
    refine .off rfl rfl <| .off rfl rfl <| .off rfl rfl <| .e (.pickF rfl rfl) rfl rfl <| .e (.move rfl) rfl rfl <| .off rfl rfl ?_
    refine .off rfl rfl <| .off rfl rfl <| .e (.pickF rfl rfl) rfl rfl <| .e (.assign rfl) rfl rfl <| .nil <| .go ?_
    refine .ret ?_
    refine Post.retE rfl rfl ?_
    refine congrArg Value.bool ?_
    rw [isName_eq]
    generalize s.data.toList.all nameB = c
    simp [h5]

end Go.Proofs.YtjoaccnfnniahaaDoor
