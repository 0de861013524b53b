/- Walks of functions over a symbolic memory, printed by a program of the session. -/
import Derived.Test.YtamgiiohaojelaaWa
namespace Go.Proofs.Ytamgiiohaojelaa
open Go.Sy
set_option linter.unusedSimpArgs false
set_option linter.unusedVariables false

set_option maxHeartbeats 1000000 in
set_option maxRecDepth 20000 in
theorem RigBears_ok {I : Imm} {O : Own} {ac bc : List Value} {a b : Tsk} (ha : TskR I ac a) (hb : TskR I bc b) :
    Pure Try.prog 3 [.agg ⟨ac⟩, .agg ⟨bc⟩] I O (.bool true) := by
  obtain ⟨aw, ab, rfl, haw, hab⟩ := ha.ex
  obtain ⟨bw, bb, rfl, hbw, hbb⟩ := hb.ex
  refine Does.enter Try.func3 rfl Try.ntmps3 rfl ?_
  refine .seq <| .region <| .on rfl <| .box rfl rfl rfl fun c1 _ _ => .on rfl <| .box rfl rfl rfl fun c2 _ _ => .e (.assign rfl) rfl rfl <| .nil ?_
  refine .go <| .seq ?_
  refine .draw [(c1, _), (c2, _)] mixed (.cons (.there <| .here) (.cons .here .nil)) ?_
  refine .one (i := 0) (by kernel_rfl) rfl rfl <| .callP cal10 rfl rfl rfl (bears_ok) ?_
  refine ⟨(.cons (.there <| .here) (.cons .here .nil)), Imm.le_refl _, ?_⟩
  refine .t 1 rfl (.move rfl) rfl rfl (by kernel_rfl) <| .t 2 rfl (.loadW ag25 sz25 rfl .here rfl) rfl rfl (by kernel_rfl) <| .t 3 rfl (.loadW ag25 sz25 rfl (.there <| .here) rfl) rfl rfl (by kernel_rfl) <| .t 5 rfl (.loadW ag25 sz25 rfl .here rfl) rfl rfl (by kernel_rfl) <| .t 6 rfl (.loadW ag25 sz25 rfl (.there <| .here) rfl) rfl rfl (by kernel_rfl) <| .one (i := 4) (by kernel_rfl) rfl rfl ?_
  refine .callP cal11 rfl rfl rfl (Bear_ok (by assumption) (by assumption)) ?_
  refine ⟨(.cons (.there <| .here) (.cons .here .nil)), Imm.le_refl _, ?_⟩
  refine .one (i := 7) (by kernel_rfl) rfl rfl <| .callP cal12 rfl rfl rfl (rBear_ok (by assumption) (by assumption)) ?_
  refine ⟨(.cons (.there <| .here) (.cons .here .nil)), Imm.le_refl _, ?_⟩
  refine .t 8 rfl (.eqv (eqBoolT (by rfl)) rfl rfl) rfl rfl (by kernel_rfl) <| .t 9 rfl (.pickT rfl rfl) rfl rfl (by kernel_rfl) <| .t 10 rfl (.move rfl) rfl rfl (by kernel_rfl) <| .t 11 rfl (.loadW ag25 sz25 rfl .here rfl) rfl rfl (by kernel_rfl) <| .t 12 rfl (.loadW ag25 sz25 rfl (.there <| .here) rfl) rfl rfl (by kernel_rfl) <| .t 14 rfl (.loadW ag25 sz25 rfl (.there <| .here) rfl) rfl rfl (by kernel_rfl) ?_
  refine .t 15 rfl (.loadW ag25 sz25 rfl .here rfl) rfl rfl (by kernel_rfl) <| .one (i := 13) (by kernel_rfl) rfl rfl <| .callP cal11 rfl rfl rfl (Bear_ok (by assumption) (by assumption)) ?_
  refine ⟨(.cons (.there <| .here) (.cons .here .nil)), Imm.le_refl _, ?_⟩
  refine .one (i := 16) (by kernel_rfl) rfl rfl <| .callP cal11 rfl rfl rfl (Bear_ok (by assumption) (by assumption)) ?_
  refine ⟨(.cons (.there <| .here) (.cons .here .nil)), Imm.le_refl _, ?_⟩
  refine .t 17 rfl (.eqv (eqBoolT (by simp [bear, Bool.and_comm])) rfl rfl) rfl rfl (by kernel_rfl) <| .t 18 rfl (.pickT rfl rfl) rfl rfl (by kernel_rfl) <| .t 19 rfl (.assign rfl) rfl rfl (by kernel_rfl) <| .done (by kernel_rfl) <| .go <| .ret ?_
  refine .tail <| .tail ?_
  refine Post.retE rfl rfl ?_
  rfl

end Go.Proofs.Ytamgiiohaojelaa
