/- Walks of functions over a symbolic memory, printed by a program of the session. -/
import Derived.Test.YtamgiiohaojelaaSyT
import Derived.Test.YtamgiiohaojelaaFacts
namespace Go.Proofs.Ytamgiiohaojelaa
open Go.Sy
set_option linter.unusedSimpArgs false
set_option linter.unusedVariables false


def shuns (a b : Tsk) : Bool := !decide (a.apart = ⟨#[]⟩) && decide (a.apart = b.group)
def bear (a b : Tsk) : Bool := !shuns a b && !shuns b a
def within (l of_ : List Pr) : Bool := l.all fun p => of_.any fun q => decide (p = q)

set_option maxHeartbeats 1000000 in
set_option maxRecDepth 20000 in
theorem shuns_ok {I : Imm} {O : Own} {ac bc : List Value} {a b : Tsk} (ha : TskR I ac a) (hb : TskR I bc b) :
    Pure Try.prog 21 [.agg ⟨ac⟩, .agg ⟨bc⟩] I O (.bool (shuns a b)) := by
  obtain ⟨aw, ab, rfl, haw, hab⟩ := ha.ex
  obtain ⟨bw, bb, rfl, hbw, hbb⟩ := hb.ex
  refine Does.enter Try.func21 rfl Try.ntmps21 rfl ?_
  refine .seq <| .region <| .on rfl <| .box rfl rfl rfl fun c1 _ _ => .on rfl <| .box rfl rfl rfl fun c2 _ _ => .e (.assign rfl) rfl rfl <| .nil ?_
  refine .go <| .seq <| .region <| .e (.fieldAddr fo25_5 rfl) rfl rfl <| .e (.load ag9 rfl (.there <| .here) rfl) rfl rfl <| .e (.strne rfl rfl) rfl rfl ?_
  refine .e (.move rfl) rfl rfl ?_
  refine .split 8 rfl (fun h8 => ?_) (fun h8 => ?_)
  · skip
    replace h8 := of_decide_eq_false (by simpa using h8)
    refine .e (.fieldAddr fo25_5 rfl) rfl rfl <| .e (.load ag9 rfl (.there <| .here) rfl) rfl rfl <| .e (.fieldAddr fo25_4 rfl) rfl rfl <| .e (.load ag9 rfl .here rfl) rfl rfl <| .e (.streq rfl rfl) rfl rfl <| .e (.pickT rfl rfl) rfl rfl ?_
    refine .e (.assign rfl) rfl rfl <| .nil <| .go <| .ret ?_
    refine .tail <| .tail ?_
    refine Post.retE rfl rfl ?_
    simp_all [shuns]
  · skip
    replace h8 := of_decide_eq_true (by simpa using h8)
    refine .off rfl rfl <| .off rfl rfl <| .off rfl rfl <| .off rfl rfl <| .off rfl rfl <| .e (.pickF rfl rfl) rfl rfl ?_
    refine .e (.assign rfl) rfl rfl <| .nil <| .go <| .ret ?_
    refine .tail <| .tail ?_
    refine Post.retE rfl rfl ?_
    simp_all [shuns]

set_option maxHeartbeats 1000000 in
set_option maxRecDepth 20000 in
theorem Bear_ok {I : Imm} {O : Own} {ac bc : List Value} {a b : Tsk} (ha : TskR I ac a) (hb : TskR I bc b) :
    Pure Try.prog 11 [.agg ⟨ac⟩, .agg ⟨bc⟩] I O (.bool (bear a b)) := by
  obtain ⟨aw, ab, rfl, haw, hab⟩ := ha.ex
  obtain ⟨bw, bb, rfl, hbw, hbb⟩ := hb.ex
  refine Does.enter Try.func11 rfl Try.ntmps11 rfl ?_
  refine .seq <| .region <| .on rfl <| .box rfl rfl rfl fun c1 _ _ => .on rfl <| .box rfl rfl rfl fun c2 _ _ => .e (.assign rfl) rfl rfl <| .nil ?_
  refine .go <| .seq <| .region <| .e (.loadW ag25 sz25 rfl (.there <| .here) rfl) rfl rfl <| .e (.loadW ag25 sz25 rfl .here rfl) rfl rfl <| .on rfl <| .callP cal21 rfl rfl rfl (shuns_ok (by assumption) (by assumption)) ?_
  refine .e (.not rfl) rfl rfl <| .e (.move rfl) rfl rfl ?_
  refine .split 9 rfl (fun h9 => ?_) (fun h9 => ?_)
  · skip
    refine .e (.loadW ag25 sz25 rfl .here rfl) rfl rfl <| .e (.loadW ag25 sz25 rfl (.there <| .here) rfl) rfl rfl <| .on rfl <| .callP cal21 rfl rfl rfl (shuns_ok (by assumption) (by assumption)) <| .e (.not rfl) rfl rfl <| .e (.pickT rfl rfl) rfl rfl <| .e (.assign rfl) rfl rfl ?_
    refine .nil <| .go <| .ret ?_
    refine .tail <| .tail ?_
    refine Post.retE rfl rfl ?_
    simp_all [bear]
  · skip
    refine .off rfl rfl <| .off rfl rfl <| .off rfl rfl <| .off rfl rfl <| .e (.pickF rfl rfl) rfl rfl <| .e (.assign rfl) rfl rfl ?_
    refine .nil <| .go <| .ret ?_
    refine .tail <| .tail ?_
    refine Post.retE rfl rfl ?_
    simp_all [bear]

set_option maxHeartbeats 1000000 in
set_option maxRecDepth 20000 in
theorem rBear_ok {I : Imm} {O : Own} {ac bc : List Value} {a b : Tsk} (ha : TskR I ac a) (hb : TskR I bc b) :
    Pure Try.prog 12 [.agg ⟨ac⟩, .agg ⟨bc⟩] I O (.bool (bear a b)) := by
  obtain ⟨aw, ab, rfl, haw, hab⟩ := ha.ex
  obtain ⟨bw, bb, rfl, hbw, hbb⟩ := hb.ex
  refine Does.enter Try.func12 rfl Try.ntmps12 rfl ?_
  refine .seq <| .region <| .on rfl <| .box rfl rfl rfl fun c1 _ _ => .on rfl <| .box rfl rfl rfl fun c2 _ _ => .e (.assign rfl) rfl rfl <| .nil ?_
  refine .go <| .seq <| .region <| .e (.fieldAddr fo25_5 rfl) rfl rfl <| .e (.load ag9 rfl (.there <| .here) rfl) rfl rfl <| .e (.strne rfl rfl) rfl rfl ?_
  refine .e (.move rfl) rfl rfl ?_
  refine .split 8 rfl (fun h8 => ?_) (fun h8 => ?_)
  · skip
    replace h8 := of_decide_eq_false (by simpa using h8)
    refine .e (.fieldAddr fo25_5 rfl) rfl rfl <| .e (.load ag9 rfl (.there <| .here) rfl) rfl rfl <| .e (.fieldAddr fo25_4 rfl) rfl rfl <| .e (.load ag9 rfl .here rfl) rfl rfl <| .e (.streq rfl rfl) rfl rfl <| .e (.pickT rfl rfl) rfl rfl ?_
    refine .e (.move rfl) rfl rfl ?_
    refine .split 15 rfl (fun h15 => ?_) (fun h15 => ?_)
    · skip
      replace h15 := of_decide_eq_true h15
      refine .off rfl rfl <| .off rfl rfl <| .off rfl rfl <| .off rfl rfl <| .off rfl rfl <| .off rfl rfl ?_
      refine .off rfl rfl <| .off rfl rfl <| .off rfl rfl <| .off rfl rfl <| .e (.pickT rfl rfl) rfl rfl <| .e (.not rfl) rfl rfl ?_
      refine .e (.assign rfl) rfl rfl <| .nil <| .go <| .ret ?_
      refine .tail <| .tail ?_
      refine Post.retE rfl rfl ?_
      simp_all [bear, shuns]
    · skip
      replace h15 := of_decide_eq_false h15
      refine .e (.fieldAddr fo25_5 rfl) rfl rfl <| .e (.load ag9 rfl .here rfl) rfl rfl <| .e (.strne rfl rfl) rfl rfl <| .e (.move rfl) rfl rfl ?_
      refine .split 19 rfl (fun h19 => ?_) (fun h19 => ?_)
      · skip
        replace h19 := of_decide_eq_false (by simpa using h19)
        refine .e (.fieldAddr fo25_5 rfl) rfl rfl <| .e (.load ag9 rfl .here rfl) rfl rfl <| .e (.fieldAddr fo25_4 rfl) rfl rfl <| .e (.load ag9 rfl (.there <| .here) rfl) rfl rfl <| .e (.streq rfl rfl) rfl rfl <| .e (.pickT rfl rfl) rfl rfl ?_
        refine .e (.pickF rfl rfl) rfl rfl <| .e (.not rfl) rfl rfl <| .e (.assign rfl) rfl rfl <| .nil <| .go <| .ret ?_
        refine .tail <| .tail ?_
        refine Post.retE rfl rfl ?_
        simp_all [bear, shuns]
      · skip
        replace h19 := of_decide_eq_true (by simpa using h19)
        refine .off rfl rfl <| .off rfl rfl <| .off rfl rfl <| .off rfl rfl <| .off rfl rfl <| .e (.pickF rfl rfl) rfl rfl ?_
        refine .e (.pickF rfl rfl) rfl rfl <| .e (.not rfl) rfl rfl <| .e (.assign rfl) rfl rfl <| .nil <| .go <| .ret ?_
        refine .tail <| .tail ?_
        refine Post.retE rfl rfl ?_
        simp_all [bear, shuns]
  · skip
    replace h8 := of_decide_eq_true (by simpa using h8)
    refine .off rfl rfl <| .off rfl rfl <| .off rfl rfl <| .off rfl rfl <| .off rfl rfl <| .e (.pickF rfl rfl) rfl rfl ?_
    refine .e (.move rfl) rfl rfl <| .e (.fieldAddr fo25_5 rfl) rfl rfl <| .e (.load ag9 rfl .here rfl) rfl rfl <| .e (.strne rfl rfl) rfl rfl <| .e (.move rfl) rfl rfl ?_
    refine .split 19 rfl (fun h19 => ?_) (fun h19 => ?_)
    · skip
      replace h19 := of_decide_eq_false (by simpa using h19)
      refine .e (.fieldAddr fo25_5 rfl) rfl rfl <| .e (.load ag9 rfl .here rfl) rfl rfl <| .e (.fieldAddr fo25_4 rfl) rfl rfl <| .e (.load ag9 rfl (.there <| .here) rfl) rfl rfl <| .e (.streq rfl rfl) rfl rfl <| .e (.pickT rfl rfl) rfl rfl ?_
      refine .e (.pickF rfl rfl) rfl rfl <| .e (.not rfl) rfl rfl <| .e (.assign rfl) rfl rfl <| .nil <| .go <| .ret ?_
      refine .tail <| .tail ?_
      refine Post.retE rfl rfl ?_
      simp_all [bear, shuns]
    · skip
      replace h19 := of_decide_eq_true (by simpa using h19)
      refine .off rfl rfl <| .off rfl rfl <| .off rfl rfl <| .off rfl rfl <| .off rfl rfl <| .e (.pickF rfl rfl) rfl rfl ?_
      refine .e (.pickF rfl rfl) rfl rfl <| .e (.not rfl) rfl rfl <| .e (.assign rfl) rfl rfl <| .nil <| .go <| .ret ?_
      refine .tail <| .tail ?_
      refine Post.retE rfl rfl ?_
      simp_all [bear, shuns]


theorem eqBool {a b : Bool} : EqOk Try.prog 4 (.bool a) (.bool b) (decide (a = b)) := .bool Try.underlying4
theorem prsNil {I : Imm} : PrsR I (.slice none 0 0) [] := SlR.nil
def task0 : Tsk := ⟨⟨#[]⟩, ⟨0, 0, 0⟩, [], [], ⟨#[]⟩, ⟨#[]⟩, 0⟩
def node0 : Nod := ⟨⟨#[]⟩, ⟨0, 0, 0⟩, [], []⟩
theorem i64_0 : I64 0 := by unfold I64; omega
theorem a3_0 : A3.ok ⟨0, 0, 0⟩ := ⟨i64_0, i64_0, i64_0⟩
theorem strOk_nil : StrOk ⟨#[]⟩ := by unfold StrOk; decide
theorem task0_R {I : Imm} : TskR I [.string ⟨#[]⟩, .int .i64 0, .int .i64 0, .int .i64 0, .slice none 0 0, .slice none 0 0, .string ⟨#[]⟩, .string ⟨#[]⟩, .int .i64 0] task0 :=
  ⟨⟨_, _, rfl, prsNil, prsNil⟩, strOk_nil, a3_0, strOk_nil, strOk_nil, i64_0⟩
theorem taskG_R {I : Imm} : TskR I [.string ⟨#[]⟩, .int .i64 0, .int .i64 0, .int .i64 0, .slice none 0 0, .slice none 0 0, .string ⟨#[103]⟩, .string ⟨#[]⟩, .int .i64 0] { task0 with group := ⟨#[103]⟩ } :=
  ⟨⟨_, _, rfl, prsNil, prsNil⟩, strOk_nil, a3_0, by unfold StrOk; decide, strOk_nil, i64_0⟩
theorem taskA_R {I : Imm} : TskR I [.string ⟨#[]⟩, .int .i64 0, .int .i64 0, .int .i64 0, .slice none 0 0, .slice none 0 0, .string ⟨#[]⟩, .string ⟨#[103]⟩, .int .i64 0] { task0 with apart := ⟨#[103]⟩ } :=
  ⟨⟨_, _, rfl, prsNil, prsNil⟩, strOk_nil, a3_0, strOk_nil, by unfold StrOk; decide, i64_0⟩

theorem eqBoolT {a b : Bool} (h : a = b) : EqOk Try.prog 4 (.bool a) (.bool b) true := by have := @eqBool a b; simpa [h] using this

set_option maxHeartbeats 1000000 in
set_option maxRecDepth 20000 in
theorem bears_ok {I : Imm} {O : Own}  :
    Pure Try.prog 10 [] I O (.bool true) := by
  refine Does.enter Try.func10 rfl Try.ntmps10 rfl ?_
  refine .seq <| .region <| .e (.assign rfl) rfl rfl <| .nil <| .go <| .seq ?_
  refine .region <| .e (.build bs25 zv25 rfl rfl) rfl rfl <| .e (.build bs25 zv25 rfl rfl) rfl rfl <| .on rfl <| .callP cal11 rfl rfl rfl (Bear_ok task0_R task0_R) <| .e (.move rfl) rfl rfl ?_
  refine .split 4 rfl (fun h4 => ?_) (fun h4 => ?_)
  · skip
    refine .e (.build bs25 zv25 rfl rfl) rfl rfl <| .e (.build bs25 zv25 rfl rfl) rfl rfl <| .on rfl <| .callP cal11 rfl rfl rfl (Bear_ok taskA_R taskG_R) <| .e (.not rfl) rfl rfl <| .e (.pickT rfl rfl) rfl rfl <| .e (.assign rfl) rfl rfl ?_
    refine .nil <| .go <| .ret ?_
    refine Post.retE rfl rfl ?_
    simp_all [bear, shuns, task0]
  · skip
    refine .off rfl rfl <| .off rfl rfl <| .off rfl rfl <| .off rfl rfl <| .e (.pickF rfl rfl) rfl rfl <| .e (.assign rfl) rfl rfl ?_
    refine .nil <| .go <| .ret ?_
    refine Post.retE rfl rfl ?_
    simp_all [bear, shuns, task0]

end Go.Proofs.Ytamgiiohaojelaa
