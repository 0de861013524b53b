/- Walks of functions over a symbolic memory, printed by a program of the session. -/
import Derived.Test.YtamgiiohaojelaaSyF
import Derived.Test.YtamgiiohaojelaaFacts
namespace Go.Proofs.Ytamgiiohaojelaa
open Go.Sy
set_option linter.unusedSimpArgs false
set_option linter.unusedVariables false


def shuns (a b : Tsk) : Bool := !decide (a.apart = ⟨#[]⟩) && decide (a.apart = b.group)
def bear (a b : Tsk) : Bool := !shuns a b && !shuns b a
def within (l of_ : List Pr) : Bool := l.all fun p => of_.any fun q => decide (p = q)

set_option maxHeartbeats 1000000 in
set_option maxRecDepth 20000 in
theorem shuns_ok {I : Imm} {O : Own} {ac bc : List Value} {a b : Tsk} (ha : TskR I ac a) (hb : TskR I bc b) :
    Pure Try.prog 21 [.agg ⟨ac⟩, .agg ⟨bc⟩] I O (.bool (shuns a b)) := by
  obtain ⟨aw, ab, rfl, haw, hab⟩ := ha.ex
  obtain ⟨bw, bb, rfl, hbw, hbb⟩ := hb.ex
  refine Does.enter Try.func21 rfl Try.ntmps21 rfl ?_
  refine .seq <| .region <| .on rfl <| .box rfl rfl rfl fun c1 _ _ => .on rfl <| .box rfl rfl rfl fun c2 _ _ => .e (.assign rfl) rfl rfl <| .nil ?_
  refine .go <| .seq <| .region <| .e (.fieldAddr fo25_5 rfl) rfl rfl <| .e (.load ag9 rfl (.there <| .here) rfl) rfl rfl <| .e (.strne rfl rfl) rfl rfl ?_
  refine .e (.move rfl) rfl rfl ?_
  refine .split 8 rfl (fun h8 => ?_) (fun h8 => ?_)
  · skip
    replace h8 := of_decide_eq_false (by simpa using h8)
    refine .e (.fieldAddr fo25_5 rfl) rfl rfl <| .e (.load ag9 rfl (.there <| .here) rfl) rfl rfl <| .e (.fieldAddr fo25_4 rfl) rfl rfl <| .e (.load ag9 rfl .here rfl) rfl rfl <| .e (.streq rfl rfl) rfl rfl <| .e (.pickT rfl rfl) rfl rfl ?_
    refine .e (.assign rfl) rfl rfl <| .nil <| .go <| .ret ?_
    refine .tail <| .tail ?_
    refine Post.retE rfl rfl ?_
    simp_all [shuns]
  · skip
    replace h8 := of_decide_eq_true (by simpa using h8)
    refine .off rfl rfl <| .off rfl rfl <| .off rfl rfl <| .off rfl rfl <| .off rfl rfl <| .e (.pickF rfl rfl) rfl rfl ?_
    refine .e (.assign rfl) rfl rfl <| .nil <| .go <| .ret ?_
    refine .tail <| .tail ?_
    refine Post.retE rfl rfl ?_
    simp_all [shuns]

set_option maxHeartbeats 1000000 in
set_option maxRecDepth 20000 in
theorem Bear_ok {I : Imm} {O : Own} {ac bc : List Value} {a b : Tsk} (ha : TskR I ac a) (hb : TskR I bc b) :
    Pure Try.prog 11 [.agg ⟨ac⟩, .agg ⟨bc⟩] I O (.bool (bear a b)) := by
  obtain ⟨aw, ab, rfl, haw, hab⟩ := ha.ex
  obtain ⟨bw, bb, rfl, hbw, hbb⟩ := hb.ex
  refine Does.enter Try.func11 rfl Try.ntmps11 rfl ?_
  refine .seq <| .region <| .on rfl <| .box rfl rfl rfl fun c1 _ _ => .on rfl <| .box rfl rfl rfl fun c2 _ _ => .e (.assign rfl) rfl rfl <| .nil ?_
  refine .go <| .seq <| .region <| .e (.loadW ag25 sz25 rfl (.there <| .here) rfl) rfl rfl <| .e (.loadW ag25 sz25 rfl .here rfl) rfl rfl <| .on rfl <| .callP cal21 rfl rfl rfl (shuns_ok (by assumption) (by assumption)) ?_
  refine .e (.not rfl) rfl rfl <| .e (.move rfl) rfl rfl ?_
  refine .split 9 rfl (fun h9 => ?_) (fun h9 => ?_)
  · skip
    refine .e (.loadW ag25 sz25 rfl .here rfl) rfl rfl <| .e (.loadW ag25 sz25 rfl (.there <| .here) rfl) rfl rfl <| .on rfl <| .callP cal21 rfl rfl rfl (shuns_ok (by assumption) (by assumption)) <| .e (.not rfl) rfl rfl <| .e (.pickT rfl rfl) rfl rfl <| .e (.assign rfl) rfl rfl ?_
    refine .nil <| .go <| .ret ?_
    refine .tail <| .tail ?_
    refine Post.retE rfl rfl ?_
    simp_all [bear]
  · skip
    refine .off rfl rfl <| .off rfl rfl <| .off rfl rfl <| .off rfl rfl <| .e (.pickF rfl rfl) rfl rfl <| .e (.assign rfl) rfl rfl ?_
    refine .nil <| .go <| .ret ?_
    refine .tail <| .tail ?_
    refine Post.retE rfl rfl ?_
    simp_all [bear]

set_option maxHeartbeats 1000000 in
set_option maxRecDepth 20000 in
theorem rBear_ok {I : Imm} {O : Own} {ac bc : List Value} {a b : Tsk} (ha : TskR I ac a) (hb : TskR I bc b) :
    Pure Try.prog 12 [.agg ⟨ac⟩, .agg ⟨bc⟩] I O (.bool (bear a b)) := by
  obtain ⟨aw, ab, rfl, haw, hab⟩ := ha.ex
  obtain ⟨bw, bb, rfl, hbw, hbb⟩ := hb.ex
  refine Does.enter Try.func12 rfl Try.ntmps12 rfl ?_
  refine .seq <| .region <| .on rfl <| .box rfl rfl rfl fun c1 _ _ => .on rfl <| .box rfl rfl rfl fun c2 _ _ => .e (.assign rfl) rfl rfl <| .nil ?_
  refine .go <| .seq <| .region <| .e (.fieldAddr fo25_5 rfl) rfl rfl <| .e (.load ag9 rfl (.there <| .here) rfl) rfl rfl <| .e (.strne rfl rfl) rfl rfl ?_
  refine .e (.move rfl) rfl rfl ?_
  refine .split 8 rfl (fun h8 => ?_) (fun h8 => ?_)
  · skip
    replace h8 := of_decide_eq_false (by simpa using h8)
    refine .e (.fieldAddr fo25_5 rfl) rfl rfl <| .e (.load ag9 rfl (.there <| .here) rfl) rfl rfl <| .e (.fieldAddr fo25_4 rfl) rfl rfl <| .e (.load ag9 rfl .here rfl) rfl rfl <| .e (.streq rfl rfl) rfl rfl <| .e (.pickT rfl rfl) rfl rfl ?_
    refine .e (.move rfl) rfl rfl ?_
    refine .split 15 rfl (fun h15 => ?_) (fun h15 => ?_)
    · skip
      replace h15 := of_decide_eq_true h15
      refine .off rfl rfl <| .off rfl rfl <| .off rfl rfl <| .off rfl rfl <| .off rfl rfl <| .off rfl rfl ?_
      refine .off rfl rfl <| .off rfl rfl <| .off rfl rfl <| .off rfl rfl <| .e (.pickT rfl rfl) rfl rfl <| .e (.not rfl) rfl rfl ?_
      refine .e (.assign rfl) rfl rfl <| .nil <| .go <| .ret ?_
      refine .tail <| .tail ?_
      refine Post.retE rfl rfl ?_
      simp_all [bear, shuns]
    · skip
      replace h15 := of_decide_eq_false h15
      refine .e (.fieldAddr fo25_5 rfl) rfl rfl <| .e (.load ag9 rfl .here rfl) rfl rfl <| .e (.strne rfl rfl) rfl rfl <| .e (.move rfl) rfl rfl ?_
      refine .split 19 rfl (fun h19 => ?_) (fun h19 => ?_)
      · skip
        replace h19 := of_decide_eq_false (by simpa using h19)
        refine .e (.fieldAddr fo25_5 rfl) rfl rfl <| .e (.load ag9 rfl .here rfl) rfl rfl <| .e (.fieldAddr fo25_4 rfl) rfl rfl <| .e (.load ag9 rfl (.there <| .here) rfl) rfl rfl <| .e (.streq rfl rfl) rfl rfl <| .e (.pickT rfl rfl) rfl rfl ?_
        refine .e (.pickF rfl rfl) rfl rfl <| .e (.not rfl) rfl rfl <| .e (.assign rfl) rfl rfl <| .nil <| .go <| .ret ?_
        refine .tail <| .tail ?_
        refine Post.retE rfl rfl ?_
        simp_all [bear, shuns]
      · skip
        replace h19 := of_decide_eq_true (by simpa using h19)
        refine .off rfl rfl <| .off rfl rfl <| .off rfl rfl <| .off rfl rfl <| .off rfl rfl <| .e (.pickF rfl rfl) rfl rfl ?_
        refine .e (.pickF rfl rfl) rfl rfl <| .e (.not rfl) rfl rfl <| .e (.assign rfl) rfl rfl <| .nil <| .go <| .ret ?_
        refine .tail <| .tail ?_
        refine Post.retE rfl rfl ?_
        simp_all [bear, shuns]
  · skip
    replace h8 := of_decide_eq_true (by simpa using h8)
    refine .off rfl rfl <| .off rfl rfl <| .off rfl rfl <| .off rfl rfl <| .off rfl rfl <| .e (.pickF rfl rfl) rfl rfl ?_
    refine .e (.move rfl) rfl rfl <| .e (.fieldAddr fo25_5 rfl) rfl rfl <| .e (.load ag9 rfl .here rfl) rfl rfl <| .e (.strne rfl rfl) rfl rfl <| .e (.move rfl) rfl rfl ?_
    refine .split 19 rfl (fun h19 => ?_) (fun h19 => ?_)
    · skip
      replace h19 := of_decide_eq_false (by simpa using h19)
      refine .e (.fieldAddr fo25_5 rfl) rfl rfl <| .e (.load ag9 rfl .here rfl) rfl rfl <| .e (.fieldAddr fo25_4 rfl) rfl rfl <| .e (.load ag9 rfl (.there <| .here) rfl) rfl rfl <| .e (.streq rfl rfl) rfl rfl <| .e (.pickT rfl rfl) rfl rfl ?_
      refine .e (.pickF rfl rfl) rfl rfl <| .e (.not rfl) rfl rfl <| .e (.assign rfl) rfl rfl <| .nil <| .go <| .ret ?_
      refine .tail <| .tail ?_
      refine Post.retE rfl rfl ?_
      simp_all [bear, shuns]
    · skip
      replace h19 := of_decide_eq_true (by simpa using h19)
      refine .off rfl rfl <| .off rfl rfl <| .off rfl rfl <| .off rfl rfl <| .off rfl rfl <| .e (.pickF rfl rfl) rfl rfl ?_
      refine .e (.pickF rfl rfl) rfl rfl <| .e (.not rfl) rfl rfl <| .e (.assign rfl) rfl rfl <| .nil <| .go <| .ret ?_
      refine .tail <| .tail ?_
      refine Post.retE rfl rfl ?_
      simp_all [bear, shuns]


theorem eqBool {a b : Bool} : EqOk Try.prog 4 (.bool a) (.bool b) (decide (a = b)) := .bool Try.underlying4
theorem prsNil {I : Imm} : PrsR I (.slice none 0 0) [] := SlR.nil
def task0 : Tsk := ⟨⟨#[]⟩, ⟨0, 0, 0⟩, [], [], ⟨#[]⟩, ⟨#[]⟩, 0⟩
def node0 : Nod := ⟨⟨#[]⟩, ⟨0, 0, 0⟩, [], []⟩
theorem i64_0 : I64 0 := by unfold I64; omega
theorem a3_0 : A3.ok ⟨0, 0, 0⟩ := ⟨i64_0, i64_0, i64_0⟩
theorem strOk_nil : StrOk ⟨#[]⟩ := by unfold StrOk; decide
theorem task0_R {I : Imm} : TskR I [.string ⟨#[]⟩, .int .i64 0, .int .i64 0, .int .i64 0, .slice none 0 0, .slice none 0 0, .string ⟨#[]⟩, .string ⟨#[]⟩, .int .i64 0] task0 :=
  ⟨⟨_, _, rfl, prsNil, prsNil⟩, strOk_nil, a3_0, strOk_nil, strOk_nil, i64_0⟩
theorem taskG_R {I : Imm} : TskR I [.string ⟨#[]⟩, .int .i64 0, .int .i64 0, .int .i64 0, .slice none 0 0, .slice none 0 0, .string ⟨#[103]⟩, .string ⟨#[]⟩, .int .i64 0] { task0 with group := ⟨#[103]⟩ } :=
  ⟨⟨_, _, rfl, prsNil, prsNil⟩, strOk_nil, a3_0, by unfold StrOk; decide, strOk_nil, i64_0⟩
theorem taskA_R {I : Imm} : TskR I [.string ⟨#[]⟩, .int .i64 0, .int .i64 0, .int .i64 0, .slice none 0 0, .slice none 0 0, .string ⟨#[]⟩, .string ⟨#[103]⟩, .int .i64 0] { task0 with apart := ⟨#[103]⟩ } :=
  ⟨⟨_, _, rfl, prsNil, prsNil⟩, strOk_nil, a3_0, strOk_nil, by unfold StrOk; decide, i64_0⟩

theorem eqBoolT {a b : Bool} (h : a = b) : EqOk Try.prog 4 (.bool a) (.bool b) true := by have := @eqBool a b; simpa [h] using this

set_option maxHeartbeats 1000000 in
set_option maxRecDepth 20000 in
theorem bears_ok {I : Imm} {O : Own}  :
    Pure Try.prog 10 [] I O (.bool true) := by
  refine Does.enter Try.func10 rfl Try.ntmps10 rfl ?_
  refine .seq <| .region <| .e (.assign rfl) rfl rfl <| .nil <| .go <| .seq ?_
  refine .region <| .e (.build bs25 zv25 rfl rfl) rfl rfl <| .e (.build bs25 zv25 rfl rfl) rfl rfl <| .on rfl <| .callP cal11 rfl rfl rfl (Bear_ok task0_R task0_R) <| .e (.move rfl) rfl rfl ?_
  refine .split 4 rfl (fun h4 => ?_) (fun h4 => ?_)
  · skip
    refine .e (.build bs25 zv25 rfl rfl) rfl rfl <| .e (.build bs25 zv25 rfl rfl) rfl rfl <| .on rfl <| .callP cal11 rfl rfl rfl (Bear_ok taskA_R taskG_R) <| .e (.not rfl) rfl rfl <| .e (.pickT rfl rfl) rfl rfl <| .e (.assign rfl) rfl rfl ?_
    refine .nil <| .go <| .ret ?_
    refine Post.retE rfl rfl ?_
    simp_all [bear, shuns, task0]
  · skip
    refine .off rfl rfl <| .off rfl rfl <| .off rfl rfl <| .off rfl rfl <| .e (.pickF rfl rfl) rfl rfl <| .e (.assign rfl) rfl rfl ?_
    refine .nil <| .go <| .ret ?_
    refine Post.retE rfl rfl ?_
    simp_all [bear, shuns, task0]

theorem eqPr {p q : Pr} : EqOk Try.prog 34 (.agg ⟨[.string p.key, .string p.value]⟩) (.agg ⟨[.string q.key, .string q.value]⟩) (decide (p = q)) := by
  have e : decide (p = q) = (decide (p.key = q.key) && (decide (p.value = q.value) && true)) := by
    cases p; cases q; simp
  rw [e]
  refine .struct Try.underlying34 (by kernel_rfl) (by kernel_rfl) ?_
  exact ⟨_, _, _, _, rfl, run_part ag9 rfl, run_part ag9 rfl, fun w => equalIn_str Try.underlying9, ⟨_, _, _, _, rfl, run_part ag9 rfl, run_part ag9 rfl, fun w => equalIn_str Try.underlying9, rfl, rfl⟩, rfl⟩
theorem any_take_succ {l : List Pr} {p : Pr} {j : Nat} (hj : j < l.length) : (l.take (j + 1)).any (fun q => decide (p = q)) = ((l.take j).any (fun q => decide (p = q)) || decide (p = l[j])) := by
  rw [List.take_succ_eq_append_getElem hj, List.any_append]; simp
theorem any_get {l : List Pr} {p : Pr} {j : Nat} (hj : j < l.length) (h : p = l[j]) : l.any (fun q => decide (p = q)) = true := List.any_eq_true.2 ⟨l[j], List.getElem_mem hj, by simp [h]⟩
theorem within_take {l o : List Pr} {k : Nat} (hk : k < l.length) (h : within (l.take k) o = true) (h2 : o.any (fun q => decide (l[k] = q)) = true) : within (l.take (k + 1)) o = true := by
  unfold within at *
  rw [List.take_succ_eq_append_getElem hk, List.all_append, h]; simpa using h2
theorem within_no {l o : List Pr} {k : Nat} (hk : k < l.length) (h2 : o.any (fun q => decide (l[k] = q)) = false) : within l o = false := by
  unfold within
  rw [Bool.eq_false_iff]
  intro h
  have := List.all_eq_true.1 h l[k] (List.getElem_mem hk)
  rw [h2] at this; cases this
theorem within_all {l o : List Pr} {k : Nat} (hk : l.length ≤ k) (h : within (l.take k) o = true) : within l o = true := by rwa [List.take_of_length_le hk] at h

set_option maxHeartbeats 1000000 in
set_option maxRecDepth 20000 in
theorem within_ok {I : Imm} {O : Own} {v u : Value} {l o : List Pr} (hl : PrsR I v l) (ho : PrsR I u o) :
    Pure Try.prog 22 [v, u] I O (.bool (within l o)) := by
  have hl0 := hl
  have ho0 := ho
  obtain ⟨la, lcap, rfl, hl1, hl2, -⟩ := hl
  obtain ⟨oa, ocap, rfl, ho1, ho2, -⟩ := ho
  refine Does.enter Try.func22 rfl Try.ntmps22 rfl ?_
  refine .seq <| .region <| .e (.assign rfl) rfl rfl <| .nil <| .go <| .scope ?_
  refine .seq <| .label <| .go <| .seq <| .seq <| .region ?_
  refine .e (.move rfl) rfl rfl <| .e (.len sl23 rfl rfl) rfl rfl <| .e (.move rfl) rfl rfl <| .nil <| .go <| .block ?_
  refine .loopM [4, 6, 8, 11, 12, 13, 14, 15, 16, 17, 18, 19, 20, 21, 22, 23, 24, 25] (fun k => l.length - k) (fun k => k ≤ l.length ∧ within (l.take k) o = true) (fun k => [(11, .int .i64 k)]) (fun _ => _) (fun _ => _) (0) ⟨by omega, rfl⟩ ⟨rfl, trivial⟩ rfl rfl ?_
  intro k hk
  obtain ⟨hk, hw⟩ := hk
  refine .seq <| .region <| .e (.lss rfl rfl) rfl rfl <| .nil <| .go <| .seq ?_
  refine .split 12 rfl (fun h12 => ?_) (fun h12 => ?_)
  · skip
    replace h12 := of_decide_eq_true h12
    refine .cond_true rfl <| .skip <| .go <| .seq <| .block <| .seq ?_
    refine .region ?_
    obtain ⟨eb13, eo13, cs13, hd13, hat13, hr13⟩ := SlR.at_ hl0 (k := k) (by omega)
    cases hd13
    obtain ⟨rfl, -, -⟩ := hr13
    refine .e (.indexAddrL sl23 rfl rfl rfl (by omega)) rfl rfl <| .e (.loadIA ag34 sz34 rfl hat13 rfl) rfl rfl <| .on rfl <| .alloc zr34 rfl fun c1 _ _ => .on rfl <| .storeW sz34 rfl rfl rfl rfl rfl rfl .here <| .nil <| .go ?_
    refine .seq <| .seq <| .region <| .e (.move rfl) rfl rfl <| .e (.len sl23 rfl rfl) rfl rfl <| .e (.move rfl) rfl rfl ?_
    refine .nil <| .go <| .block ?_
    refine .loopM [8, 17, 18, 19, 20, 21, 22, 23, 24] (fun j => o.length - j) (fun j => j ≤ o.length ∧ (o.take j).any (fun q => decide (l[k] = q)) = false) (fun j => [(17, .int .i64 j)]) (fun _ => _) (fun _ => _) (0) ⟨by omega, rfl⟩ ⟨rfl, trivial⟩ rfl rfl ?_
    intro j hj
    obtain ⟨hj, hn⟩ := hj
    refine .seq <| .region <| .e (.lss rfl rfl) rfl rfl <| .nil <| .go <| .seq ?_
    refine .split 18 rfl (fun h18 => ?_) (fun h18 => ?_)
    · skip
      replace h18 := of_decide_eq_true h18
      refine .cond_true rfl <| .skip <| .go <| .seq <| .block <| .seq ?_
      refine .region ?_
      obtain ⟨eb19, eo19, cs19, hd19, hat19, hr19⟩ := SlR.at_ ho0 (k := j) (by omega)
      cases hd19
      obtain ⟨rfl, -, -⟩ := hr19
      refine .e (.indexAddrL sl23 rfl rfl rfl (by omega)) rfl rfl <| .e (.loadIA ag34 sz34 rfl hat19 rfl) rfl rfl <| .on rfl <| .alloc zr34 rfl fun c2 _ _ => .on rfl <| .storeW sz34 rfl rfl rfl rfl rfl rfl .here <| .nil <| .go ?_
      refine .seq <| .region <| .e (.loadW ag34 sz34 rfl (.there <| .here) rfl) rfl rfl <| .e (.loadW ag34 sz34 rfl .here rfl) rfl rfl <| .e (.eqv (eqPr (p := l[k]) (q := o[j])) rfl rfl) rfl rfl <| .nil ?_
      refine .go ?_
      refine .split 23 rfl (fun h23 => ?_) (fun h23 => ?_)
      · skip
        replace h23 := of_decide_eq_true h23
        refine .cond_true rfl <| .exit <| .blk_other rfl <| .exit <| .exit <| .blk_other rfl ?_
        refine .exit <| .blk_exit <| .go <| .region <| .e (.add rfl rfl (by first | exact wrap_succ (by omega) | exact IntWalk.i64_in _ (by omega) | exact rfl)) rfl rfl <| .e (.move rfl) rfl rfl ?_
        refine .nil ?_
        refine .tail <| .tail ?_
        exact .mid (k + 1) ⟨by omega, by omega, within_take (by omega) hw (any_get (by omega) h23)⟩ ⟨rfl, trivial⟩ rfl rfl (.pre 11 rfl (.app rfl (.del rfl (.pre 8 rfl (.app rfl .base)))))
      · skip
        replace h23 := of_decide_eq_false h23
        refine .cond_false rfl <| .skip <| .blk_normal <| .go <| .region <| .e (.add rfl rfl (by first | exact wrap_succ (by omega) | exact IntWalk.i64_in _ (by omega) | exact rfl)) rfl rfl ?_
        refine .e (.move rfl) rfl rfl <| .nil ?_
        refine .tail ?_
        exact .mid (j + 1) ⟨by omega, by omega, by rw [any_take_succ (by omega), hn]; simpa using h23⟩ ⟨rfl, trivial⟩ rfl rfl (.pre 11 rfl (.app rfl .base))
    · skip
      replace h18 := of_decide_eq_false h18
      refine .cond_false rfl <| .exit <| .exit <| .exit <| .blk_exit <| .go ?_
      refine .seq <| .region <| .e (.assign rfl) rfl rfl <| .nil <| .go <| .ret ?_
      refine .blk_ret <| .ret <| .ret <| .blk_ret <| .ret <| .sc_ret ?_
      refine .tail ?_
      refine Post.retE rfl rfl ?_
      exact congrArg Value.bool (within_no (k := k) (by omega) (by rwa [List.take_of_length_le (by omega)] at hn)).symm
  · skip
    replace h12 := of_decide_eq_false h12
    refine .cond_false rfl <| .exit <| .exit <| .exit <| .blk_exit <| .go ?_
    refine .seq <| .region <| .e (.assign rfl) rfl rfl <| .nil <| .go <| .ret ?_
    refine .sc_ret ?_
    refine Post.retE rfl rfl ?_
    exact congrArg Value.bool (within_all (by omega) hw).symm

set_option maxHeartbeats 1000000 in
set_option maxRecDepth 20000 in
theorem rwithin_ok {I : Imm} {O : Own} {v u : Value} {l o : List Pr} (hl : PrsR I v l) (ho : PrsR I u o) :
    Pure Try.prog 23 [v, u] I O (.bool (within l o)) := by
  have hl0 := hl
  have ho0 := ho
  obtain ⟨la, lcap, rfl, hl1, hl2, -⟩ := hl
  obtain ⟨oa, ocap, rfl, ho1, ho2, -⟩ := ho
  refine Does.enter Try.func23 rfl Try.ntmps23 rfl ?_
  refine .seq <| .region <| .e (.assign rfl) rfl rfl <| .nil <| .go <| .seq ?_
  refine .seq <| .region <| .e (.move rfl) rfl rfl <| .e (.len sl23 rfl rfl) rfl rfl <| .e (.move rfl) rfl rfl <| .nil ?_
  refine .go <| .block ?_
  refine .loopM [4, 6, 7, 9, 12, 13, 14, 15, 16, 17, 18, 19, 20, 21, 22, 23, 24, 25, 26, 27, 28, 29, 30, 31] (fun k => l.length - k) (fun k => k ≤ l.length ∧ within (l.take k) o = true) (fun k => [(12, .int .i64 k)]) (fun _ => _) (fun _ => _) (0) ⟨by omega, rfl⟩ ⟨rfl, trivial⟩ rfl rfl ?_
  intro k hk
  obtain ⟨hk, hw⟩ := hk
  refine .seq <| .region <| .e (.lss rfl rfl) rfl rfl <| .nil <| .go <| .seq ?_
  refine .split 13 rfl (fun h13 => ?_) (fun h13 => ?_)
  · skip
    replace h13 := of_decide_eq_true h13
    refine .cond_true rfl <| .skip <| .go <| .seq <| .block <| .seq ?_
    refine .region ?_
    obtain ⟨eb14, eo14, cs14, hd14, hat14, hr14⟩ := SlR.at_ hl0 (k := k) (by omega)
    cases hd14
    obtain ⟨rfl, -, -⟩ := hr14
    refine .e (.indexAddrL sl23 rfl rfl rfl (by omega)) rfl rfl <| .e (.loadIA ag34 sz34 rfl hat14 rfl) rfl rfl <| .on rfl <| .alloc zr34 rfl fun c1 _ _ => .on rfl <| .storeW sz34 rfl rfl rfl rfl rfl rfl .here <| .nil <| .go ?_
    refine .seq <| .region <| .e (.assign rfl) rfl rfl <| .nil <| .go <| .seq ?_
    refine .seq <| .region <| .e (.move rfl) rfl rfl <| .e (.len sl23 rfl rfl) rfl rfl <| .e (.move rfl) rfl rfl <| .nil ?_
    refine .go <| .block ?_
    refine .loopM [7, 9, 18, 19, 20, 21, 22, 23, 24, 25, 26, 27, 28] (fun j => o.length - j) (fun j => j ≤ o.length) (fun j => [(18, .int .i64 j), (7, .bool ((o.take j).any (fun q => decide (l[k] = q))))]) (fun _ => _) (fun _ => _) (0) (by omega) ⟨rfl, rfl, trivial⟩ rfl rfl ?_
    intro j hj
    refine .seq <| .region <| .e (.lss rfl rfl) rfl rfl <| .nil <| .go <| .seq ?_
    refine .split 19 rfl (fun h19 => ?_) (fun h19 => ?_)
    · skip
      replace h19 := of_decide_eq_true h19
      refine .cond_true rfl <| .skip <| .go <| .seq <| .block <| .seq ?_
      refine .region ?_
      obtain ⟨eb20, eo20, cs20, hd20, hat20, hr20⟩ := SlR.at_ ho0 (k := j) (by omega)
      cases hd20
      obtain ⟨rfl, -, -⟩ := hr20
      refine .e (.indexAddrL sl23 rfl rfl rfl (by omega)) rfl rfl <| .e (.loadIA ag34 sz34 rfl hat20 rfl) rfl rfl <| .on rfl <| .alloc zr34 rfl fun c2 _ _ => .on rfl <| .storeW sz34 rfl rfl rfl rfl rfl rfl .here <| .nil <| .go ?_
      refine .region <| .e (.move rfl) rfl rfl <| .e (.move rfl) rfl rfl ?_
      refine .split 23 rfl (fun h23 => ?_) (fun h23 => ?_)
      · skip
        refine .off rfl rfl <| .off rfl rfl <| .off rfl rfl <| .e (.pickT rfl rfl) rfl rfl <| .e (.assign rfl) rfl rfl <| .nil ?_
        refine .blk_normal <| .go <| .region <| .e (.add rfl rfl (by first | exact wrap_succ (by omega) | exact IntWalk.i64_in _ (by omega) | exact rfl)) rfl rfl <| .e (.move rfl) rfl rfl <| .nil ?_
        refine .tail ?_
        have e7 := any_take_succ (l := o) (p := l[k]) (j := j) (by omega)
        simp only [h23, Bool.true_or, Bool.false_or] at e7
        exact .mid (j + 1) ⟨by omega, by omega⟩ ⟨rfl, (by show some _ = some _; rw [e7]), trivial⟩ rfl rfl (.pre 15 rfl (.app rfl .base))
      · skip
        refine .e (.loadW ag34 sz34 rfl (.there <| .here) rfl) rfl rfl <| .e (.loadW ag34 sz34 rfl .here rfl) rfl rfl <| .e (.eqv (eqPr (p := l[k]) (q := o[j])) rfl rfl) rfl rfl <| .e (.pickF rfl rfl) rfl rfl <| .e (.assign rfl) rfl rfl <| .nil ?_
        refine .blk_normal <| .go <| .region <| .e (.add rfl rfl (by first | exact wrap_succ (by omega) | exact IntWalk.i64_in _ (by omega) | exact rfl)) rfl rfl <| .e (.move rfl) rfl rfl <| .nil ?_
        refine .tail ?_
        have e7 := any_take_succ (l := o) (p := l[k]) (j := j) (by omega)
        simp only [h23, Bool.true_or, Bool.false_or] at e7
        exact .mid (j + 1) ⟨by omega, by omega⟩ ⟨rfl, (by show some _ = some _; rw [e7]), trivial⟩ rfl rfl (.pre 15 rfl (.app rfl .base))
    · skip
      replace h19 := of_decide_eq_false h19
      refine .cond_false rfl <| .exit <| .exit <| .exit <| .blk_exit <| .go ?_
      refine .seq <| .region <| .e (.move rfl) rfl rfl <| .e (.not rfl) rfl rfl <| .nil <| .go ?_
      refine .split 30 rfl (fun h30 => ?_) (fun h30 => ?_)
      · skip
        refine .cond_true rfl <| .seq <| .region <| .e (.assign rfl) rfl rfl <| .nil <| .go ?_
        refine .ret <| .blk_ret <| .ret <| .ret <| .blk_ret <| .ret ?_
        refine .tail ?_
        refine Post.retE rfl rfl ?_
        exact congrArg Value.bool (within_no (k := k) (by omega) (by rw [List.take_of_length_le (by omega)] at h30; simpa using h30)).symm
      · skip
        refine .cond_false rfl <| .skip <| .blk_normal <| .go <| .region <| .e (.add rfl rfl (by first | exact wrap_succ (by omega) | exact IntWalk.i64_in _ (by omega) | exact rfl)) rfl rfl ?_
        refine .e (.move rfl) rfl rfl <| .nil ?_
        refine .tail ?_
        exact .mid (k + 1) ⟨by omega, by omega, within_take (by omega) hw (by rw [List.take_of_length_le (by omega)] at h30; simpa using h30)⟩ ⟨rfl, trivial⟩ rfl rfl (.pre 7 rfl (.app rfl (.del rfl (.pre 9 rfl (.app rfl .base)))))
  · skip
    replace h13 := of_decide_eq_false h13
    refine .cond_false rfl <| .exit <| .exit <| .exit <| .blk_exit <| .go ?_
    refine .seq <| .region <| .e (.assign rfl) rfl rfl <| .nil <| .go <| .ret ?_
    refine Post.retE rfl rfl ?_
    exact congrArg Value.bool (within_all (by omega) hw).symm

end Go.Proofs.Ytamgiiohaojelaa
