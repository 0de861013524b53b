/- Walks of functions over a symbolic memory, printed by a program of the session. -/
import Derived.Test.YtajpakifkinadaaGreatDoorBo
namespace Go.Proofs.YtajpakifkinadaaGreatDoor
open Go.Sy
set_option linter.unusedSimpArgs false
set_option linter.unusedVariables false

theorem take_step {α : Type} {l m : List α} {k : Nat} (hl : k < l.length) (hm : k < m.length) (h : l.take k = m.take k) (e : l[k] = m[k]) : l.take (k + 1) = m.take (k + 1) := by
  rw [List.take_succ_eq_append_getElem hl, List.take_succ_eq_append_getElem hm, h, e]
theorem same_all {α : Type} {l m : List α} {k : Nat} (hk : l.length ≤ k) (hlm : l.length = m.length) (h : l.take k = m.take k) : l = m := by
  rwa [List.take_of_length_le hk, List.take_of_length_le (by omega)] at h
theorem same_no {α : Type} {l m : List α} {k : Nat} (hl : k < l.length) (hm : k < m.length) (e : ¬l[k] = m[k]) : ¬l = m := fun h => by subst h; exact e rfl
theorem same_len {α : Type} {l m : List α} (h : ¬l.length = m.length) : ¬l = m := fun e => h (by rw [e])
theorem eqBnd {p q : Bnd} : EqOk Tryz.prog 47 (.agg ⟨p.cells⟩) (.agg ⟨q.cells⟩) (decide (p = q)) := by
  have e : decide (p = q) = (decide (p.task = q.task) && (decide (p.node = q.node) && true)) := by cases p; cases q; simp
  rw [e]
  refine .struct Tryz.underlying47 (by kernel_rfl) (by kernel_rfl) ?_
  exact ⟨_, _, _, _, rfl, run_part ag9 rfl, run_part ag9 rfl, fun w => equalIn_str Tryz.underlying9, ⟨_, _, _, _, rfl, run_part ag9 rfl, run_part ag9 rfl, fun w => equalIn_str Tryz.underlying9, rfl, rfl⟩, rfl⟩

set_option maxHeartbeats 1000000 in
set_option maxRecDepth 20000 in
theorem samePrs_ok {I : Imm} {O : Own} {v u : Value} {l m : List Pr} (hl : PrsR I v l) (hm : PrsR I u m) :
    Pure Tryz.prog 64 [v, u] I O (.bool (decide (l = m))) := by
  have hl0 := hl
  obtain ⟨la, lcap, rfl, hl1, hl2, -⟩ := hl
  have hm0 := hm
  obtain ⟨ma, mcap, rfl, hm1, hm2, -⟩ := hm
  refine Go.Sy.Does.enter Tryz.func64 rfl Tryz.ntmps64 rfl ?_
  refine .seq <| .region <| .e (.assign rfl) rfl rfl <| .nil <| .go <| .seq ?_
  refine .seq <| .region <| .e (.move rfl) rfl rfl <| .e (.len sl30 rfl rfl) rfl rfl <| .e (.move rfl) rfl rfl <| .e (.len sl30 rfl rfl) rfl rfl ?_
  refine .e (.neq rfl rfl) rfl rfl <| .nil <| .go ?_
  refine .split 10 rfl (fun h10 => ?_) (fun h10 => ?_)
  · skip
    first | replace h10 := of_decide_eq_false ((Bool.not_eq_true' _).mp h10) | replace h10 := of_decide_eq_false (by simpa using h10)
    refine .cond_true rfl <| .seq <| .region <| .e (.assign rfl) rfl rfl <| .nil <| .go ?_
    refine .ret <| .ret ?_
    refine Post.retE rfl rfl ?_
    exact congrArg Value.bool (decide_eq_false (same_len (by omega))).symm
  · skip
    first | replace h10 := of_decide_eq_true ((Bool.not_eq_false' _).mp h10) | replace h10 := of_decide_eq_true (by simpa using h10)
    refine .cond_false rfl <| .skip <| .go <| .seq <| .seq <| .region ?_
    refine .e (.move rfl) rfl rfl <| .e (.len sl30 rfl rfl) rfl rfl <| .e (.move rfl) rfl rfl <| .nil <| .go <| .block ?_
    refine .loopM [4, 5, 13, 14, 15, 16, 17, 18, 19, 20, 21, 22, 23, 24, 25] (fun k => l.length - k) (fun k => k ≤ l.length ∧ l.take k = m.take k) (fun k => [(13, .int .i64 k)]) (fun _ => _) (fun _ => _) (0) ⟨Nat.zero_le _, rfl⟩ ⟨rfl, trivial⟩ rfl rfl ?_
    intro k hk
    obtain ⟨hk, hs⟩ := hk
    refine .seq <| .region <| .e (.lss rfl rfl) rfl rfl <| .nil <| .go <| .seq ?_
    refine .split 14 rfl (fun h14 => ?_) (fun h14 => ?_)
    · skip
      replace h14 := of_decide_eq_true h14
      refine .cond_true rfl <| .skip <| .go <| .seq <| .block <| .seq ?_
      refine .region <| .e (.move rfl) rfl rfl <| .e (.assign rfl) rfl rfl <| .nil <| .go <| .seq ?_
      refine .draw [] mixed .nil ?_
      refine .t 0 rfl (.move rfl) rfl rfl (by kernel_rfl) <| .t 1 rfl (.move rfl) rfl rfl (by kernel_rfl) ?_
      obtain ⟨eb18, eo18, cs18, hd18, hat18, hr18⟩ := SlR.at_ hl0 (k := k) (by omega)
      cases hd18
      obtain ⟨rfl, hx18, hy18⟩ := hr18
      refine .t 2 rfl (.indexAddrL sl30 rfl rfl rfl (by omega)) rfl rfl (by kernel_rfl) <| .t 3 rfl (.loadIA ag45 sz45 rfl hat18 rfl) rfl rfl (by kernel_rfl) <| .t 4 rfl (.move rfl) rfl rfl (by kernel_rfl) <| .t 5 rfl (.move rfl) rfl rfl (by kernel_rfl) ?_
      obtain ⟨eb22, eo22, cs22, hd22, hat22, hr22⟩ := SlR.at_ hm0 (k := k) (by omega)
      cases hd22
      obtain ⟨rfl, hx22, hy22⟩ := hr22
      refine .t 6 rfl (.indexAddrL sl30 rfl rfl rfl (by omega)) rfl rfl (by kernel_rfl) <| .t 7 rfl (.loadIA ag45 sz45 rfl hat22 rfl) rfl rfl (by kernel_rfl) <| .t 8 rfl (.nev (eqPr (p := l[k]) (q := m[k])) rfl rfl) rfl rfl (by kernel_rfl) <| .done (by kernel_rfl) <| .go ?_
      refine .split 24 rfl (fun h24 => ?_) (fun h24 => ?_)
      · skip
        first | replace h24 := of_decide_eq_false ((Bool.not_eq_true' _).mp h24) | replace h24 := of_decide_eq_false (by simpa using h24)
        refine .cond_true rfl <| .seq <| .region <| .e (.assign rfl) rfl rfl <| .nil <| .go ?_
        refine .ret <| .blk_ret <| .ret <| .ret <| .blk_ret <| .ret ?_
        refine Post.retE rfl rfl ?_
        exact congrArg Value.bool (decide_eq_false (same_no (k := k) (by omega) (by omega) h24)).symm
      · skip
        first | replace h24 := of_decide_eq_true ((Bool.not_eq_false' _).mp h24) | replace h24 := of_decide_eq_true (by simpa using h24)
        refine .cond_false rfl <| .skip <| .blk_normal <| .go <| .region <| .e (.add rfl rfl (by first | exact wrap_succ (by omega) | exact IntWalk.i64_in _ (by omega) | exact rfl)) rfl rfl ?_
        refine .e (.move rfl) rfl rfl <| .nil ?_
        exact .mid (k + 1) ⟨by omega, by omega, take_step (by omega) (by omega) hs h24⟩ ⟨rfl, trivial⟩ rfl rfl (.pre 16 rfl (.app rfl .base))
    · skip
      replace h14 := of_decide_eq_false h14
      refine .cond_false rfl <| .exit <| .exit <| .exit <| .blk_exit <| .go ?_
      refine .seq <| .region <| .e (.assign rfl) rfl rfl <| .nil <| .go <| .ret ?_
      refine Post.retE rfl rfl ?_
      exact congrArg Value.bool (decide_eq_true (same_all (k := k) (by omega) (by omega) hs)).symm

set_option maxHeartbeats 1000000 in
set_option maxRecDepth 20000 in
theorem sameNod_ok {I : Imm} {O : Own} {ac bc : List Value} {a b : Nod} (ha : NodR I ac a) (hb : NodR I bc b) :
    Pure Tryz.prog 23 [.agg ⟨ac⟩, .agg ⟨bc⟩] I O (.bool (decide (a = b))) := by
  have ha0 := ha
  obtain ⟨xl, xt, rfl, xhl, xht⟩ := ha.ex
  have xhl0 := xhl
  have xht0 := xht
  obtain ⟨_, _, rfl, -⟩ := xhl
  obtain ⟨_, _, rfl, -⟩ := xht
  have hb0 := hb
  obtain ⟨yl, yt, rfl, yhl, yht⟩ := hb.ex
  have yhl0 := yhl
  have yht0 := yht
  obtain ⟨_, _, rfl, -⟩ := yhl
  obtain ⟨_, _, rfl, -⟩ := yht
  refine Go.Sy.Does.enter Tryz.func23 rfl Tryz.ntmps23 rfl ?_
  refine .seq <| .region <| .on rfl <| .box rfl rfl rfl fun c1 _ _ => .on rfl <| .box rfl rfl rfl fun c2 _ _ => .e (.assign rfl) rfl rfl <| .nil ?_
  refine .go <| .seq <| .region <| .e (.fieldAddr fo32_0 rfl) rfl rfl <| .e (.load ag9 rfl (.there <| .here) rfl) rfl rfl <| .e (.fieldAddr fo32_0 rfl) rfl rfl ?_
  refine .e (.load ag9 rfl .here rfl) rfl rfl <| .e (.streq rfl rfl) rfl rfl <| .e (.move rfl) rfl rfl ?_
  refine .split 10 rfl (fun h10 => ?_) (fun h10 => ?_)
  · skip
    replace h10 := of_decide_eq_true h10
    refine .e (.fieldAddr fo32_1 rfl) rfl rfl <| .e (.loadP ag29 sz29 rfl (.there <| .here) rfl) rfl rfl <| .e (.fieldAddr fo32_1 rfl) rfl rfl <| .e (.loadP ag29 sz29 rfl .here rfl) rfl rfl <| .e (.eqv eqA3 rfl rfl) rfl rfl <| .e (.pickT rfl rfl) rfl rfl ?_
    refine .e (.move rfl) rfl rfl ?_
    refine .split 17 rfl (fun h17 => ?_) (fun h17 => ?_)
    · skip
      replace h17 := of_decide_eq_true h17
      refine .e (.fieldAddr fo32_2 rfl) rfl rfl <| .e (.load ag30 rfl (.there <| .here) rfl) rfl rfl <| .e (.fieldAddr fo32_2 rfl) rfl rfl <| .e (.load ag30 rfl .here rfl) rfl rfl <| .on rfl <| .callP cal64 rfl rfl rfl (samePrs_ok xhl0 yhl0) <| .e (.pickT rfl rfl) rfl rfl ?_
      refine .e (.move rfl) rfl rfl ?_
      refine .split 24 rfl (fun h24 => ?_) (fun h24 => ?_)
      · skip
        refine .e (.fieldAddr fo32_3 rfl) rfl rfl <| .e (.load ag30 rfl (.there <| .here) rfl) rfl rfl <| .e (.fieldAddr fo32_3 rfl) rfl rfl <| .e (.load ag30 rfl .here rfl) rfl rfl <| .on rfl <| .callP cal64 rfl rfl rfl (samePrs_ok xht0 yht0) <| .e (.pickT rfl rfl) rfl rfl ?_
        refine .e (.assign rfl) rfl rfl <| .nil <| .go <| .ret ?_
        refine .tail <| .tail ?_
        refine Post.retE rfl rfl ?_
        refine congrArg Value.bool ?_
        cases a with | mk a1 a2 a3 a4 => cases b with | mk b1 b2 b3 b4 => simp_all
      · skip
        refine .off rfl rfl <| .off rfl rfl <| .off rfl rfl <| .off rfl rfl <| .off rfl rfl <| .e (.pickF rfl rfl) rfl rfl ?_
        refine .e (.assign rfl) rfl rfl <| .nil <| .go <| .ret ?_
        refine .tail <| .tail ?_
        refine Post.retE rfl rfl ?_
        refine congrArg Value.bool ?_
        cases a with | mk a1 a2 a3 a4 => cases b with | mk b1 b2 b3 b4 => simp_all
    · skip
      replace h17 := of_decide_eq_false h17
      refine .off rfl rfl <| .off rfl rfl <| .off rfl rfl <| .off rfl rfl <| .off rfl rfl <| .e (.pickF rfl rfl) rfl rfl ?_
      refine .e (.move rfl) rfl rfl <| .off rfl rfl <| .off rfl rfl <| .off rfl rfl <| .off rfl rfl <| .off rfl rfl ?_
      refine .e (.pickF rfl rfl) rfl rfl <| .e (.assign rfl) rfl rfl <| .nil <| .go <| .ret ?_
      refine .tail <| .tail ?_
      refine Post.retE rfl rfl ?_
      refine congrArg Value.bool ?_
      cases a with | mk a1 a2 a3 a4 => cases b with | mk b1 b2 b3 b4 => simp_all
  · skip
    replace h10 := of_decide_eq_false h10
    refine .off rfl rfl <| .off rfl rfl <| .off rfl rfl <| .off rfl rfl <| .off rfl rfl <| .e (.pickF rfl rfl) rfl rfl ?_
    refine .e (.move rfl) rfl rfl <| .off rfl rfl <| .off rfl rfl <| .off rfl rfl <| .off rfl rfl <| .off rfl rfl ?_
    refine .e (.pickF rfl rfl) rfl rfl <| .e (.move rfl) rfl rfl <| .off rfl rfl <| .off rfl rfl <| .off rfl rfl <| .off rfl rfl ?_
    refine .off rfl rfl <| .e (.pickF rfl rfl) rfl rfl <| .e (.assign rfl) rfl rfl <| .nil <| .go <| .ret ?_
    refine .tail <| .tail ?_
    refine Post.retE rfl rfl ?_
    refine congrArg Value.bool ?_
    cases a with | mk a1 a2 a3 a4 => cases b with | mk b1 b2 b3 b4 => simp_all

set_option maxHeartbeats 1000000 in
set_option maxRecDepth 20000 in
theorem sameTsk_ok {I : Imm} {O : Own} {ac bc : List Value} {a b : Tsk} (ha : TskR I ac a) (hb : TskR I bc b) :
    Pure Tryz.prog 24 [.agg ⟨ac⟩, .agg ⟨bc⟩] I O (.bool (decide (a = b))) := by
  have ha0 := ha
  obtain ⟨xl, xt, rfl, xhl, xht⟩ := ha.ex
  have xhl0 := xhl
  have xht0 := xht
  obtain ⟨_, _, rfl, -⟩ := xhl
  obtain ⟨_, _, rfl, -⟩ := xht
  have hb0 := hb
  obtain ⟨yl, yt, rfl, yhl, yht⟩ := hb.ex
  have yhl0 := yhl
  have yht0 := yht
  obtain ⟨_, _, rfl, -⟩ := yhl
  obtain ⟨_, _, rfl, -⟩ := yht
  refine Go.Sy.Does.enter Tryz.func24 rfl Tryz.ntmps24 rfl ?_
  refine .seq <| .region <| .on rfl <| .box rfl rfl rfl fun c1 _ _ => .on rfl <| .box rfl rfl rfl fun c2 _ _ => .e (.assign rfl) rfl rfl <| .nil ?_
  refine .go <| .seq <| .region <| .e (.fieldAddr fo34_0 rfl) rfl rfl <| .e (.load ag9 rfl (.there <| .here) rfl) rfl rfl <| .e (.fieldAddr fo34_0 rfl) rfl rfl ?_
  refine .e (.load ag9 rfl .here rfl) rfl rfl <| .e (.streq rfl rfl) rfl rfl <| .e (.move rfl) rfl rfl ?_
  refine .split 10 rfl (fun h10 => ?_) (fun h10 => ?_)
  · skip
    replace h10 := of_decide_eq_true h10
    refine .e (.fieldAddr fo34_1 rfl) rfl rfl <| .e (.loadP ag29 sz29 rfl (.there <| .here) rfl) rfl rfl <| .e (.fieldAddr fo34_1 rfl) rfl rfl <| .e (.loadP ag29 sz29 rfl .here rfl) rfl rfl <| .e (.eqv eqA3 rfl rfl) rfl rfl <| .e (.pickT rfl rfl) rfl rfl ?_
    refine .e (.move rfl) rfl rfl ?_
    refine .split 17 rfl (fun h17 => ?_) (fun h17 => ?_)
    · skip
      replace h17 := of_decide_eq_true h17
      refine .e (.fieldAddr fo34_2 rfl) rfl rfl <| .e (.load ag30 rfl (.there <| .here) rfl) rfl rfl <| .e (.fieldAddr fo34_2 rfl) rfl rfl <| .e (.load ag30 rfl .here rfl) rfl rfl <| .on rfl <| .callP cal64 rfl rfl rfl (samePrs_ok xhl0 yhl0) <| .e (.pickT rfl rfl) rfl rfl ?_
      refine .e (.move rfl) rfl rfl ?_
      refine .split 24 rfl (fun h24 => ?_) (fun h24 => ?_)
      · skip
        refine .e (.fieldAddr fo34_3 rfl) rfl rfl <| .e (.load ag30 rfl (.there <| .here) rfl) rfl rfl <| .e (.fieldAddr fo34_3 rfl) rfl rfl <| .e (.load ag30 rfl .here rfl) rfl rfl <| .on rfl <| .callP cal64 rfl rfl rfl (samePrs_ok xht0 yht0) <| .e (.pickT rfl rfl) rfl rfl ?_
        refine .e (.move rfl) rfl rfl ?_
        refine .split 31 rfl (fun h31 => ?_) (fun h31 => ?_)
        · skip
          refine .e (.fieldAddr fo34_4 rfl) rfl rfl <| .e (.load ag9 rfl (.there <| .here) rfl) rfl rfl <| .e (.fieldAddr fo34_4 rfl) rfl rfl <| .e (.load ag9 rfl .here rfl) rfl rfl <| .e (.streq rfl rfl) rfl rfl <| .e (.pickT rfl rfl) rfl rfl ?_
          refine .e (.move rfl) rfl rfl ?_
          refine .split 38 rfl (fun h38 => ?_) (fun h38 => ?_)
          · skip
            replace h38 := of_decide_eq_true h38
            refine .e (.fieldAddr fo34_5 rfl) rfl rfl <| .e (.load ag9 rfl (.there <| .here) rfl) rfl rfl <| .e (.fieldAddr fo34_5 rfl) rfl rfl <| .e (.load ag9 rfl .here rfl) rfl rfl <| .e (.streq rfl rfl) rfl rfl <| .e (.pickT rfl rfl) rfl rfl ?_
            refine .e (.move rfl) rfl rfl ?_
            refine .split 45 rfl (fun h45 => ?_) (fun h45 => ?_)
            · skip
              replace h45 := of_decide_eq_true h45
              refine .e (.fieldAddr fo34_6 rfl) rfl rfl <| .e (.load ag3 rfl (.there <| .here) rfl) rfl rfl <| .e (.fieldAddr fo34_6 rfl) rfl rfl <| .e (.load ag3 rfl .here rfl) rfl rfl <| .e (.eql rfl rfl) rfl rfl <| .e (.pickT rfl rfl) rfl rfl ?_
              refine .e (.assign rfl) rfl rfl <| .nil <| .go <| .ret ?_
              refine .tail <| .tail ?_
              refine Post.retE rfl rfl ?_
              refine congrArg Value.bool ?_
              cases a with | mk a1 a2 a3 a4 a5 a6 a7 => cases b with | mk b1 b2 b3 b4 b5 b6 b7 => simp_all
            · skip
              replace h45 := of_decide_eq_false h45
              refine .off rfl rfl <| .off rfl rfl <| .off rfl rfl <| .off rfl rfl <| .off rfl rfl <| .e (.pickF rfl rfl) rfl rfl ?_
              refine .e (.assign rfl) rfl rfl <| .nil <| .go <| .ret ?_
              refine .tail <| .tail ?_
              refine Post.retE rfl rfl ?_
              refine congrArg Value.bool ?_
              cases a with | mk a1 a2 a3 a4 a5 a6 a7 => cases b with | mk b1 b2 b3 b4 b5 b6 b7 => simp_all
          · skip
            replace h38 := of_decide_eq_false h38
            refine .off rfl rfl <| .off rfl rfl <| .off rfl rfl <| .off rfl rfl <| .off rfl rfl <| .e (.pickF rfl rfl) rfl rfl ?_
            refine .e (.move rfl) rfl rfl <| .off rfl rfl <| .off rfl rfl <| .off rfl rfl <| .off rfl rfl <| .off rfl rfl ?_
            refine .e (.pickF rfl rfl) rfl rfl <| .e (.assign rfl) rfl rfl <| .nil <| .go <| .ret ?_
            refine .tail <| .tail ?_
            refine Post.retE rfl rfl ?_
            refine congrArg Value.bool ?_
            cases a with | mk a1 a2 a3 a4 a5 a6 a7 => cases b with | mk b1 b2 b3 b4 b5 b6 b7 => simp_all
        · skip
          refine .off rfl rfl <| .off rfl rfl <| .off rfl rfl <| .off rfl rfl <| .off rfl rfl <| .e (.pickF rfl rfl) rfl rfl ?_
          refine .e (.move rfl) rfl rfl <| .off rfl rfl <| .off rfl rfl <| .off rfl rfl <| .off rfl rfl <| .off rfl rfl ?_
          refine .e (.pickF rfl rfl) rfl rfl <| .e (.move rfl) rfl rfl <| .off rfl rfl <| .off rfl rfl <| .off rfl rfl <| .off rfl rfl ?_
          refine .off rfl rfl <| .e (.pickF rfl rfl) rfl rfl <| .e (.assign rfl) rfl rfl <| .nil <| .go <| .ret ?_
          refine .tail <| .tail ?_
          refine Post.retE rfl rfl ?_
          refine congrArg Value.bool ?_
          cases a with | mk a1 a2 a3 a4 a5 a6 a7 => cases b with | mk b1 b2 b3 b4 b5 b6 b7 => simp_all
      · skip
        refine .off rfl rfl <| .off rfl rfl <| .off rfl rfl <| .off rfl rfl <| .off rfl rfl <| .e (.pickF rfl rfl) rfl rfl ?_
        refine .e (.move rfl) rfl rfl <| .off rfl rfl <| .off rfl rfl <| .off rfl rfl <| .off rfl rfl <| .off rfl rfl ?_
        refine .e (.pickF rfl rfl) rfl rfl <| .e (.move rfl) rfl rfl <| .off rfl rfl <| .off rfl rfl <| .off rfl rfl <| .off rfl rfl ?_
        refine .off rfl rfl <| .e (.pickF rfl rfl) rfl rfl <| .e (.move rfl) rfl rfl <| .off rfl rfl <| .off rfl rfl <| .off rfl rfl ?_
        refine .off rfl rfl <| .off rfl rfl <| .e (.pickF rfl rfl) rfl rfl <| .e (.assign rfl) rfl rfl <| .nil <| .go ?_
        refine .ret ?_
        refine .tail <| .tail ?_
        refine Post.retE rfl rfl ?_
        refine congrArg Value.bool ?_
        cases a with | mk a1 a2 a3 a4 a5 a6 a7 => cases b with | mk b1 b2 b3 b4 b5 b6 b7 => simp_all
    · skip
      replace h17 := of_decide_eq_false h17
      refine .off rfl rfl <| .off rfl rfl <| .off rfl rfl <| .off rfl rfl <| .off rfl rfl <| .e (.pickF rfl rfl) rfl rfl ?_
      refine .e (.move rfl) rfl rfl <| .off rfl rfl <| .off rfl rfl <| .off rfl rfl <| .off rfl rfl <| .off rfl rfl ?_
      refine .e (.pickF rfl rfl) rfl rfl <| .e (.move rfl) rfl rfl <| .off rfl rfl <| .off rfl rfl <| .off rfl rfl <| .off rfl rfl ?_
      refine .off rfl rfl <| .e (.pickF rfl rfl) rfl rfl <| .e (.move rfl) rfl rfl <| .off rfl rfl <| .off rfl rfl <| .off rfl rfl ?_
      refine .off rfl rfl <| .off rfl rfl <| .e (.pickF rfl rfl) rfl rfl <| .e (.move rfl) rfl rfl <| .off rfl rfl <| .off rfl rfl ?_
      refine .off rfl rfl <| .off rfl rfl <| .off rfl rfl <| .e (.pickF rfl rfl) rfl rfl <| .e (.assign rfl) rfl rfl <| .nil ?_
      refine .go <| .ret ?_
      refine .tail <| .tail ?_
      refine Post.retE rfl rfl ?_
      refine congrArg Value.bool ?_
      cases a with | mk a1 a2 a3 a4 a5 a6 a7 => cases b with | mk b1 b2 b3 b4 b5 b6 b7 => simp_all
  · skip
    replace h10 := of_decide_eq_false h10
    refine .off rfl rfl <| .off rfl rfl <| .off rfl rfl <| .off rfl rfl <| .off rfl rfl <| .e (.pickF rfl rfl) rfl rfl ?_
    refine .e (.move rfl) rfl rfl <| .off rfl rfl <| .off rfl rfl <| .off rfl rfl <| .off rfl rfl <| .off rfl rfl ?_
    refine .e (.pickF rfl rfl) rfl rfl <| .e (.move rfl) rfl rfl <| .off rfl rfl <| .off rfl rfl <| .off rfl rfl <| .off rfl rfl ?_
    refine .off rfl rfl <| .e (.pickF rfl rfl) rfl rfl <| .e (.move rfl) rfl rfl <| .off rfl rfl <| .off rfl rfl <| .off rfl rfl ?_
    refine .off rfl rfl <| .off rfl rfl <| .e (.pickF rfl rfl) rfl rfl <| .e (.move rfl) rfl rfl <| .off rfl rfl <| .off rfl rfl ?_
    refine .off rfl rfl <| .off rfl rfl <| .off rfl rfl <| .e (.pickF rfl rfl) rfl rfl <| .e (.move rfl) rfl rfl <| .off rfl rfl ?_
    refine .off rfl rfl <| .off rfl rfl <| .off rfl rfl <| .off rfl rfl <| .e (.pickF rfl rfl) rfl rfl <| .e (.assign rfl) rfl rfl ?_
    refine .nil <| .go <| .ret ?_
    refine .tail <| .tail ?_
    refine Post.retE rfl rfl ?_
    refine congrArg Value.bool ?_
    cases a with | mk a1 a2 a3 a4 a5 a6 a7 => cases b with | mk b1 b2 b3 b4 b5 b6 b7 => simp_all

set_option maxHeartbeats 8000000 in
set_option maxRecDepth 20000 in
theorem sameBk_ok {I : Imm} {O : Own} {kc jc : List Value} {b c : Bk} (hk : BkR I kc b) (hj : BkR I jc c) :
    Pure Tryz.prog 8 [.agg ⟨kc⟩, .agg ⟨jc⟩] I O (.bool (decide (b = c))) := by
  have hk0 := hk
  obtain ⟨nv, tv, bv, rfl, hnv, htv, hbv⟩ := hk.ex
  have hnv0 := hnv
  have htv0 := htv
  have hbv0 := hbv
  obtain ⟨na, ncap, rfl, hn1, hn2, -⟩ := hnv
  obtain ⟨ta, tcap, rfl, ht1, ht2, -⟩ := htv
  obtain ⟨ba, bcap, rfl, hb1, hb2, -⟩ := hbv
  have hj0 := hj
  obtain ⟨mv, uv, cv, rfl, hmv, huv, hcv⟩ := hj.ex
  have hmv0 := hmv
  have huv0 := huv
  have hcv0 := hcv
  obtain ⟨ma, mcap, rfl, hm1, hm2, -⟩ := hmv
  obtain ⟨ua, ucap, rfl, hu1, hu2, -⟩ := huv
  obtain ⟨ca, ccap, rfl, hc1, hc2, -⟩ := hcv
  refine Go.Sy.Does.enter Tryz.func8 rfl Tryz.ntmps8 rfl ?_
  refine .seq <| .region <| .on rfl <| .box rfl rfl rfl fun c1 _ _ => .on rfl <| .box rfl rfl rfl fun c2 _ _ => .e (.assign rfl) rfl rfl <| .nil ?_
  refine .go <| .seq <| .seq <| .region <| .e (.fieldAddr fo27_0 rfl) rfl rfl <| .e (.load ag22 rfl (.there <| .here) rfl) rfl rfl ?_
  refine .e (.len sl22 rfl rfl) rfl rfl <| .e (.fieldAddr fo27_0 rfl) rfl rfl <| .e (.load ag22 rfl .here rfl) rfl rfl <| .e (.len sl22 rfl rfl) rfl rfl <| .e (.neq rfl rfl) rfl rfl <| .e (.move rfl) rfl rfl ?_
  refine .split 15 rfl (fun h15 => ?_) (fun h15 => ?_)
  · skip
    first | replace h15 := of_decide_eq_false ((Bool.not_eq_true' _).mp h15) | replace h15 := of_decide_eq_false (by simpa using h15)
    refine .off rfl rfl <| .off rfl rfl <| .off rfl rfl <| .off rfl rfl <| .off rfl rfl <| .off rfl rfl ?_
    refine .off rfl rfl <| .e (.pickT rfl rfl) rfl rfl <| .e (.move rfl) rfl rfl <| .off rfl rfl <| .off rfl rfl <| .off rfl rfl ?_
    refine .off rfl rfl <| .off rfl rfl <| .off rfl rfl <| .off rfl rfl <| .e (.pickT rfl rfl) rfl rfl <| .e (.move rfl) rfl rfl ?_
    refine .off rfl rfl <| .off rfl rfl <| .off rfl rfl <| .off rfl rfl <| .off rfl rfl <| .e (.pickT rfl rfl) rfl rfl ?_
    refine .nil <| .go <| .cond_true rfl <| .seq <| .region <| .e (.assign rfl) rfl rfl ?_
    refine .nil <| .go <| .ret <| .ret ?_
    refine .tail <| .tail ?_
    refine Post.retE rfl rfl ?_
    refine congrArg Value.bool (decide_eq_false ?_).symm
    intro e
    subst e
    omega
  · skip
    first | replace h15 := of_decide_eq_true ((Bool.not_eq_false' _).mp h15) | replace h15 := of_decide_eq_true (by simpa using h15)
    refine .e (.fieldAddr fo27_1 rfl) rfl rfl <| .e (.load ag23 rfl (.there <| .here) rfl) rfl rfl <| .e (.len sl23 rfl rfl) rfl rfl <| .e (.fieldAddr fo27_1 rfl) rfl rfl <| .e (.load ag23 rfl .here rfl) rfl rfl <| .e (.len sl23 rfl rfl) rfl rfl ?_
    refine .e (.neq rfl rfl) rfl rfl <| .e (.pickF rfl rfl) rfl rfl <| .e (.move rfl) rfl rfl ?_
    refine .split 24 rfl (fun h24 => ?_) (fun h24 => ?_)
    · skip
      first | replace h24 := of_decide_eq_false ((Bool.not_eq_true' _).mp h24) | replace h24 := of_decide_eq_false (by simpa using h24)
      refine .off rfl rfl <| .off rfl rfl <| .off rfl rfl <| .off rfl rfl <| .off rfl rfl <| .off rfl rfl ?_
      refine .off rfl rfl <| .e (.pickT rfl rfl) rfl rfl <| .e (.move rfl) rfl rfl <| .off rfl rfl <| .off rfl rfl <| .off rfl rfl ?_
      refine .off rfl rfl <| .off rfl rfl <| .e (.pickT rfl rfl) rfl rfl <| .nil <| .go <| .cond_true rfl ?_
      refine .seq <| .region <| .e (.assign rfl) rfl rfl <| .nil <| .go <| .ret ?_
      refine .ret ?_
      refine .tail <| .tail ?_
      refine Post.retE rfl rfl ?_
      refine congrArg Value.bool (decide_eq_false ?_).symm
      intro e
      subst e
      omega
    · skip
      first | replace h24 := of_decide_eq_true ((Bool.not_eq_false' _).mp h24) | replace h24 := of_decide_eq_true (by simpa using h24)
      refine .e (.fieldAddr fo27_2 rfl) rfl rfl <| .e (.load ag24 rfl (.there <| .here) rfl) rfl rfl <| .e (.len sl24 rfl rfl) rfl rfl <| .e (.fieldAddr fo27_2 rfl) rfl rfl <| .e (.load ag24 rfl .here rfl) rfl rfl <| .e (.len sl24 rfl rfl) rfl rfl ?_
      refine .e (.neq rfl rfl) rfl rfl <| .e (.pickF rfl rfl) rfl rfl <| .e (.move rfl) rfl rfl ?_
      refine .split 33 rfl (fun h33 => ?_) (fun h33 => ?_)
      · skip
        first | replace h33 := of_decide_eq_false ((Bool.not_eq_true' _).mp h33) | replace h33 := of_decide_eq_false (by simpa using h33)
        refine .off rfl rfl <| .off rfl rfl <| .off rfl rfl <| .off rfl rfl <| .off rfl rfl <| .e (.pickT rfl rfl) rfl rfl ?_
        refine .nil <| .go <| .cond_true rfl <| .seq <| .region <| .e (.assign rfl) rfl rfl ?_
        refine .nil <| .go <| .ret <| .ret ?_
        refine .tail <| .tail ?_
        refine Post.retE rfl rfl ?_
        refine congrArg Value.bool (decide_eq_false ?_).symm
        intro e
        subst e
        omega
      · skip
        first | replace h33 := of_decide_eq_true ((Bool.not_eq_false' _).mp h33) | replace h33 := of_decide_eq_true (by simpa using h33)
        refine .e (.fieldAddr fo27_3 rfl) rfl rfl <| .e (.load ag25 rfl (.there <| .here) rfl) rfl rfl <| .e (.fieldAddr fo27_3 rfl) rfl rfl <| .e (.load ag25 rfl .here rfl) rfl rfl <| .e (.neq rfl rfl) rfl rfl <| .e (.pickF rfl rfl) rfl rfl ?_
        refine .nil <| .go ?_
        refine .split 39 rfl (fun h39 => ?_) (fun h39 => ?_)
        · skip
          first | replace h39 := of_decide_eq_false ((Bool.not_eq_true' _).mp h39) | replace h39 := of_decide_eq_false (by simpa using h39)
          refine .cond_true rfl <| .seq <| .region <| .e (.assign rfl) rfl rfl <| .nil <| .go ?_
          refine .ret <| .ret ?_
          refine .tail <| .tail ?_
          refine Post.retE rfl rfl ?_
          refine congrArg Value.bool (decide_eq_false ?_).symm
          intro e
          subst e
          omega
        · skip
          first | replace h39 := of_decide_eq_true ((Bool.not_eq_false' _).mp h39) | replace h39 := of_decide_eq_true (by simpa using h39)
          refine .cond_false rfl <| .skip <| .go <| .seq <| .seq <| .region ?_
          refine .e (.fieldAddr fo27_0 rfl) rfl rfl <| .e (.load ag22 rfl (.there <| .here) rfl) rfl rfl <| .e (.len sl22 rfl rfl) rfl rfl <| .e (.move rfl) rfl rfl <| .nil <| .go ?_
          refine .block ?_
          refine .loopM [4, 5, 43, 44, 45, 46, 47, 48, 49, 50, 51, 52, 53, 54, 55, 56, 57, 58] (fun k => b.nodes.length - k) (fun k => k ≤ b.nodes.length ∧ b.nodes.take k = c.nodes.take k) (fun k => [(43, .int .i64 k)]) (fun _ => _) (fun _ => _) (0) ⟨Nat.zero_le _, rfl⟩ ⟨rfl, trivial⟩ rfl rfl ?_
          intro k43 hk43
          obtain ⟨hk43, hs43⟩ := hk43
          refine .seq <| .region <| .e (.lss rfl rfl) rfl rfl <| .nil <| .go <| .seq ?_
          refine .split 44 rfl (fun h44 => ?_) (fun h44 => ?_)
          · skip
            replace h44 := of_decide_eq_true h44
            refine .cond_true rfl <| .skip <| .go <| .seq <| .block <| .seq ?_
            refine .region <| .e (.move rfl) rfl rfl <| .e (.assign rfl) rfl rfl <| .nil <| .go <| .seq ?_
            refine .draw [(c1, _), (c2, _)] mixed (.cons (.there <| .here) (.cons .here .nil)) ?_
            refine .t 0 rfl (.fieldAddr fo27_0 rfl) rfl rfl (by kernel_rfl) <| .t 1 rfl (.load ag22 rfl .here rfl) rfl rfl (by kernel_rfl) <| .t 2 rfl (.move rfl) rfl rfl (by kernel_rfl) ?_
            obtain ⟨eb49, eo49, cs49, hd49, hat49, hr49⟩ := SlR.at_ hnv0 (k := k43) (by omega)
            cases hd49
            have hn49 := hr49
            obtain ⟨xf49, xg49, rfl, hxf49, hxg49⟩ := hr49.ex
            obtain ⟨xh49, xi49, rfl, -⟩ := hxf49
            obtain ⟨xj49, xk49, rfl, -⟩ := hxg49
            refine .t 3 rfl (.indexAddrL sl22 rfl rfl rfl (by omega)) rfl rfl (by kernel_rfl) <| .t 4 rfl (.loadIA ag32 sz32 rfl hat49 rfl) rfl rfl (by kernel_rfl) <| .t 5 rfl (.fieldAddr fo27_0 rfl) rfl rfl (by kernel_rfl) <| .t 6 rfl (.load ag22 rfl (.there <| .here) rfl) rfl rfl (by kernel_rfl) <| .t 7 rfl (.move rfl) rfl rfl (by kernel_rfl) ?_
            obtain ⟨eb54, eo54, cs54, hd54, hat54, hr54⟩ := SlR.at_ hmv0 (k := k43) (by omega)
            cases hd54
            have hn54 := hr54
            obtain ⟨xf54, xg54, rfl, hxf54, hxg54⟩ := hr54.ex
            obtain ⟨xh54, xi54, rfl, -⟩ := hxf54
            obtain ⟨xj54, xk54, rfl, -⟩ := hxg54
            refine .t 8 rfl (.indexAddrL sl22 rfl rfl rfl (by omega)) rfl rfl (by kernel_rfl) <| .t 9 rfl (.loadIA ag32 sz32 rfl hat54 rfl) rfl rfl (by kernel_rfl) <| .one (i := 10) (by kernel_rfl) rfl rfl <| .callP cal23 rfl rfl rfl (sameNod_ok hn49 hn54) ?_
            refine ⟨(.cons (.there <| .here) (.cons .here .nil)), Imm.le_refl _, ?_⟩
            refine .t 11 rfl (.not rfl) rfl rfl (by kernel_rfl) <| .done (by kernel_rfl) <| .go ?_
            refine .split 57 rfl (fun h57 => ?_) (fun h57 => ?_)
            · skip
              refine .cond_true rfl <| .seq <| .region <| .e (.assign rfl) rfl rfl <| .nil <| .go ?_
              refine .ret <| .blk_ret <| .ret <| .ret <| .blk_ret <| .ret ?_
              refine .tail <| .tail ?_
              refine Post.retE rfl rfl ?_
              refine congrArg Value.bool (decide_eq_false ?_).symm
              intro e
              subst e
              simp at h57
            · skip
              refine .cond_false rfl <| .skip <| .blk_normal <| .go <| .region <| .e (.add rfl rfl (by first | exact wrap_succ (by omega) | exact IntWalk.i64_in _ (by omega) | exact rfl)) rfl rfl ?_
              refine .e (.move rfl) rfl rfl <| .nil ?_
              exact .mid (k43 + 1) ⟨by omega, by omega, take_step (by omega) (by omega) hs43 (by simpa using h57)⟩ ⟨rfl, trivial⟩ rfl rfl (.pre 19 rfl (.app rfl .base))
          · skip
            replace h44 := of_decide_eq_false h44
            refine .cond_false rfl <| .exit <| .exit <| .exit <| .blk_exit <| .go ?_
            refine .seq <| .seq <| .region <| .e (.fieldAddr fo27_1 rfl) rfl rfl <| .e (.load ag23 rfl (.there <| .here) rfl) rfl rfl <| .e (.len sl23 rfl rfl) rfl rfl ?_
            refine .e (.move rfl) rfl rfl <| .nil <| .go <| .block ?_
            refine .loopM [4, 6, 62, 63, 64, 65, 66, 67, 68, 69, 70, 71, 72, 73, 74, 75, 76, 77] (fun k => b.tasks.length - k) (fun k => k ≤ b.tasks.length ∧ b.tasks.take k = c.tasks.take k) (fun k => [(62, .int .i64 k)]) (fun _ => _) (fun _ => _) (0) ⟨Nat.zero_le _, rfl⟩ ⟨rfl, trivial⟩ rfl rfl ?_
            intro k62 hk62
            obtain ⟨hk62, hs62⟩ := hk62
            refine .seq <| .region <| .e (.lss rfl rfl) rfl rfl <| .nil <| .go <| .seq ?_
            refine .split 63 rfl (fun h63 => ?_) (fun h63 => ?_)
            · skip
              replace h63 := of_decide_eq_true h63
              refine .cond_true rfl <| .skip <| .go <| .seq <| .block <| .seq ?_
              refine .region <| .e (.move rfl) rfl rfl <| .e (.assign rfl) rfl rfl <| .nil <| .go <| .seq ?_
              refine .draw [(c1, _), (c2, _)] mixed (.cons (.there <| .here) (.cons .here .nil)) ?_
              refine .t 0 rfl (.fieldAddr fo27_1 rfl) rfl rfl (by kernel_rfl) <| .t 1 rfl (.load ag23 rfl .here rfl) rfl rfl (by kernel_rfl) <| .t 2 rfl (.move rfl) rfl rfl (by kernel_rfl) ?_
              obtain ⟨eb68, eo68, cs68, hd68, hat68, hr68⟩ := SlR.at_ htv0 (k := k62) (by omega)
              cases hd68
              have ht68 := hr68
              obtain ⟨xw68, xb68, rfl, hxw68, hxb68⟩ := hr68.ex
              obtain ⟨xa68, xc68, rfl, -⟩ := hxw68
              obtain ⟨xd68, xe68, rfl, -⟩ := hxb68
              refine .t 3 rfl (.indexAddrL sl23 rfl rfl rfl (by omega)) rfl rfl (by kernel_rfl) <| .t 4 rfl (.loadIA ag34 sz34 rfl hat68 rfl) rfl rfl (by kernel_rfl) <| .t 5 rfl (.fieldAddr fo27_1 rfl) rfl rfl (by kernel_rfl) <| .t 6 rfl (.load ag23 rfl (.there <| .here) rfl) rfl rfl (by kernel_rfl) <| .t 7 rfl (.move rfl) rfl rfl (by kernel_rfl) ?_
              obtain ⟨eb73, eo73, cs73, hd73, hat73, hr73⟩ := SlR.at_ huv0 (k := k62) (by omega)
              cases hd73
              have ht73 := hr73
              obtain ⟨xw73, xb73, rfl, hxw73, hxb73⟩ := hr73.ex
              obtain ⟨xa73, xc73, rfl, -⟩ := hxw73
              obtain ⟨xd73, xe73, rfl, -⟩ := hxb73
              refine .t 8 rfl (.indexAddrL sl23 rfl rfl rfl (by omega)) rfl rfl (by kernel_rfl) <| .t 9 rfl (.loadIA ag34 sz34 rfl hat73 rfl) rfl rfl (by kernel_rfl) <| .one (i := 10) (by kernel_rfl) rfl rfl <| .callP cal24 rfl rfl rfl (sameTsk_ok ht68 ht73) ?_
              refine ⟨(.cons (.there <| .here) (.cons .here .nil)), Imm.le_refl _, ?_⟩
              refine .t 11 rfl (.not rfl) rfl rfl (by kernel_rfl) <| .done (by kernel_rfl) <| .go ?_
              refine .split 76 rfl (fun h76 => ?_) (fun h76 => ?_)
              · skip
                refine .cond_true rfl <| .seq <| .region <| .e (.assign rfl) rfl rfl <| .nil <| .go ?_
                refine .ret <| .blk_ret <| .ret <| .ret <| .blk_ret <| .ret ?_
                refine .tail <| .tail ?_
                refine Post.retE rfl rfl ?_
                refine congrArg Value.bool (decide_eq_false ?_).symm
                intro e
                subst e
                simp at h76
              · skip
                refine .cond_false rfl <| .skip <| .blk_normal <| .go <| .region <| .e (.add rfl rfl (by first | exact wrap_succ (by omega) | exact IntWalk.i64_in _ (by omega) | exact rfl)) rfl rfl ?_
                refine .e (.move rfl) rfl rfl <| .nil ?_
                exact .mid (k62 + 1) ⟨by omega, by omega, take_step (by omega) (by omega) hs62 (by simpa using h76)⟩ ⟨rfl, trivial⟩ rfl rfl (.pre 19 rfl (.app rfl .base))
            · skip
              replace h63 := of_decide_eq_false h63
              refine .cond_false rfl <| .exit <| .exit <| .exit <| .blk_exit <| .go ?_
              refine .seq <| .seq <| .region <| .e (.fieldAddr fo27_2 rfl) rfl rfl <| .e (.load ag24 rfl (.there <| .here) rfl) rfl rfl <| .e (.len sl24 rfl rfl) rfl rfl ?_
              refine .e (.move rfl) rfl rfl <| .nil <| .go <| .block ?_
              refine .loopM [4, 7, 81, 82, 83, 84, 85, 86, 87, 88, 89, 90, 91, 92, 93, 94, 95] (fun k => b.binds.length - k) (fun k => k ≤ b.binds.length ∧ b.binds.take k = c.binds.take k) (fun k => [(81, .int .i64 k)]) (fun _ => _) (fun _ => _) (0) ⟨Nat.zero_le _, rfl⟩ ⟨rfl, trivial⟩ rfl rfl ?_
              intro k81 hk81
              obtain ⟨hk81, hs81⟩ := hk81
              refine .seq <| .region <| .e (.lss rfl rfl) rfl rfl <| .nil <| .go <| .seq ?_
              refine .split 82 rfl (fun h82 => ?_) (fun h82 => ?_)
              · skip
                replace h82 := of_decide_eq_true h82
                refine .cond_true rfl <| .skip <| .go <| .seq <| .block <| .seq ?_
                refine .region <| .e (.move rfl) rfl rfl <| .e (.assign rfl) rfl rfl <| .nil <| .go <| .seq ?_
                refine .draw [(c1, _), (c2, _)] mixed (.cons (.there <| .here) (.cons .here .nil)) ?_
                refine .t 0 rfl (.fieldAddr fo27_2 rfl) rfl rfl (by kernel_rfl) <| .t 1 rfl (.load ag24 rfl .here rfl) rfl rfl (by kernel_rfl) <| .t 2 rfl (.move rfl) rfl rfl (by kernel_rfl) ?_
                obtain ⟨eb87, eo87, cs87, hd87, hat87, hr87⟩ := SlR.at_ hbv0 (k := k81) (by omega)
                cases hd87
                have hx87 := hr87
                obtain ⟨rfl, hx87a, hx87b⟩ := hr87
                refine .t 3 rfl (.indexAddrL sl24 rfl rfl rfl (by omega)) rfl rfl (by kernel_rfl) <| .t 4 rfl (.loadIA ag47 sz47 rfl hat87 rfl) rfl rfl (by kernel_rfl) <| .t 5 rfl (.fieldAddr fo27_2 rfl) rfl rfl (by kernel_rfl) <| .t 6 rfl (.load ag24 rfl (.there <| .here) rfl) rfl rfl (by kernel_rfl) <| .t 7 rfl (.move rfl) rfl rfl (by kernel_rfl) ?_
                obtain ⟨eb92, eo92, cs92, hd92, hat92, hr92⟩ := SlR.at_ hcv0 (k := k81) (by omega)
                cases hd92
                have hx92 := hr92
                obtain ⟨rfl, hx92a, hx92b⟩ := hr92
                refine .t 8 rfl (.indexAddrL sl24 rfl rfl rfl (by omega)) rfl rfl (by kernel_rfl) <| .t 9 rfl (.loadIA ag47 sz47 rfl hat92 rfl) rfl rfl (by kernel_rfl) <| .t 10 rfl (.nev (eqBnd (p := b.binds[k81]) (q := c.binds[k81])) rfl rfl) rfl rfl (by kernel_rfl) <| .done (by kernel_rfl) <| .go ?_
                refine .split 94 rfl (fun h94 => ?_) (fun h94 => ?_)
                · skip
                  first | replace h94 := of_decide_eq_false ((Bool.not_eq_true' _).mp h94) | replace h94 := of_decide_eq_false (by simpa using h94)
                  refine .cond_true rfl <| .seq <| .region <| .e (.assign rfl) rfl rfl <| .nil <| .go ?_
                  refine .ret <| .blk_ret <| .ret <| .ret <| .blk_ret <| .ret ?_
                  refine .tail <| .tail ?_
                  refine Post.retE rfl rfl ?_
                  refine congrArg Value.bool (decide_eq_false ?_).symm
                  intro e
                  subst e
                  exact absurd rfl h94
                · skip
                  first | replace h94 := of_decide_eq_true ((Bool.not_eq_false' _).mp h94) | replace h94 := of_decide_eq_true (by simpa using h94)
                  refine .cond_false rfl <| .skip <| .blk_normal <| .go <| .region <| .e (.add rfl rfl (by first | exact wrap_succ (by omega) | exact IntWalk.i64_in _ (by omega) | exact rfl)) rfl rfl ?_
                  refine .e (.move rfl) rfl rfl <| .nil ?_
                  exact .mid (k81 + 1) ⟨by omega, by omega, take_step (by omega) (by omega) hs81 (by simpa using h94)⟩ ⟨rfl, trivial⟩ rfl rfl (.pre 18 rfl (.app rfl .base))
              · skip
                replace h82 := of_decide_eq_false h82
                refine .cond_false rfl <| .exit <| .exit <| .exit <| .blk_exit <| .go ?_
                refine .seq <| .region <| .e (.assign rfl) rfl rfl <| .nil <| .go <| .ret ?_
                refine .tail <| .tail ?_
                refine Post.retE rfl rfl ?_
                refine congrArg Value.bool (decide_eq_true ?_).symm
                have e1 := same_all (k := k43) (by omega) (by omega) hs43
                have e2 := same_all (k := k62) (by omega) (by omega) hs62
                have e3 := same_all (k := k81) (by omega) (by omega) hs81
                cases b; cases c; simp_all

set_option maxHeartbeats 1000000 in
set_option maxRecDepth 20000 in
theorem bCan_ok {I : Imm} {O : Own} {kc : List Value} {b : Bk} (hk : BkR I kc b) {task node : ByteArray} :
    Pure Tryz.prog 68 [.agg ⟨kc⟩, .string task, .string node] I O (.int .i64 (canA b task node)) := by
  have hk0 := hk
  obtain ⟨nv, tv, bv, rfl, hnv, htv, hbv⟩ := hk.ex
  have hnv0 := hnv
  have htv0 := htv
  have hbv0 := hbv
  obtain ⟨na, ncap, rfl, hn1, hn2, -⟩ := hnv
  obtain ⟨ta, tcap, rfl, ht1, ht2, -⟩ := htv
  obtain ⟨ba, bcap, rfl, hb1, hb2, -⟩ := hbv
  refine Go.Sy.Does.enter Tryz.func68 rfl Tryz.ntmps68 rfl ?_
  refine .seq <| .region <| .on rfl <| .box rfl rfl rfl fun c1 _ _ => .e (.assign rfl) rfl rfl <| .nil <| .go ?_
  refine .seq <| .seq <| .region <| .e (.loadW ag27 sz27 rfl .here rfl) rfl rfl <| .on rfl <| .callP cal15 rfl rfl rfl (bCheck_ok hk0) <| .e (.assign rfl) rfl rfl ?_
  refine .nil <| .go <| .seq <| .region <| .e (.move rfl) rfl rfl <| .e (.neq rfl rfl) rfl rfl ?_
  refine .nil <| .go ?_
  refine .split 11 rfl (fun h11 => ?_) (fun h11 => ?_)
  · skip
    first | replace h11 := of_decide_eq_false ((Bool.not_eq_true' _).mp h11) | replace h11 := of_decide_eq_false (by simpa using h11)
    refine .cond_true rfl <| .seq <| .region <| .e (.move rfl) rfl rfl <| .e (.assign rfl) rfl rfl <| .nil ?_
    refine .go <| .ret <| .ret ?_
    refine .tail ?_
    refine Post.retE rfl rfl ?_
    refine congrArg (Value.int .i64) ?_
    unfold canA
    rw [(bookWhy_no h11).1, if_neg (by simp)]; exact (bookWhy_no h11).2
  · skip
    first | replace h11 := of_decide_eq_true ((Bool.not_eq_false' _).mp h11) | replace h11 := of_decide_eq_true (by simpa using h11)
    have hok := BookOk.of (bookWhy_ok h11)
    refine .cond_false rfl <| .skip <| .go <| .seq <| .region <| .e (.loadW ag27 sz27 rfl .here rfl) rfl rfl ?_
    refine .e (.build bs66 zv66 rfl rfl) rfl rfl <| .on rfl <| .box rfl rfl rfl fun c2 _ _ => .e (.move rfl) rfl rfl <| .e (.move rfl) rfl rfl <| .on rfl <| .callP cal59 rfl rfl rfl (kcan_ok .here hk0 hok.rn hok.rt hok.rb hok.hsn hok.hst hok.binds) <| .e (.assign rfl) rfl rfl ?_
    refine .nil <| .go <| .ret ?_
    refine .tail <| .tail ?_
    refine Post.retE rfl rfl ?_
    refine congrArg (Value.int .i64) ?_
    unfold canA
    rw [if_pos (bookWhy_ok h11)]

set_option maxHeartbeats 1000000 in
set_option maxRecDepth 20000 in
theorem bUsed_ok {I : Imm} {O : Own} {kc : List Value} {b : Bk} (hk : BkR I kc b) {s : ByteArray} :
    Pure Tryz.prog 30 [.agg ⟨kc⟩, .string s] I O (.tuple ⟨[.agg ⟨[.int .i64 (usedR b s).1.a, .int .i64 (usedR b s).1.b, .int .i64 (usedR b s).1.c]⟩, .int .i64 (usedR b s).2]⟩) := by
  have hk0 := hk
  obtain ⟨nv, tv, bv, rfl, hnv, htv, hbv⟩ := hk.ex
  have hnv0 := hnv
  have htv0 := htv
  have hbv0 := hbv
  obtain ⟨na, ncap, rfl, hn1, hn2, -⟩ := hnv
  obtain ⟨ta, tcap, rfl, ht1, ht2, -⟩ := htv
  obtain ⟨ba, bcap, rfl, hb1, hb2, -⟩ := hbv
  refine Go.Sy.Does.enter Tryz.func30 rfl Tryz.ntmps30 rfl ?_
  refine .seq <| .region <| .on rfl <| .box rfl rfl rfl fun c1 _ _ => .on rfl <| .alloc zr29 rfl fun c2 _ _ => .e (.assign rfl) rfl rfl <| .nil ?_
  refine .go <| .seq <| .seq <| .region <| .e (.loadW ag27 sz27 rfl (.there <| .here) rfl) rfl rfl <| .on rfl <| .callP cal15 rfl rfl rfl (bCheck_ok hk0) ?_
  refine .e (.assign rfl) rfl rfl <| .nil <| .go <| .seq <| .region <| .e (.move rfl) rfl rfl ?_
  refine .e (.neq rfl rfl) rfl rfl <| .nil <| .go ?_
  refine .split 13 rfl (fun h13 => ?_) (fun h13 => ?_)
  · skip
    first | replace h13 := of_decide_eq_false ((Bool.not_eq_true' _).mp h13) | replace h13 := of_decide_eq_false (by simpa using h13)
    refine .cond_true rfl <| .seq <| .region <| .e (.buildA ar29 zv29 rfl rfl) rfl rfl <| .e (.move rfl) rfl rfl <| .on rfl <| .storeW sz29 rfl rfl rfl rfl rfl rfl .here ?_
    refine .e (.assign rfl) rfl rfl <| .nil <| .go <| .ret <| .ret ?_
    refine Post.retsE rfl (.agg rfl ag29 sz29 .here rfl (.tmp rfl .nil)) rfl (fun w h => h.tail.tail) ?_
    unfold usedR
    rw [(bookWhy_no h13).1, if_neg (by simp), (bookWhy_no h13).2]
    rfl
  · skip
    first | replace h13 := of_decide_eq_true ((Bool.not_eq_false' _).mp h13) | replace h13 := of_decide_eq_true (by simpa using h13)
    have hok := BookOk.of (bookWhy_ok h13)
    refine .cond_false rfl <| .skip <| .go <| .seq <| .region <| .e (.loadW ag27 sz27 rfl (.there <| .here) rfl) rfl rfl ?_
    refine .e (.build bs66 zv66 rfl rfl) rfl rfl <| .on rfl <| .box rfl rfl rfl fun c3 _ _ => .e (.assign rfl) rfl rfl <| .nil <| .go <| .seq ?_
    refine .seq <| .region <| .e (.move rfl) rfl rfl <| .e (.move rfl) rfl rfl <| .on rfl <| .callP cal44 rfl rfl rfl (knode_ok .here hk0 hok.rn hok.hsn) <| .e (.move rfl) rfl rfl ?_
    refine .e (.extract rfl rfl) rfl rfl <| .e (.extract rfl rfl) rfl rfl <| .e (.assign rfl) rfl rfl <| .e (.assign rfl) rfl rfl <| .nil <| .go ?_
    refine .seq <| .region <| .e (.move rfl) rfl rfl <| .e (.not rfl) rfl rfl <| .nil <| .go ?_
    refine .split 26 rfl (fun h26 => ?_) (fun h26 => ?_)
    · skip
      refine .cond_true rfl <| .seq <| .region <| .e (.buildA ar29 zv29 rfl rfl) rfl rfl <| .on rfl <| .storeW sz29 rfl rfl rfl rfl rfl rfl (.there <| .here) <| .e (.assign rfl) rfl rfl ?_
      refine .nil <| .go <| .ret <| .ret ?_
      refine Post.retsE rfl (.agg rfl ag29 sz29 (.there <| .here) rfl (.tmp rfl .nil)) rfl (fun w h => h.tail.tail.tail) ?_
      unfold usedR
      rw [if_pos (bookWhy_ok h13), if_neg (show ¬hasN b s = true from Bool.eq_false_iff.1 ((Bool.not_eq_true' _).mp h26))]
      rfl
    · skip
      refine .cond_false rfl <| .skip <| .go <| .seq <| .region <| .e (.move rfl) rfl rfl ?_
      refine .e (.move rfl) rfl rfl <| .on rfl <| .call cal57 rfl rfl rfl (there_ok .here hk0 hok.rt hok.hst hok.binds) fun v30 I30 O30 hI30 hK30 => ?_
      obtain ⟨rfl, hl30⟩ := hK30
      have hl300 := hl30
      obtain ⟨la30, lc30, rfl, hl301, hl302, -⟩ := hl30
      refine .on rfl <| .callP cal75 rfl rfl rfl (Sum_ok hl300) <| .e (.extract rfl rfl) rfl rfl <| .e (.extract rfl rfl) rfl rfl <| .on rfl <| .storeW sz29 rfl rfl rfl rfl rfl rfl (.there <| .here) <| .e (.assign rfl) rfl rfl <| .nil ?_
      refine .go <| .ret ?_
      refine .back hI30 ?_
      refine Post.retsE rfl (.agg rfl ag29 sz29 (.there <| .here) rfl (.tmp rfl .nil)) rfl (fun w h => h.tail.tail.tail) ?_
      unfold usedR
      rw [if_pos (bookWhy_ok h13), if_pos (show hasN b s = true from (Bool.not_eq_false' _).mp h26)]
      rfl

def FB (U : List Value → Value) (b : Bk) (O : Own) : Value → Imm → Own → Prop := fun u I' O' => O' = O ∧ ∃ cs, u = U cs ∧ BkR I' cs b
theorem frzBk {P : Program} {f : FuncId} {vs : List Value} {I : Imm} {O : Own} {U : List Value → Value} {b : Bk} (h : Go.Sy.Does P f vs I O fun u I' O' => ∃ nv tv bv on ot ob, u = U (b.cells nv tv bv) ∧ BkO I' b nv tv bv on ot ob ∧ O' = on ++ (ot ++ (ob ++ O))) :
    Go.Sy.Does P f vs I O (FB U b O) := fun w hw => (h w hw).mono fun e w' ⟨u, I', O', he, hI, hs, hK⟩ => by
  obtain ⟨nv, tv, bv, on, ot, ob, rfl, ⟨⟨w1, h1, d1⟩, ⟨w2, h2, d2⟩, ⟨w3, h3, d3⟩, hf⟩, rfl⟩ := hK
  obtain ⟨J, hJ, r1, s1⟩ := frzS h1 hs
  obtain ⟨K, hK, r2, s2⟩ := frzS h2 s1
  obtain ⟨L, hL, r3, s3⟩ := frzS h3 s2
  have hJL := Imm.le_trans hK hL
  exact ⟨_, L, O, he, Imm.le_trans hI (Imm.le_trans hJ hJL), s3, rfl, _, rfl, ⟨_, _, _, rfl, NodsR.mono hJL (r1 (R := NodR) (d1.mono fun _ _ h => h.mono hJ) rfl), TsksR.mono hL (r2 (R := TskR) (d2.mono fun _ _ h => TskR.mono hK (TskR.mono hJ h)) rfl), r3 (R := BndR) (d3.mono fun _ _ h => h) rfl⟩, hf⟩
section
variable {I : Imm} {O : Own} {kc : List Value} {b : Bk} (hk : BkR I kc b)
include hk
theorem doF {oc : List Value} {o : Ordr} (ho : OrdrR I oc o) (hs : OrdS o) : Go.Sy.Does Tryz.prog 7 [.agg ⟨kc⟩, .agg ⟨oc⟩] I O (FB (fun cs => .tuple ⟨[.agg ⟨cs⟩, .agg ⟨[.int .i64 (doR b o).2.1, .string (doR b o).2.2]⟩]⟩) (doR b o).1 O) :=
  frzBk (U := fun cs => .tuple ⟨[.agg ⟨cs⟩, .agg ⟨[.int .i64 (doR b o).2.1, .string (doR b o).2.2]⟩]⟩) (bDo_ok hk ho hs)
theorem leadF {t : Int} (ht : U64 t) : Go.Sy.Does Tryz.prog 12 [.agg ⟨kc⟩, .int .u64 t] I O (FB (fun cs => .tuple ⟨[.agg ⟨cs⟩, .int .i64 (leadR b t).2]⟩) (leadR b t).1 O) :=
  frzBk (U := fun cs => .tuple ⟨[.agg ⟨cs⟩, .int .i64 (leadR b t).2]⟩) (bLead_ok hk ht)
end

end Go.Proofs.YtajpakifkinadaaGreatDoor
