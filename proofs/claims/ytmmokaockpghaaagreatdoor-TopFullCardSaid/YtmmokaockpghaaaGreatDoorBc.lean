/- Walks of functions over a symbolic memory, printed by a program of the session. -/
import Derived.Test.YtmmokaockpghaaaGreatDoorBb
namespace Go.Proofs.YtmmokaockpghaaaGreatDoor
open Go.Sy
set_option linter.unusedSimpArgs false
set_option linter.unusedVariables false

set_option maxHeartbeats 1000000 in
set_option maxRecDepth 20000 in
theorem rCheckNode_ok {I : Imm} {O : Own} {nc : List Value} {n : Nod} (hn : NodR I nc n) :
    Pure Tryz.prog 156 [.agg ⟨nc⟩] I O (.int .i64 (nodWhy n)) := by
  have hn0 := hn
  obtain ⟨nl, nt, rfl, hnl, hnt⟩ := hn.ex
  have hname := hn0.name
  refine Go.Sy.Does.enter Tryz.func156 rfl Tryz.ntmps156 rfl ?_
  refine .seq <| .region <| .on rfl <| .box rfl rfl rfl fun c1 _ _ => .e (.assign rfl) rfl rfl <| .nil <| .go ?_
  refine .seq <| .block <| .seq <| .region <| .e (.fieldAddr fo45_0 rfl) rfl rfl <| .e (.load ag9 rfl .here rfl) rfl rfl ?_
  refine .on rfl <| .callP cal198 rfl rfl rfl (rName_ok hname) <| .e (.not rfl) rfl rfl <| .e (.assign rfl) rfl rfl <| .nil <| .go ?_
  refine .split 3 rfl (fun h3 => ?_) (fun h3 => ?_)
  · skip
    refine .cond_true rfl <| .seq <| .region <| .e (.assign rfl) rfl rfl <| .nil <| .go ?_
    refine .ret <| .blk_ret <| .ret ?_
    refine .tail ?_
    refine Post.retE rfl rfl ?_
    refine congrArg (Value.int .i64) ?_
    unfold nodWhy
    simp_all
  · skip
    refine .cond_false rfl <| .seq <| .region <| .e (.fieldAddr fo45_1 rfl) rfl rfl <| .e (.loadP ag39 sz39 rfl .here rfl) rfl rfl <| .on rfl <| .callP cal199 rfl rfl rfl (ramt_ok (l := n.has) (by omega)) ?_
    refine .e (.not rfl) rfl rfl <| .e (.assign rfl) rfl rfl <| .nil <| .go ?_
    refine .split 8 rfl (fun h8 => ?_) (fun h8 => ?_)
    · skip
      refine .cond_true rfl <| .seq <| .region <| .e (.assign rfl) rfl rfl <| .nil <| .go ?_
      refine .ret <| .blk_ret <| .ret ?_
      refine .tail ?_
      refine Post.retE rfl rfl ?_
      refine congrArg (Value.int .i64) ?_
      unfold nodWhy
      simp_all
    · skip
      refine .cond_false rfl <| .seq <| .region <| .e (.fieldAddr fo45_2 rfl) rfl rfl <| .e (.load ag40 rfl .here rfl) rfl rfl <| .on rfl <| .callP cal200 rfl rfl rfl (rpairs_ok (by assumption)) ?_
      refine .e (.not rfl) rfl rfl <| .e (.move rfl) rfl rfl ?_
      refine .split 18 rfl (fun h18 => ?_) (fun h18 => ?_)
      · skip
        refine .off rfl rfl <| .off rfl rfl <| .off rfl rfl <| .off rfl rfl <| .e (.pickT rfl rfl) rfl rfl <| .e (.assign rfl) rfl rfl ?_
        refine .nil <| .go <| .cond_true rfl <| .seq <| .region <| .e (.assign rfl) rfl rfl ?_
        refine .nil <| .go <| .ret <| .blk_ret <| .ret ?_
        refine .tail ?_
        refine Post.retE rfl rfl ?_
        refine congrArg (Value.int .i64) ?_
        unfold nodWhy
        simp_all
      · skip
        refine .e (.fieldAddr fo45_3 rfl) rfl rfl <| .e (.load ag40 rfl .here rfl) rfl rfl <| .on rfl <| .callP cal200 rfl rfl rfl (rpairs_ok (by assumption)) <| .e (.not rfl) rfl rfl <| .e (.pickF rfl rfl) rfl rfl <| .e (.assign rfl) rfl rfl ?_
        refine .nil <| .go ?_
        refine .split 13 rfl (fun h13 => ?_) (fun h13 => ?_)
        · skip
          refine .cond_true rfl <| .seq <| .region <| .e (.assign rfl) rfl rfl <| .nil <| .go ?_
          refine .ret <| .blk_ret <| .ret ?_
          refine .tail ?_
          refine Post.retE rfl rfl ?_
          refine congrArg (Value.int .i64) ?_
          unfold nodWhy
          simp_all
        · skip
          refine .cond_false rfl <| .skip <| .blk_normal <| .go <| .seq <| .region ?_
          refine .e (.assign rfl) rfl rfl <| .nil <| .go <| .ret ?_
          refine .tail ?_
          refine Post.retE rfl rfl ?_
          refine congrArg (Value.int .i64) ?_
          unfold nodWhy
          simp_all

set_option maxHeartbeats 1000000 in
set_option maxRecDepth 20000 in
theorem rCheckTask_ok {I : Imm} {O : Own} {tc : List Value} {t : Tsk} (ht : TskR I tc t) :
    Pure Tryz.prog 157 [.agg ⟨tc⟩] I O (.int .i64 (tskWhy t)) := by
  have ht0 := ht
  obtain ⟨tw, tb, rfl, htw, htb⟩ := ht.ex
  have hname := ht0.name
  have hgroup := ht0.group
  have hapart := ht0.apart
  refine Go.Sy.Does.enter Tryz.func157 rfl Tryz.ntmps157 rfl ?_
  refine .seq <| .region <| .on rfl <| .box rfl rfl rfl fun c1 _ _ => .e (.assign rfl) rfl rfl <| .nil <| .go ?_
  refine .seq <| .block <| .seq <| .region <| .e (.fieldAddr fo42_0 rfl) rfl rfl <| .e (.load ag9 rfl .here rfl) rfl rfl ?_
  refine .on rfl <| .callP cal198 rfl rfl rfl (rName_ok hname) <| .e (.not rfl) rfl rfl <| .e (.assign rfl) rfl rfl <| .nil <| .go ?_
  refine .split 3 rfl (fun h3 => ?_) (fun h3 => ?_)
  · skip
    refine .cond_true rfl <| .seq <| .region <| .e (.assign rfl) rfl rfl <| .nil <| .go ?_
    refine .ret <| .blk_ret <| .ret ?_
    refine .tail ?_
    refine Post.retE rfl rfl ?_
    refine congrArg (Value.int .i64) ?_
    unfold tskWhy
    by_cases hr1 : -1000 ≤ t.rank <;> by_cases hr2 : t.rank ≤ 1000 <;> first | omega | (simp_all; done) | (simp_all [okV]; done)
  · skip
    refine .cond_false rfl <| .seq <| .region <| .e (.fieldAddr fo42_1 rfl) rfl rfl <| .e (.loadP ag39 sz39 rfl .here rfl) rfl rfl <| .on rfl <| .callP cal199 rfl rfl rfl (ramt_ok (l := t.needs) (by omega)) ?_
    refine .e (.not rfl) rfl rfl <| .e (.move rfl) rfl rfl ?_
    refine .split 13 rfl (fun h13 => ?_) (fun h13 => ?_)
    · skip
      refine .off rfl rfl <| .off rfl rfl <| .off rfl rfl <| .e (.pickT rfl rfl) rfl rfl <| .e (.move rfl) rfl rfl <| .off rfl rfl ?_
      refine .off rfl rfl <| .off rfl rfl <| .e (.pickT rfl rfl) rfl rfl <| .e (.assign rfl) rfl rfl <| .nil <| .go ?_
      refine .cond_true rfl <| .seq <| .region <| .e (.assign rfl) rfl rfl <| .nil <| .go ?_
      refine .ret <| .blk_ret <| .ret ?_
      refine .tail ?_
      refine Post.retE rfl rfl ?_
      refine congrArg (Value.int .i64) ?_
      unfold tskWhy
      by_cases hr1 : -1000 ≤ t.rank <;> by_cases hr2 : t.rank ≤ 1000 <;> first | omega | (simp_all; done) | (simp_all [okV]; done)
    · skip
      refine .e (.fieldAddr fo42_6 rfl) rfl rfl <| .e (.load ag3 rfl .here rfl) rfl rfl <| .e (.lss rfl rfl) rfl rfl <| .e (.pickF rfl rfl) rfl rfl <| .e (.move rfl) rfl rfl ?_
      refine .split 18 rfl (fun h18 => ?_) (fun h18 => ?_)
      · skip
        replace h18 := of_decide_eq_true h18
        refine .off rfl rfl <| .off rfl rfl <| .off rfl rfl <| .e (.pickT rfl rfl) rfl rfl <| .e (.assign rfl) rfl rfl <| .nil ?_
        refine .go <| .cond_true rfl <| .seq <| .region <| .e (.assign rfl) rfl rfl <| .nil ?_
        refine .go <| .ret <| .blk_ret <| .ret ?_
        refine .tail ?_
        refine Post.retE rfl rfl ?_
        refine congrArg (Value.int .i64) ?_
        unfold tskWhy
        by_cases hr1 : -1000 ≤ t.rank <;> by_cases hr2 : t.rank ≤ 1000 <;> first | omega | (simp_all; done) | (simp_all [okV]; done)
      · skip
        replace h18 := of_decide_eq_false h18
        refine .e (.fieldAddr fo42_6 rfl) rfl rfl <| .e (.load ag3 rfl .here rfl) rfl rfl <| .e (.gtr rfl rfl) rfl rfl <| .e (.pickF rfl rfl) rfl rfl <| .e (.assign rfl) rfl rfl <| .nil ?_
        refine .go ?_
        refine .split 8 rfl (fun h8 => ?_) (fun h8 => ?_)
        · skip
          replace h8 := of_decide_eq_true h8
          refine .cond_true rfl <| .seq <| .region <| .e (.assign rfl) rfl rfl <| .nil <| .go ?_
          refine .ret <| .blk_ret <| .ret ?_
          refine .tail ?_
          refine Post.retE rfl rfl ?_
          refine congrArg (Value.int .i64) ?_
          unfold tskWhy
          by_cases hr1 : -1000 ≤ t.rank <;> by_cases hr2 : t.rank ≤ 1000 <;> first | omega | (simp_all; done) | (simp_all [okV]; done)
        · skip
          replace h8 := of_decide_eq_false h8
          refine .cond_false rfl <| .seq <| .region <| .e (.fieldAddr fo42_2 rfl) rfl rfl <| .e (.load ag40 rfl .here rfl) rfl rfl <| .on rfl <| .callP cal200 rfl rfl rfl (rpairs_ok htw) ?_
          refine .e (.not rfl) rfl rfl <| .e (.move rfl) rfl rfl ?_
          refine .split 28 rfl (fun h28 => ?_) (fun h28 => ?_)
          · skip
            refine .off rfl rfl <| .off rfl rfl <| .off rfl rfl <| .off rfl rfl <| .e (.pickT rfl rfl) rfl rfl <| .e (.move rfl) rfl rfl ?_
            refine .off rfl rfl <| .off rfl rfl <| .off rfl rfl <| .off rfl rfl <| .off rfl rfl <| .off rfl rfl ?_
            refine .off rfl rfl <| .off rfl rfl <| .off rfl rfl <| .e (.pickT rfl rfl) rfl rfl <| .e (.move rfl) rfl rfl <| .off rfl rfl ?_
            refine .off rfl rfl <| .off rfl rfl <| .off rfl rfl <| .off rfl rfl <| .off rfl rfl <| .off rfl rfl ?_
            refine .off rfl rfl <| .off rfl rfl <| .e (.pickT rfl rfl) rfl rfl <| .e (.assign rfl) rfl rfl <| .nil <| .go ?_
            refine .cond_true rfl <| .seq <| .region <| .e (.assign rfl) rfl rfl <| .nil <| .go ?_
            refine .ret <| .blk_ret <| .ret ?_
            refine .tail ?_
            refine Post.retE rfl rfl ?_
            refine congrArg (Value.int .i64) ?_
            unfold tskWhy
            by_cases hr1 : -1000 ≤ t.rank <;> by_cases hr2 : t.rank ≤ 1000 <;> first | omega | (simp_all; done) | (simp_all [okV]; done)
          · skip
            refine .e (.fieldAddr fo42_3 rfl) rfl rfl <| .e (.load ag40 rfl .here rfl) rfl rfl <| .on rfl <| .callP cal200 rfl rfl rfl (rpairs_ok htb) <| .e (.not rfl) rfl rfl <| .e (.pickF rfl rfl) rfl rfl <| .e (.move rfl) rfl rfl ?_
            refine .split 34 rfl (fun h34 => ?_) (fun h34 => ?_)
            · skip
              refine .off rfl rfl <| .off rfl rfl <| .off rfl rfl <| .off rfl rfl <| .off rfl rfl <| .off rfl rfl ?_
              refine .off rfl rfl <| .off rfl rfl <| .off rfl rfl <| .e (.pickT rfl rfl) rfl rfl <| .e (.move rfl) rfl rfl <| .off rfl rfl ?_
              refine .off rfl rfl <| .off rfl rfl <| .off rfl rfl <| .off rfl rfl <| .off rfl rfl <| .off rfl rfl ?_
              refine .off rfl rfl <| .off rfl rfl <| .e (.pickT rfl rfl) rfl rfl <| .e (.assign rfl) rfl rfl <| .nil <| .go ?_
              refine .cond_true rfl <| .seq <| .region <| .e (.assign rfl) rfl rfl <| .nil <| .go ?_
              refine .ret <| .blk_ret <| .ret ?_
              refine .tail ?_
              refine Post.retE rfl rfl ?_
              refine congrArg (Value.int .i64) ?_
              unfold tskWhy
              by_cases hr1 : -1000 ≤ t.rank <;> by_cases hr2 : t.rank ≤ 1000 <;> first | omega | (simp_all; done) | (simp_all [okV]; done)
            · skip
              refine .e (.fieldAddr fo42_4 rfl) rfl rfl <| .e (.load ag9 rfl .here rfl) rfl rfl <| .e (.strne rfl rfl) rfl rfl <| .e (.move rfl) rfl rfl ?_
              refine .split 38 rfl (fun h38 => ?_) (fun h38 => ?_)
              · skip
                first | replace h38 := of_decide_eq_false ((Bool.not_eq_true' _).mp h38) | replace h38 := of_decide_eq_false (by simpa using h38)
                refine .e (.fieldAddr fo42_4 rfl) rfl rfl <| .e (.load ag9 rfl .here rfl) rfl rfl <| .on rfl <| .callP cal198 rfl rfl rfl (rName_ok hgroup) <| .e (.not rfl) rfl rfl <| .e (.pickT rfl rfl) rfl rfl <| .e (.pickF rfl rfl) rfl rfl ?_
                refine .e (.move rfl) rfl rfl ?_
                refine .split 45 rfl (fun h45 => ?_) (fun h45 => ?_)
                · skip
                  refine .off rfl rfl <| .off rfl rfl <| .off rfl rfl <| .off rfl rfl <| .off rfl rfl <| .off rfl rfl ?_
                  refine .off rfl rfl <| .off rfl rfl <| .off rfl rfl <| .e (.pickT rfl rfl) rfl rfl <| .e (.assign rfl) rfl rfl <| .nil ?_
                  refine .go <| .cond_true rfl <| .seq <| .region <| .e (.assign rfl) rfl rfl <| .nil ?_
                  refine .go <| .ret <| .blk_ret <| .ret ?_
                  refine .tail ?_
                  refine Post.retE rfl rfl ?_
                  refine congrArg (Value.int .i64) ?_
                  unfold tskWhy
                  by_cases hr1 : -1000 ≤ t.rank <;> by_cases hr2 : t.rank ≤ 1000 <;> first | omega | (simp_all; done) | (simp_all [okV]; done)
                · skip
                  refine .e (.fieldAddr fo42_5 rfl) rfl rfl <| .e (.load ag9 rfl .here rfl) rfl rfl <| .e (.strne rfl rfl) rfl rfl <| .e (.move rfl) rfl rfl ?_
                  refine .split 49 rfl (fun h49 => ?_) (fun h49 => ?_)
                  · skip
                    first | replace h49 := of_decide_eq_false ((Bool.not_eq_true' _).mp h49) | replace h49 := of_decide_eq_false (by simpa using h49)
                    refine .e (.fieldAddr fo42_5 rfl) rfl rfl <| .e (.load ag9 rfl .here rfl) rfl rfl <| .on rfl <| .callP cal198 rfl rfl rfl (rName_ok hapart) <| .e (.not rfl) rfl rfl <| .e (.pickT rfl rfl) rfl rfl <| .e (.pickF rfl rfl) rfl rfl ?_
                    refine .e (.assign rfl) rfl rfl <| .nil <| .go ?_
                    refine .split 23 rfl (fun h23 => ?_) (fun h23 => ?_)
                    · skip
                      refine .cond_true rfl <| .seq <| .region <| .e (.assign rfl) rfl rfl <| .nil <| .go ?_
                      refine .ret <| .blk_ret <| .ret ?_
                      refine .tail ?_
                      refine Post.retE rfl rfl ?_
                      refine congrArg (Value.int .i64) ?_
                      unfold tskWhy
                      by_cases hr1 : -1000 ≤ t.rank <;> by_cases hr2 : t.rank ≤ 1000 <;> first | omega | (simp_all; done) | (simp_all [okV]; done)
                    · skip
                      refine .cond_false rfl <| .skip <| .blk_normal <| .go <| .seq <| .region ?_
                      refine .e (.assign rfl) rfl rfl <| .nil <| .go <| .ret ?_
                      refine .tail ?_
                      refine Post.retE rfl rfl ?_
                      refine congrArg (Value.int .i64) ?_
                      unfold tskWhy
                      by_cases hr1 : -1000 ≤ t.rank <;> by_cases hr2 : t.rank ≤ 1000 <;> first | omega | (simp_all; done) | (simp_all [okV]; done)
                  · skip
                    first | replace h49 := of_decide_eq_true ((Bool.not_eq_false' _).mp h49) | replace h49 := of_decide_eq_true (by simpa using h49)
                    refine .off rfl rfl <| .off rfl rfl <| .off rfl rfl <| .off rfl rfl <| .e (.pickF rfl rfl) rfl rfl <| .e (.pickF rfl rfl) rfl rfl ?_
                    refine .e (.assign rfl) rfl rfl <| .nil <| .go <| .cond_false rfl <| .skip <| .blk_normal ?_
                    refine .go <| .seq <| .region <| .e (.assign rfl) rfl rfl <| .nil <| .go ?_
                    refine .ret ?_
                    refine .tail ?_
                    refine Post.retE rfl rfl ?_
                    refine congrArg (Value.int .i64) ?_
                    unfold tskWhy
                    by_cases hr1 : -1000 ≤ t.rank <;> by_cases hr2 : t.rank ≤ 1000 <;> first | omega | (simp_all; done) | (simp_all [okV]; done)
              · skip
                first | replace h38 := of_decide_eq_true ((Bool.not_eq_false' _).mp h38) | replace h38 := of_decide_eq_true (by simpa using h38)
                refine .off rfl rfl <| .off rfl rfl <| .off rfl rfl <| .off rfl rfl <| .e (.pickF rfl rfl) rfl rfl <| .e (.pickF rfl rfl) rfl rfl ?_
                refine .e (.move rfl) rfl rfl <| .e (.fieldAddr fo42_5 rfl) rfl rfl <| .e (.load ag9 rfl .here rfl) rfl rfl <| .e (.strne rfl rfl) rfl rfl <| .e (.move rfl) rfl rfl ?_
                refine .split 49 rfl (fun h49 => ?_) (fun h49 => ?_)
                · skip
                  first | replace h49 := of_decide_eq_false ((Bool.not_eq_true' _).mp h49) | replace h49 := of_decide_eq_false (by simpa using h49)
                  refine .e (.fieldAddr fo42_5 rfl) rfl rfl <| .e (.load ag9 rfl .here rfl) rfl rfl <| .on rfl <| .callP cal198 rfl rfl rfl (rName_ok hapart) <| .e (.not rfl) rfl rfl <| .e (.pickT rfl rfl) rfl rfl <| .e (.pickF rfl rfl) rfl rfl ?_
                  refine .e (.assign rfl) rfl rfl <| .nil <| .go ?_
                  refine .split 23 rfl (fun h23 => ?_) (fun h23 => ?_)
                  · skip
                    refine .cond_true rfl <| .seq <| .region <| .e (.assign rfl) rfl rfl <| .nil <| .go ?_
                    refine .ret <| .blk_ret <| .ret ?_
                    refine .tail ?_
                    refine Post.retE rfl rfl ?_
                    refine congrArg (Value.int .i64) ?_
                    unfold tskWhy
                    by_cases hr1 : -1000 ≤ t.rank <;> by_cases hr2 : t.rank ≤ 1000 <;> first | omega | (simp_all; done) | (simp_all [okV]; done)
                  · skip
                    refine .cond_false rfl <| .skip <| .blk_normal <| .go <| .seq <| .region ?_
                    refine .e (.assign rfl) rfl rfl <| .nil <| .go <| .ret ?_
                    refine .tail ?_
                    refine Post.retE rfl rfl ?_
                    refine congrArg (Value.int .i64) ?_
                    unfold tskWhy
                    by_cases hr1 : -1000 ≤ t.rank <;> by_cases hr2 : t.rank ≤ 1000 <;> first | omega | (simp_all; done) | (simp_all [okV]; done)
                · skip
                  first | replace h49 := of_decide_eq_true ((Bool.not_eq_false' _).mp h49) | replace h49 := of_decide_eq_true (by simpa using h49)
                  refine .off rfl rfl <| .off rfl rfl <| .off rfl rfl <| .off rfl rfl <| .e (.pickF rfl rfl) rfl rfl <| .e (.pickF rfl rfl) rfl rfl ?_
                  refine .e (.assign rfl) rfl rfl <| .nil <| .go <| .cond_false rfl <| .skip <| .blk_normal ?_
                  refine .go <| .seq <| .region <| .e (.assign rfl) rfl rfl <| .nil <| .go ?_
                  refine .ret ?_
                  refine .tail ?_
                  refine Post.retE rfl rfl ?_
                  refine congrArg (Value.int .i64) ?_
                  unfold tskWhy
                  by_cases hr1 : -1000 ≤ t.rank <;> by_cases hr2 : t.rank ≤ 1000 <;> first | omega | (simp_all; done) | (simp_all [okV]; done)

theorem eqPr {p q : Pr} : EqOk Tryz.prog 57 (.agg ⟨[.string p.key, .string p.value]⟩) (.agg ⟨[.string q.key, .string q.value]⟩) (decide (p = q)) := by
  have e : decide (p = q) = (decide (p.key = q.key) && (decide (p.value = q.value) && true)) := by
    cases p; cases q; simp
  rw [e]
  refine .struct Tryz.underlying57 (by kernel_rfl) (by kernel_rfl) ?_
  exact ⟨_, _, _, _, rfl, run_part ag9 rfl, run_part ag9 rfl, fun w => equalIn_str Tryz.underlying9, ⟨_, _, _, _, rfl, run_part ag9 rfl, run_part ag9 rfl, fun w => equalIn_str Tryz.underlying9, rfl, rfl⟩, rfl⟩
theorem any_take_succ {l : List Pr} {p : Pr} {j : Nat} (hj : j < l.length) : (l.take (j + 1)).any (fun q => decide (p = q)) = ((l.take j).any (fun q => decide (p = q)) || decide (p = l[j])) := by
  rw [List.take_succ_eq_append_getElem hj, List.any_append]; simp
theorem any_get {l : List Pr} {p : Pr} {j : Nat} (hj : j < l.length) (h : p = l[j]) : l.any (fun q => decide (p = q)) = true := List.any_eq_true.2 ⟨l[j], List.getElem_mem hj, by simp [h]⟩
theorem within_take {l o : List Pr} {k : Nat} (hk : k < l.length) (h : within (l.take k) o = true) (h2 : o.any (fun q => decide (l[k] = q)) = true) : within (l.take (k + 1)) o = true := by
  unfold within at *
  rw [List.take_succ_eq_append_getElem hk, List.all_append, h]; simpa using h2
theorem within_no {l o : List Pr} {k : Nat} (hk : k < l.length) (h2 : o.any (fun q => decide (l[k] = q)) = false) : within l o = false := by
  unfold within
  rw [Bool.eq_false_iff]
  intro h
  have := List.all_eq_true.1 h l[k] (List.getElem_mem hk)
  rw [h2] at this; cases this
theorem within_all {l o : List Pr} {k : Nat} (hk : l.length ≤ k) (h : within (l.take k) o = true) : within l o = true := by rwa [List.take_of_length_le hk] at h

set_option maxHeartbeats 1000000 in
set_option maxRecDepth 20000 in
theorem within_ok {I : Imm} {O : Own} {v u : Value} {l o : List Pr} (hl : PrsR I v l) (ho : PrsR I u o) :
    Pure Tryz.prog 165 [v, u] I O (.bool (within l o)) := by
  have hl0 := hl
  have ho0 := ho
  obtain ⟨la, lcap, rfl, hl1, hl2, -⟩ := hl
  obtain ⟨oa, ocap, rfl, ho1, ho2, -⟩ := ho
  refine Go.Sy.Does.enter Tryz.func165 rfl Tryz.ntmps165 rfl ?_
  refine .seq <| .region <| .e (.assign rfl) rfl rfl <| .nil <| .go <| .scope ?_
  refine .seq <| .label <| .go <| .seq <| .seq <| .region ?_
  refine .e (.move rfl) rfl rfl <| .e (.len sl40 rfl rfl) rfl rfl <| .e (.move rfl) rfl rfl <| .nil <| .go <| .block ?_
  refine .loopM [4, 6, 8, 11, 12, 13, 14, 15, 16, 17, 18, 19, 20, 21, 22, 23, 24, 25] (fun k => l.length - k) (fun k => k ≤ l.length ∧ within (l.take k) o = true) (fun k => [(11, .int .i64 k)]) (fun _ => _) (fun _ => _) (0) ⟨by omega, rfl⟩ ⟨rfl, trivial⟩ rfl rfl ?_
  intro k hk
  obtain ⟨hk, hw⟩ := hk
  refine .seq <| .region <| .e (.lss rfl rfl) rfl rfl <| .nil <| .go <| .seq ?_
  refine .split 12 rfl (fun h12 => ?_) (fun h12 => ?_)
  · skip
    replace h12 := of_decide_eq_true h12
    refine .cond_true rfl <| .skip <| .go <| .seq <| .block <| .seq ?_
    refine .region ?_
    obtain ⟨eb13, eo13, cs13, hd13, hat13, hr13⟩ := SlR.at_ hl0 (k := k) (by omega)
    cases hd13
    obtain ⟨rfl, -, -⟩ := hr13
    refine .e (.indexAddrL sl40 rfl rfl rfl (by omega)) rfl rfl <| .e (.loadIA ag57 sz57 rfl hat13 rfl) rfl rfl <| .on rfl <| .alloc zr57 rfl fun c1 _ _ => .on rfl <| .storeW sz57 rfl rfl rfl rfl rfl rfl .here <| .nil <| .go ?_
    refine .seq <| .seq <| .region <| .e (.move rfl) rfl rfl <| .e (.len sl40 rfl rfl) rfl rfl <| .e (.move rfl) rfl rfl ?_
    refine .nil <| .go <| .block ?_
    refine .loopM [8, 17, 18, 19, 20, 21, 22, 23, 24] (fun j => o.length - j) (fun j => j ≤ o.length ∧ (o.take j).any (fun q => decide (l[k] = q)) = false) (fun j => [(17, .int .i64 j)]) (fun _ => _) (fun _ => _) (0) ⟨by omega, rfl⟩ ⟨rfl, trivial⟩ rfl rfl ?_
    intro j hj
    obtain ⟨hj, hn⟩ := hj
    refine .seq <| .region <| .e (.lss rfl rfl) rfl rfl <| .nil <| .go <| .seq ?_
    refine .split 18 rfl (fun h18 => ?_) (fun h18 => ?_)
    · skip
      replace h18 := of_decide_eq_true h18
      refine .cond_true rfl <| .skip <| .go <| .seq <| .block <| .seq ?_
      refine .region ?_
      obtain ⟨eb19, eo19, cs19, hd19, hat19, hr19⟩ := SlR.at_ ho0 (k := j) (by omega)
      cases hd19
      obtain ⟨rfl, -, -⟩ := hr19
      refine .e (.indexAddrL sl40 rfl rfl rfl (by omega)) rfl rfl <| .e (.loadIA ag57 sz57 rfl hat19 rfl) rfl rfl <| .on rfl <| .alloc zr57 rfl fun c2 _ _ => .on rfl <| .storeW sz57 rfl rfl rfl rfl rfl rfl .here <| .nil <| .go ?_
      refine .seq <| .region <| .e (.loadW ag57 sz57 rfl (.there <| .here) rfl) rfl rfl <| .e (.loadW ag57 sz57 rfl .here rfl) rfl rfl <| .e (.eqv (eqPr (p := l[k]) (q := o[j])) rfl rfl) rfl rfl <| .nil ?_
      refine .go ?_
      refine .split 23 rfl (fun h23 => ?_) (fun h23 => ?_)
      · skip
        replace h23 := of_decide_eq_true h23
        refine .cond_true rfl <| .exit <| .blk_other rfl <| .exit <| .exit <| .blk_other rfl ?_
        refine .exit <| .blk_exit <| .go <| .region <| .e (.add rfl rfl (by first | exact wrap_succ (by omega) | exact IntWalk.i64_in _ (by omega) | exact rfl)) rfl rfl <| .e (.move rfl) rfl rfl ?_
        refine .nil ?_
        refine .tail <| .tail ?_
        exact .mid (k + 1) ⟨by omega, by omega, within_take (by omega) hw (any_get (by omega) h23)⟩ ⟨rfl, trivial⟩ rfl rfl (.pre 11 rfl (.app rfl (.del rfl (.pre 8 rfl (.app rfl .base)))))
      · skip
        replace h23 := of_decide_eq_false h23
        refine .cond_false rfl <| .skip <| .blk_normal <| .go <| .region <| .e (.add rfl rfl (by first | exact wrap_succ (by omega) | exact IntWalk.i64_in _ (by omega) | exact rfl)) rfl rfl ?_
        refine .e (.move rfl) rfl rfl <| .nil ?_
        refine .tail ?_
        exact .mid (j + 1) ⟨by omega, by omega, by rw [any_take_succ (by omega), hn]; simpa using h23⟩ ⟨rfl, trivial⟩ rfl rfl (.pre 11 rfl (.app rfl .base))
    · skip
      replace h18 := of_decide_eq_false h18
      refine .cond_false rfl <| .exit <| .exit <| .exit <| .blk_exit <| .go ?_
      refine .seq <| .region <| .e (.assign rfl) rfl rfl <| .nil <| .go <| .ret ?_
      refine .blk_ret <| .ret <| .ret <| .blk_ret <| .ret <| .sc_ret ?_
      refine .tail ?_
      refine Post.retE rfl rfl ?_
      exact congrArg Value.bool (within_no (k := k) (by omega) (by rwa [List.take_of_length_le (by omega)] at hn)).symm
  · skip
    replace h12 := of_decide_eq_false h12
    refine .cond_false rfl <| .exit <| .exit <| .exit <| .blk_exit <| .go ?_
    refine .seq <| .region <| .e (.assign rfl) rfl rfl <| .nil <| .go <| .ret ?_
    refine .sc_ret ?_
    refine Post.retE rfl rfl ?_
    exact congrArg Value.bool (within_all (by omega) hw).symm

set_option maxHeartbeats 1000000 in
set_option maxRecDepth 20000 in
theorem rwithin_ok {I : Imm} {O : Own} {v u : Value} {l o : List Pr} (hl : PrsR I v l) (ho : PrsR I u o) :
    Pure Tryz.prog 201 [v, u] I O (.bool (within l o)) := by
  have hl0 := hl
  have ho0 := ho
  obtain ⟨la, lcap, rfl, hl1, hl2, -⟩ := hl
  obtain ⟨oa, ocap, rfl, ho1, ho2, -⟩ := ho
  refine Go.Sy.Does.enter Tryz.func201 rfl Tryz.ntmps201 rfl ?_
  refine .seq <| .region <| .e (.assign rfl) rfl rfl <| .nil <| .go <| .seq ?_
  refine .seq <| .region <| .e (.move rfl) rfl rfl <| .e (.len sl40 rfl rfl) rfl rfl <| .e (.move rfl) rfl rfl <| .nil ?_
  refine .go <| .block ?_
  refine .loopM [4, 6, 7, 9, 12, 13, 14, 15, 16, 17, 18, 19, 20, 21, 22, 23, 24, 25, 26, 27, 28, 29, 30, 31] (fun k => l.length - k) (fun k => k ≤ l.length ∧ within (l.take k) o = true) (fun k => [(12, .int .i64 k)]) (fun _ => _) (fun _ => _) (0) ⟨by omega, rfl⟩ ⟨rfl, trivial⟩ rfl rfl ?_
  intro k hk
  obtain ⟨hk, hw⟩ := hk
  refine .seq <| .region <| .e (.lss rfl rfl) rfl rfl <| .nil <| .go <| .seq ?_
  refine .split 13 rfl (fun h13 => ?_) (fun h13 => ?_)
  · skip
    replace h13 := of_decide_eq_true h13
    refine .cond_true rfl <| .skip <| .go <| .seq <| .block <| .seq ?_
    refine .region ?_
    obtain ⟨eb14, eo14, cs14, hd14, hat14, hr14⟩ := SlR.at_ hl0 (k := k) (by omega)
    cases hd14
    obtain ⟨rfl, -, -⟩ := hr14
    refine .e (.indexAddrL sl40 rfl rfl rfl (by omega)) rfl rfl <| .e (.loadIA ag57 sz57 rfl hat14 rfl) rfl rfl <| .on rfl <| .alloc zr57 rfl fun c1 _ _ => .on rfl <| .storeW sz57 rfl rfl rfl rfl rfl rfl .here <| .nil <| .go ?_
    refine .seq <| .region <| .e (.assign rfl) rfl rfl <| .nil <| .go <| .seq ?_
    refine .seq <| .region <| .e (.move rfl) rfl rfl <| .e (.len sl40 rfl rfl) rfl rfl <| .e (.move rfl) rfl rfl <| .nil ?_
    refine .go <| .block ?_
    refine .loopM [7, 9, 18, 19, 20, 21, 22, 23, 24, 25, 26, 27, 28] (fun j => o.length - j) (fun j => j ≤ o.length) (fun j => [(18, .int .i64 j), (7, .bool ((o.take j).any (fun q => decide (l[k] = q))))]) (fun _ => _) (fun _ => _) (0) (by omega) ⟨rfl, rfl, trivial⟩ rfl rfl ?_
    intro j hj
    refine .seq <| .region <| .e (.lss rfl rfl) rfl rfl <| .nil <| .go <| .seq ?_
    refine .split 19 rfl (fun h19 => ?_) (fun h19 => ?_)
    · skip
      replace h19 := of_decide_eq_true h19
      refine .cond_true rfl <| .skip <| .go <| .seq <| .block <| .seq ?_
      refine .region ?_
      obtain ⟨eb20, eo20, cs20, hd20, hat20, hr20⟩ := SlR.at_ ho0 (k := j) (by omega)
      cases hd20
      obtain ⟨rfl, -, -⟩ := hr20
      refine .e (.indexAddrL sl40 rfl rfl rfl (by omega)) rfl rfl <| .e (.loadIA ag57 sz57 rfl hat20 rfl) rfl rfl <| .on rfl <| .alloc zr57 rfl fun c2 _ _ => .on rfl <| .storeW sz57 rfl rfl rfl rfl rfl rfl .here <| .nil <| .go ?_
      refine .region <| .e (.move rfl) rfl rfl <| .e (.move rfl) rfl rfl ?_
      refine .split 23 rfl (fun h23 => ?_) (fun h23 => ?_)
      · skip
        refine .off rfl rfl <| .off rfl rfl <| .off rfl rfl <| .e (.pickT rfl rfl) rfl rfl <| .e (.assign rfl) rfl rfl <| .nil ?_
        refine .blk_normal <| .go <| .region <| .e (.add rfl rfl (by first | exact wrap_succ (by omega) | exact IntWalk.i64_in _ (by omega) | exact rfl)) rfl rfl <| .e (.move rfl) rfl rfl <| .nil ?_
        refine .tail ?_
        have e7 := any_take_succ (l := o) (p := l[k]) (j := j) (by omega)
        simp only [h23, Bool.true_or, Bool.false_or] at e7
        exact .mid (j + 1) ⟨by omega, by omega⟩ ⟨rfl, (by show some _ = some _; rw [e7]), trivial⟩ rfl rfl (.pre 15 rfl (.app rfl .base))
      · skip
        refine .e (.loadW ag57 sz57 rfl (.there <| .here) rfl) rfl rfl <| .e (.loadW ag57 sz57 rfl .here rfl) rfl rfl <| .e (.eqv (eqPr (p := l[k]) (q := o[j])) rfl rfl) rfl rfl <| .e (.pickF rfl rfl) rfl rfl <| .e (.assign rfl) rfl rfl <| .nil ?_
        refine .blk_normal <| .go <| .region <| .e (.add rfl rfl (by first | exact wrap_succ (by omega) | exact IntWalk.i64_in _ (by omega) | exact rfl)) rfl rfl <| .e (.move rfl) rfl rfl <| .nil ?_
        refine .tail ?_
        have e7 := any_take_succ (l := o) (p := l[k]) (j := j) (by omega)
        simp only [h23, Bool.true_or, Bool.false_or] at e7
        exact .mid (j + 1) ⟨by omega, by omega⟩ ⟨rfl, (by show some _ = some _; rw [e7]), trivial⟩ rfl rfl (.pre 15 rfl (.app rfl .base))
    · skip
      replace h19 := of_decide_eq_false h19
      refine .cond_false rfl <| .exit <| .exit <| .exit <| .blk_exit <| .go ?_
      refine .seq <| .region <| .e (.move rfl) rfl rfl <| .e (.not rfl) rfl rfl <| .nil <| .go ?_
      refine .split 30 rfl (fun h30 => ?_) (fun h30 => ?_)
      · skip
        refine .cond_true rfl <| .seq <| .region <| .e (.assign rfl) rfl rfl <| .nil <| .go ?_
        refine .ret <| .blk_ret <| .ret <| .ret <| .blk_ret <| .ret ?_
        refine .tail ?_
        refine Post.retE rfl rfl ?_
        exact congrArg Value.bool (within_no (k := k) (by omega) (by rw [List.take_of_length_le (by omega)] at h30; simpa using h30)).symm
      · skip
        refine .cond_false rfl <| .skip <| .blk_normal <| .go <| .region <| .e (.add rfl rfl (by first | exact wrap_succ (by omega) | exact IntWalk.i64_in _ (by omega) | exact rfl)) rfl rfl ?_
        refine .e (.move rfl) rfl rfl <| .nil ?_
        refine .tail ?_
        exact .mid (k + 1) ⟨by omega, by omega, within_take (by omega) hw (by rw [List.take_of_length_le (by omega)] at h30; simpa using h30)⟩ ⟨rfl, trivial⟩ rfl rfl (.pre 7 rfl (.app rfl (.del rfl (.pre 9 rfl (.app rfl .base)))))
  · skip
    replace h13 := of_decide_eq_false h13
    refine .cond_false rfl <| .exit <| .exit <| .exit <| .blk_exit <| .go ?_
    refine .seq <| .region <| .e (.assign rfl) rfl rfl <| .nil <| .go <| .ret ?_
    refine Post.retE rfl rfl ?_
    exact congrArg Value.bool (within_all (by omega) hw).symm

def suits (t : Tsk) (n : Nod) : Bool := within t.wants n.labels && within n.taints t.bears

set_option maxHeartbeats 1000000 in
set_option maxRecDepth 20000 in
theorem Suits_ok {I : Imm} {O : Own} {tc nc : List Value} {t : Tsk} {n : Nod} (ht : TskR I tc t) (hn : NodR I nc n) :
    Pure Tryz.prog 118 [.agg ⟨tc⟩, .agg ⟨nc⟩] I O (.bool (suits t n)) := by
  obtain ⟨tw, tb, rfl, htw, htb⟩ := ht.ex
  obtain ⟨nl, nt, rfl, hnl, hnt⟩ := hn.ex
  refine Go.Sy.Does.enter Tryz.func118 rfl Tryz.ntmps118 rfl ?_
  refine .seq <| .region <| .on rfl <| .box rfl rfl rfl fun c1 _ _ => .on rfl <| .box rfl rfl rfl fun c2 _ _ => .e (.assign rfl) rfl rfl <| .nil ?_
  refine .go <| .seq <| .region <| .e (.fieldAddr fo42_2 rfl) rfl rfl <| .e (.load ag40 rfl (.there <| .here) rfl) rfl rfl <| .e (.fieldAddr fo45_2 rfl) rfl rfl ?_
  refine .e (.load ag40 rfl .here rfl) rfl rfl <| .on rfl <| .callP cal165 rfl rfl rfl (within_ok htw hnl) <| .e (.move rfl) rfl rfl ?_
  refine .split 10 rfl (fun h10 => ?_) (fun h10 => ?_)
  · skip
    refine .e (.fieldAddr fo45_3 rfl) rfl rfl <| .e (.load ag40 rfl .here rfl) rfl rfl <| .e (.fieldAddr fo42_3 rfl) rfl rfl <| .e (.load ag40 rfl (.there <| .here) rfl) rfl rfl <| .on rfl <| .callP cal165 rfl rfl rfl (within_ok hnt htb) <| .e (.pickT rfl rfl) rfl rfl ?_
    refine .e (.assign rfl) rfl rfl <| .nil <| .go <| .ret ?_
    refine .tail <| .tail ?_
    refine Post.retE rfl rfl ?_
    simp_all [suits]
  · skip
    refine .off rfl rfl <| .off rfl rfl <| .off rfl rfl <| .off rfl rfl <| .off rfl rfl <| .e (.pickF rfl rfl) rfl rfl ?_
    refine .e (.assign rfl) rfl rfl <| .nil <| .go <| .ret ?_
    refine .tail <| .tail ?_
    refine Post.retE rfl rfl ?_
    simp_all [suits]

set_option maxHeartbeats 1000000 in
set_option maxRecDepth 20000 in
theorem rSuits_ok {I : Imm} {O : Own} {tc nc : List Value} {t : Tsk} {n : Nod} (ht : TskR I tc t) (hn : NodR I nc n) :
    Pure Tryz.prog 160 [.agg ⟨tc⟩, .agg ⟨nc⟩] I O (.bool (suits t n)) := by
  obtain ⟨tw, tb, rfl, htw, htb⟩ := ht.ex
  obtain ⟨nl, nt, rfl, hnl, hnt⟩ := hn.ex
  refine Go.Sy.Does.enter Tryz.func160 rfl Tryz.ntmps160 rfl ?_
  refine .seq <| .region <| .on rfl <| .box rfl rfl rfl fun c1 _ _ => .on rfl <| .box rfl rfl rfl fun c2 _ _ => .e (.assign rfl) rfl rfl <| .nil ?_
  refine .go <| .seq <| .region <| .e (.fieldAddr fo42_2 rfl) rfl rfl <| .e (.load ag40 rfl (.there <| .here) rfl) rfl rfl <| .e (.fieldAddr fo45_2 rfl) rfl rfl ?_
  refine .e (.load ag40 rfl .here rfl) rfl rfl <| .on rfl <| .callP cal201 rfl rfl rfl (rwithin_ok htw hnl) <| .e (.move rfl) rfl rfl ?_
  refine .split 10 rfl (fun h10 => ?_) (fun h10 => ?_)
  · skip
    refine .e (.fieldAddr fo45_3 rfl) rfl rfl <| .e (.load ag40 rfl .here rfl) rfl rfl <| .e (.fieldAddr fo42_3 rfl) rfl rfl <| .e (.load ag40 rfl (.there <| .here) rfl) rfl rfl <| .on rfl <| .callP cal201 rfl rfl rfl (rwithin_ok hnt htb) <| .e (.pickT rfl rfl) rfl rfl ?_
    refine .e (.assign rfl) rfl rfl <| .nil <| .go <| .ret ?_
    refine .tail <| .tail ?_
    refine Post.retE rfl rfl ?_
    simp_all [suits]
  · skip
    refine .off rfl rfl <| .off rfl rfl <| .off rfl rfl <| .off rfl rfl <| .off rfl rfl <| .e (.pickF rfl rfl) rfl rfl ?_
    refine .e (.assign rfl) rfl rfl <| .nil <| .go <| .ret ?_
    refine .tail <| .tail ?_
    refine Post.retE rfl rfl ?_
    simp_all [suits]

def room (n : Nod) (u d : A3) : Bool := n.has.amt 1 && u.amt 32 && d.amt 1 && decide (u.a + d.a ≤ n.has.a ∧ u.b + d.b ≤ n.has.b ∧ u.c + d.c ≤ n.has.c)

set_option maxHeartbeats 1000000 in
set_option maxRecDepth 20000 in
theorem Room_ok {I : Imm} {O : Own} {nc : List Value} {n : Nod} {u d : A3} (hn : NodR I nc n) :
    Pure Tryz.prog 117 [.agg ⟨nc⟩, .agg ⟨[.int .i64 u.a, .int .i64 u.b, .int .i64 u.c]⟩, .agg ⟨[.int .i64 d.a, .int .i64 d.b, .int .i64 d.c]⟩] I O (.bool (room n u d)) := by
  obtain ⟨nl, nt, rfl, hnl, hnt⟩ := hn.ex
  refine Go.Sy.Does.enter Tryz.func117 rfl Tryz.ntmps117 rfl ?_
  refine .seq <| .region <| .on rfl <| .box rfl rfl rfl fun c1 _ _ => .on rfl <| .box rfl rfl rfl fun c2 _ _ => .on rfl <| .box rfl rfl rfl fun c3 _ _ => .e (.assign rfl) rfl rfl ?_
  refine .nil <| .go <| .seq <| .region <| .e (.fieldAddr fo45_1 rfl) rfl rfl <| .e (.loadP ag39 sz39 rfl (.there <| .there <| .here) rfl) rfl rfl ?_
  refine .on rfl <| .callP cal73 rfl rfl rfl (amt_ok (l := n.has) (by omega)) <| .e (.move rfl) rfl rfl ?_
  refine .split 12 rfl (fun h12 => ?_) (fun h12 => ?_)
  · skip
    have a12 := A3.amt_out h12
    refine .e (.loadW ag39 sz39 rfl (.there <| .here) rfl) rfl rfl <| .on rfl <| .callP cal73 rfl rfl rfl (amt_ok (l := u) (by omega)) <| .e (.pickT rfl rfl) rfl rfl <| .e (.move rfl) rfl rfl ?_
    refine .split 16 rfl (fun h16 => ?_) (fun h16 => ?_)
    · skip
      have a16 := A3.amt_out h16
      refine .e (.loadW ag39 sz39 rfl .here rfl) rfl rfl <| .on rfl <| .callP cal73 rfl rfl rfl (amt_ok (l := d) (by omega)) <| .e (.pickT rfl rfl) rfl rfl <| .e (.assign rfl) rfl rfl <| .nil <| .go ?_
      refine .seq <| .seq <| .region <| .e (.move rfl) rfl rfl <| .nil <| .go ?_
      refine .block <| .unroll 3 <| .seq <| .region <| .e (.lss rfl rfl) rfl rfl <| .nil ?_
      refine .go <| .seq <| .cond_true rfl <| .skip <| .go <| .seq ?_
      refine .block <| .seq <| .region <| .e (.move rfl) rfl rfl <| .e (.assign rfl) rfl rfl <| .nil ?_
      refine .go ?_
      refine .draw [(c2, _), (c1, _), (c3, _)] mixed (.cons (.there <| .here) (.cons (.there <| .there <| .here) (.cons .here .nil))) ?_
      refine .t 0 rfl (.move rfl) rfl rfl (by kernel_rfl) <| .t 1 rfl (.move rfl) rfl rfl (by kernel_rfl) ?_
      refine .split 24 rfl (fun h24 => ?_) (fun h24 => ?_)
      · skip
        first | (have a24 := A3.amt_out h24) | skip
        refine .t 2 rfl (.move rfl) rfl rfl (by kernel_rfl) <| .t 3 rfl (.indexAddrA (j := 0) ar39 rfl rfl rfl (by first | decide | omega)) rfl rfl (by kernel_rfl) <| .t 4 rfl (.load ag2 rfl .here rfl) rfl rfl (by kernel_rfl) <| .t 5 rfl (.move rfl) rfl rfl (by kernel_rfl) <| .t 6 rfl (.fieldAddr fo45_1 rfl) rfl rfl (by kernel_rfl) <| .t 7 rfl (.indexAddrA (j := 0) ar39 rfl rfl rfl (by first | decide | omega)) rfl rfl (by kernel_rfl) ?_
        refine .t 8 rfl (.load ag2 rfl (.there <| .here) rfl) rfl rfl (by kernel_rfl) <| .t 9 rfl (.move rfl) rfl rfl (by kernel_rfl) <| .t 10 rfl (.indexAddrA (j := 0) ar39 rfl rfl rfl (by first | decide | omega)) rfl rfl (by kernel_rfl) <| .t 11 rfl (.load ag2 rfl (.there <| .there <| .here) rfl) rfl rfl (by kernel_rfl) <| .t 12 rfl (.sub rfl rfl (IntWalk.i64_in _ (by omega))) rfl rfl (by kernel_rfl) <| .t 13 rfl (.leq rfl rfl) rfl rfl (by kernel_rfl) ?_
        refine .t 14 rfl (.pickT rfl rfl) rfl rfl (by kernel_rfl) <| .t 15 rfl (.assign rfl) rfl rfl (by kernel_rfl) <| .done (by kernel_rfl) <| .blk_normal <| .go <| .region ?_
        refine .e (.add (c := 1) rfl rfl (by decide)) rfl rfl <| .e (.move rfl) rfl rfl <| .nil <| .again <| .seq <| .region ?_
        refine .e (.lss rfl rfl) rfl rfl <| .nil <| .go <| .seq <| .cond_true rfl <| .skip ?_
        refine .go <| .seq <| .block <| .seq <| .region <| .e (.move rfl) rfl rfl ?_
        refine .e (.assign rfl) rfl rfl <| .nil <| .go ?_
        refine .draw [(c2, _), (c1, _), (c3, _)] mixed (.cons (.there <| .here) (.cons (.there <| .there <| .here) (.cons .here .nil))) ?_
        refine .t 0 rfl (.move rfl) rfl rfl (by kernel_rfl) <| .t 1 rfl (.move rfl) rfl rfl (by kernel_rfl) ?_
        refine .split 24 rfl (fun h24_2 => ?_) (fun h24_2 => ?_)
        · skip
          replace h24_2 := of_decide_eq_true h24_2
          first | (have a24 := A3.amt_out h24) | skip
          refine .t 2 rfl (.move rfl) rfl rfl (by kernel_rfl) <| .t 3 rfl (.indexAddrA (j := 1) ar39 rfl rfl rfl (by first | decide | omega)) rfl rfl (by kernel_rfl) <| .t 4 rfl (.load ag2 rfl .here rfl) rfl rfl (by kernel_rfl) <| .t 5 rfl (.move rfl) rfl rfl (by kernel_rfl) <| .t 6 rfl (.fieldAddr fo45_1 rfl) rfl rfl (by kernel_rfl) <| .t 7 rfl (.indexAddrA (j := 1) ar39 rfl rfl rfl (by first | decide | omega)) rfl rfl (by kernel_rfl) ?_
          refine .t 8 rfl (.load ag2 rfl (.there <| .here) rfl) rfl rfl (by kernel_rfl) <| .t 9 rfl (.move rfl) rfl rfl (by kernel_rfl) <| .t 10 rfl (.indexAddrA (j := 1) ar39 rfl rfl rfl (by first | decide | omega)) rfl rfl (by kernel_rfl) <| .t 11 rfl (.load ag2 rfl (.there <| .there <| .here) rfl) rfl rfl (by kernel_rfl) <| .t 12 rfl (.sub rfl rfl (IntWalk.i64_in _ (by omega))) rfl rfl (by kernel_rfl) <| .t 13 rfl (.leq rfl rfl) rfl rfl (by kernel_rfl) ?_
          refine .t 14 rfl (.pickT rfl rfl) rfl rfl (by kernel_rfl) <| .t 15 rfl (.assign rfl) rfl rfl (by kernel_rfl) <| .done (by kernel_rfl) <| .blk_normal <| .go <| .region ?_
          refine .e (.add (c := 2) rfl rfl (by decide)) rfl rfl <| .e (.move rfl) rfl rfl <| .nil <| .again <| .seq <| .region ?_
          refine .e (.lss rfl rfl) rfl rfl <| .nil <| .go <| .seq <| .cond_true rfl <| .skip ?_
          refine .go <| .seq <| .block <| .seq <| .region <| .e (.move rfl) rfl rfl ?_
          refine .e (.assign rfl) rfl rfl <| .nil <| .go ?_
          refine .draw [(c2, _), (c1, _), (c3, _)] mixed (.cons (.there <| .here) (.cons (.there <| .there <| .here) (.cons .here .nil))) ?_
          refine .t 0 rfl (.move rfl) rfl rfl (by kernel_rfl) <| .t 1 rfl (.move rfl) rfl rfl (by kernel_rfl) ?_
          refine .split 24 rfl (fun h24_3 => ?_) (fun h24_3 => ?_)
          · skip
            replace h24_3 := of_decide_eq_true h24_3
            first | (have a24 := A3.amt_out h24) | skip
            refine .t 2 rfl (.move rfl) rfl rfl (by kernel_rfl) <| .t 3 rfl (.indexAddrA (j := 2) ar39 rfl rfl rfl (by first | decide | omega)) rfl rfl (by kernel_rfl) <| .t 4 rfl (.load ag2 rfl .here rfl) rfl rfl (by kernel_rfl) <| .t 5 rfl (.move rfl) rfl rfl (by kernel_rfl) <| .t 6 rfl (.fieldAddr fo45_1 rfl) rfl rfl (by kernel_rfl) <| .t 7 rfl (.indexAddrA (j := 2) ar39 rfl rfl rfl (by first | decide | omega)) rfl rfl (by kernel_rfl) ?_
            refine .t 8 rfl (.load ag2 rfl (.there <| .here) rfl) rfl rfl (by kernel_rfl) <| .t 9 rfl (.move rfl) rfl rfl (by kernel_rfl) <| .t 10 rfl (.indexAddrA (j := 2) ar39 rfl rfl rfl (by first | decide | omega)) rfl rfl (by kernel_rfl) <| .t 11 rfl (.load ag2 rfl (.there <| .there <| .here) rfl) rfl rfl (by kernel_rfl) <| .t 12 rfl (.sub rfl rfl (IntWalk.i64_in _ (by omega))) rfl rfl (by kernel_rfl) <| .t 13 rfl (.leq rfl rfl) rfl rfl (by kernel_rfl) ?_
            refine .t 14 rfl (.pickT rfl rfl) rfl rfl (by kernel_rfl) <| .t 15 rfl (.assign rfl) rfl rfl (by kernel_rfl) <| .done (by kernel_rfl) <| .blk_normal <| .go <| .region ?_
            refine .e (.add (c := 3) rfl rfl (by decide)) rfl rfl <| .e (.move rfl) rfl rfl <| .nil <| .again <| .seq <| .region ?_
            refine .e (.lss rfl rfl) rfl rfl <| .nil <| .go <| .seq <| .cond_false rfl <| .exit ?_
            refine .exit <| .exit <| .blk_exit <| .go <| .seq <| .region ?_
            refine .e (.move rfl) rfl rfl <| .e (.assign rfl) rfl rfl <| .nil <| .go <| .ret ?_
            refine .tail <| .tail <| .tail ?_
            refine Post.retE rfl rfl ?_
            refine congrArg Value.bool (Bool.eq_iff_iff.2 ?_)
            unfold room
            unfold A3.amt at *
            simp only [Bool.and_eq_true, decide_eq_true_eq, decide_eq_false_iff_not, Bool.false_eq_true, Bool.not_eq_true', Bool.not_eq_false', Bool.not_true, Bool.not_false, reduceCtorEq, true_iff, false_iff] at *
            omega
          · skip
            replace h24_3 := of_decide_eq_false h24_3
            refine .s 2 rfl rfl rfl (by kernel_rfl) <| .s 3 rfl rfl rfl (by kernel_rfl) <| .s 4 rfl rfl rfl (by kernel_rfl) <| .s 5 rfl rfl rfl (by kernel_rfl) <| .s 6 rfl rfl rfl (by kernel_rfl) <| .s 7 rfl rfl rfl (by kernel_rfl) ?_
            refine .s 8 rfl rfl rfl (by kernel_rfl) <| .s 9 rfl rfl rfl (by kernel_rfl) <| .s 10 rfl rfl rfl (by kernel_rfl) <| .s 11 rfl rfl rfl (by kernel_rfl) <| .s 12 rfl rfl rfl (by kernel_rfl) <| .s 13 rfl rfl rfl (by kernel_rfl) ?_
            refine .t 14 rfl (.pickF rfl rfl) rfl rfl (by kernel_rfl) <| .t 15 rfl (.assign rfl) rfl rfl (by kernel_rfl) <| .done (by kernel_rfl) <| .blk_normal <| .go <| .region ?_
            refine .e (.add (c := 3) rfl rfl (by decide)) rfl rfl <| .e (.move rfl) rfl rfl <| .nil <| .again <| .seq <| .region ?_
            refine .e (.lss rfl rfl) rfl rfl <| .nil <| .go <| .seq <| .cond_false rfl <| .exit ?_
            refine .exit <| .exit <| .blk_exit <| .go <| .seq <| .region ?_
            refine .e (.move rfl) rfl rfl <| .e (.assign rfl) rfl rfl <| .nil <| .go <| .ret ?_
            refine .tail <| .tail <| .tail ?_
            refine Post.retE rfl rfl ?_
            refine congrArg Value.bool (Bool.eq_iff_iff.2 ?_)
            unfold room
            unfold A3.amt at *
            simp only [Bool.and_eq_true, decide_eq_true_eq, decide_eq_false_iff_not, Bool.false_eq_true, Bool.not_eq_true', Bool.not_eq_false', Bool.not_true, Bool.not_false, reduceCtorEq, true_iff, false_iff] at *
            omega
        · skip
          replace h24_2 := of_decide_eq_false h24_2
          refine .s 2 rfl rfl rfl (by kernel_rfl) <| .s 3 rfl rfl rfl (by kernel_rfl) <| .s 4 rfl rfl rfl (by kernel_rfl) <| .s 5 rfl rfl rfl (by kernel_rfl) <| .s 6 rfl rfl rfl (by kernel_rfl) <| .s 7 rfl rfl rfl (by kernel_rfl) ?_
          refine .s 8 rfl rfl rfl (by kernel_rfl) <| .s 9 rfl rfl rfl (by kernel_rfl) <| .s 10 rfl rfl rfl (by kernel_rfl) <| .s 11 rfl rfl rfl (by kernel_rfl) <| .s 12 rfl rfl rfl (by kernel_rfl) <| .s 13 rfl rfl rfl (by kernel_rfl) ?_
          refine .t 14 rfl (.pickF rfl rfl) rfl rfl (by kernel_rfl) <| .t 15 rfl (.assign rfl) rfl rfl (by kernel_rfl) <| .done (by kernel_rfl) <| .blk_normal <| .go <| .region ?_
          refine .e (.add (c := 2) rfl rfl (by decide)) rfl rfl <| .e (.move rfl) rfl rfl <| .nil <| .again <| .seq <| .region ?_
          refine .e (.lss rfl rfl) rfl rfl <| .nil <| .go <| .seq <| .cond_true rfl <| .skip ?_
          refine .go <| .seq <| .block <| .seq <| .region <| .e (.move rfl) rfl rfl ?_
          refine .e (.assign rfl) rfl rfl <| .nil <| .go ?_
          refine .draw [(c2, _), (c1, _), (c3, _)] mixed (.cons (.there <| .here) (.cons (.there <| .there <| .here) (.cons .here .nil))) ?_
          refine .t 0 rfl (.move rfl) rfl rfl (by kernel_rfl) <| .t 1 rfl (.move rfl) rfl rfl (by kernel_rfl) <| .s 2 rfl rfl rfl (by kernel_rfl) <| .s 3 rfl rfl rfl (by kernel_rfl) <| .s 4 rfl rfl rfl (by kernel_rfl) <| .s 5 rfl rfl rfl (by kernel_rfl) ?_
          refine .s 6 rfl rfl rfl (by kernel_rfl) <| .s 7 rfl rfl rfl (by kernel_rfl) <| .s 8 rfl rfl rfl (by kernel_rfl) <| .s 9 rfl rfl rfl (by kernel_rfl) <| .s 10 rfl rfl rfl (by kernel_rfl) <| .s 11 rfl rfl rfl (by kernel_rfl) ?_
          refine .s 12 rfl rfl rfl (by kernel_rfl) <| .s 13 rfl rfl rfl (by kernel_rfl) <| .t 14 rfl (.pickF rfl rfl) rfl rfl (by kernel_rfl) <| .t 15 rfl (.assign rfl) rfl rfl (by kernel_rfl) <| .done (by kernel_rfl) <| .blk_normal ?_
          refine .go <| .region <| .e (.add (c := 3) rfl rfl (by decide)) rfl rfl <| .e (.move rfl) rfl rfl <| .nil <| .again ?_
          refine .seq <| .region <| .e (.lss rfl rfl) rfl rfl <| .nil <| .go <| .seq ?_
          refine .cond_false rfl <| .exit <| .exit <| .exit <| .blk_exit <| .go ?_
          refine .seq <| .region <| .e (.move rfl) rfl rfl <| .e (.assign rfl) rfl rfl <| .nil <| .go ?_
          refine .ret ?_
          refine .tail <| .tail <| .tail ?_
          refine Post.retE rfl rfl ?_
          refine congrArg Value.bool (Bool.eq_iff_iff.2 ?_)
          unfold room
          unfold A3.amt at *
          simp only [Bool.and_eq_true, decide_eq_true_eq, decide_eq_false_iff_not, Bool.false_eq_true, Bool.not_eq_true', Bool.not_eq_false', Bool.not_true, Bool.not_false, reduceCtorEq, true_iff, false_iff] at *
          omega
      · skip
        refine .s 2 rfl rfl rfl (by kernel_rfl) <| .s 3 rfl rfl rfl (by kernel_rfl) <| .s 4 rfl rfl rfl (by kernel_rfl) <| .s 5 rfl rfl rfl (by kernel_rfl) <| .s 6 rfl rfl rfl (by kernel_rfl) <| .s 7 rfl rfl rfl (by kernel_rfl) ?_
        refine .s 8 rfl rfl rfl (by kernel_rfl) <| .s 9 rfl rfl rfl (by kernel_rfl) <| .s 10 rfl rfl rfl (by kernel_rfl) <| .s 11 rfl rfl rfl (by kernel_rfl) <| .s 12 rfl rfl rfl (by kernel_rfl) <| .s 13 rfl rfl rfl (by kernel_rfl) ?_
        refine .t 14 rfl (.pickF rfl rfl) rfl rfl (by kernel_rfl) <| .t 15 rfl (.assign rfl) rfl rfl (by kernel_rfl) <| .done (by kernel_rfl) <| .blk_normal <| .go <| .region ?_
        refine .e (.add (c := 1) rfl rfl (by decide)) rfl rfl <| .e (.move rfl) rfl rfl <| .nil <| .again <| .seq <| .region ?_
        refine .e (.lss rfl rfl) rfl rfl <| .nil <| .go <| .seq <| .cond_true rfl <| .skip ?_
        refine .go <| .seq <| .block <| .seq <| .region <| .e (.move rfl) rfl rfl ?_
        refine .e (.assign rfl) rfl rfl <| .nil <| .go ?_
        refine .draw [(c2, _), (c1, _), (c3, _)] mixed (.cons (.there <| .here) (.cons (.there <| .there <| .here) (.cons .here .nil))) ?_
        refine .t 0 rfl (.move rfl) rfl rfl (by kernel_rfl) <| .t 1 rfl (.move rfl) rfl rfl (by kernel_rfl) <| .s 2 rfl rfl rfl (by kernel_rfl) <| .s 3 rfl rfl rfl (by kernel_rfl) <| .s 4 rfl rfl rfl (by kernel_rfl) <| .s 5 rfl rfl rfl (by kernel_rfl) ?_
        refine .s 6 rfl rfl rfl (by kernel_rfl) <| .s 7 rfl rfl rfl (by kernel_rfl) <| .s 8 rfl rfl rfl (by kernel_rfl) <| .s 9 rfl rfl rfl (by kernel_rfl) <| .s 10 rfl rfl rfl (by kernel_rfl) <| .s 11 rfl rfl rfl (by kernel_rfl) ?_
        refine .s 12 rfl rfl rfl (by kernel_rfl) <| .s 13 rfl rfl rfl (by kernel_rfl) <| .t 14 rfl (.pickF rfl rfl) rfl rfl (by kernel_rfl) <| .t 15 rfl (.assign rfl) rfl rfl (by kernel_rfl) <| .done (by kernel_rfl) <| .blk_normal ?_
        refine .go <| .region <| .e (.add (c := 2) rfl rfl (by decide)) rfl rfl <| .e (.move rfl) rfl rfl <| .nil <| .again ?_
        refine .seq <| .region <| .e (.lss rfl rfl) rfl rfl <| .nil <| .go <| .seq ?_
        refine .cond_true rfl <| .skip <| .go <| .seq <| .block <| .seq ?_
        refine .region <| .e (.move rfl) rfl rfl <| .e (.assign rfl) rfl rfl <| .nil <| .go ?_
        refine .draw [(c2, _), (c1, _), (c3, _)] mixed (.cons (.there <| .here) (.cons (.there <| .there <| .here) (.cons .here .nil))) ?_
        refine .t 0 rfl (.move rfl) rfl rfl (by kernel_rfl) <| .t 1 rfl (.move rfl) rfl rfl (by kernel_rfl) <| .s 2 rfl rfl rfl (by kernel_rfl) <| .s 3 rfl rfl rfl (by kernel_rfl) <| .s 4 rfl rfl rfl (by kernel_rfl) <| .s 5 rfl rfl rfl (by kernel_rfl) ?_
        refine .s 6 rfl rfl rfl (by kernel_rfl) <| .s 7 rfl rfl rfl (by kernel_rfl) <| .s 8 rfl rfl rfl (by kernel_rfl) <| .s 9 rfl rfl rfl (by kernel_rfl) <| .s 10 rfl rfl rfl (by kernel_rfl) <| .s 11 rfl rfl rfl (by kernel_rfl) ?_
        refine .s 12 rfl rfl rfl (by kernel_rfl) <| .s 13 rfl rfl rfl (by kernel_rfl) <| .t 14 rfl (.pickF rfl rfl) rfl rfl (by kernel_rfl) <| .t 15 rfl (.assign rfl) rfl rfl (by kernel_rfl) <| .done (by kernel_rfl) <| .blk_normal ?_
        refine .go <| .region <| .e (.add (c := 3) rfl rfl (by decide)) rfl rfl <| .e (.move rfl) rfl rfl <| .nil <| .again ?_
        refine .seq <| .region <| .e (.lss rfl rfl) rfl rfl <| .nil <| .go <| .seq ?_
        refine .cond_false rfl <| .exit <| .exit <| .exit <| .blk_exit <| .go ?_
        refine .seq <| .region <| .e (.move rfl) rfl rfl <| .e (.assign rfl) rfl rfl <| .nil <| .go ?_
        refine .ret ?_
        refine .tail <| .tail <| .tail ?_
        refine Post.retE rfl rfl ?_
        refine congrArg Value.bool (Bool.eq_iff_iff.2 ?_)
        unfold room
        unfold A3.amt at *
        simp only [Bool.and_eq_true, decide_eq_true_eq, decide_eq_false_iff_not, Bool.false_eq_true, Bool.not_eq_true', Bool.not_eq_false', Bool.not_true, Bool.not_false, reduceCtorEq, true_iff, false_iff] at *
        omega
    · skip
      refine .off rfl rfl <| .off rfl rfl <| .e (.pickF rfl rfl) rfl rfl <| .e (.assign rfl) rfl rfl <| .nil <| .go ?_
      refine .seq <| .seq <| .region <| .e (.move rfl) rfl rfl <| .nil <| .go ?_
      refine .block <| .unroll 3 <| .seq <| .region <| .e (.lss rfl rfl) rfl rfl <| .nil ?_
      refine .go <| .seq <| .cond_true rfl <| .skip <| .go <| .seq ?_
      refine .block <| .seq <| .region <| .e (.move rfl) rfl rfl <| .e (.assign rfl) rfl rfl <| .nil ?_
      refine .go ?_
      refine .draw [(c2, _), (c1, _), (c3, _)] mixed (.cons (.there <| .here) (.cons (.there <| .there <| .here) (.cons .here .nil))) ?_
      refine .t 0 rfl (.move rfl) rfl rfl (by kernel_rfl) <| .t 1 rfl (.move rfl) rfl rfl (by kernel_rfl) <| .s 2 rfl rfl rfl (by kernel_rfl) <| .s 3 rfl rfl rfl (by kernel_rfl) <| .s 4 rfl rfl rfl (by kernel_rfl) <| .s 5 rfl rfl rfl (by kernel_rfl) ?_
      refine .s 6 rfl rfl rfl (by kernel_rfl) <| .s 7 rfl rfl rfl (by kernel_rfl) <| .s 8 rfl rfl rfl (by kernel_rfl) <| .s 9 rfl rfl rfl (by kernel_rfl) <| .s 10 rfl rfl rfl (by kernel_rfl) <| .s 11 rfl rfl rfl (by kernel_rfl) ?_
      refine .s 12 rfl rfl rfl (by kernel_rfl) <| .s 13 rfl rfl rfl (by kernel_rfl) <| .t 14 rfl (.pickF rfl rfl) rfl rfl (by kernel_rfl) <| .t 15 rfl (.assign rfl) rfl rfl (by kernel_rfl) <| .done (by kernel_rfl) <| .blk_normal ?_
      refine .go <| .region <| .e (.add (c := 1) rfl rfl (by decide)) rfl rfl <| .e (.move rfl) rfl rfl <| .nil <| .again ?_
      refine .seq <| .region <| .e (.lss rfl rfl) rfl rfl <| .nil <| .go <| .seq ?_
      refine .cond_true rfl <| .skip <| .go <| .seq <| .block <| .seq ?_
      refine .region <| .e (.move rfl) rfl rfl <| .e (.assign rfl) rfl rfl <| .nil <| .go ?_
      refine .draw [(c2, _), (c1, _), (c3, _)] mixed (.cons (.there <| .here) (.cons (.there <| .there <| .here) (.cons .here .nil))) ?_
      refine .t 0 rfl (.move rfl) rfl rfl (by kernel_rfl) <| .t 1 rfl (.move rfl) rfl rfl (by kernel_rfl) <| .s 2 rfl rfl rfl (by kernel_rfl) <| .s 3 rfl rfl rfl (by kernel_rfl) <| .s 4 rfl rfl rfl (by kernel_rfl) <| .s 5 rfl rfl rfl (by kernel_rfl) ?_
      refine .s 6 rfl rfl rfl (by kernel_rfl) <| .s 7 rfl rfl rfl (by kernel_rfl) <| .s 8 rfl rfl rfl (by kernel_rfl) <| .s 9 rfl rfl rfl (by kernel_rfl) <| .s 10 rfl rfl rfl (by kernel_rfl) <| .s 11 rfl rfl rfl (by kernel_rfl) ?_
      refine .s 12 rfl rfl rfl (by kernel_rfl) <| .s 13 rfl rfl rfl (by kernel_rfl) <| .t 14 rfl (.pickF rfl rfl) rfl rfl (by kernel_rfl) <| .t 15 rfl (.assign rfl) rfl rfl (by kernel_rfl) <| .done (by kernel_rfl) <| .blk_normal ?_
      refine .go <| .region <| .e (.add (c := 2) rfl rfl (by decide)) rfl rfl <| .e (.move rfl) rfl rfl <| .nil <| .again ?_
      refine .seq <| .region <| .e (.lss rfl rfl) rfl rfl <| .nil <| .go <| .seq ?_
      refine .cond_true rfl <| .skip <| .go <| .seq <| .block <| .seq ?_
      refine .region <| .e (.move rfl) rfl rfl <| .e (.assign rfl) rfl rfl <| .nil <| .go ?_
      refine .draw [(c2, _), (c1, _), (c3, _)] mixed (.cons (.there <| .here) (.cons (.there <| .there <| .here) (.cons .here .nil))) ?_
      refine .t 0 rfl (.move rfl) rfl rfl (by kernel_rfl) <| .t 1 rfl (.move rfl) rfl rfl (by kernel_rfl) <| .s 2 rfl rfl rfl (by kernel_rfl) <| .s 3 rfl rfl rfl (by kernel_rfl) <| .s 4 rfl rfl rfl (by kernel_rfl) <| .s 5 rfl rfl rfl (by kernel_rfl) ?_
      refine .s 6 rfl rfl rfl (by kernel_rfl) <| .s 7 rfl rfl rfl (by kernel_rfl) <| .s 8 rfl rfl rfl (by kernel_rfl) <| .s 9 rfl rfl rfl (by kernel_rfl) <| .s 10 rfl rfl rfl (by kernel_rfl) <| .s 11 rfl rfl rfl (by kernel_rfl) ?_
      refine .s 12 rfl rfl rfl (by kernel_rfl) <| .s 13 rfl rfl rfl (by kernel_rfl) <| .t 14 rfl (.pickF rfl rfl) rfl rfl (by kernel_rfl) <| .t 15 rfl (.assign rfl) rfl rfl (by kernel_rfl) <| .done (by kernel_rfl) <| .blk_normal ?_
      refine .go <| .region <| .e (.add (c := 3) rfl rfl (by decide)) rfl rfl <| .e (.move rfl) rfl rfl <| .nil <| .again ?_
      refine .seq <| .region <| .e (.lss rfl rfl) rfl rfl <| .nil <| .go <| .seq ?_
      refine .cond_false rfl <| .exit <| .exit <| .exit <| .blk_exit <| .go ?_
      refine .seq <| .region <| .e (.move rfl) rfl rfl <| .e (.assign rfl) rfl rfl <| .nil <| .go ?_
      refine .ret ?_
      refine .tail <| .tail <| .tail ?_
      refine Post.retE rfl rfl ?_
      refine congrArg Value.bool (Bool.eq_iff_iff.2 ?_)
      unfold room
      unfold A3.amt at *
      simp only [Bool.and_eq_true, decide_eq_true_eq, decide_eq_false_iff_not, Bool.false_eq_true, Bool.not_eq_true', Bool.not_eq_false', Bool.not_true, Bool.not_false, reduceCtorEq, true_iff, false_iff] at *
      omega
  · skip
    refine .off rfl rfl <| .off rfl rfl <| .e (.pickF rfl rfl) rfl rfl <| .e (.move rfl) rfl rfl <| .off rfl rfl <| .off rfl rfl ?_
    refine .e (.pickF rfl rfl) rfl rfl <| .e (.assign rfl) rfl rfl <| .nil <| .go <| .seq <| .seq ?_
    refine .region <| .e (.move rfl) rfl rfl <| .nil <| .go <| .block <| .unroll 3 ?_
    refine .seq <| .region <| .e (.lss rfl rfl) rfl rfl <| .nil <| .go <| .seq ?_
    refine .cond_true rfl <| .skip <| .go <| .seq <| .block <| .seq ?_
    refine .region <| .e (.move rfl) rfl rfl <| .e (.assign rfl) rfl rfl <| .nil <| .go ?_
    refine .draw [(c2, _), (c1, _), (c3, _)] mixed (.cons (.there <| .here) (.cons (.there <| .there <| .here) (.cons .here .nil))) ?_
    refine .t 0 rfl (.move rfl) rfl rfl (by kernel_rfl) <| .t 1 rfl (.move rfl) rfl rfl (by kernel_rfl) <| .s 2 rfl rfl rfl (by kernel_rfl) <| .s 3 rfl rfl rfl (by kernel_rfl) <| .s 4 rfl rfl rfl (by kernel_rfl) <| .s 5 rfl rfl rfl (by kernel_rfl) ?_
    refine .s 6 rfl rfl rfl (by kernel_rfl) <| .s 7 rfl rfl rfl (by kernel_rfl) <| .s 8 rfl rfl rfl (by kernel_rfl) <| .s 9 rfl rfl rfl (by kernel_rfl) <| .s 10 rfl rfl rfl (by kernel_rfl) <| .s 11 rfl rfl rfl (by kernel_rfl) ?_
    refine .s 12 rfl rfl rfl (by kernel_rfl) <| .s 13 rfl rfl rfl (by kernel_rfl) <| .t 14 rfl (.pickF rfl rfl) rfl rfl (by kernel_rfl) <| .t 15 rfl (.assign rfl) rfl rfl (by kernel_rfl) <| .done (by kernel_rfl) <| .blk_normal ?_
    refine .go <| .region <| .e (.add (c := 1) rfl rfl (by decide)) rfl rfl <| .e (.move rfl) rfl rfl <| .nil <| .again ?_
    refine .seq <| .region <| .e (.lss rfl rfl) rfl rfl <| .nil <| .go <| .seq ?_
    refine .cond_true rfl <| .skip <| .go <| .seq <| .block <| .seq ?_
    refine .region <| .e (.move rfl) rfl rfl <| .e (.assign rfl) rfl rfl <| .nil <| .go ?_
    refine .draw [(c2, _), (c1, _), (c3, _)] mixed (.cons (.there <| .here) (.cons (.there <| .there <| .here) (.cons .here .nil))) ?_
    refine .t 0 rfl (.move rfl) rfl rfl (by kernel_rfl) <| .t 1 rfl (.move rfl) rfl rfl (by kernel_rfl) <| .s 2 rfl rfl rfl (by kernel_rfl) <| .s 3 rfl rfl rfl (by kernel_rfl) <| .s 4 rfl rfl rfl (by kernel_rfl) <| .s 5 rfl rfl rfl (by kernel_rfl) ?_
    refine .s 6 rfl rfl rfl (by kernel_rfl) <| .s 7 rfl rfl rfl (by kernel_rfl) <| .s 8 rfl rfl rfl (by kernel_rfl) <| .s 9 rfl rfl rfl (by kernel_rfl) <| .s 10 rfl rfl rfl (by kernel_rfl) <| .s 11 rfl rfl rfl (by kernel_rfl) ?_
    refine .s 12 rfl rfl rfl (by kernel_rfl) <| .s 13 rfl rfl rfl (by kernel_rfl) <| .t 14 rfl (.pickF rfl rfl) rfl rfl (by kernel_rfl) <| .t 15 rfl (.assign rfl) rfl rfl (by kernel_rfl) <| .done (by kernel_rfl) <| .blk_normal ?_
    refine .go <| .region <| .e (.add (c := 2) rfl rfl (by decide)) rfl rfl <| .e (.move rfl) rfl rfl <| .nil <| .again ?_
    refine .seq <| .region <| .e (.lss rfl rfl) rfl rfl <| .nil <| .go <| .seq ?_
    refine .cond_true rfl <| .skip <| .go <| .seq <| .block <| .seq ?_
    refine .region <| .e (.move rfl) rfl rfl <| .e (.assign rfl) rfl rfl <| .nil <| .go ?_
    refine .draw [(c2, _), (c1, _), (c3, _)] mixed (.cons (.there <| .here) (.cons (.there <| .there <| .here) (.cons .here .nil))) ?_
    refine .t 0 rfl (.move rfl) rfl rfl (by kernel_rfl) <| .t 1 rfl (.move rfl) rfl rfl (by kernel_rfl) <| .s 2 rfl rfl rfl (by kernel_rfl) <| .s 3 rfl rfl rfl (by kernel_rfl) <| .s 4 rfl rfl rfl (by kernel_rfl) <| .s 5 rfl rfl rfl (by kernel_rfl) ?_
    refine .s 6 rfl rfl rfl (by kernel_rfl) <| .s 7 rfl rfl rfl (by kernel_rfl) <| .s 8 rfl rfl rfl (by kernel_rfl) <| .s 9 rfl rfl rfl (by kernel_rfl) <| .s 10 rfl rfl rfl (by kernel_rfl) <| .s 11 rfl rfl rfl (by kernel_rfl) ?_
    refine .s 12 rfl rfl rfl (by kernel_rfl) <| .s 13 rfl rfl rfl (by kernel_rfl) <| .t 14 rfl (.pickF rfl rfl) rfl rfl (by kernel_rfl) <| .t 15 rfl (.assign rfl) rfl rfl (by kernel_rfl) <| .done (by kernel_rfl) <| .blk_normal ?_
    refine .go <| .region <| .e (.add (c := 3) rfl rfl (by decide)) rfl rfl <| .e (.move rfl) rfl rfl <| .nil <| .again ?_
    refine .seq <| .region <| .e (.lss rfl rfl) rfl rfl <| .nil <| .go <| .seq ?_
    refine .cond_false rfl <| .exit <| .exit <| .exit <| .blk_exit <| .go ?_
    refine .seq <| .region <| .e (.move rfl) rfl rfl <| .e (.assign rfl) rfl rfl <| .nil <| .go ?_
    refine .ret ?_
    refine .tail <| .tail <| .tail ?_
    refine Post.retE rfl rfl ?_
    refine congrArg Value.bool (Bool.eq_iff_iff.2 ?_)
    unfold room
    unfold A3.amt at *
    simp only [Bool.and_eq_true, decide_eq_true_eq, decide_eq_false_iff_not, Bool.false_eq_true, Bool.not_eq_true', Bool.not_eq_false', Bool.not_true, Bool.not_false, reduceCtorEq, true_iff, false_iff] at *
    omega

set_option maxHeartbeats 1000000 in
set_option maxRecDepth 20000 in
theorem rRoom_ok {I : Imm} {O : Own} {nc : List Value} {n : Nod} {u d : A3} (hn : NodR I nc n) :
    Pure Tryz.prog 162 [.agg ⟨nc⟩, .agg ⟨[.int .i64 u.a, .int .i64 u.b, .int .i64 u.c]⟩, .agg ⟨[.int .i64 d.a, .int .i64 d.b, .int .i64 d.c]⟩] I O (.bool (room n u d)) := by
  obtain ⟨nl, nt, rfl, hnl, hnt⟩ := hn.ex
  refine Go.Sy.Does.enter Tryz.func162 rfl Tryz.ntmps162 rfl ?_
  refine .seq <| .region <| .on rfl <| .box rfl rfl rfl fun c1 _ _ => .on rfl <| .box rfl rfl rfl fun c2 _ _ => .on rfl <| .box rfl rfl rfl fun c3 _ _ => .e (.assign rfl) rfl rfl ?_
  refine .nil <| .go <| .seq <| .seq <| .region <| .e (.fieldAddr fo45_1 rfl) rfl rfl ?_
  refine .e (.loadP ag39 sz39 rfl (.there <| .there <| .here) rfl) rfl rfl <| .on rfl <| .callP cal199 rfl rfl rfl (ramt_ok (l := n.has) (by omega)) <| .e (.not rfl) rfl rfl <| .e (.move rfl) rfl rfl ?_
  refine .split 13 rfl (fun h13 => ?_) (fun h13 => ?_)
  · skip
    refine .off rfl rfl <| .off rfl rfl <| .off rfl rfl <| .e (.pickT rfl rfl) rfl rfl <| .e (.move rfl) rfl rfl <| .off rfl rfl ?_
    refine .off rfl rfl <| .off rfl rfl <| .e (.pickT rfl rfl) rfl rfl <| .nil <| .go <| .cond_true rfl ?_
    refine .seq <| .region <| .e (.assign rfl) rfl rfl <| .nil <| .go <| .ret ?_
    refine .ret ?_
    refine .tail <| .tail <| .tail ?_
    refine Post.retE rfl rfl ?_
    refine congrArg Value.bool (Bool.eq_iff_iff.2 ?_)
    unfold room
    unfold A3.amt at *
    simp only [Bool.and_eq_true, decide_eq_true_eq, decide_eq_false_iff_not, Bool.false_eq_true, Bool.not_eq_true', Bool.not_eq_false', Bool.not_true, Bool.not_false, reduceCtorEq, true_iff, false_iff] at *
    omega
  · skip
    have a13 := A3.amt_out (l := n.has) (t := 1) (by simpa using h13)
    refine .e (.loadW ag39 sz39 rfl (.there <| .here) rfl) rfl rfl <| .on rfl <| .callP cal199 rfl rfl rfl (ramt_ok (l := u) (by omega)) <| .e (.not rfl) rfl rfl <| .e (.pickF rfl rfl) rfl rfl <| .e (.move rfl) rfl rfl ?_
    refine .split 18 rfl (fun h18 => ?_) (fun h18 => ?_)
    · skip
      refine .off rfl rfl <| .off rfl rfl <| .off rfl rfl <| .e (.pickT rfl rfl) rfl rfl <| .nil <| .go ?_
      refine .cond_true rfl <| .seq <| .region <| .e (.assign rfl) rfl rfl <| .nil <| .go ?_
      refine .ret <| .ret ?_
      refine .tail <| .tail <| .tail ?_
      refine Post.retE rfl rfl ?_
      refine congrArg Value.bool (Bool.eq_iff_iff.2 ?_)
      unfold room
      unfold A3.amt at *
      simp only [Bool.and_eq_true, decide_eq_true_eq, decide_eq_false_iff_not, Bool.false_eq_true, Bool.not_eq_true', Bool.not_eq_false', Bool.not_true, Bool.not_false, reduceCtorEq, true_iff, false_iff] at *
      omega
    · skip
      have a18 := A3.amt_out (l := u) (t := 32) (by simpa using h18)
      refine .e (.loadW ag39 sz39 rfl .here rfl) rfl rfl <| .on rfl <| .callP cal199 rfl rfl rfl (ramt_ok (l := d) (by omega)) <| .e (.not rfl) rfl rfl <| .e (.pickF rfl rfl) rfl rfl <| .nil <| .go ?_
      refine .split 22 rfl (fun h22 => ?_) (fun h22 => ?_)
      · skip
        refine .cond_true rfl <| .seq <| .region <| .e (.assign rfl) rfl rfl <| .nil <| .go ?_
        refine .ret <| .ret ?_
        refine .tail <| .tail <| .tail ?_
        refine Post.retE rfl rfl ?_
        refine congrArg Value.bool (Bool.eq_iff_iff.2 ?_)
        unfold room
        unfold A3.amt at *
        simp only [Bool.and_eq_true, decide_eq_true_eq, decide_eq_false_iff_not, Bool.false_eq_true, Bool.not_eq_true', Bool.not_eq_false', Bool.not_true, Bool.not_false, reduceCtorEq, true_iff, false_iff] at *
        omega
      · skip
        have a22 := A3.amt_out (l := d) (t := 1) (by simpa using h22)
        refine .cond_false rfl <| .skip <| .go <| .seq <| .seq <| .region ?_
        refine .e (.fieldAddr fo45_1 rfl) rfl rfl <| .e (.loadP ag39 sz39 rfl (.there <| .there <| .here) rfl) rfl rfl <| .e (.move rfl) rfl rfl <| .nil <| .go <| .block ?_
        refine .unroll 3 <| .seq <| .region <| .e (.lss rfl rfl) rfl rfl <| .nil <| .go ?_
        refine .seq <| .cond_true rfl <| .skip <| .go <| .seq <| .block ?_
        refine .seq <| .region <| .e (.move rfl) rfl rfl <| .e (.index (j := 0) ar39 ag2 rfl rfl rfl (by first | decide | omega) rfl) rfl rfl <| .e (.assign rfl) rfl rfl <| .e (.assign rfl) rfl rfl ?_
        refine .nil <| .go <| .seq ?_
        refine .draw [(c2, _), (c3, _)] mixed (.cons (.there <| .here) (.cons .here .nil)) ?_
        refine .t 0 rfl (.move rfl) rfl rfl (by kernel_rfl) <| .t 1 rfl (.indexAddrA (j := 0) ar39 rfl rfl rfl (by first | decide | omega)) rfl rfl (by kernel_rfl) <| .t 2 rfl (.load ag2 rfl .here rfl) rfl rfl (by kernel_rfl) <| .t 3 rfl (.move rfl) rfl rfl (by kernel_rfl) <| .t 4 rfl (.indexAddrA (j := 0) ar39 rfl rfl rfl (by first | decide | omega)) rfl rfl (by kernel_rfl) <| .t 5 rfl (.load ag2 rfl (.there <| .here) rfl) rfl rfl (by kernel_rfl) ?_
        refine .t 6 rfl (.add rfl rfl (IntWalk.i64_in _ (by omega))) rfl rfl (by kernel_rfl) <| .t 7 rfl (.move rfl) rfl rfl (by kernel_rfl) <| .t 8 rfl (.gtr rfl rfl) rfl rfl (by kernel_rfl) <| .done (by kernel_rfl) <| .go ?_
        refine .split 37 rfl (fun h37 => ?_) (fun h37 => ?_)
        · skip
          replace h37 := of_decide_eq_true h37
          refine .cond_true rfl <| .seq <| .region <| .e (.assign rfl) rfl rfl <| .nil <| .go ?_
          refine .ret <| .blk_ret <| .ret <| .ret <| .blk_ret <| .ret ?_
          refine .tail <| .tail <| .tail ?_
          refine Post.retE rfl rfl ?_
          refine congrArg Value.bool (Bool.eq_iff_iff.2 ?_)
          unfold room
          unfold A3.amt at *
          simp only [Bool.and_eq_true, decide_eq_true_eq, decide_eq_false_iff_not, Bool.false_eq_true, Bool.not_eq_true', Bool.not_eq_false', Bool.not_true, Bool.not_false, reduceCtorEq, true_iff, false_iff] at *
          omega
        · skip
          replace h37 := of_decide_eq_false h37
          refine .cond_false rfl <| .skip <| .blk_normal <| .go <| .region <| .e (.add (c := 1) rfl rfl (by decide)) rfl rfl ?_
          refine .e (.move rfl) rfl rfl <| .nil <| .again <| .seq <| .region <| .e (.lss rfl rfl) rfl rfl ?_
          refine .nil <| .go <| .seq <| .cond_true rfl <| .skip <| .go ?_
          refine .seq <| .block <| .seq <| .region <| .e (.move rfl) rfl rfl <| .e (.index (j := 1) ar39 ag2 rfl rfl rfl (by first | decide | omega) rfl) rfl rfl ?_
          refine .e (.assign rfl) rfl rfl <| .e (.assign rfl) rfl rfl <| .nil <| .go <| .seq ?_
          refine .draw [(c2, _), (c3, _)] mixed (.cons (.there <| .here) (.cons .here .nil)) ?_
          refine .t 0 rfl (.move rfl) rfl rfl (by kernel_rfl) <| .t 1 rfl (.indexAddrA (j := 1) ar39 rfl rfl rfl (by first | decide | omega)) rfl rfl (by kernel_rfl) <| .t 2 rfl (.load ag2 rfl .here rfl) rfl rfl (by kernel_rfl) <| .t 3 rfl (.move rfl) rfl rfl (by kernel_rfl) <| .t 4 rfl (.indexAddrA (j := 1) ar39 rfl rfl rfl (by first | decide | omega)) rfl rfl (by kernel_rfl) <| .t 5 rfl (.load ag2 rfl (.there <| .here) rfl) rfl rfl (by kernel_rfl) ?_
          refine .t 6 rfl (.add rfl rfl (IntWalk.i64_in _ (by omega))) rfl rfl (by kernel_rfl) <| .t 7 rfl (.move rfl) rfl rfl (by kernel_rfl) <| .t 8 rfl (.gtr rfl rfl) rfl rfl (by kernel_rfl) <| .done (by kernel_rfl) <| .go ?_
          refine .split 37 rfl (fun h37_2 => ?_) (fun h37_2 => ?_)
          · skip
            replace h37_2 := of_decide_eq_true h37_2
            refine .cond_true rfl <| .seq <| .region <| .e (.assign rfl) rfl rfl <| .nil <| .go ?_
            refine .ret <| .blk_ret <| .ret <| .ret <| .blk_ret <| .ret ?_
            refine .tail <| .tail <| .tail ?_
            refine Post.retE rfl rfl ?_
            refine congrArg Value.bool (Bool.eq_iff_iff.2 ?_)
            unfold room
            unfold A3.amt at *
            simp only [Bool.and_eq_true, decide_eq_true_eq, decide_eq_false_iff_not, Bool.false_eq_true, Bool.not_eq_true', Bool.not_eq_false', Bool.not_true, Bool.not_false, reduceCtorEq, true_iff, false_iff] at *
            omega
          · skip
            replace h37_2 := of_decide_eq_false h37_2
            refine .cond_false rfl <| .skip <| .blk_normal <| .go <| .region <| .e (.add (c := 2) rfl rfl (by decide)) rfl rfl ?_
            refine .e (.move rfl) rfl rfl <| .nil <| .again <| .seq <| .region <| .e (.lss rfl rfl) rfl rfl ?_
            refine .nil <| .go <| .seq <| .cond_true rfl <| .skip <| .go ?_
            refine .seq <| .block <| .seq <| .region <| .e (.move rfl) rfl rfl <| .e (.index (j := 2) ar39 ag2 rfl rfl rfl (by first | decide | omega) rfl) rfl rfl ?_
            refine .e (.assign rfl) rfl rfl <| .e (.assign rfl) rfl rfl <| .nil <| .go <| .seq ?_
            refine .draw [(c2, _), (c3, _)] mixed (.cons (.there <| .here) (.cons .here .nil)) ?_
            refine .t 0 rfl (.move rfl) rfl rfl (by kernel_rfl) <| .t 1 rfl (.indexAddrA (j := 2) ar39 rfl rfl rfl (by first | decide | omega)) rfl rfl (by kernel_rfl) <| .t 2 rfl (.load ag2 rfl .here rfl) rfl rfl (by kernel_rfl) <| .t 3 rfl (.move rfl) rfl rfl (by kernel_rfl) <| .t 4 rfl (.indexAddrA (j := 2) ar39 rfl rfl rfl (by first | decide | omega)) rfl rfl (by kernel_rfl) <| .t 5 rfl (.load ag2 rfl (.there <| .here) rfl) rfl rfl (by kernel_rfl) ?_
            refine .t 6 rfl (.add rfl rfl (IntWalk.i64_in _ (by omega))) rfl rfl (by kernel_rfl) <| .t 7 rfl (.move rfl) rfl rfl (by kernel_rfl) <| .t 8 rfl (.gtr rfl rfl) rfl rfl (by kernel_rfl) <| .done (by kernel_rfl) <| .go ?_
            refine .split 37 rfl (fun h37_3 => ?_) (fun h37_3 => ?_)
            · skip
              replace h37_3 := of_decide_eq_true h37_3
              refine .cond_true rfl <| .seq <| .region <| .e (.assign rfl) rfl rfl <| .nil <| .go ?_
              refine .ret <| .blk_ret <| .ret <| .ret <| .blk_ret <| .ret ?_
              refine .tail <| .tail <| .tail ?_
              refine Post.retE rfl rfl ?_
              refine congrArg Value.bool (Bool.eq_iff_iff.2 ?_)
              unfold room
              unfold A3.amt at *
              simp only [Bool.and_eq_true, decide_eq_true_eq, decide_eq_false_iff_not, Bool.false_eq_true, Bool.not_eq_true', Bool.not_eq_false', Bool.not_true, Bool.not_false, reduceCtorEq, true_iff, false_iff] at *
              omega
            · skip
              replace h37_3 := of_decide_eq_false h37_3
              refine .cond_false rfl <| .skip <| .blk_normal <| .go <| .region <| .e (.add (c := 3) rfl rfl (by decide)) rfl rfl ?_
              refine .e (.move rfl) rfl rfl <| .nil <| .again <| .seq <| .region <| .e (.lss rfl rfl) rfl rfl ?_
              refine .nil <| .go <| .seq <| .cond_false rfl <| .exit <| .exit ?_
              refine .exit <| .blk_exit <| .go <| .seq <| .region <| .e (.assign rfl) rfl rfl ?_
              refine .nil <| .go <| .ret ?_
              refine .tail <| .tail <| .tail ?_
              refine Post.retE rfl rfl ?_
              refine congrArg Value.bool (Bool.eq_iff_iff.2 ?_)
              unfold room
              unfold A3.amt at *
              simp only [Bool.and_eq_true, decide_eq_true_eq, decide_eq_false_iff_not, Bool.false_eq_true, Bool.not_eq_true', Bool.not_eq_false', Bool.not_true, Bool.not_false, reduceCtorEq, true_iff, false_iff] at *
              omega

theorem eqA3 {x y : A3} : EqOk Tryz.prog 39 (.agg ⟨[.int .i64 x.a, .int .i64 x.b, .int .i64 x.c]⟩) (.agg ⟨[.int .i64 y.a, .int .i64 y.b, .int .i64 y.c]⟩) (decide (x = y)) := by
  have e : decide (x = y) = (decide (x.a = y.a) && (decide (x.b = y.b) && decide (x.c = y.c))) := by cases x; cases y; simp
  rw [e]; exact .arr3 Tryz.underlying39 Tryz.underlying2 sz2 (by kernel_rfl)
theorem eqA3T {x : A3} : EqOk Tryz.prog 39 (.agg ⟨[.int .i64 x.a, .int .i64 x.b, .int .i64 x.c]⟩) (.agg ⟨[.int .i64 x.a, .int .i64 x.b, .int .i64 x.c]⟩) true := by
  have := @eqA3 x x; simpa using this

end Go.Proofs.YtmmokaockpghaaaGreatDoor
