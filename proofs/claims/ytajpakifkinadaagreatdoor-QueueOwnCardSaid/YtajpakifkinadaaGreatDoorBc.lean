/- Walks of functions over a symbolic memory, printed by a program of the session. -/
import Derived.Test.YtajpakifkinadaaGreatDoorBb
namespace Go.Proofs.YtajpakifkinadaaGreatDoor
open Go.Sy
set_option linter.unusedSimpArgs false
set_option linter.unusedVariables false

theorem eqPr {p q : Pr} : EqOk Tryz.prog 45 (.agg ⟨[.string p.key, .string p.value]⟩) (.agg ⟨[.string q.key, .string q.value]⟩) (decide (p = q)) := by
  have e : decide (p = q) = (decide (p.key = q.key) && (decide (p.value = q.value) && true)) := by
    cases p; cases q; simp
  rw [e]
  refine .struct Tryz.underlying45 (by kernel_rfl) (by kernel_rfl) ?_
  exact ⟨_, _, _, _, rfl, run_part ag9 rfl, run_part ag9 rfl, fun w => equalIn_str Tryz.underlying9, ⟨_, _, _, _, rfl, run_part ag9 rfl, run_part ag9 rfl, fun w => equalIn_str Tryz.underlying9, rfl, rfl⟩, rfl⟩
theorem any_take_succ {l : List Pr} {p : Pr} {j : Nat} (hj : j < l.length) : (l.take (j + 1)).any (fun q => decide (p = q)) = ((l.take j).any (fun q => decide (p = q)) || decide (p = l[j])) := by
  rw [List.take_succ_eq_append_getElem hj, List.any_append]; simp
theorem any_get {l : List Pr} {p : Pr} {j : Nat} (hj : j < l.length) (h : p = l[j]) : l.any (fun q => decide (p = q)) = true := List.any_eq_true.2 ⟨l[j], List.getElem_mem hj, by simp [h]⟩
theorem within_take {l o : List Pr} {k : Nat} (hk : k < l.length) (h : within (l.take k) o = true) (h2 : o.any (fun q => decide (l[k] = q)) = true) : within (l.take (k + 1)) o = true := by
  unfold within at *
  rw [List.take_succ_eq_append_getElem hk, List.all_append, h]; simpa using h2
theorem within_no {l o : List Pr} {k : Nat} (hk : k < l.length) (h2 : o.any (fun q => decide (l[k] = q)) = false) : within l o = false := by
  unfold within
  rw [Bool.eq_false_iff]
  intro h
  have := List.all_eq_true.1 h l[k] (List.getElem_mem hk)
  rw [h2] at this; cases this
theorem within_all {l o : List Pr} {k : Nat} (hk : l.length ≤ k) (h : within (l.take k) o = true) : within l o = true := by rwa [List.take_of_length_le hk] at h

set_option maxHeartbeats 1000000 in
set_option maxRecDepth 20000 in
theorem within_ok {I : Imm} {O : Own} {v u : Value} {l o : List Pr} (hl : PrsR I v l) (ho : PrsR I u o) :
    Pure Tryz.prog 116 [v, u] I O (.bool (within l o)) := by
  have hl0 := hl
  have ho0 := ho
  obtain ⟨la, lcap, rfl, hl1, hl2, -⟩ := hl
  obtain ⟨oa, ocap, rfl, ho1, ho2, -⟩ := ho
  refine Go.Sy.Does.enter Tryz.func116 rfl Tryz.ntmps116 rfl ?_
  refine .seq <| .region <| .e (.assign rfl) rfl rfl <| .nil <| .go <| .scope ?_
  refine .seq <| .label <| .go <| .seq <| .seq <| .region ?_
  refine .e (.move rfl) rfl rfl <| .e (.len sl30 rfl rfl) rfl rfl <| .e (.move rfl) rfl rfl <| .nil <| .go <| .block ?_
  refine .loopM [4, 6, 8, 11, 12, 13, 14, 15, 16, 17, 18, 19, 20, 21, 22, 23, 24, 25] (fun k => l.length - k) (fun k => k ≤ l.length ∧ within (l.take k) o = true) (fun k => [(11, .int .i64 k)]) (fun _ => _) (fun _ => _) (0) ⟨by omega, rfl⟩ ⟨rfl, trivial⟩ rfl rfl ?_
  intro k hk
  obtain ⟨hk, hw⟩ := hk
  refine .seq <| .region <| .e (.lss rfl rfl) rfl rfl <| .nil <| .go <| .seq ?_
  refine .split 12 rfl (fun h12 => ?_) (fun h12 => ?_)
  · skip
    replace h12 := of_decide_eq_true h12
    refine .cond_true rfl <| .skip <| .go <| .seq <| .block <| .seq ?_
    refine .region ?_
    obtain ⟨eb13, eo13, cs13, hd13, hat13, hr13⟩ := SlR.at_ hl0 (k := k) (by omega)
    cases hd13
    obtain ⟨rfl, -, -⟩ := hr13
    refine .e (.indexAddrL sl30 rfl rfl rfl (by omega)) rfl rfl <| .e (.loadIA ag45 sz45 rfl hat13 rfl) rfl rfl <| .on rfl <| .alloc zr45 rfl fun c1 _ _ => .on rfl <| .storeW sz45 rfl rfl rfl rfl rfl rfl .here <| .nil <| .go ?_
    refine .seq <| .seq <| .region <| .e (.move rfl) rfl rfl <| .e (.len sl30 rfl rfl) rfl rfl <| .e (.move rfl) rfl rfl ?_
    refine .nil <| .go <| .block ?_
    refine .loopM [8, 17, 18, 19, 20, 21, 22, 23, 24] (fun j => o.length - j) (fun j => j ≤ o.length ∧ (o.take j).any (fun q => decide (l[k] = q)) = false) (fun j => [(17, .int .i64 j)]) (fun _ => _) (fun _ => _) (0) ⟨by omega, rfl⟩ ⟨rfl, trivial⟩ rfl rfl ?_
    intro j hj
    obtain ⟨hj, hn⟩ := hj
    refine .seq <| .region <| .e (.lss rfl rfl) rfl rfl <| .nil <| .go <| .seq ?_
    refine .split 18 rfl (fun h18 => ?_) (fun h18 => ?_)
    · skip
      replace h18 := of_decide_eq_true h18
      refine .cond_true rfl <| .skip <| .go <| .seq <| .block <| .seq ?_
      refine .region ?_
      obtain ⟨eb19, eo19, cs19, hd19, hat19, hr19⟩ := SlR.at_ ho0 (k := j) (by omega)
      cases hd19
      obtain ⟨rfl, -, -⟩ := hr19
      refine .e (.indexAddrL sl30 rfl rfl rfl (by omega)) rfl rfl <| .e (.loadIA ag45 sz45 rfl hat19 rfl) rfl rfl <| .on rfl <| .alloc zr45 rfl fun c2 _ _ => .on rfl <| .storeW sz45 rfl rfl rfl rfl rfl rfl .here <| .nil <| .go ?_
      refine .seq <| .region <| .e (.loadW ag45 sz45 rfl (.there <| .here) rfl) rfl rfl <| .e (.loadW ag45 sz45 rfl .here rfl) rfl rfl <| .e (.eqv (eqPr (p := l[k]) (q := o[j])) rfl rfl) rfl rfl <| .nil ?_
      refine .go ?_
      refine .split 23 rfl (fun h23 => ?_) (fun h23 => ?_)
      · skip
        replace h23 := of_decide_eq_true h23
        refine .cond_true rfl <| .exit <| .blk_other rfl <| .exit <| .exit <| .blk_other rfl ?_
        refine .exit <| .blk_exit <| .go <| .region <| .e (.add rfl rfl (by first | exact wrap_succ (by omega) | exact IntWalk.i64_in _ (by omega) | exact rfl)) rfl rfl <| .e (.move rfl) rfl rfl ?_
        refine .nil ?_
        refine .tail <| .tail ?_
        exact .mid (k + 1) ⟨by omega, by omega, within_take (by omega) hw (any_get (by omega) h23)⟩ ⟨rfl, trivial⟩ rfl rfl (.pre 11 rfl (.app rfl (.del rfl (.pre 8 rfl (.app rfl .base)))))
      · skip
        replace h23 := of_decide_eq_false h23
        refine .cond_false rfl <| .skip <| .blk_normal <| .go <| .region <| .e (.add rfl rfl (by first | exact wrap_succ (by omega) | exact IntWalk.i64_in _ (by omega) | exact rfl)) rfl rfl ?_
        refine .e (.move rfl) rfl rfl <| .nil ?_
        refine .tail ?_
        exact .mid (j + 1) ⟨by omega, by omega, by rw [any_take_succ (by omega), hn]; simpa using h23⟩ ⟨rfl, trivial⟩ rfl rfl (.pre 11 rfl (.app rfl .base))
    · skip
      replace h18 := of_decide_eq_false h18
      refine .cond_false rfl <| .exit <| .exit <| .exit <| .blk_exit <| .go ?_
      refine .seq <| .region <| .e (.assign rfl) rfl rfl <| .nil <| .go <| .ret ?_
      refine .blk_ret <| .ret <| .ret <| .blk_ret <| .ret <| .sc_ret ?_
      refine .tail ?_
      refine Post.retE rfl rfl ?_
      exact congrArg Value.bool (within_no (k := k) (by omega) (by rwa [List.take_of_length_le (by omega)] at hn)).symm
  · skip
    replace h12 := of_decide_eq_false h12
    refine .cond_false rfl <| .exit <| .exit <| .exit <| .blk_exit <| .go ?_
    refine .seq <| .region <| .e (.assign rfl) rfl rfl <| .nil <| .go <| .ret ?_
    refine .sc_ret ?_
    refine Post.retE rfl rfl ?_
    exact congrArg Value.bool (within_all (by omega) hw).symm

def suits (t : Tsk) (n : Nod) : Bool := within t.wants n.labels && within n.taints t.bears

set_option maxHeartbeats 1000000 in
set_option maxRecDepth 20000 in
theorem Suits_ok {I : Imm} {O : Own} {tc nc : List Value} {t : Tsk} {n : Nod} (ht : TskR I tc t) (hn : NodR I nc n) :
    Pure Tryz.prog 86 [.agg ⟨tc⟩, .agg ⟨nc⟩] I O (.bool (suits t n)) := by
  obtain ⟨tw, tb, rfl, htw, htb⟩ := ht.ex
  obtain ⟨nl, nt, rfl, hnl, hnt⟩ := hn.ex
  refine Go.Sy.Does.enter Tryz.func86 rfl Tryz.ntmps86 rfl ?_
  refine .seq <| .region <| .on rfl <| .box rfl rfl rfl fun c1 _ _ => .on rfl <| .box rfl rfl rfl fun c2 _ _ => .e (.assign rfl) rfl rfl <| .nil ?_
  refine .go <| .seq <| .region <| .e (.fieldAddr fo34_2 rfl) rfl rfl <| .e (.load ag30 rfl (.there <| .here) rfl) rfl rfl <| .e (.fieldAddr fo32_2 rfl) rfl rfl ?_
  refine .e (.load ag30 rfl .here rfl) rfl rfl <| .on rfl <| .callP cal116 rfl rfl rfl (within_ok htw hnl) <| .e (.move rfl) rfl rfl ?_
  refine .split 10 rfl (fun h10 => ?_) (fun h10 => ?_)
  · skip
    refine .e (.fieldAddr fo32_3 rfl) rfl rfl <| .e (.load ag30 rfl .here rfl) rfl rfl <| .e (.fieldAddr fo34_3 rfl) rfl rfl <| .e (.load ag30 rfl (.there <| .here) rfl) rfl rfl <| .on rfl <| .callP cal116 rfl rfl rfl (within_ok hnt htb) <| .e (.pickT rfl rfl) rfl rfl ?_
    refine .e (.assign rfl) rfl rfl <| .nil <| .go <| .ret ?_
    refine .tail <| .tail ?_
    refine Post.retE rfl rfl ?_
    simp_all [suits]
  · skip
    refine .off rfl rfl <| .off rfl rfl <| .off rfl rfl <| .off rfl rfl <| .off rfl rfl <| .e (.pickF rfl rfl) rfl rfl ?_
    refine .e (.assign rfl) rfl rfl <| .nil <| .go <| .ret ?_
    refine .tail <| .tail ?_
    refine Post.retE rfl rfl ?_
    simp_all [suits]

def room (n : Nod) (u d : A3) : Bool := n.has.amt 1 && u.amt 32 && d.amt 1 && decide (u.a + d.a ≤ n.has.a ∧ u.b + d.b ≤ n.has.b ∧ u.c + d.c ≤ n.has.c)

set_option maxHeartbeats 1000000 in
set_option maxRecDepth 20000 in
theorem Room_ok {I : Imm} {O : Own} {nc : List Value} {n : Nod} {u d : A3} (hn : NodR I nc n) :
    Pure Tryz.prog 85 [.agg ⟨nc⟩, .agg ⟨[.int .i64 u.a, .int .i64 u.b, .int .i64 u.c]⟩, .agg ⟨[.int .i64 d.a, .int .i64 d.b, .int .i64 d.c]⟩] I O (.bool (room n u d)) := by
  obtain ⟨nl, nt, rfl, hnl, hnt⟩ := hn.ex
  refine Go.Sy.Does.enter Tryz.func85 rfl Tryz.ntmps85 rfl ?_
  refine .seq <| .region <| .on rfl <| .box rfl rfl rfl fun c1 _ _ => .on rfl <| .box rfl rfl rfl fun c2 _ _ => .on rfl <| .box rfl rfl rfl fun c3 _ _ => .e (.assign rfl) rfl rfl ?_
  refine .nil <| .go <| .seq <| .region <| .e (.fieldAddr fo32_1 rfl) rfl rfl <| .e (.loadP ag29 sz29 rfl (.there <| .there <| .here) rfl) rfl rfl ?_
  refine .on rfl <| .callP cal78 rfl rfl rfl (amt_ok (l := n.has) (by omega)) <| .e (.move rfl) rfl rfl ?_
  refine .split 12 rfl (fun h12 => ?_) (fun h12 => ?_)
  · skip
    have a12 := A3.amt_out h12
    refine .e (.loadW ag29 sz29 rfl (.there <| .here) rfl) rfl rfl <| .on rfl <| .callP cal78 rfl rfl rfl (amt_ok (l := u) (by omega)) <| .e (.pickT rfl rfl) rfl rfl <| .e (.move rfl) rfl rfl ?_
    refine .split 16 rfl (fun h16 => ?_) (fun h16 => ?_)
    · skip
      have a16 := A3.amt_out h16
      refine .e (.loadW ag29 sz29 rfl .here rfl) rfl rfl <| .on rfl <| .callP cal78 rfl rfl rfl (amt_ok (l := d) (by omega)) <| .e (.pickT rfl rfl) rfl rfl <| .e (.assign rfl) rfl rfl <| .nil <| .go ?_
      refine .seq <| .seq <| .region <| .e (.move rfl) rfl rfl <| .nil <| .go ?_
      refine .block <| .unroll 3 <| .seq <| .region <| .e (.lss rfl rfl) rfl rfl <| .nil ?_
      refine .go <| .seq <| .cond_true rfl <| .skip <| .go <| .seq ?_
      refine .block <| .seq <| .region <| .e (.move rfl) rfl rfl <| .e (.assign rfl) rfl rfl <| .nil ?_
      refine .go ?_
      refine .draw [(c2, _), (c1, _), (c3, _)] mixed (.cons (.there <| .here) (.cons (.there <| .there <| .here) (.cons .here .nil))) ?_
      refine .t 0 rfl (.move rfl) rfl rfl (by kernel_rfl) <| .t 1 rfl (.move rfl) rfl rfl (by kernel_rfl) ?_
      refine .split 24 rfl (fun h24 => ?_) (fun h24 => ?_)
      · skip
        first | (have a24 := A3.amt_out h24) | skip
        refine .t 2 rfl (.move rfl) rfl rfl (by kernel_rfl) <| .t 3 rfl (.indexAddrA (j := 0) ar29 rfl rfl rfl (by first | decide | omega)) rfl rfl (by kernel_rfl) <| .t 4 rfl (.load ag2 rfl .here rfl) rfl rfl (by kernel_rfl) <| .t 5 rfl (.move rfl) rfl rfl (by kernel_rfl) <| .t 6 rfl (.fieldAddr fo32_1 rfl) rfl rfl (by kernel_rfl) <| .t 7 rfl (.indexAddrA (j := 0) ar29 rfl rfl rfl (by first | decide | omega)) rfl rfl (by kernel_rfl) ?_
        refine .t 8 rfl (.load ag2 rfl (.there <| .here) rfl) rfl rfl (by kernel_rfl) <| .t 9 rfl (.move rfl) rfl rfl (by kernel_rfl) <| .t 10 rfl (.indexAddrA (j := 0) ar29 rfl rfl rfl (by first | decide | omega)) rfl rfl (by kernel_rfl) <| .t 11 rfl (.load ag2 rfl (.there <| .there <| .here) rfl) rfl rfl (by kernel_rfl) <| .t 12 rfl (.sub rfl rfl (IntWalk.i64_in _ (by omega))) rfl rfl (by kernel_rfl) <| .t 13 rfl (.leq rfl rfl) rfl rfl (by kernel_rfl) ?_
        refine .t 14 rfl (.pickT rfl rfl) rfl rfl (by kernel_rfl) <| .t 15 rfl (.assign rfl) rfl rfl (by kernel_rfl) <| .done (by kernel_rfl) <| .blk_normal <| .go <| .region ?_
        refine .e (.add (c := 1) rfl rfl (by decide)) rfl rfl <| .e (.move rfl) rfl rfl <| .nil <| .again <| .seq <| .region ?_
        refine .e (.lss rfl rfl) rfl rfl <| .nil <| .go <| .seq <| .cond_true rfl <| .skip ?_
        refine .go <| .seq <| .block <| .seq <| .region <| .e (.move rfl) rfl rfl ?_
        refine .e (.assign rfl) rfl rfl <| .nil <| .go ?_
        refine .draw [(c2, _), (c1, _), (c3, _)] mixed (.cons (.there <| .here) (.cons (.there <| .there <| .here) (.cons .here .nil))) ?_
        refine .t 0 rfl (.move rfl) rfl rfl (by kernel_rfl) <| .t 1 rfl (.move rfl) rfl rfl (by kernel_rfl) ?_
        refine .split 24 rfl (fun h24_2 => ?_) (fun h24_2 => ?_)
        · skip
          replace h24_2 := of_decide_eq_true h24_2
          first | (have a24 := A3.amt_out h24) | skip
          refine .t 2 rfl (.move rfl) rfl rfl (by kernel_rfl) <| .t 3 rfl (.indexAddrA (j := 1) ar29 rfl rfl rfl (by first | decide | omega)) rfl rfl (by kernel_rfl) <| .t 4 rfl (.load ag2 rfl .here rfl) rfl rfl (by kernel_rfl) <| .t 5 rfl (.move rfl) rfl rfl (by kernel_rfl) <| .t 6 rfl (.fieldAddr fo32_1 rfl) rfl rfl (by kernel_rfl) <| .t 7 rfl (.indexAddrA (j := 1) ar29 rfl rfl rfl (by first | decide | omega)) rfl rfl (by kernel_rfl) ?_
          refine .t 8 rfl (.load ag2 rfl (.there <| .here) rfl) rfl rfl (by kernel_rfl) <| .t 9 rfl (.move rfl) rfl rfl (by kernel_rfl) <| .t 10 rfl (.indexAddrA (j := 1) ar29 rfl rfl rfl (by first | decide | omega)) rfl rfl (by kernel_rfl) <| .t 11 rfl (.load ag2 rfl (.there <| .there <| .here) rfl) rfl rfl (by kernel_rfl) <| .t 12 rfl (.sub rfl rfl (IntWalk.i64_in _ (by omega))) rfl rfl (by kernel_rfl) <| .t 13 rfl (.leq rfl rfl) rfl rfl (by kernel_rfl) ?_
          refine .t 14 rfl (.pickT rfl rfl) rfl rfl (by kernel_rfl) <| .t 15 rfl (.assign rfl) rfl rfl (by kernel_rfl) <| .done (by kernel_rfl) <| .blk_normal <| .go <| .region ?_
          refine .e (.add (c := 2) rfl rfl (by decide)) rfl rfl <| .e (.move rfl) rfl rfl <| .nil <| .again <| .seq <| .region ?_
          refine .e (.lss rfl rfl) rfl rfl <| .nil <| .go <| .seq <| .cond_true rfl <| .skip ?_
          refine .go <| .seq <| .block <| .seq <| .region <| .e (.move rfl) rfl rfl ?_
          refine .e (.assign rfl) rfl rfl <| .nil <| .go ?_
          refine .draw [(c2, _), (c1, _), (c3, _)] mixed (.cons (.there <| .here) (.cons (.there <| .there <| .here) (.cons .here .nil))) ?_
          refine .t 0 rfl (.move rfl) rfl rfl (by kernel_rfl) <| .t 1 rfl (.move rfl) rfl rfl (by kernel_rfl) ?_
          refine .split 24 rfl (fun h24_3 => ?_) (fun h24_3 => ?_)
          · skip
            replace h24_3 := of_decide_eq_true h24_3
            first | (have a24 := A3.amt_out h24) | skip
            refine .t 2 rfl (.move rfl) rfl rfl (by kernel_rfl) <| .t 3 rfl (.indexAddrA (j := 2) ar29 rfl rfl rfl (by first | decide | omega)) rfl rfl (by kernel_rfl) <| .t 4 rfl (.load ag2 rfl .here rfl) rfl rfl (by kernel_rfl) <| .t 5 rfl (.move rfl) rfl rfl (by kernel_rfl) <| .t 6 rfl (.fieldAddr fo32_1 rfl) rfl rfl (by kernel_rfl) <| .t 7 rfl (.indexAddrA (j := 2) ar29 rfl rfl rfl (by first | decide | omega)) rfl rfl (by kernel_rfl) ?_
            refine .t 8 rfl (.load ag2 rfl (.there <| .here) rfl) rfl rfl (by kernel_rfl) <| .t 9 rfl (.move rfl) rfl rfl (by kernel_rfl) <| .t 10 rfl (.indexAddrA (j := 2) ar29 rfl rfl rfl (by first | decide | omega)) rfl rfl (by kernel_rfl) <| .t 11 rfl (.load ag2 rfl (.there <| .there <| .here) rfl) rfl rfl (by kernel_rfl) <| .t 12 rfl (.sub rfl rfl (IntWalk.i64_in _ (by omega))) rfl rfl (by kernel_rfl) <| .t 13 rfl (.leq rfl rfl) rfl rfl (by kernel_rfl) ?_
            refine .t 14 rfl (.pickT rfl rfl) rfl rfl (by kernel_rfl) <| .t 15 rfl (.assign rfl) rfl rfl (by kernel_rfl) <| .done (by kernel_rfl) <| .blk_normal <| .go <| .region ?_
            refine .e (.add (c := 3) rfl rfl (by decide)) rfl rfl <| .e (.move rfl) rfl rfl <| .nil <| .again <| .seq <| .region ?_
            refine .e (.lss rfl rfl) rfl rfl <| .nil <| .go <| .seq <| .cond_false rfl <| .exit ?_
            refine .exit <| .exit <| .blk_exit <| .go <| .seq <| .region ?_
            refine .e (.move rfl) rfl rfl <| .e (.assign rfl) rfl rfl <| .nil <| .go <| .ret ?_
            refine .tail <| .tail <| .tail ?_
            refine Post.retE rfl rfl ?_
            refine congrArg Value.bool (Bool.eq_iff_iff.2 ?_)
            unfold room
            unfold A3.amt at *
            simp only [Bool.and_eq_true, decide_eq_true_eq, decide_eq_false_iff_not, Bool.false_eq_true, Bool.not_eq_true', Bool.not_eq_false', Bool.not_true, Bool.not_false, reduceCtorEq, true_iff, false_iff] at *
            omega
          · skip
            replace h24_3 := of_decide_eq_false h24_3
            refine .s 2 rfl rfl rfl (by kernel_rfl) <| .s 3 rfl rfl rfl (by kernel_rfl) <| .s 4 rfl rfl rfl (by kernel_rfl) <| .s 5 rfl rfl rfl (by kernel_rfl) <| .s 6 rfl rfl rfl (by kernel_rfl) <| .s 7 rfl rfl rfl (by kernel_rfl) ?_
            refine .s 8 rfl rfl rfl (by kernel_rfl) <| .s 9 rfl rfl rfl (by kernel_rfl) <| .s 10 rfl rfl rfl (by kernel_rfl) <| .s 11 rfl rfl rfl (by kernel_rfl) <| .s 12 rfl rfl rfl (by kernel_rfl) <| .s 13 rfl rfl rfl (by kernel_rfl) ?_
            refine .t 14 rfl (.pickF rfl rfl) rfl rfl (by kernel_rfl) <| .t 15 rfl (.assign rfl) rfl rfl (by kernel_rfl) <| .done (by kernel_rfl) <| .blk_normal <| .go <| .region ?_
            refine .e (.add (c := 3) rfl rfl (by decide)) rfl rfl <| .e (.move rfl) rfl rfl <| .nil <| .again <| .seq <| .region ?_
            refine .e (.lss rfl rfl) rfl rfl <| .nil <| .go <| .seq <| .cond_false rfl <| .exit ?_
            refine .exit <| .exit <| .blk_exit <| .go <| .seq <| .region ?_
            refine .e (.move rfl) rfl rfl <| .e (.assign rfl) rfl rfl <| .nil <| .go <| .ret ?_
            refine .tail <| .tail <| .tail ?_
            refine Post.retE rfl rfl ?_
            refine congrArg Value.bool (Bool.eq_iff_iff.2 ?_)
            unfold room
            unfold A3.amt at *
            simp only [Bool.and_eq_true, decide_eq_true_eq, decide_eq_false_iff_not, Bool.false_eq_true, Bool.not_eq_true', Bool.not_eq_false', Bool.not_true, Bool.not_false, reduceCtorEq, true_iff, false_iff] at *
            omega
        · skip
          replace h24_2 := of_decide_eq_false h24_2
          refine .s 2 rfl rfl rfl (by kernel_rfl) <| .s 3 rfl rfl rfl (by kernel_rfl) <| .s 4 rfl rfl rfl (by kernel_rfl) <| .s 5 rfl rfl rfl (by kernel_rfl) <| .s 6 rfl rfl rfl (by kernel_rfl) <| .s 7 rfl rfl rfl (by kernel_rfl) ?_
          refine .s 8 rfl rfl rfl (by kernel_rfl) <| .s 9 rfl rfl rfl (by kernel_rfl) <| .s 10 rfl rfl rfl (by kernel_rfl) <| .s 11 rfl rfl rfl (by kernel_rfl) <| .s 12 rfl rfl rfl (by kernel_rfl) <| .s 13 rfl rfl rfl (by kernel_rfl) ?_
          refine .t 14 rfl (.pickF rfl rfl) rfl rfl (by kernel_rfl) <| .t 15 rfl (.assign rfl) rfl rfl (by kernel_rfl) <| .done (by kernel_rfl) <| .blk_normal <| .go <| .region ?_
          refine .e (.add (c := 2) rfl rfl (by decide)) rfl rfl <| .e (.move rfl) rfl rfl <| .nil <| .again <| .seq <| .region ?_
          refine .e (.lss rfl rfl) rfl rfl <| .nil <| .go <| .seq <| .cond_true rfl <| .skip ?_
          refine .go <| .seq <| .block <| .seq <| .region <| .e (.move rfl) rfl rfl ?_
          refine .e (.assign rfl) rfl rfl <| .nil <| .go ?_
          refine .draw [(c2, _), (c1, _), (c3, _)] mixed (.cons (.there <| .here) (.cons (.there <| .there <| .here) (.cons .here .nil))) ?_
          refine .t 0 rfl (.move rfl) rfl rfl (by kernel_rfl) <| .t 1 rfl (.move rfl) rfl rfl (by kernel_rfl) <| .s 2 rfl rfl rfl (by kernel_rfl) <| .s 3 rfl rfl rfl (by kernel_rfl) <| .s 4 rfl rfl rfl (by kernel_rfl) <| .s 5 rfl rfl rfl (by kernel_rfl) ?_
          refine .s 6 rfl rfl rfl (by kernel_rfl) <| .s 7 rfl rfl rfl (by kernel_rfl) <| .s 8 rfl rfl rfl (by kernel_rfl) <| .s 9 rfl rfl rfl (by kernel_rfl) <| .s 10 rfl rfl rfl (by kernel_rfl) <| .s 11 rfl rfl rfl (by kernel_rfl) ?_
          refine .s 12 rfl rfl rfl (by kernel_rfl) <| .s 13 rfl rfl rfl (by kernel_rfl) <| .t 14 rfl (.pickF rfl rfl) rfl rfl (by kernel_rfl) <| .t 15 rfl (.assign rfl) rfl rfl (by kernel_rfl) <| .done (by kernel_rfl) <| .blk_normal ?_
          refine .go <| .region <| .e (.add (c := 3) rfl rfl (by decide)) rfl rfl <| .e (.move rfl) rfl rfl <| .nil <| .again ?_
          refine .seq <| .region <| .e (.lss rfl rfl) rfl rfl <| .nil <| .go <| .seq ?_
          refine .cond_false rfl <| .exit <| .exit <| .exit <| .blk_exit <| .go ?_
          refine .seq <| .region <| .e (.move rfl) rfl rfl <| .e (.assign rfl) rfl rfl <| .nil <| .go ?_
          refine .ret ?_
          refine .tail <| .tail <| .tail ?_
          refine Post.retE rfl rfl ?_
          refine congrArg Value.bool (Bool.eq_iff_iff.2 ?_)
          unfold room
          unfold A3.amt at *
          simp only [Bool.and_eq_true, decide_eq_true_eq, decide_eq_false_iff_not, Bool.false_eq_true, Bool.not_eq_true', Bool.not_eq_false', Bool.not_true, Bool.not_false, reduceCtorEq, true_iff, false_iff] at *
          omega
      · skip
        refine .s 2 rfl rfl rfl (by kernel_rfl) <| .s 3 rfl rfl rfl (by kernel_rfl) <| .s 4 rfl rfl rfl (by kernel_rfl) <| .s 5 rfl rfl rfl (by kernel_rfl) <| .s 6 rfl rfl rfl (by kernel_rfl) <| .s 7 rfl rfl rfl (by kernel_rfl) ?_
        refine .s 8 rfl rfl rfl (by kernel_rfl) <| .s 9 rfl rfl rfl (by kernel_rfl) <| .s 10 rfl rfl rfl (by kernel_rfl) <| .s 11 rfl rfl rfl (by kernel_rfl) <| .s 12 rfl rfl rfl (by kernel_rfl) <| .s 13 rfl rfl rfl (by kernel_rfl) ?_
        refine .t 14 rfl (.pickF rfl rfl) rfl rfl (by kernel_rfl) <| .t 15 rfl (.assign rfl) rfl rfl (by kernel_rfl) <| .done (by kernel_rfl) <| .blk_normal <| .go <| .region ?_
        refine .e (.add (c := 1) rfl rfl (by decide)) rfl rfl <| .e (.move rfl) rfl rfl <| .nil <| .again <| .seq <| .region ?_
        refine .e (.lss rfl rfl) rfl rfl <| .nil <| .go <| .seq <| .cond_true rfl <| .skip ?_
        refine .go <| .seq <| .block <| .seq <| .region <| .e (.move rfl) rfl rfl ?_
        refine .e (.assign rfl) rfl rfl <| .nil <| .go ?_
        refine .draw [(c2, _), (c1, _), (c3, _)] mixed (.cons (.there <| .here) (.cons (.there <| .there <| .here) (.cons .here .nil))) ?_
        refine .t 0 rfl (.move rfl) rfl rfl (by kernel_rfl) <| .t 1 rfl (.move rfl) rfl rfl (by kernel_rfl) <| .s 2 rfl rfl rfl (by kernel_rfl) <| .s 3 rfl rfl rfl (by kernel_rfl) <| .s 4 rfl rfl rfl (by kernel_rfl) <| .s 5 rfl rfl rfl (by kernel_rfl) ?_
        refine .s 6 rfl rfl rfl (by kernel_rfl) <| .s 7 rfl rfl rfl (by kernel_rfl) <| .s 8 rfl rfl rfl (by kernel_rfl) <| .s 9 rfl rfl rfl (by kernel_rfl) <| .s 10 rfl rfl rfl (by kernel_rfl) <| .s 11 rfl rfl rfl (by kernel_rfl) ?_
        refine .s 12 rfl rfl rfl (by kernel_rfl) <| .s 13 rfl rfl rfl (by kernel_rfl) <| .t 14 rfl (.pickF rfl rfl) rfl rfl (by kernel_rfl) <| .t 15 rfl (.assign rfl) rfl rfl (by kernel_rfl) <| .done (by kernel_rfl) <| .blk_normal ?_
        refine .go <| .region <| .e (.add (c := 2) rfl rfl (by decide)) rfl rfl <| .e (.move rfl) rfl rfl <| .nil <| .again ?_
        refine .seq <| .region <| .e (.lss rfl rfl) rfl rfl <| .nil <| .go <| .seq ?_
        refine .cond_true rfl <| .skip <| .go <| .seq <| .block <| .seq ?_
        refine .region <| .e (.move rfl) rfl rfl <| .e (.assign rfl) rfl rfl <| .nil <| .go ?_
        refine .draw [(c2, _), (c1, _), (c3, _)] mixed (.cons (.there <| .here) (.cons (.there <| .there <| .here) (.cons .here .nil))) ?_
        refine .t 0 rfl (.move rfl) rfl rfl (by kernel_rfl) <| .t 1 rfl (.move rfl) rfl rfl (by kernel_rfl) <| .s 2 rfl rfl rfl (by kernel_rfl) <| .s 3 rfl rfl rfl (by kernel_rfl) <| .s 4 rfl rfl rfl (by kernel_rfl) <| .s 5 rfl rfl rfl (by kernel_rfl) ?_
        refine .s 6 rfl rfl rfl (by kernel_rfl) <| .s 7 rfl rfl rfl (by kernel_rfl) <| .s 8 rfl rfl rfl (by kernel_rfl) <| .s 9 rfl rfl rfl (by kernel_rfl) <| .s 10 rfl rfl rfl (by kernel_rfl) <| .s 11 rfl rfl rfl (by kernel_rfl) ?_
        refine .s 12 rfl rfl rfl (by kernel_rfl) <| .s 13 rfl rfl rfl (by kernel_rfl) <| .t 14 rfl (.pickF rfl rfl) rfl rfl (by kernel_rfl) <| .t 15 rfl (.assign rfl) rfl rfl (by kernel_rfl) <| .done (by kernel_rfl) <| .blk_normal ?_
        refine .go <| .region <| .e (.add (c := 3) rfl rfl (by decide)) rfl rfl <| .e (.move rfl) rfl rfl <| .nil <| .again ?_
        refine .seq <| .region <| .e (.lss rfl rfl) rfl rfl <| .nil <| .go <| .seq ?_
        refine .cond_false rfl <| .exit <| .exit <| .exit <| .blk_exit <| .go ?_
        refine .seq <| .region <| .e (.move rfl) rfl rfl <| .e (.assign rfl) rfl rfl <| .nil <| .go ?_
        refine .ret ?_
        refine .tail <| .tail <| .tail ?_
        refine Post.retE rfl rfl ?_
        refine congrArg Value.bool (Bool.eq_iff_iff.2 ?_)
        unfold room
        unfold A3.amt at *
        simp only [Bool.and_eq_true, decide_eq_true_eq, decide_eq_false_iff_not, Bool.false_eq_true, Bool.not_eq_true', Bool.not_eq_false', Bool.not_true, Bool.not_false, reduceCtorEq, true_iff, false_iff] at *
        omega
    · skip
      refine .off rfl rfl <| .off rfl rfl <| .e (.pickF rfl rfl) rfl rfl <| .e (.assign rfl) rfl rfl <| .nil <| .go ?_
      refine .seq <| .seq <| .region <| .e (.move rfl) rfl rfl <| .nil <| .go ?_
      refine .block <| .unroll 3 <| .seq <| .region <| .e (.lss rfl rfl) rfl rfl <| .nil ?_
      refine .go <| .seq <| .cond_true rfl <| .skip <| .go <| .seq ?_
      refine .block <| .seq <| .region <| .e (.move rfl) rfl rfl <| .e (.assign rfl) rfl rfl <| .nil ?_
      refine .go ?_
      refine .draw [(c2, _), (c1, _), (c3, _)] mixed (.cons (.there <| .here) (.cons (.there <| .there <| .here) (.cons .here .nil))) ?_
      refine .t 0 rfl (.move rfl) rfl rfl (by kernel_rfl) <| .t 1 rfl (.move rfl) rfl rfl (by kernel_rfl) <| .s 2 rfl rfl rfl (by kernel_rfl) <| .s 3 rfl rfl rfl (by kernel_rfl) <| .s 4 rfl rfl rfl (by kernel_rfl) <| .s 5 rfl rfl rfl (by kernel_rfl) ?_
      refine .s 6 rfl rfl rfl (by kernel_rfl) <| .s 7 rfl rfl rfl (by kernel_rfl) <| .s 8 rfl rfl rfl (by kernel_rfl) <| .s 9 rfl rfl rfl (by kernel_rfl) <| .s 10 rfl rfl rfl (by kernel_rfl) <| .s 11 rfl rfl rfl (by kernel_rfl) ?_
      refine .s 12 rfl rfl rfl (by kernel_rfl) <| .s 13 rfl rfl rfl (by kernel_rfl) <| .t 14 rfl (.pickF rfl rfl) rfl rfl (by kernel_rfl) <| .t 15 rfl (.assign rfl) rfl rfl (by kernel_rfl) <| .done (by kernel_rfl) <| .blk_normal ?_
      refine .go <| .region <| .e (.add (c := 1) rfl rfl (by decide)) rfl rfl <| .e (.move rfl) rfl rfl <| .nil <| .again ?_
      refine .seq <| .region <| .e (.lss rfl rfl) rfl rfl <| .nil <| .go <| .seq ?_
      refine .cond_true rfl <| .skip <| .go <| .seq <| .block <| .seq ?_
      refine .region <| .e (.move rfl) rfl rfl <| .e (.assign rfl) rfl rfl <| .nil <| .go ?_
      refine .draw [(c2, _), (c1, _), (c3, _)] mixed (.cons (.there <| .here) (.cons (.there <| .there <| .here) (.cons .here .nil))) ?_
      refine .t 0 rfl (.move rfl) rfl rfl (by kernel_rfl) <| .t 1 rfl (.move rfl) rfl rfl (by kernel_rfl) <| .s 2 rfl rfl rfl (by kernel_rfl) <| .s 3 rfl rfl rfl (by kernel_rfl) <| .s 4 rfl rfl rfl (by kernel_rfl) <| .s 5 rfl rfl rfl (by kernel_rfl) ?_
      refine .s 6 rfl rfl rfl (by kernel_rfl) <| .s 7 rfl rfl rfl (by kernel_rfl) <| .s 8 rfl rfl rfl (by kernel_rfl) <| .s 9 rfl rfl rfl (by kernel_rfl) <| .s 10 rfl rfl rfl (by kernel_rfl) <| .s 11 rfl rfl rfl (by kernel_rfl) ?_
      refine .s 12 rfl rfl rfl (by kernel_rfl) <| .s 13 rfl rfl rfl (by kernel_rfl) <| .t 14 rfl (.pickF rfl rfl) rfl rfl (by kernel_rfl) <| .t 15 rfl (.assign rfl) rfl rfl (by kernel_rfl) <| .done (by kernel_rfl) <| .blk_normal ?_
      refine .go <| .region <| .e (.add (c := 2) rfl rfl (by decide)) rfl rfl <| .e (.move rfl) rfl rfl <| .nil <| .again ?_
      refine .seq <| .region <| .e (.lss rfl rfl) rfl rfl <| .nil <| .go <| .seq ?_
      refine .cond_true rfl <| .skip <| .go <| .seq <| .block <| .seq ?_
      refine .region <| .e (.move rfl) rfl rfl <| .e (.assign rfl) rfl rfl <| .nil <| .go ?_
      refine .draw [(c2, _), (c1, _), (c3, _)] mixed (.cons (.there <| .here) (.cons (.there <| .there <| .here) (.cons .here .nil))) ?_
      refine .t 0 rfl (.move rfl) rfl rfl (by kernel_rfl) <| .t 1 rfl (.move rfl) rfl rfl (by kernel_rfl) <| .s 2 rfl rfl rfl (by kernel_rfl) <| .s 3 rfl rfl rfl (by kernel_rfl) <| .s 4 rfl rfl rfl (by kernel_rfl) <| .s 5 rfl rfl rfl (by kernel_rfl) ?_
      refine .s 6 rfl rfl rfl (by kernel_rfl) <| .s 7 rfl rfl rfl (by kernel_rfl) <| .s 8 rfl rfl rfl (by kernel_rfl) <| .s 9 rfl rfl rfl (by kernel_rfl) <| .s 10 rfl rfl rfl (by kernel_rfl) <| .s 11 rfl rfl rfl (by kernel_rfl) ?_
      refine .s 12 rfl rfl rfl (by kernel_rfl) <| .s 13 rfl rfl rfl (by kernel_rfl) <| .t 14 rfl (.pickF rfl rfl) rfl rfl (by kernel_rfl) <| .t 15 rfl (.assign rfl) rfl rfl (by kernel_rfl) <| .done (by kernel_rfl) <| .blk_normal ?_
      refine .go <| .region <| .e (.add (c := 3) rfl rfl (by decide)) rfl rfl <| .e (.move rfl) rfl rfl <| .nil <| .again ?_
      refine .seq <| .region <| .e (.lss rfl rfl) rfl rfl <| .nil <| .go <| .seq ?_
      refine .cond_false rfl <| .exit <| .exit <| .exit <| .blk_exit <| .go ?_
      refine .seq <| .region <| .e (.move rfl) rfl rfl <| .e (.assign rfl) rfl rfl <| .nil <| .go ?_
      refine .ret ?_
      refine .tail <| .tail <| .tail ?_
      refine Post.retE rfl rfl ?_
      refine congrArg Value.bool (Bool.eq_iff_iff.2 ?_)
      unfold room
      unfold A3.amt at *
      simp only [Bool.and_eq_true, decide_eq_true_eq, decide_eq_false_iff_not, Bool.false_eq_true, Bool.not_eq_true', Bool.not_eq_false', Bool.not_true, Bool.not_false, reduceCtorEq, true_iff, false_iff] at *
      omega
  · skip
    refine .off rfl rfl <| .off rfl rfl <| .e (.pickF rfl rfl) rfl rfl <| .e (.move rfl) rfl rfl <| .off rfl rfl <| .off rfl rfl ?_
    refine .e (.pickF rfl rfl) rfl rfl <| .e (.assign rfl) rfl rfl <| .nil <| .go <| .seq <| .seq ?_
    refine .region <| .e (.move rfl) rfl rfl <| .nil <| .go <| .block <| .unroll 3 ?_
    refine .seq <| .region <| .e (.lss rfl rfl) rfl rfl <| .nil <| .go <| .seq ?_
    refine .cond_true rfl <| .skip <| .go <| .seq <| .block <| .seq ?_
    refine .region <| .e (.move rfl) rfl rfl <| .e (.assign rfl) rfl rfl <| .nil <| .go ?_
    refine .draw [(c2, _), (c1, _), (c3, _)] mixed (.cons (.there <| .here) (.cons (.there <| .there <| .here) (.cons .here .nil))) ?_
    refine .t 0 rfl (.move rfl) rfl rfl (by kernel_rfl) <| .t 1 rfl (.move rfl) rfl rfl (by kernel_rfl) <| .s 2 rfl rfl rfl (by kernel_rfl) <| .s 3 rfl rfl rfl (by kernel_rfl) <| .s 4 rfl rfl rfl (by kernel_rfl) <| .s 5 rfl rfl rfl (by kernel_rfl) ?_
    refine .s 6 rfl rfl rfl (by kernel_rfl) <| .s 7 rfl rfl rfl (by kernel_rfl) <| .s 8 rfl rfl rfl (by kernel_rfl) <| .s 9 rfl rfl rfl (by kernel_rfl) <| .s 10 rfl rfl rfl (by kernel_rfl) <| .s 11 rfl rfl rfl (by kernel_rfl) ?_
    refine .s 12 rfl rfl rfl (by kernel_rfl) <| .s 13 rfl rfl rfl (by kernel_rfl) <| .t 14 rfl (.pickF rfl rfl) rfl rfl (by kernel_rfl) <| .t 15 rfl (.assign rfl) rfl rfl (by kernel_rfl) <| .done (by kernel_rfl) <| .blk_normal ?_
    refine .go <| .region <| .e (.add (c := 1) rfl rfl (by decide)) rfl rfl <| .e (.move rfl) rfl rfl <| .nil <| .again ?_
    refine .seq <| .region <| .e (.lss rfl rfl) rfl rfl <| .nil <| .go <| .seq ?_
    refine .cond_true rfl <| .skip <| .go <| .seq <| .block <| .seq ?_
    refine .region <| .e (.move rfl) rfl rfl <| .e (.assign rfl) rfl rfl <| .nil <| .go ?_
    refine .draw [(c2, _), (c1, _), (c3, _)] mixed (.cons (.there <| .here) (.cons (.there <| .there <| .here) (.cons .here .nil))) ?_
    refine .t 0 rfl (.move rfl) rfl rfl (by kernel_rfl) <| .t 1 rfl (.move rfl) rfl rfl (by kernel_rfl) <| .s 2 rfl rfl rfl (by kernel_rfl) <| .s 3 rfl rfl rfl (by kernel_rfl) <| .s 4 rfl rfl rfl (by kernel_rfl) <| .s 5 rfl rfl rfl (by kernel_rfl) ?_
    refine .s 6 rfl rfl rfl (by kernel_rfl) <| .s 7 rfl rfl rfl (by kernel_rfl) <| .s 8 rfl rfl rfl (by kernel_rfl) <| .s 9 rfl rfl rfl (by kernel_rfl) <| .s 10 rfl rfl rfl (by kernel_rfl) <| .s 11 rfl rfl rfl (by kernel_rfl) ?_
    refine .s 12 rfl rfl rfl (by kernel_rfl) <| .s 13 rfl rfl rfl (by kernel_rfl) <| .t 14 rfl (.pickF rfl rfl) rfl rfl (by kernel_rfl) <| .t 15 rfl (.assign rfl) rfl rfl (by kernel_rfl) <| .done (by kernel_rfl) <| .blk_normal ?_
    refine .go <| .region <| .e (.add (c := 2) rfl rfl (by decide)) rfl rfl <| .e (.move rfl) rfl rfl <| .nil <| .again ?_
    refine .seq <| .region <| .e (.lss rfl rfl) rfl rfl <| .nil <| .go <| .seq ?_
    refine .cond_true rfl <| .skip <| .go <| .seq <| .block <| .seq ?_
    refine .region <| .e (.move rfl) rfl rfl <| .e (.assign rfl) rfl rfl <| .nil <| .go ?_
    refine .draw [(c2, _), (c1, _), (c3, _)] mixed (.cons (.there <| .here) (.cons (.there <| .there <| .here) (.cons .here .nil))) ?_
    refine .t 0 rfl (.move rfl) rfl rfl (by kernel_rfl) <| .t 1 rfl (.move rfl) rfl rfl (by kernel_rfl) <| .s 2 rfl rfl rfl (by kernel_rfl) <| .s 3 rfl rfl rfl (by kernel_rfl) <| .s 4 rfl rfl rfl (by kernel_rfl) <| .s 5 rfl rfl rfl (by kernel_rfl) ?_
    refine .s 6 rfl rfl rfl (by kernel_rfl) <| .s 7 rfl rfl rfl (by kernel_rfl) <| .s 8 rfl rfl rfl (by kernel_rfl) <| .s 9 rfl rfl rfl (by kernel_rfl) <| .s 10 rfl rfl rfl (by kernel_rfl) <| .s 11 rfl rfl rfl (by kernel_rfl) ?_
    refine .s 12 rfl rfl rfl (by kernel_rfl) <| .s 13 rfl rfl rfl (by kernel_rfl) <| .t 14 rfl (.pickF rfl rfl) rfl rfl (by kernel_rfl) <| .t 15 rfl (.assign rfl) rfl rfl (by kernel_rfl) <| .done (by kernel_rfl) <| .blk_normal ?_
    refine .go <| .region <| .e (.add (c := 3) rfl rfl (by decide)) rfl rfl <| .e (.move rfl) rfl rfl <| .nil <| .again ?_
    refine .seq <| .region <| .e (.lss rfl rfl) rfl rfl <| .nil <| .go <| .seq ?_
    refine .cond_false rfl <| .exit <| .exit <| .exit <| .blk_exit <| .go ?_
    refine .seq <| .region <| .e (.move rfl) rfl rfl <| .e (.assign rfl) rfl rfl <| .nil <| .go ?_
    refine .ret ?_
    refine .tail <| .tail <| .tail ?_
    refine Post.retE rfl rfl ?_
    refine congrArg Value.bool (Bool.eq_iff_iff.2 ?_)
    unfold room
    unfold A3.amt at *
    simp only [Bool.and_eq_true, decide_eq_true_eq, decide_eq_false_iff_not, Bool.false_eq_true, Bool.not_eq_true', Bool.not_eq_false', Bool.not_true, Bool.not_false, reduceCtorEq, true_iff, false_iff] at *
    omega

theorem eqA3 {x y : A3} : EqOk Tryz.prog 29 (.agg ⟨[.int .i64 x.a, .int .i64 x.b, .int .i64 x.c]⟩) (.agg ⟨[.int .i64 y.a, .int .i64 y.b, .int .i64 y.c]⟩) (decide (x = y)) := by
  have e : decide (x = y) = (decide (x.a = y.a) && (decide (x.b = y.b) && decide (x.c = y.c))) := by cases x; cases y; simp
  rw [e]; exact .arr3 Tryz.underlying29 Tryz.underlying2 sz2 (by kernel_rfl)
theorem eqA3T {x : A3} : EqOk Tryz.prog 29 (.agg ⟨[.int .i64 x.a, .int .i64 x.b, .int .i64 x.c]⟩) (.agg ⟨[.int .i64 x.a, .int .i64 x.b, .int .i64 x.c]⟩) true := by
  have := @eqA3 x x; simpa using this

end Go.Proofs.YtajpakifkinadaaGreatDoor
