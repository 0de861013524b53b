/- Walks of functions over a symbolic memory, printed by a program of the session. -/
import Derived.Test.YtcojkkndmholaaaGreatDoorBx
import Derived.Test.YtcojkkndmholaaaGreatDoorBp
namespace Go.Proofs.YtcojkkndmholaaaGreatDoor
open Go.Sy
set_option linter.unusedSimpArgs false
set_option linter.unusedVariables false

set_option maxHeartbeats 16000000 in
set_option maxRecDepth 20000 in
theorem rwithNode_ok {I : Imm} {O : Own} {kc : List Value} {b : Bk} (hk : BkR I kc b) {nc : List Value} {n : Nod} (hn : NodR I nc n) (hw : nodWhy n = 0) (hL : b.nodes.length ≤ 1000) :
    Go.Sy.Does Tryz.prog 84 [.agg ⟨kc⟩, .agg ⟨nc⟩] I O (FB (fun cs => .agg ⟨cs⟩) { b with nodes := insAt b.nodes (posBy (fun y : Nod => y.name) b.nodes n.name) n } O) := by
  have hk0 := hk
  obtain ⟨nv, tv, bv, rfl, hnv, htv, hbv⟩ := hk.ex
  have hnv0 := hnv
  have htv0 := htv
  have hbv0 := hbv
  obtain ⟨na, ncap, rfl, hn1, hn2, -⟩ := hnv
  obtain ⟨ta, tcap, rfl, ht1, ht2, -⟩ := htv
  obtain ⟨ba, bcap, rfl, hb1, hb2, -⟩ := hbv
  have hn0 := hn
  obtain ⟨nl, nt, rfl, hnl, hnt⟩ := hn.ex
  have hnl0 := hnl
  obtain ⟨la, lcap, rfl, hl1, hl2, -⟩ := hnl
  have hnt0 := hnt
  obtain ⟨ta, tcap, rfl, ht1, ht2, -⟩ := hnt
  refine Go.Sy.Does.enter Tryz.func84 rfl Tryz.ntmps84 rfl ?_
  refine .seq <| .region <| .on rfl <| .box rfl rfl rfl fun c1 _ _ => .on rfl <| .box rfl rfl rfl fun c2 _ _ => .on rfl <| .alloc zr27 rfl fun c3 _ _ => .nil ?_
  refine .go <| .seq <| .region <| .e (.assign rfl) rfl rfl <| .nil <| .go ?_
  refine .meetO (σ := Unit) [5, 6, 7, 8, 9, 10, 11, 12, 13, 14, 15, 16, 17, 18, 19, 20, 21, 22, 23] (fun _ => True) (fun _ => [(5, .int .i64 (posBy (fun y : Nod => y.name) b.nodes n.name : Nat))]) (fun _ => I) (fun R _ => R) ?_ ?_
  · skip
    refine .block ?_
    refine .loopM [5, 6, 7, 8, 9, 10, 11, 12, 13, 14, 15, 16, 17, 18, 19, 20, 21, 22, 23] (fun k => b.nodes.length - k) (fun k => k ≤ b.nodes.length ∧ ∀ j (hj : j < b.nodes.length), j < k → slt (b.nodes[j]).name n.name = true) (fun k => [(5, .int .i64 k)]) (fun _ => _) (fun _ => _) (0) ⟨Nat.zero_le _, fun j _ h => absurd h (by omega)⟩ ⟨rfl, trivial⟩ rfl rfl ?_
    intro k hkk
    obtain ⟨hkk, hww⟩ := hkk
    refine .seq <| .seq ?_
    refine .draw [(c1, _), (c2, _)] mixed (.cons (.there <| .there <| .here) (.cons (.there <| .here) .nil)) ?_
    refine .t 0 rfl (.move rfl) rfl rfl (by kernel_rfl) <| .t 1 rfl (.fieldAddr fo27_0 rfl) rfl rfl (by kernel_rfl) <| .t 2 rfl (.load ag22 rfl .here rfl) rfl rfl (by kernel_rfl) <| .t 3 rfl (.len sl22 rfl rfl) rfl rfl (by kernel_rfl) <| .t 4 rfl (.lss rfl rfl) rfl rfl (by kernel_rfl) <| .t 5 rfl (.move rfl) rfl rfl (by kernel_rfl) ?_
    refine .split 11 rfl (fun h11 => ?_) (fun h11 => ?_)
    · skip
      replace h11 := of_decide_eq_true h11
      refine .t 6 rfl (.fieldAddr fo27_0 rfl) rfl rfl (by kernel_rfl) <| .t 7 rfl (.load ag22 rfl .here rfl) rfl rfl (by kernel_rfl) <| .t 8 rfl (.move rfl) rfl rfl (by kernel_rfl) ?_
      obtain ⟨eb15, eo15, cs15, hd15, hat15, hr15⟩ := SlR.at_ hnv0 (k := k) (by omega)
      cases hd15
      have hn15 := hr15
      obtain ⟨xf15, xg15, rfl, hxf15, hxg15⟩ := hr15.ex
      obtain ⟨xh15, xi15, rfl, -⟩ := hxf15
      obtain ⟨xj15, xk15, rfl, -⟩ := hxg15
      refine .t 9 rfl (.indexAddrL sl22 rfl rfl rfl (by omega)) rfl rfl (by kernel_rfl) <| .t 10 rfl (.fieldAddr fo32_0 rfl) rfl rfl (by kernel_rfl) <| .t 11 rfl (.loadI ag9 rfl (hat15.cell (j := 0) rfl)) rfl rfl (by kernel_rfl) <| .t 12 rfl (.fieldAddr fo32_0 rfl) rfl rfl (by kernel_rfl) <| .t 13 rfl (.load ag9 rfl (.there <| .here) rfl) rfl rfl (by kernel_rfl) <| .t 14 rfl (.strlt rfl rfl) rfl rfl (by kernel_rfl) ?_
      refine .t 15 rfl (.pickT rfl rfl) rfl rfl (by kernel_rfl) <| .done (by kernel_rfl) <| .go ?_
      refine .split 21 rfl (fun h21 => ?_) (fun h21 => ?_)
      · skip
        have hk21 : k < b.nodes.length := by omega
        refine .cond_true rfl <| .skip <| .go <| .block <| .region <| .e (.move rfl) rfl rfl ?_
        refine .e (.add rfl rfl (by first | exact wrap_succ (by omega) | exact IntWalk.i64_in _ (by omega) | exact rfl)) rfl rfl <| .e (.assign rfl) rfl rfl <| .nil <| .blk_normal ?_
        exact .mid (k + 1) ⟨by omega, by omega, fun j hj h => (by rcases Nat.lt_or_eq_of_le (Nat.lt_succ_iff.1 h) with h | h; exact hww j hj h; subst h; exact h21)⟩ ⟨rfl, trivial⟩ rfl rfl (.pre 21 rfl (.app rfl .base))
      · skip
        refine .cond_false rfl <| .exit <| .exit <| .exit <| .blk_exit ?_
        exact .mid (()) trivial ⟨congrArg (fun y : Nat => some (Value.int .i64 (y : Int))) (pos_of (nm := (fun y : Nod => y.name)) hkk hww (fun _ => h21)).symm, trivial⟩ rfl rfl (.pre 18 rfl (.app rfl (.del rfl .self)))
    · skip
      replace h11 := of_decide_eq_false h11
      refine .s 6 rfl rfl rfl (by kernel_rfl) <| .s 7 rfl rfl rfl (by kernel_rfl) <| .s 8 rfl rfl rfl (by kernel_rfl) <| .s 9 rfl rfl rfl (by kernel_rfl) <| .s 10 rfl rfl rfl (by kernel_rfl) <| .s 11 rfl rfl rfl (by kernel_rfl) ?_
      refine .s 12 rfl rfl rfl (by kernel_rfl) <| .s 13 rfl rfl rfl (by kernel_rfl) <| .s 14 rfl rfl rfl (by kernel_rfl) <| .t 15 rfl (.pickF rfl rfl) rfl rfl (by kernel_rfl) <| .done (by kernel_rfl) <| .go ?_
      refine .cond_false rfl <| .exit <| .exit <| .exit <| .blk_exit ?_
      exact .mid (()) trivial ⟨congrArg (fun y : Nat => some (Value.int .i64 (y : Int))) (pos_of (nm := (fun y : Nod => y.name)) hkk hww (fun h => absurd h (by omega))).symm, trivial⟩ rfl rfl (.pre 17 rfl (.app rfl (.del rfl .self)))
  · intro _ _
    have hple := pos_le (nm := (fun y : Nod => y.name)) (l := b.nodes) (s := n.name)
    obtain ⟨p, hp⟩ : ∃ p, posBy (fun y : Nod => y.name) b.nodes n.name = p := ⟨_, rfl⟩
    rw [hp] at hple
    rw [hp]
    obtain ⟨wsA, hsA, hdA⟩ := SlR.src (B := []) (fun _ _ h => NodR.len h) (SlR.takeN hnv0 hple)
    refine .seq ?_
    refine .draw [(c1, _), (c2, _)] mixed (.cons (.there <| .there <| .here) (.cons (.there <| .here) .nil)) ?_
    refine .t 1 rfl (.fieldAddr fo27_0 rfl) rfl rfl (by kernel_rfl) <| .t 2 rfl (.load ag22 rfl .here rfl) rfl rfl (by kernel_rfl) <| .t 3 rfl (.move rfl) rfl rfl (by kernel_rfl) <| .t 4 rfl (.sliceHn sl22 rfl rfl rfl (by omega)) rfl rfl (by kernel_rfl) <| .t 6 rfl (.loadW ag32 sz32 rfl (.there <| .here) rfl) rfl rfl (by kernel_rfl) <| .t 10 rfl (.fieldAddr fo27_0 rfl) rfl rfl (by kernel_rfl) ?_
    refine .t 11 rfl (.load ag22 rfl .here rfl) rfl rfl (by kernel_rfl) <| .t 12 rfl (.move rfl) rfl rfl (by kernel_rfl) <| .t 13 rfl (.sliceL sl22 rfl rfl rfl hple) rfl rfl (by kernel_rfl) <| .one (i := 0) (by kernel_rfl) rfl rfl <| .buildSlice Tryz.underlying22 sz32 (by decide) (by decide) zv32 rfl rfl rfl rfl rfl fun c4 _ _ => ?_
    refine ⟨(.cons (.there <| .there <| .there <| .here) (.cons (.there <| .there <| .here) .nil)), Imm.le_refl _, ?_⟩
    refine .one (i := 5) (by kernel_rfl) rfl rfl <| .append Tryz.underlying22 Tryz.underlying22 sz32 by32 zv32 rfl rfl rfl .here (OwnS.made rfl (by decide)) hsA.any hdA.1 (hdA.ones (by decide) (fun _ _ h => NodR.ones h)) (by rw [List.length_take]; omega) (by rw [List.length_take]; omega) rfl fun v29 ob29 ho29 => ?_
    refine ⟨(.cons (.app <| .there <| .there <| .here) (.cons (.app <| .there <| .here) .nil)), Imm.le_refl _, ?_⟩
    refine .one (i := 7) (by kernel_rfl) rfl rfl <| .call cal26 rfl rfl rfl (rCopyNode_ok hn0 (by have := nod_few hw; omega) (by have := nod_few hw; omega)) fun v31 I31 O31 hI31 hK31 => ?_
    obtain ⟨cs31, hq31, hR31, rfl⟩ := hK31
    replace hq31 := hq31.symm
    subst hq31
    have hR31' := hR31
    obtain ⟨lv31, tv31, rfl, hl31, ht31⟩ := hR31'.ex
    obtain ⟨_, _, rfl, -⟩ := hl31
    obtain ⟨_, _, rfl, -⟩ := ht31
    refine ⟨(.cons (.app <| .there <| .there <| .here) (.cons (.app <| .there <| .here) .nil)), hI31, ?_⟩
    refine .one (i := 8) (by kernel_rfl) rfl rfl <| .buildSlice Tryz.underlying22 sz32 (by decide) (by decide) zv32 rfl rfl rfl rfl rfl fun c5 _ _ => ?_
    refine ⟨(.cons (.there <| .app <| .there <| .there <| .here) (.cons (.there <| .app <| .there <| .here) .nil)), hI31, ?_⟩
    refine .one (i := 9) (by kernel_rfl) rfl rfl <| .append Tryz.underlying22 Tryz.underlying22 sz32 by32 zv32 rfl rfl rfl (.there <| .front) ho29 ((OwnS.made (k := 6) rfl (by decide)).src (I := _) .here) rfl rfl (by rw [List.length_take]; omega) (by rw [List.length_take]; omega) rfl fun v33 ob33 ho33 => ?_
    refine ⟨(.cons (.app <| .there <| .there <| .there <| .here) (.cons (.app <| .there <| .there <| .here) .nil)), hI31, ?_⟩
    obtain ⟨wsB, hsB, hdB⟩ := SlR.src (B := []) (fun _ _ h => NodR.len h) (SlR.from (l := p) (NodsR.mono hI31 hnv0) hple)
    refine .one (i := 14) (by kernel_rfl) rfl rfl <| .append Tryz.underlying22 Tryz.underlying22 sz32 by32 zv32 rfl rfl rfl .front ho33 hsB.any hdB.1 (hdB.ones (by decide) (fun _ _ h => NodR.ones h)) (by rw [List.length_take, List.length_drop]; omega) (by rw [List.length_take, List.length_drop]; omega) rfl fun v38 ob38 ho38 => ?_
    refine ⟨(.cons (.app <| .there <| .there <| .there <| .here) (.cons (.app <| .there <| .there <| .here) .nil)), hI31, ?_⟩
    refine .t 15 rfl (.fieldAddr fo27_0 rfl) rfl rfl (by kernel_rfl) ?_
    obtain ⟨ad38, cap38, rfl⟩ := ho38.form
    refine .late (i := 16) (by kernel_rfl) (by kernel_rfl) (by kernel_rfl) rfl rfl <| .store sz22 rfl rfl rfl rfl rfl rfl (.app <| .there <| .there <| .there <| .here) <| .go <| .seq <| .region <| .e (.loadW ag27 sz27 rfl (.app <| .there <| .there <| .there <| .here) rfl) rfl rfl <| .on rfl <| .storeW sz27 rfl rfl rfl rfl rfl rfl (.app <| .there <| .here) ?_
    refine .nil <| .go <| .ret ?_
    refine .freezeS ho38 fun K hK hKs => ?_
    have hdc : DR NodR 6 K ((wsA ++ _) ++ wsB) ((b.nodes.take p ++ [n]) ++ b.nodes.drop p) := ((hdA.mono fun _ _ h => (NodR.mono hK (NodR.mono hI31 h))).append (DR.single rfl (NodR.mono hK hR31))).append (hdB.mono fun _ _ h => NodR.mono hK h)
    have hyL : (b.nodes.take p ++ ([n] ++ b.nodes.drop p)).length = 0 + (b.nodes.take p).length + 1 + (b.nodes.drop p).length := by simp; omega
    have hyS : SlR NodR 6 K _ (insAt b.nodes p n) := hKs (R := NodR) (by rw [show insAt b.nodes p n = (b.nodes.take p ++ [n]) ++ b.nodes.drop p by unfold insAt; simp]; exact hdc) (by unfold insAt; simp; omega)
    refine Post.rets rfl (.agg rfl ag27 sz27 (.there <| .here) rfl .nil) rfl (Imm.le_trans hI31 hK) (fun w h => (Sat.tail (Sat.tail (Sat.tail (Sat.tail h))))) ?_
    refine ⟨rfl, _, rfl, ?_⟩
    exact ⟨⟨_, _, _, rfl, hyS, TsksR.mono (Imm.le_trans hI31 hK) htv0, BndsR.mono (Imm.le_trans hI31 hK) hbv0⟩, hk0.fence⟩

set_option maxHeartbeats 16000000 in
set_option maxRecDepth 20000 in
theorem rwithTask_ok {I : Imm} {O : Own} {kc : List Value} {b : Bk} (hk : BkR I kc b) {tc : List Value} {t : Tsk} (ht : TskR I tc t) (hw : tskWhy t = 0) (hL : b.tasks.length ≤ 1000) :
    Go.Sy.Does Tryz.prog 87 [.agg ⟨kc⟩, .agg ⟨tc⟩] I O (FB (fun cs => .agg ⟨cs⟩) { b with tasks := insAt b.tasks (posBy (fun y : Tsk => y.name) b.tasks t.name) t } O) := by
  have hk0 := hk
  obtain ⟨nv, tv, bv, rfl, hnv, htv, hbv⟩ := hk.ex
  have hnv0 := hnv
  have htv0 := htv
  have hbv0 := hbv
  obtain ⟨na, ncap, rfl, hn1, hn2, -⟩ := hnv
  obtain ⟨ta, tcap, rfl, ht1, ht2, -⟩ := htv
  obtain ⟨ba, bcap, rfl, hb1, hb2, -⟩ := hbv
  have ht0 := ht
  obtain ⟨tw, tb, rfl, htw, htb⟩ := ht.ex
  have htw0 := htw
  obtain ⟨wa, wcap, rfl, hw1, hw2, -⟩ := htw
  have htb0 := htb
  obtain ⟨ba, bcap, rfl, hb1, hb2, -⟩ := htb
  refine Go.Sy.Does.enter Tryz.func87 rfl Tryz.ntmps87 rfl ?_
  refine .seq <| .region <| .on rfl <| .box rfl rfl rfl fun c1 _ _ => .on rfl <| .box rfl rfl rfl fun c2 _ _ => .on rfl <| .alloc zr27 rfl fun c3 _ _ => .nil ?_
  refine .go <| .seq <| .region <| .e (.assign rfl) rfl rfl <| .nil <| .go ?_
  refine .meetO (σ := Unit) [5, 6, 7, 8, 9, 10, 11, 12, 13, 14, 15, 16, 17, 18, 19, 20, 21, 22, 23] (fun _ => True) (fun _ => [(5, .int .i64 (posBy (fun y : Tsk => y.name) b.tasks t.name : Nat))]) (fun _ => I) (fun R _ => R) ?_ ?_
  · skip
    refine .block ?_
    refine .loopM [5, 6, 7, 8, 9, 10, 11, 12, 13, 14, 15, 16, 17, 18, 19, 20, 21, 22, 23] (fun k => b.tasks.length - k) (fun k => k ≤ b.tasks.length ∧ ∀ j (hj : j < b.tasks.length), j < k → slt (b.tasks[j]).name t.name = true) (fun k => [(5, .int .i64 k)]) (fun _ => _) (fun _ => _) (0) ⟨Nat.zero_le _, fun j _ h => absurd h (by omega)⟩ ⟨rfl, trivial⟩ rfl rfl ?_
    intro k hkk
    obtain ⟨hkk, hww⟩ := hkk
    refine .seq <| .seq ?_
    refine .draw [(c1, _), (c2, _)] mixed (.cons (.there <| .there <| .here) (.cons (.there <| .here) .nil)) ?_
    refine .t 0 rfl (.move rfl) rfl rfl (by kernel_rfl) <| .t 1 rfl (.fieldAddr fo27_1 rfl) rfl rfl (by kernel_rfl) <| .t 2 rfl (.load ag23 rfl .here rfl) rfl rfl (by kernel_rfl) <| .t 3 rfl (.len sl23 rfl rfl) rfl rfl (by kernel_rfl) <| .t 4 rfl (.lss rfl rfl) rfl rfl (by kernel_rfl) <| .t 5 rfl (.move rfl) rfl rfl (by kernel_rfl) ?_
    refine .split 11 rfl (fun h11 => ?_) (fun h11 => ?_)
    · skip
      replace h11 := of_decide_eq_true h11
      refine .t 6 rfl (.fieldAddr fo27_1 rfl) rfl rfl (by kernel_rfl) <| .t 7 rfl (.load ag23 rfl .here rfl) rfl rfl (by kernel_rfl) <| .t 8 rfl (.move rfl) rfl rfl (by kernel_rfl) ?_
      obtain ⟨eb15, eo15, cs15, hd15, hat15, hr15⟩ := SlR.at_ htv0 (k := k) (by omega)
      cases hd15
      have ht15 := hr15
      obtain ⟨xw15, xb15, rfl, hxw15, hxb15⟩ := hr15.ex
      obtain ⟨xa15, xc15, rfl, -⟩ := hxw15
      obtain ⟨xd15, xe15, rfl, -⟩ := hxb15
      refine .t 9 rfl (.indexAddrL sl23 rfl rfl rfl (by omega)) rfl rfl (by kernel_rfl) <| .t 10 rfl (.fieldAddr fo34_0 rfl) rfl rfl (by kernel_rfl) <| .t 11 rfl (.loadI ag9 rfl (hat15.cell (j := 0) rfl)) rfl rfl (by kernel_rfl) <| .t 12 rfl (.fieldAddr fo34_0 rfl) rfl rfl (by kernel_rfl) <| .t 13 rfl (.load ag9 rfl (.there <| .here) rfl) rfl rfl (by kernel_rfl) <| .t 14 rfl (.strlt rfl rfl) rfl rfl (by kernel_rfl) ?_
      refine .t 15 rfl (.pickT rfl rfl) rfl rfl (by kernel_rfl) <| .done (by kernel_rfl) <| .go ?_
      refine .split 21 rfl (fun h21 => ?_) (fun h21 => ?_)
      · skip
        have hk21 : k < b.tasks.length := by omega
        refine .cond_true rfl <| .skip <| .go <| .block <| .region <| .e (.move rfl) rfl rfl ?_
        refine .e (.add rfl rfl (by first | exact wrap_succ (by omega) | exact IntWalk.i64_in _ (by omega) | exact rfl)) rfl rfl <| .e (.assign rfl) rfl rfl <| .nil <| .blk_normal ?_
        exact .mid (k + 1) ⟨by omega, by omega, fun j hj h => (by rcases Nat.lt_or_eq_of_le (Nat.lt_succ_iff.1 h) with h | h; exact hww j hj h; subst h; exact h21)⟩ ⟨rfl, trivial⟩ rfl rfl (.pre 21 rfl (.app rfl .base))
      · skip
        refine .cond_false rfl <| .exit <| .exit <| .exit <| .blk_exit ?_
        exact .mid (()) trivial ⟨congrArg (fun y : Nat => some (Value.int .i64 (y : Int))) (pos_of (nm := (fun y : Tsk => y.name)) hkk hww (fun _ => h21)).symm, trivial⟩ rfl rfl (.pre 18 rfl (.app rfl (.del rfl .self)))
    · skip
      replace h11 := of_decide_eq_false h11
      refine .s 6 rfl rfl rfl (by kernel_rfl) <| .s 7 rfl rfl rfl (by kernel_rfl) <| .s 8 rfl rfl rfl (by kernel_rfl) <| .s 9 rfl rfl rfl (by kernel_rfl) <| .s 10 rfl rfl rfl (by kernel_rfl) <| .s 11 rfl rfl rfl (by kernel_rfl) ?_
      refine .s 12 rfl rfl rfl (by kernel_rfl) <| .s 13 rfl rfl rfl (by kernel_rfl) <| .s 14 rfl rfl rfl (by kernel_rfl) <| .t 15 rfl (.pickF rfl rfl) rfl rfl (by kernel_rfl) <| .done (by kernel_rfl) <| .go ?_
      refine .cond_false rfl <| .exit <| .exit <| .exit <| .blk_exit ?_
      exact .mid (()) trivial ⟨congrArg (fun y : Nat => some (Value.int .i64 (y : Int))) (pos_of (nm := (fun y : Tsk => y.name)) hkk hww (fun h => absurd h (by omega))).symm, trivial⟩ rfl rfl (.pre 17 rfl (.app rfl (.del rfl .self)))
  · intro _ _
    have hple := pos_le (nm := (fun y : Tsk => y.name)) (l := b.tasks) (s := t.name)
    obtain ⟨p, hp⟩ : ∃ p, posBy (fun y : Tsk => y.name) b.tasks t.name = p := ⟨_, rfl⟩
    rw [hp] at hple
    rw [hp]
    obtain ⟨wsA, hsA, hdA⟩ := SlR.src (B := []) (fun _ _ h => TskR.len h) (SlR.takeN htv0 hple)
    refine .seq ?_
    refine .draw [(c1, _), (c2, _)] mixed (.cons (.there <| .there <| .here) (.cons (.there <| .here) .nil)) ?_
    refine .t 1 rfl (.fieldAddr fo27_1 rfl) rfl rfl (by kernel_rfl) <| .t 2 rfl (.load ag23 rfl .here rfl) rfl rfl (by kernel_rfl) <| .t 3 rfl (.move rfl) rfl rfl (by kernel_rfl) <| .t 4 rfl (.sliceHn sl23 rfl rfl rfl (by omega)) rfl rfl (by kernel_rfl) <| .t 6 rfl (.loadW ag34 sz34 rfl (.there <| .here) rfl) rfl rfl (by kernel_rfl) <| .t 10 rfl (.fieldAddr fo27_1 rfl) rfl rfl (by kernel_rfl) ?_
    refine .t 11 rfl (.load ag23 rfl .here rfl) rfl rfl (by kernel_rfl) <| .t 12 rfl (.move rfl) rfl rfl (by kernel_rfl) <| .t 13 rfl (.sliceL sl23 rfl rfl rfl hple) rfl rfl (by kernel_rfl) <| .one (i := 0) (by kernel_rfl) rfl rfl <| .buildSlice Tryz.underlying23 sz34 (by decide) (by decide) zv34 rfl rfl rfl rfl rfl fun c4 _ _ => ?_
    refine ⟨(.cons (.there <| .there <| .there <| .here) (.cons (.there <| .there <| .here) .nil)), Imm.le_refl _, ?_⟩
    refine .one (i := 5) (by kernel_rfl) rfl rfl <| .append Tryz.underlying23 Tryz.underlying23 sz34 by34 zv34 rfl rfl rfl .here (OwnS.made rfl (by decide)) hsA.any hdA.1 (hdA.ones (by decide) (fun _ _ h => TskR.ones h)) (by rw [List.length_take]; omega) (by rw [List.length_take]; omega) rfl fun v29 ob29 ho29 => ?_
    refine ⟨(.cons (.app <| .there <| .there <| .here) (.cons (.app <| .there <| .here) .nil)), Imm.le_refl _, ?_⟩
    refine .one (i := 7) (by kernel_rfl) rfl rfl <| .call cal27 rfl rfl rfl (rCopyTask_ok ht0 (by have := tsk_few hw; omega) (by have := tsk_few hw; omega)) fun v31 I31 O31 hI31 hK31 => ?_
    obtain ⟨cs31, hq31, hR31, rfl⟩ := hK31
    replace hq31 := hq31.symm
    subst hq31
    have hR31' := hR31
    obtain ⟨lv31, tv31, rfl, hl31, ht31⟩ := hR31'.ex
    obtain ⟨_, _, rfl, -⟩ := hl31
    obtain ⟨_, _, rfl, -⟩ := ht31
    refine ⟨(.cons (.app <| .there <| .there <| .here) (.cons (.app <| .there <| .here) .nil)), hI31, ?_⟩
    refine .one (i := 8) (by kernel_rfl) rfl rfl <| .buildSlice Tryz.underlying23 sz34 (by decide) (by decide) zv34 rfl rfl rfl rfl rfl fun c5 _ _ => ?_
    refine ⟨(.cons (.there <| .app <| .there <| .there <| .here) (.cons (.there <| .app <| .there <| .here) .nil)), hI31, ?_⟩
    refine .one (i := 9) (by kernel_rfl) rfl rfl <| .append Tryz.underlying23 Tryz.underlying23 sz34 by34 zv34 rfl rfl rfl (.there <| .front) ho29 ((OwnS.made (k := 9) rfl (by decide)).src (I := _) .here) rfl rfl (by rw [List.length_take]; omega) (by rw [List.length_take]; omega) rfl fun v33 ob33 ho33 => ?_
    refine ⟨(.cons (.app <| .there <| .there <| .there <| .here) (.cons (.app <| .there <| .there <| .here) .nil)), hI31, ?_⟩
    obtain ⟨wsB, hsB, hdB⟩ := SlR.src (B := []) (fun _ _ h => TskR.len h) (SlR.from (l := p) (TsksR.mono hI31 htv0) hple)
    refine .one (i := 14) (by kernel_rfl) rfl rfl <| .append Tryz.underlying23 Tryz.underlying23 sz34 by34 zv34 rfl rfl rfl .front ho33 hsB.any hdB.1 (hdB.ones (by decide) (fun _ _ h => TskR.ones h)) (by rw [List.length_take, List.length_drop]; omega) (by rw [List.length_take, List.length_drop]; omega) rfl fun v38 ob38 ho38 => ?_
    refine ⟨(.cons (.app <| .there <| .there <| .there <| .here) (.cons (.app <| .there <| .there <| .here) .nil)), hI31, ?_⟩
    refine .t 15 rfl (.fieldAddr fo27_1 rfl) rfl rfl (by kernel_rfl) ?_
    obtain ⟨ad38, cap38, rfl⟩ := ho38.form
    refine .late (i := 16) (by kernel_rfl) (by kernel_rfl) (by kernel_rfl) rfl rfl <| .store sz23 rfl rfl rfl rfl rfl rfl (.app <| .there <| .there <| .there <| .here) <| .go <| .seq <| .region <| .e (.loadW ag27 sz27 rfl (.app <| .there <| .there <| .there <| .here) rfl) rfl rfl <| .on rfl <| .storeW sz27 rfl rfl rfl rfl rfl rfl (.app <| .there <| .here) ?_
    refine .nil <| .go <| .ret ?_
    refine .freezeS ho38 fun K hK hKs => ?_
    have hdc : DR TskR 9 K ((wsA ++ _) ++ wsB) ((b.tasks.take p ++ [t]) ++ b.tasks.drop p) := ((hdA.mono fun _ _ h => (TskR.mono hK (TskR.mono hI31 h))).append (DR.single rfl (TskR.mono hK hR31))).append (hdB.mono fun _ _ h => TskR.mono hK h)
    have hyL : (b.tasks.take p ++ ([t] ++ b.tasks.drop p)).length = 0 + (b.tasks.take p).length + 1 + (b.tasks.drop p).length := by simp; omega
    have hyS : SlR TskR 9 K _ (insAt b.tasks p t) := hKs (R := TskR) (by rw [show insAt b.tasks p t = (b.tasks.take p ++ [t]) ++ b.tasks.drop p by unfold insAt; simp]; exact hdc) (by unfold insAt; simp; omega)
    refine Post.rets rfl (.agg rfl ag27 sz27 (.there <| .here) rfl .nil) rfl (Imm.le_trans hI31 hK) (fun w h => (Sat.tail (Sat.tail (Sat.tail (Sat.tail h))))) ?_
    refine ⟨rfl, _, rfl, ?_⟩
    exact ⟨⟨_, _, _, rfl, NodsR.mono (Imm.le_trans hI31 hK) hnv0, hyS, BndsR.mono (Imm.le_trans hI31 hK) hbv0⟩, hk0.fence⟩

set_option maxHeartbeats 16000000 in
set_option maxRecDepth 20000 in
theorem rwithBind_ok {I : Imm} {O : Own} {kc : List Value} {b : Bk} (hk : BkR I kc b) {xc : List Value} {x : Bnd} (hx : BndR I xc x) (hL : b.binds.length ≤ 1000) :
    Go.Sy.Does Tryz.prog 37 [.agg ⟨kc⟩, .agg ⟨xc⟩] I O (FB (fun cs => .agg ⟨cs⟩) { b with binds := insAt b.binds (posBy (fun y : Bnd => y.task) b.binds x.task) x } O) := by
  have hk0 := hk
  obtain ⟨nv, tv, bv, rfl, hnv, htv, hbv⟩ := hk.ex
  have hnv0 := hnv
  have htv0 := htv
  have hbv0 := hbv
  obtain ⟨na, ncap, rfl, hn1, hn2, -⟩ := hnv
  obtain ⟨ta, tcap, rfl, ht1, ht2, -⟩ := htv
  obtain ⟨ba, bcap, rfl, hb1, hb2, -⟩ := hbv
  have hx0 := hx
  obtain ⟨rfl, hxa, hxb⟩ := hx
  refine Go.Sy.Does.enter Tryz.func37 rfl Tryz.ntmps37 rfl ?_
  refine .seq <| .region <| .on rfl <| .box rfl rfl rfl fun c1 _ _ => .on rfl <| .box rfl rfl rfl fun c2 _ _ => .on rfl <| .alloc zr27 rfl fun c3 _ _ => .nil ?_
  refine .go <| .seq <| .region <| .e (.assign rfl) rfl rfl <| .nil <| .go ?_
  refine .meetO (σ := Unit) [5, 6, 7, 8, 9, 10, 11, 12, 13, 14, 15, 16, 17, 18, 19, 20, 21, 22, 23] (fun _ => True) (fun _ => [(5, .int .i64 (posBy (fun y : Bnd => y.task) b.binds x.task : Nat))]) (fun _ => I) (fun R _ => R) ?_ ?_
  · skip
    refine .block ?_
    refine .loopM [5, 6, 7, 8, 9, 10, 11, 12, 13, 14, 15, 16, 17, 18, 19, 20, 21, 22, 23] (fun k => b.binds.length - k) (fun k => k ≤ b.binds.length ∧ ∀ j (hj : j < b.binds.length), j < k → slt (b.binds[j]).task x.task = true) (fun k => [(5, .int .i64 k)]) (fun _ => _) (fun _ => _) (0) ⟨Nat.zero_le _, fun j _ h => absurd h (by omega)⟩ ⟨rfl, trivial⟩ rfl rfl ?_
    intro k hkk
    obtain ⟨hkk, hww⟩ := hkk
    refine .seq <| .seq ?_
    refine .draw [(c1, _), (c2, _)] mixed (.cons (.there <| .there <| .here) (.cons (.there <| .here) .nil)) ?_
    refine .t 0 rfl (.move rfl) rfl rfl (by kernel_rfl) <| .t 1 rfl (.fieldAddr fo27_2 rfl) rfl rfl (by kernel_rfl) <| .t 2 rfl (.load ag24 rfl .here rfl) rfl rfl (by kernel_rfl) <| .t 3 rfl (.len sl24 rfl rfl) rfl rfl (by kernel_rfl) <| .t 4 rfl (.lss rfl rfl) rfl rfl (by kernel_rfl) <| .t 5 rfl (.move rfl) rfl rfl (by kernel_rfl) ?_
    refine .split 11 rfl (fun h11 => ?_) (fun h11 => ?_)
    · skip
      replace h11 := of_decide_eq_true h11
      refine .t 6 rfl (.fieldAddr fo27_2 rfl) rfl rfl (by kernel_rfl) <| .t 7 rfl (.load ag24 rfl .here rfl) rfl rfl (by kernel_rfl) <| .t 8 rfl (.move rfl) rfl rfl (by kernel_rfl) ?_
      obtain ⟨eb15, eo15, cs15, hd15, hat15, hr15⟩ := SlR.at_ hbv0 (k := k) (by omega)
      cases hd15
      have hx15 := hr15
      obtain ⟨rfl, hx15a, hx15b⟩ := hr15
      refine .t 9 rfl (.indexAddrL sl24 rfl rfl rfl (by omega)) rfl rfl (by kernel_rfl) <| .t 10 rfl (.fieldAddr fo56_0 rfl) rfl rfl (by kernel_rfl) <| .t 11 rfl (.loadI ag9 rfl (hat15.cell (j := 0) rfl)) rfl rfl (by kernel_rfl) <| .t 12 rfl (.fieldAddr fo56_0 rfl) rfl rfl (by kernel_rfl) <| .t 13 rfl (.load ag9 rfl (.there <| .here) rfl) rfl rfl (by kernel_rfl) <| .t 14 rfl (.strlt rfl rfl) rfl rfl (by kernel_rfl) ?_
      refine .t 15 rfl (.pickT rfl rfl) rfl rfl (by kernel_rfl) <| .done (by kernel_rfl) <| .go ?_
      refine .split 21 rfl (fun h21 => ?_) (fun h21 => ?_)
      · skip
        have hk21 : k < b.binds.length := by omega
        refine .cond_true rfl <| .skip <| .go <| .block <| .region <| .e (.move rfl) rfl rfl ?_
        refine .e (.add rfl rfl (by first | exact wrap_succ (by omega) | exact IntWalk.i64_in _ (by omega) | exact rfl)) rfl rfl <| .e (.assign rfl) rfl rfl <| .nil <| .blk_normal ?_
        exact .mid (k + 1) ⟨by omega, by omega, fun j hj h => (by rcases Nat.lt_or_eq_of_le (Nat.lt_succ_iff.1 h) with h | h; exact hww j hj h; subst h; exact h21)⟩ ⟨rfl, trivial⟩ rfl rfl (.pre 21 rfl (.app rfl .base))
      · skip
        refine .cond_false rfl <| .exit <| .exit <| .exit <| .blk_exit ?_
        exact .mid (()) trivial ⟨congrArg (fun y : Nat => some (Value.int .i64 (y : Int))) (pos_of (nm := (fun y : Bnd => y.task)) hkk hww (fun _ => h21)).symm, trivial⟩ rfl rfl (.pre 18 rfl (.app rfl (.del rfl .self)))
    · skip
      replace h11 := of_decide_eq_false h11
      refine .s 6 rfl rfl rfl (by kernel_rfl) <| .s 7 rfl rfl rfl (by kernel_rfl) <| .s 8 rfl rfl rfl (by kernel_rfl) <| .s 9 rfl rfl rfl (by kernel_rfl) <| .s 10 rfl rfl rfl (by kernel_rfl) <| .s 11 rfl rfl rfl (by kernel_rfl) ?_
      refine .s 12 rfl rfl rfl (by kernel_rfl) <| .s 13 rfl rfl rfl (by kernel_rfl) <| .s 14 rfl rfl rfl (by kernel_rfl) <| .t 15 rfl (.pickF rfl rfl) rfl rfl (by kernel_rfl) <| .done (by kernel_rfl) <| .go ?_
      refine .cond_false rfl <| .exit <| .exit <| .exit <| .blk_exit ?_
      exact .mid (()) trivial ⟨congrArg (fun y : Nat => some (Value.int .i64 (y : Int))) (pos_of (nm := (fun y : Bnd => y.task)) hkk hww (fun h => absurd h (by omega))).symm, trivial⟩ rfl rfl (.pre 17 rfl (.app rfl (.del rfl .self)))
  · intro _ _
    have hple := pos_le (nm := (fun y : Bnd => y.task)) (l := b.binds) (s := x.task)
    obtain ⟨p, hp⟩ : ∃ p, posBy (fun y : Bnd => y.task) b.binds x.task = p := ⟨_, rfl⟩
    rw [hp] at hple
    rw [hp]
    obtain ⟨wsA, hsA, hdA⟩ := SlR.src (B := []) (fun _ _ h => BndR.len h) (SlR.takeN hbv0 hple)
    refine .seq ?_
    refine .draw [(c1, _), (c2, _)] mixed (.cons (.there <| .there <| .here) (.cons (.there <| .here) .nil)) ?_
    refine .t 1 rfl (.fieldAddr fo27_2 rfl) rfl rfl (by kernel_rfl) <| .t 2 rfl (.load ag24 rfl .here rfl) rfl rfl (by kernel_rfl) <| .t 3 rfl (.move rfl) rfl rfl (by kernel_rfl) <| .t 4 rfl (.sliceHn sl24 rfl rfl rfl (by omega)) rfl rfl (by kernel_rfl) <| .t 6 rfl (.loadW ag56 sz56 rfl (.there <| .here) rfl) rfl rfl (by kernel_rfl) <| .t 9 rfl (.fieldAddr fo27_2 rfl) rfl rfl (by kernel_rfl) ?_
    refine .t 10 rfl (.load ag24 rfl .here rfl) rfl rfl (by kernel_rfl) <| .t 11 rfl (.move rfl) rfl rfl (by kernel_rfl) <| .t 12 rfl (.sliceL sl24 rfl rfl rfl hple) rfl rfl (by kernel_rfl) ?_
    refine .all (rs := [0, 7]) (by kernel_rfl) (by simp) ⟨⟨_, rfl, .inl ⟨rfl, ?_⟩⟩, ⟨⟨_, rfl, .inl ⟨rfl, ?_⟩⟩, trivial⟩⟩
    · skip
      refine .buildSlice Tryz.underlying24 sz56 (by decide) (by decide) zv56 rfl rfl rfl rfl rfl fun c4 _ _ => ?_
      refine ⟨(.cons (.there <| .there <| .there <| .here) (.cons (.there <| .there <| .here) .nil)), Imm.le_refl _, ?_⟩
      refine .all (rs := [5, 7]) (by kernel_rfl) (by simp) ⟨⟨_, rfl, .inl ⟨rfl, ?_⟩⟩, ⟨⟨_, rfl, .inl ⟨rfl, ?_⟩⟩, trivial⟩⟩
      · skip
        refine .append Tryz.underlying24 Tryz.underlying24 sz56 by56 zv56 rfl rfl rfl .here (OwnS.made rfl (by decide)) hsA.any hdA.1 (hdA.ones (by decide) (fun _ _ h => BndR.ones h)) (by rw [List.length_take]; omega) (by rw [List.length_take]; omega) rfl fun v29 ob29 ho29 => ?_
        refine ⟨(.cons (.app <| .there <| .there <| .here) (.cons (.app <| .there <| .here) .nil)), Imm.le_refl _, ?_⟩
        refine .one (i := 7) (by kernel_rfl) rfl rfl <| .buildSlice Tryz.underlying24 sz56 (by decide) (by decide) zv56 rfl rfl rfl rfl rfl fun c5 _ _ => ?_
        refine ⟨(.cons (.there <| .app <| .there <| .there <| .here) (.cons (.there <| .app <| .there <| .here) .nil)), Imm.le_refl _, ?_⟩
        refine .one (i := 8) (by kernel_rfl) rfl rfl <| .append Tryz.underlying24 Tryz.underlying24 sz56 by56 zv56 rfl rfl rfl (.there <| .front) ho29 ((OwnS.made (k := 2) rfl (by decide)).src (I := _) .here) rfl rfl (by rw [List.length_take]; omega) (by rw [List.length_take]; omega) rfl fun v32 ob32 ho32 => ?_
        refine ⟨(.cons (.app <| .there <| .there <| .there <| .here) (.cons (.app <| .there <| .there <| .here) .nil)), Imm.le_refl _, ?_⟩
        obtain ⟨wsB, hsB, hdB⟩ := SlR.src (B := []) (fun _ _ h => BndR.len h) (SlR.from (l := p) hbv0 hple)
        refine .one (i := 13) (by kernel_rfl) rfl rfl <| .append Tryz.underlying24 Tryz.underlying24 sz56 by56 zv56 rfl rfl rfl .front ho32 hsB.any hdB.1 (hdB.ones (by decide) (fun _ _ h => BndR.ones h)) (by rw [List.length_take, List.length_drop]; omega) (by rw [List.length_take, List.length_drop]; omega) rfl fun v37 ob37 ho37 => ?_
        refine ⟨(.cons (.app <| .there <| .there <| .there <| .here) (.cons (.app <| .there <| .there <| .here) .nil)), Imm.le_refl _, ?_⟩
        refine .t 14 rfl (.fieldAddr fo27_2 rfl) rfl rfl (by kernel_rfl) ?_
        obtain ⟨ad37, cap37, rfl⟩ := ho37.form
        refine .late (i := 15) (by kernel_rfl) (by kernel_rfl) (by kernel_rfl) rfl rfl <| .store sz24 rfl rfl rfl rfl rfl rfl (.app <| .there <| .there <| .there <| .here) <| .go <| .seq <| .region <| .e (.loadW ag27 sz27 rfl (.app <| .there <| .there <| .there <| .here) rfl) rfl rfl <| .on rfl <| .storeW sz27 rfl rfl rfl rfl rfl rfl (.app <| .there <| .here) ?_
        refine .nil <| .go <| .ret ?_
        refine .freezeS ho37 fun K hK hKs => ?_
        have hdc : DR BndR 2 K ((wsA ++ _) ++ wsB) ((b.binds.take p ++ [x]) ++ b.binds.drop p) := ((hdA.mono fun _ _ h => h).append (DR.single rfl (hx0))).append (hdB.mono fun _ _ h => h)
        have hyL : (b.binds.take p ++ ([x] ++ b.binds.drop p)).length = 0 + (b.binds.take p).length + 1 + (b.binds.drop p).length := by simp; omega
        have hyS : SlR BndR 2 K _ (insAt b.binds p x) := hKs (R := BndR) (by rw [show insAt b.binds p x = (b.binds.take p ++ [x]) ++ b.binds.drop p by unfold insAt; simp]; exact hdc) (by unfold insAt; simp; omega)
        refine Post.rets rfl (.agg rfl ag27 sz27 (.there <| .here) rfl .nil) rfl hK (fun w h => (Sat.tail (Sat.tail (Sat.tail (Sat.tail h))))) ?_
        refine ⟨rfl, _, rfl, ?_⟩
        exact ⟨⟨_, _, _, rfl, NodsR.mono hK hnv0, TsksR.mono hK htv0, hyS⟩, hk0.fence⟩
      · skip
        refine .buildSlice Tryz.underlying24 sz56 (by decide) (by decide) zv56 rfl rfl rfl rfl rfl fun c6 _ _ => ?_
        refine ⟨(.cons (.there <| .there <| .there <| .there <| .here) (.cons (.there <| .there <| .there <| .here) .nil)), Imm.le_refl _, ?_⟩
        refine .one (i := 5) (by kernel_rfl) rfl rfl <| .append Tryz.underlying24 Tryz.underlying24 sz56 by56 zv56 rfl rfl rfl (.there <| .here) (OwnS.made rfl (by decide)) hsA.any hdA.1 (hdA.ones (by decide) (fun _ _ h => BndR.ones h)) (by rw [List.length_take]; omega) (by rw [List.length_take]; omega) rfl fun v29 ob29 ho29 => ?_
        refine ⟨(.cons (.app <| .there <| .there <| .there <| .here) (.cons (.app <| .there <| .there <| .here) .nil)), Imm.le_refl _, ?_⟩
        refine .one (i := 8) (by kernel_rfl) rfl rfl <| .append Tryz.underlying24 Tryz.underlying24 sz56 by56 zv56 rfl rfl rfl .front ho29 ((OwnS.made (k := 2) rfl (by decide)).src (I := _) (.app <| .here)) rfl rfl (by rw [List.length_take]; omega) (by rw [List.length_take]; omega) rfl fun v32 ob32 ho32 => ?_
        refine ⟨(.cons (.app <| .there <| .there <| .there <| .here) (.cons (.app <| .there <| .there <| .here) .nil)), Imm.le_refl _, ?_⟩
        obtain ⟨wsB, hsB, hdB⟩ := SlR.src (B := []) (fun _ _ h => BndR.len h) (SlR.from (l := p) hbv0 hple)
        refine .one (i := 13) (by kernel_rfl) rfl rfl <| .append Tryz.underlying24 Tryz.underlying24 sz56 by56 zv56 rfl rfl rfl .front ho32 hsB.any hdB.1 (hdB.ones (by decide) (fun _ _ h => BndR.ones h)) (by rw [List.length_take, List.length_drop]; omega) (by rw [List.length_take, List.length_drop]; omega) rfl fun v37 ob37 ho37 => ?_
        refine ⟨(.cons (.app <| .there <| .there <| .there <| .here) (.cons (.app <| .there <| .there <| .here) .nil)), Imm.le_refl _, ?_⟩
        refine .t 14 rfl (.fieldAddr fo27_2 rfl) rfl rfl (by kernel_rfl) ?_
        obtain ⟨ad37, cap37, rfl⟩ := ho37.form
        refine .late (i := 15) (by kernel_rfl) (by kernel_rfl) (by kernel_rfl) rfl rfl <| .store sz24 rfl rfl rfl rfl rfl rfl (.app <| .there <| .there <| .there <| .here) <| .go <| .seq <| .region <| .e (.loadW ag27 sz27 rfl (.app <| .there <| .there <| .there <| .here) rfl) rfl rfl <| .on rfl <| .storeW sz27 rfl rfl rfl rfl rfl rfl (.app <| .there <| .here) ?_
        refine .nil <| .go <| .ret ?_
        refine .freezeS ho37 fun K hK hKs => ?_
        have hdc : DR BndR 2 K ((wsA ++ _) ++ wsB) ((b.binds.take p ++ [x]) ++ b.binds.drop p) := ((hdA.mono fun _ _ h => h).append (DR.single rfl (hx0))).append (hdB.mono fun _ _ h => h)
        have hyL : (b.binds.take p ++ ([x] ++ b.binds.drop p)).length = 0 + (b.binds.take p).length + 1 + (b.binds.drop p).length := by simp; omega
        have hyS : SlR BndR 2 K _ (insAt b.binds p x) := hKs (R := BndR) (by rw [show insAt b.binds p x = (b.binds.take p ++ [x]) ++ b.binds.drop p by unfold insAt; simp]; exact hdc) (by unfold insAt; simp; omega)
        refine Post.rets rfl (.agg rfl ag27 sz27 (.there <| .here) rfl .nil) rfl hK (fun w h => (Sat.tail (Sat.tail (Sat.tail (Sat.tail h))))) ?_
        refine ⟨rfl, _, rfl, ?_⟩
        exact ⟨⟨_, _, _, rfl, NodsR.mono hK hnv0, TsksR.mono hK htv0, hyS⟩, hk0.fence⟩
    · skip
      refine .buildSlice Tryz.underlying24 sz56 (by decide) (by decide) zv56 rfl rfl rfl rfl rfl fun c7 _ _ => ?_
      refine ⟨(.cons (.there <| .there <| .there <| .here) (.cons (.there <| .there <| .here) .nil)), Imm.le_refl _, ?_⟩
      refine .one (i := 0) (by kernel_rfl) rfl rfl <| .buildSlice Tryz.underlying24 sz56 (by decide) (by decide) zv56 rfl rfl rfl rfl rfl fun c8 _ _ => ?_
      refine ⟨(.cons (.there <| .there <| .there <| .there <| .here) (.cons (.there <| .there <| .there <| .here) .nil)), Imm.le_refl _, ?_⟩
      refine .one (i := 5) (by kernel_rfl) rfl rfl <| .append Tryz.underlying24 Tryz.underlying24 sz56 by56 zv56 rfl rfl rfl .here (OwnS.made rfl (by decide)) hsA.any hdA.1 (hdA.ones (by decide) (fun _ _ h => BndR.ones h)) (by rw [List.length_take]; omega) (by rw [List.length_take]; omega) rfl fun v29 ob29 ho29 => ?_
      refine ⟨(.cons (.app <| .there <| .there <| .there <| .here) (.cons (.app <| .there <| .there <| .here) .nil)), Imm.le_refl _, ?_⟩
      refine .one (i := 8) (by kernel_rfl) rfl rfl <| .append Tryz.underlying24 Tryz.underlying24 sz56 by56 zv56 rfl rfl rfl .front ho29 ((OwnS.made (k := 2) rfl (by decide)).src (I := _) (.app <| .here)) rfl rfl (by rw [List.length_take]; omega) (by rw [List.length_take]; omega) rfl fun v32 ob32 ho32 => ?_
      refine ⟨(.cons (.app <| .there <| .there <| .there <| .here) (.cons (.app <| .there <| .there <| .here) .nil)), Imm.le_refl _, ?_⟩
      obtain ⟨wsB, hsB, hdB⟩ := SlR.src (B := []) (fun _ _ h => BndR.len h) (SlR.from (l := p) hbv0 hple)
      refine .one (i := 13) (by kernel_rfl) rfl rfl <| .append Tryz.underlying24 Tryz.underlying24 sz56 by56 zv56 rfl rfl rfl .front ho32 hsB.any hdB.1 (hdB.ones (by decide) (fun _ _ h => BndR.ones h)) (by rw [List.length_take, List.length_drop]; omega) (by rw [List.length_take, List.length_drop]; omega) rfl fun v37 ob37 ho37 => ?_
      refine ⟨(.cons (.app <| .there <| .there <| .there <| .here) (.cons (.app <| .there <| .there <| .here) .nil)), Imm.le_refl _, ?_⟩
      refine .t 14 rfl (.fieldAddr fo27_2 rfl) rfl rfl (by kernel_rfl) ?_
      obtain ⟨ad37, cap37, rfl⟩ := ho37.form
      refine .late (i := 15) (by kernel_rfl) (by kernel_rfl) (by kernel_rfl) rfl rfl <| .store sz24 rfl rfl rfl rfl rfl rfl (.app <| .there <| .there <| .there <| .here) <| .go <| .seq <| .region <| .e (.loadW ag27 sz27 rfl (.app <| .there <| .there <| .there <| .here) rfl) rfl rfl <| .on rfl <| .storeW sz27 rfl rfl rfl rfl rfl rfl (.app <| .there <| .here) ?_
      refine .nil <| .go <| .ret ?_
      refine .freezeS ho37 fun K hK hKs => ?_
      have hdc : DR BndR 2 K ((wsA ++ _) ++ wsB) ((b.binds.take p ++ [x]) ++ b.binds.drop p) := ((hdA.mono fun _ _ h => h).append (DR.single rfl (hx0))).append (hdB.mono fun _ _ h => h)
      have hyL : (b.binds.take p ++ ([x] ++ b.binds.drop p)).length = 0 + (b.binds.take p).length + 1 + (b.binds.drop p).length := by simp; omega
      have hyS : SlR BndR 2 K _ (insAt b.binds p x) := hKs (R := BndR) (by rw [show insAt b.binds p x = (b.binds.take p ++ [x]) ++ b.binds.drop p by unfold insAt; simp]; exact hdc) (by unfold insAt; simp; omega)
      refine Post.rets rfl (.agg rfl ag27 sz27 (.there <| .here) rfl .nil) rfl hK (fun w h => (Sat.tail (Sat.tail (Sat.tail (Sat.tail h))))) ?_
      refine ⟨rfl, _, rfl, ?_⟩
      exact ⟨⟨_, _, _, rfl, NodsR.mono hK hnv0, TsksR.mono hK htv0, hyS⟩, hk0.fence⟩

end Go.Proofs.YtcojkkndmholaaaGreatDoor
