/- Walks of functions over a symbolic memory, printed by a program of the session. -/
import Derived.Test.YtmmokaockpghaaaGreatDoorBt
import Derived.Test.YtmmokaockpghaaaGreatDoorBp
namespace Go.Proofs.YtmmokaockpghaaaGreatDoor
open Go.Sy
set_option linter.unusedSimpArgs false
set_option linter.unusedVariables false

set_option maxHeartbeats 16000000 in
set_option maxRecDepth 20000 in
theorem rwithNode_ok {I : Imm} {O : Own} {kc : List Value} {b : Bk} (hk : BkR I kc b) {nc : List Value} {n : Nod} (hn : NodR I nc n) (hw : nodWhy n = 0) (hL : b.nodes.length ≤ 1000) :
    Go.Sy.Does Tryz.prog 183 [.agg ⟨kc⟩, .agg ⟨nc⟩] I O (FB (fun cs => .agg ⟨cs⟩) { b with nodes := insAt b.nodes (posBy (fun y : Nod => y.name) b.nodes n.name) n } O) := by
  have hk0 := hk
  obtain ⟨nv, tv, bv, rfl, hnv, htv, hbv⟩ := hk.ex
  have hnv0 := hnv
  have htv0 := htv
  have hbv0 := hbv
  obtain ⟨na, ncap, rfl, hn1, hn2, -⟩ := hnv
  obtain ⟨ta, tcap, rfl, ht1, ht2, -⟩ := htv
  obtain ⟨ba, bcap, rfl, hb1, hb2, -⟩ := hbv
  have hn0 := hn
  obtain ⟨nl, nt, rfl, hnl, hnt⟩ := hn.ex
  have hnl0 := hnl
  obtain ⟨la, lcap, rfl, hl1, hl2, -⟩ := hnl
  have hnt0 := hnt
  obtain ⟨ta, tcap, rfl, ht1, ht2, -⟩ := hnt
  refine Go.Sy.Does.enter Tryz.func183 rfl Tryz.ntmps183 rfl ?_
  refine .seq <| .region <| .on rfl <| .box rfl rfl rfl fun c1 _ _ => .on rfl <| .box rfl rfl rfl fun c2 _ _ => .on rfl <| .alloc zr27 rfl fun c3 _ _ => .nil ?_
  refine .go <| .seq <| .region <| .a rfl <| .nil <| .go ?_
  refine .meetO (σ := Unit) [5, 6, 7, 8, 9, 10, 11, 12, 13, 14, 15, 16, 17, 18, 19, 20, 21, 22, 23] (fun _ => True) (fun _ => [(5, .int .i64 (posBy (fun y : Nod => y.name) b.nodes n.name : Nat))]) (fun _ => I) (fun R _ => R) ?_ ?_
  · skip
    refine .block ?_
    refine .loopM [5, 6, 7, 8, 9, 10, 11, 12, 13, 14, 15, 16, 17, 18, 19, 20, 21, 22, 23] (fun k => b.nodes.length - k) (fun k => k ≤ b.nodes.length ∧ ∀ j (hj : j < b.nodes.length), j < k → slt (b.nodes[j]).name n.name = true) (fun k => [(5, .int .i64 k)]) (fun _ => _) (fun _ => _) (0) ⟨Nat.zero_le _, fun j _ h => absurd h (by omega)⟩ ⟨rfl, trivial⟩ rfl rfl ?_
    intro k hkk
    obtain ⟨hkk, hww⟩ := hkk
    refine .seq <| .seq ?_
    refine .draw [(c1, _), (c2, _)] mixed (.cons (.there <| .there <| .here) (.cons (.there <| .here) .nil)) ?_
    refine .u 0 rfl (.move rfl) <| .u 1 rfl (.fieldAddr fo27_0 rfl) <| .u 2 rfl (.load ag22 rfl .here rfl) <| .u 3 rfl (.len sl22 rfl rfl) <| .u 4 rfl (.lss rfl rfl) <| .u 5 rfl (.move rfl) ?_
    refine .sd 11 rfl (fun h11 => ?_) (fun h11 => ?_)
    · skip
      refine .u 6 rfl (.fieldAddr fo27_0 rfl) <| .u 7 rfl (.load ag22 rfl .here rfl) <| .u 8 rfl (.move rfl) ?_
      obtain ⟨eb15, eo15, cs15, hd15, hat15, hr15⟩ := SlR.at_ hnv0 (k := k) (by omega)
      cases hd15
      have hn15 := hr15
      obtain ⟨xf15, xg15, rfl, hxf15, hxg15⟩ := hr15.ex
      obtain ⟨xh15, xi15, rfl, -⟩ := hxf15
      obtain ⟨xj15, xk15, rfl, -⟩ := hxg15
      refine .u 9 rfl (.indexAddrL sl22 rfl rfl rfl (by omega)) <| .u 10 rfl (.fieldAddr fo45_0 rfl) <| .u 11 rfl (.loadI ag9 rfl (hat15.cell (j := 0) rfl)) <| .u 12 rfl (.fieldAddr fo45_0 rfl) <| .u 13 rfl (.load ag9 rfl (.there <| .here) rfl) <| .u 14 rfl (.strlt rfl rfl) ?_
      refine .u 15 rfl (.pickT rfl rfl) <| .done (by kernel_rfl) <| .go ?_
      refine .split 21 rfl (fun h21 => ?_) (fun h21 => ?_)
      · skip
        have hk21 : k < b.nodes.length := by omega
        refine .cond_true rfl <| .skip <| .go <| .block <| .region <| .m rfl ?_
        refine .f (.add rfl rfl (by first | exact wrap_succ (by omega) | exact IntWalk.i64_in _ (by omega) | exact rfl)) <| .a rfl <| .nil <| .blk_normal ?_
        exact .mid (k + 1) ⟨by omega, by omega, fun j hj h => (by rcases Nat.lt_or_eq_of_le (Nat.lt_succ_iff.1 h) with h | h; exact hww j hj h; subst h; exact h21)⟩ ⟨rfl, trivial⟩ rfl rfl (.pre 21 rfl (.app rfl .base))
      · skip
        refine .cond_false rfl <| .exit <| .exit <| .exit <| .blk_exit ?_
        exact .mid (()) trivial ⟨congrArg (fun y : Nat => some (Value.int .i64 (y : Int))) (pos_of (nm := (fun y : Nod => y.name)) hkk hww (fun _ => h21)).symm, trivial⟩ rfl rfl (.pre 18 rfl (.app rfl (.del rfl .self)))
    · skip
      refine .s 6 rfl rfl rfl (by kernel_rfl) <| .s 7 rfl rfl rfl (by kernel_rfl) <| .s 8 rfl rfl rfl (by kernel_rfl) <| .s 9 rfl rfl rfl (by kernel_rfl) <| .s 10 rfl rfl rfl (by kernel_rfl) <| .s 11 rfl rfl rfl (by kernel_rfl) ?_
      refine .s 12 rfl rfl rfl (by kernel_rfl) <| .s 13 rfl rfl rfl (by kernel_rfl) <| .s 14 rfl rfl rfl (by kernel_rfl) <| .u 15 rfl (.pickF rfl rfl) <| .done (by kernel_rfl) <| .go ?_
      refine .cond_false rfl <| .exit <| .exit <| .exit <| .blk_exit ?_
      exact .mid (()) trivial ⟨congrArg (fun y : Nat => some (Value.int .i64 (y : Int))) (pos_of (nm := (fun y : Nod => y.name)) hkk hww (fun h => absurd h (by omega))).symm, trivial⟩ rfl rfl (.pre 17 rfl (.app rfl (.del rfl .self)))
  · intro _ _
    have hple := pos_le (nm := (fun y : Nod => y.name)) (l := b.nodes) (s := n.name)
    obtain ⟨p, hp⟩ : ∃ p, posBy (fun y : Nod => y.name) b.nodes n.name = p := ⟨_, rfl⟩
    rw [hp] at hple
    rw [hp]
    obtain ⟨wsA, hsA, hdA⟩ := SlR.src (B := []) (fun _ _ h => NodR.len h) (SlR.takeN hnv0 hple)
    refine .seq ?_
    refine .draw [(c1, _), (c2, _)] mixed (.cons (.there <| .there <| .here) (.cons (.there <| .here) .nil)) ?_
    refine .u 1 rfl (.fieldAddr fo27_0 rfl) <| .u 2 rfl (.load ag22 rfl .here rfl) <| .u 3 rfl (.move rfl) <| .u 4 rfl (.sliceHn sl22 rfl rfl rfl (by omega)) <| .u 6 rfl (.loadW ag45 sz45 rfl (.there <| .here) rfl) <| .u 10 rfl (.fieldAddr fo27_0 rfl) ?_
    refine .u 11 rfl (.load ag22 rfl .here rfl) <| .u 12 rfl (.move rfl) <| .u 13 rfl (.sliceL sl22 rfl rfl rfl hple) <| .one (i := 0) (by kernel_rfl) rfl rfl <| .buildSlice Tryz.underlying22 sz45 (by decide) (by decide) zv45 rfl rfl rfl rfl rfl fun c4 _ _ => ?_
    refine ⟨(.cons (.there <| .there <| .there <| .here) (.cons (.there <| .there <| .here) .nil)), Imm.le_refl _, ?_⟩
    refine .one (i := 5) (by kernel_rfl) rfl rfl <| .append Tryz.underlying22 Tryz.underlying22 sz45 by45 zv45 rfl rfl rfl .here (OwnS.made rfl (by decide)) hsA.any hdA.1 (hdA.ones (by decide) (fun _ _ h => NodR.ones h)) (by rw [List.length_take]; omega) (by rw [List.length_take]; omega) rfl fun v29 ob29 ho29 => ?_
    refine ⟨(.cons (.app <| .there <| .there <| .here) (.cons (.app <| .there <| .here) .nil)), Imm.le_refl _, ?_⟩
    refine .one (i := 7) (by kernel_rfl) rfl rfl <| .call cal48 rfl rfl rfl (rCopyNode_ok hn0 (by have := nod_few hw; omega) (by have := nod_few hw; omega)) fun v31 I31 O31 hI31 hK31 => ?_
    obtain ⟨cs31, hq31, hR31, rfl⟩ := hK31
    replace hq31 := hq31.symm
    subst hq31
    have hR31' := hR31
    obtain ⟨lv31, tv31, rfl, hl31, ht31⟩ := hR31'.ex
    obtain ⟨_, _, rfl, -⟩ := hl31
    obtain ⟨_, _, rfl, -⟩ := ht31
    refine ⟨(.cons (.app <| .there <| .there <| .here) (.cons (.app <| .there <| .here) .nil)), hI31, ?_⟩
    refine .one (i := 8) (by kernel_rfl) rfl rfl <| .buildSlice Tryz.underlying22 sz45 (by decide) (by decide) zv45 rfl rfl rfl rfl rfl fun c5 _ _ => ?_
    refine ⟨(.cons (.there <| .app <| .there <| .there <| .here) (.cons (.there <| .app <| .there <| .here) .nil)), hI31, ?_⟩
    refine .one (i := 9) (by kernel_rfl) rfl rfl <| .append Tryz.underlying22 Tryz.underlying22 sz45 by45 zv45 rfl rfl rfl (.there <| .front) ho29 ((OwnS.made (k := 6) rfl (by decide)).src (I := _) .here) rfl rfl (by rw [List.length_take]; omega) (by rw [List.length_take]; omega) rfl fun v33 ob33 ho33 => ?_
    refine ⟨(.cons (.app <| .there <| .there <| .there <| .here) (.cons (.app <| .there <| .there <| .here) .nil)), hI31, ?_⟩
    obtain ⟨wsB, hsB, hdB⟩ := SlR.src (B := []) (fun _ _ h => NodR.len h) (SlR.from (l := p) (NodsR.mono hI31 hnv0) hple)
    refine .one (i := 14) (by kernel_rfl) rfl rfl <| .append Tryz.underlying22 Tryz.underlying22 sz45 by45 zv45 rfl rfl rfl .front ho33 hsB.any hdB.1 (hdB.ones (by decide) (fun _ _ h => NodR.ones h)) (by rw [List.length_take, List.length_drop]; omega) (by rw [List.length_take, List.length_drop]; omega) rfl fun v38 ob38 ho38 => ?_
    refine ⟨(.cons (.app <| .there <| .there <| .there <| .here) (.cons (.app <| .there <| .there <| .here) .nil)), hI31, ?_⟩
    refine .u 15 rfl (.fieldAddr fo27_0 rfl) ?_
    obtain ⟨ad38, cap38, rfl⟩ := ho38.form
    refine .late (i := 16) (by kernel_rfl) (by kernel_rfl) (by kernel_rfl) rfl rfl <| .store sz22 rfl rfl rfl rfl rfl rfl (.app <| .there <| .there <| .there <| .here) <| .go <| .seq <| .region <| .f (.loadW ag27 sz27 rfl (.app <| .there <| .there <| .there <| .here) rfl) <| .on rfl <| .storeW sz27 rfl rfl rfl rfl rfl rfl (.app <| .there <| .here) ?_
    refine .nil <| .go <| .ret ?_
    refine .freezeS ho38 fun K hK hKs => ?_
    have hdc : DR NodR 6 K ((wsA ++ _) ++ wsB) ((b.nodes.take p ++ [n]) ++ b.nodes.drop p) := ((hdA.mono fun _ _ h => (NodR.mono hK (NodR.mono hI31 h))).append (DR.single rfl (NodR.mono hK hR31))).append (hdB.mono fun _ _ h => NodR.mono hK h)
    have hyL : (b.nodes.take p ++ ([n] ++ b.nodes.drop p)).length = 0 + (b.nodes.take p).length + 1 + (b.nodes.drop p).length := by simp; omega
    have hyS : SlR NodR 6 K _ (insAt b.nodes p n) := hKs (R := NodR) (by rw [show insAt b.nodes p n = (b.nodes.take p ++ [n]) ++ b.nodes.drop p by unfold insAt; simp]; exact hdc) (by unfold insAt; simp; omega)
    refine Post.rets rfl (.agg rfl ag27 sz27 (.there <| .here) rfl .nil) rfl (Imm.le_trans hI31 hK) (fun w h => (Sat.tail (Sat.tail (Sat.tail (Sat.tail h))))) ?_
    refine ⟨rfl, _, rfl, ?_⟩
    exact ⟨⟨_, _, _, rfl, hyS, TsksR.mono (Imm.le_trans hI31 hK) htv0, BndsR.mono (Imm.le_trans hI31 hK) hbv0⟩, hk0.fence⟩

set_option maxHeartbeats 16000000 in
set_option maxRecDepth 20000 in
theorem rwithTask_ok {I : Imm} {O : Own} {kc : List Value} {b : Bk} (hk : BkR I kc b) {tc : List Value} {t : Tsk} (ht : TskR I tc t) (hw : tskWhy t = 0) (hL : b.tasks.length ≤ 1000) :
    Go.Sy.Does Tryz.prog 184 [.agg ⟨kc⟩, .agg ⟨tc⟩] I O (FB (fun cs => .agg ⟨cs⟩) { b with tasks := insAt b.tasks (posBy (fun y : Tsk => y.name) b.tasks t.name) t } O) := by
  have hk0 := hk
  obtain ⟨nv, tv, bv, rfl, hnv, htv, hbv⟩ := hk.ex
  have hnv0 := hnv
  have htv0 := htv
  have hbv0 := hbv
  obtain ⟨na, ncap, rfl, hn1, hn2, -⟩ := hnv
  obtain ⟨ta, tcap, rfl, ht1, ht2, -⟩ := htv
  obtain ⟨ba, bcap, rfl, hb1, hb2, -⟩ := hbv
  have ht0 := ht
  obtain ⟨tw, tb, rfl, htw, htb⟩ := ht.ex
  have htw0 := htw
  obtain ⟨wa, wcap, rfl, hw1, hw2, -⟩ := htw
  have htb0 := htb
  obtain ⟨ba, bcap, rfl, hb1, hb2, -⟩ := htb
  refine Go.Sy.Does.enter Tryz.func184 rfl Tryz.ntmps184 rfl ?_
  refine .seq <| .region <| .on rfl <| .box rfl rfl rfl fun c1 _ _ => .on rfl <| .box rfl rfl rfl fun c2 _ _ => .on rfl <| .alloc zr27 rfl fun c3 _ _ => .nil ?_
  refine .go <| .seq <| .region <| .a rfl <| .nil <| .go ?_
  refine .meetO (σ := Unit) [5, 6, 7, 8, 9, 10, 11, 12, 13, 14, 15, 16, 17, 18, 19, 20, 21, 22, 23] (fun _ => True) (fun _ => [(5, .int .i64 (posBy (fun y : Tsk => y.name) b.tasks t.name : Nat))]) (fun _ => I) (fun R _ => R) ?_ ?_
  · skip
    refine .block ?_
    refine .loopM [5, 6, 7, 8, 9, 10, 11, 12, 13, 14, 15, 16, 17, 18, 19, 20, 21, 22, 23] (fun k => b.tasks.length - k) (fun k => k ≤ b.tasks.length ∧ ∀ j (hj : j < b.tasks.length), j < k → slt (b.tasks[j]).name t.name = true) (fun k => [(5, .int .i64 k)]) (fun _ => _) (fun _ => _) (0) ⟨Nat.zero_le _, fun j _ h => absurd h (by omega)⟩ ⟨rfl, trivial⟩ rfl rfl ?_
    intro k hkk
    obtain ⟨hkk, hww⟩ := hkk
    refine .seq <| .seq ?_
    refine .draw [(c1, _), (c2, _)] mixed (.cons (.there <| .there <| .here) (.cons (.there <| .here) .nil)) ?_
    refine .u 0 rfl (.move rfl) <| .u 1 rfl (.fieldAddr fo27_1 rfl) <| .u 2 rfl (.load ag23 rfl .here rfl) <| .u 3 rfl (.len sl23 rfl rfl) <| .u 4 rfl (.lss rfl rfl) <| .u 5 rfl (.move rfl) ?_
    refine .sd 11 rfl (fun h11 => ?_) (fun h11 => ?_)
    · skip
      refine .u 6 rfl (.fieldAddr fo27_1 rfl) <| .u 7 rfl (.load ag23 rfl .here rfl) <| .u 8 rfl (.move rfl) ?_
      obtain ⟨eb15, eo15, cs15, hd15, hat15, hr15⟩ := SlR.at_ htv0 (k := k) (by omega)
      cases hd15
      have ht15 := hr15
      obtain ⟨xw15, xb15, rfl, hxw15, hxb15⟩ := hr15.ex
      obtain ⟨xa15, xc15, rfl, -⟩ := hxw15
      obtain ⟨xd15, xe15, rfl, -⟩ := hxb15
      refine .u 9 rfl (.indexAddrL sl23 rfl rfl rfl (by omega)) <| .u 10 rfl (.fieldAddr fo42_0 rfl) <| .u 11 rfl (.loadI ag9 rfl (hat15.cell (j := 0) rfl)) <| .u 12 rfl (.fieldAddr fo42_0 rfl) <| .u 13 rfl (.load ag9 rfl (.there <| .here) rfl) <| .u 14 rfl (.strlt rfl rfl) ?_
      refine .u 15 rfl (.pickT rfl rfl) <| .done (by kernel_rfl) <| .go ?_
      refine .split 21 rfl (fun h21 => ?_) (fun h21 => ?_)
      · skip
        have hk21 : k < b.tasks.length := by omega
        refine .cond_true rfl <| .skip <| .go <| .block <| .region <| .m rfl ?_
        refine .f (.add rfl rfl (by first | exact wrap_succ (by omega) | exact IntWalk.i64_in _ (by omega) | exact rfl)) <| .a rfl <| .nil <| .blk_normal ?_
        exact .mid (k + 1) ⟨by omega, by omega, fun j hj h => (by rcases Nat.lt_or_eq_of_le (Nat.lt_succ_iff.1 h) with h | h; exact hww j hj h; subst h; exact h21)⟩ ⟨rfl, trivial⟩ rfl rfl (.pre 21 rfl (.app rfl .base))
      · skip
        refine .cond_false rfl <| .exit <| .exit <| .exit <| .blk_exit ?_
        exact .mid (()) trivial ⟨congrArg (fun y : Nat => some (Value.int .i64 (y : Int))) (pos_of (nm := (fun y : Tsk => y.name)) hkk hww (fun _ => h21)).symm, trivial⟩ rfl rfl (.pre 18 rfl (.app rfl (.del rfl .self)))
    · skip
      refine .s 6 rfl rfl rfl (by kernel_rfl) <| .s 7 rfl rfl rfl (by kernel_rfl) <| .s 8 rfl rfl rfl (by kernel_rfl) <| .s 9 rfl rfl rfl (by kernel_rfl) <| .s 10 rfl rfl rfl (by kernel_rfl) <| .s 11 rfl rfl rfl (by kernel_rfl) ?_
      refine .s 12 rfl rfl rfl (by kernel_rfl) <| .s 13 rfl rfl rfl (by kernel_rfl) <| .s 14 rfl rfl rfl (by kernel_rfl) <| .u 15 rfl (.pickF rfl rfl) <| .done (by kernel_rfl) <| .go ?_
      refine .cond_false rfl <| .exit <| .exit <| .exit <| .blk_exit ?_
      exact .mid (()) trivial ⟨congrArg (fun y : Nat => some (Value.int .i64 (y : Int))) (pos_of (nm := (fun y : Tsk => y.name)) hkk hww (fun h => absurd h (by omega))).symm, trivial⟩ rfl rfl (.pre 17 rfl (.app rfl (.del rfl .self)))
  · intro _ _
    have hple := pos_le (nm := (fun y : Tsk => y.name)) (l := b.tasks) (s := t.name)
    obtain ⟨p, hp⟩ : ∃ p, posBy (fun y : Tsk => y.name) b.tasks t.name = p := ⟨_, rfl⟩
    rw [hp] at hple
    rw [hp]
    obtain ⟨wsA, hsA, hdA⟩ := SlR.src (B := []) (fun _ _ h => TskR.len h) (SlR.takeN htv0 hple)
    refine .seq ?_
    refine .draw [(c1, _), (c2, _)] mixed (.cons (.there <| .there <| .here) (.cons (.there <| .here) .nil)) ?_
    refine .u 1 rfl (.fieldAddr fo27_1 rfl) <| .u 2 rfl (.load ag23 rfl .here rfl) <| .u 3 rfl (.move rfl) <| .u 4 rfl (.sliceHn sl23 rfl rfl rfl (by omega)) <| .u 6 rfl (.loadW ag42 sz42 rfl (.there <| .here) rfl) <| .u 10 rfl (.fieldAddr fo27_1 rfl) ?_
    refine .u 11 rfl (.load ag23 rfl .here rfl) <| .u 12 rfl (.move rfl) <| .u 13 rfl (.sliceL sl23 rfl rfl rfl hple) <| .one (i := 0) (by kernel_rfl) rfl rfl <| .buildSlice Tryz.underlying23 sz42 (by decide) (by decide) zv42 rfl rfl rfl rfl rfl fun c4 _ _ => ?_
    refine ⟨(.cons (.there <| .there <| .there <| .here) (.cons (.there <| .there <| .here) .nil)), Imm.le_refl _, ?_⟩
    refine .one (i := 5) (by kernel_rfl) rfl rfl <| .append Tryz.underlying23 Tryz.underlying23 sz42 by42 zv42 rfl rfl rfl .here (OwnS.made rfl (by decide)) hsA.any hdA.1 (hdA.ones (by decide) (fun _ _ h => TskR.ones h)) (by rw [List.length_take]; omega) (by rw [List.length_take]; omega) rfl fun v29 ob29 ho29 => ?_
    refine ⟨(.cons (.app <| .there <| .there <| .here) (.cons (.app <| .there <| .here) .nil)), Imm.le_refl _, ?_⟩
    refine .one (i := 7) (by kernel_rfl) rfl rfl <| .call cal46 rfl rfl rfl (rCopyTask_ok ht0 (by have := tsk_few hw; omega) (by have := tsk_few hw; omega)) fun v31 I31 O31 hI31 hK31 => ?_
    obtain ⟨cs31, hq31, hR31, rfl⟩ := hK31
    replace hq31 := hq31.symm
    subst hq31
    have hR31' := hR31
    obtain ⟨lv31, tv31, rfl, hl31, ht31⟩ := hR31'.ex
    obtain ⟨_, _, rfl, -⟩ := hl31
    obtain ⟨_, _, rfl, -⟩ := ht31
    refine ⟨(.cons (.app <| .there <| .there <| .here) (.cons (.app <| .there <| .here) .nil)), hI31, ?_⟩
    refine .one (i := 8) (by kernel_rfl) rfl rfl <| .buildSlice Tryz.underlying23 sz42 (by decide) (by decide) zv42 rfl rfl rfl rfl rfl fun c5 _ _ => ?_
    refine ⟨(.cons (.there <| .app <| .there <| .there <| .here) (.cons (.there <| .app <| .there <| .here) .nil)), hI31, ?_⟩
    refine .one (i := 9) (by kernel_rfl) rfl rfl <| .append Tryz.underlying23 Tryz.underlying23 sz42 by42 zv42 rfl rfl rfl (.there <| .front) ho29 ((OwnS.made (k := 9) rfl (by decide)).src (I := _) .here) rfl rfl (by rw [List.length_take]; omega) (by rw [List.length_take]; omega) rfl fun v33 ob33 ho33 => ?_
    refine ⟨(.cons (.app <| .there <| .there <| .there <| .here) (.cons (.app <| .there <| .there <| .here) .nil)), hI31, ?_⟩
    obtain ⟨wsB, hsB, hdB⟩ := SlR.src (B := []) (fun _ _ h => TskR.len h) (SlR.from (l := p) (TsksR.mono hI31 htv0) hple)
    refine .one (i := 14) (by kernel_rfl) rfl rfl <| .append Tryz.underlying23 Tryz.underlying23 sz42 by42 zv42 rfl rfl rfl .front ho33 hsB.any hdB.1 (hdB.ones (by decide) (fun _ _ h => TskR.ones h)) (by rw [List.length_take, List.length_drop]; omega) (by rw [List.length_take, List.length_drop]; omega) rfl fun v38 ob38 ho38 => ?_
    refine ⟨(.cons (.app <| .there <| .there <| .there <| .here) (.cons (.app <| .there <| .there <| .here) .nil)), hI31, ?_⟩
    refine .u 15 rfl (.fieldAddr fo27_1 rfl) ?_
    obtain ⟨ad38, cap38, rfl⟩ := ho38.form
    refine .late (i := 16) (by kernel_rfl) (by kernel_rfl) (by kernel_rfl) rfl rfl <| .store sz23 rfl rfl rfl rfl rfl rfl (.app <| .there <| .there <| .there <| .here) <| .go <| .seq <| .region <| .f (.loadW ag27 sz27 rfl (.app <| .there <| .there <| .there <| .here) rfl) <| .on rfl <| .storeW sz27 rfl rfl rfl rfl rfl rfl (.app <| .there <| .here) ?_
    refine .nil <| .go <| .ret ?_
    refine .freezeS ho38 fun K hK hKs => ?_
    have hdc : DR TskR 9 K ((wsA ++ _) ++ wsB) ((b.tasks.take p ++ [t]) ++ b.tasks.drop p) := ((hdA.mono fun _ _ h => (TskR.mono hK (TskR.mono hI31 h))).append (DR.single rfl (TskR.mono hK hR31))).append (hdB.mono fun _ _ h => TskR.mono hK h)
    have hyL : (b.tasks.take p ++ ([t] ++ b.tasks.drop p)).length = 0 + (b.tasks.take p).length + 1 + (b.tasks.drop p).length := by simp; omega
    have hyS : SlR TskR 9 K _ (insAt b.tasks p t) := hKs (R := TskR) (by rw [show insAt b.tasks p t = (b.tasks.take p ++ [t]) ++ b.tasks.drop p by unfold insAt; simp]; exact hdc) (by unfold insAt; simp; omega)
    refine Post.rets rfl (.agg rfl ag27 sz27 (.there <| .here) rfl .nil) rfl (Imm.le_trans hI31 hK) (fun w h => (Sat.tail (Sat.tail (Sat.tail (Sat.tail h))))) ?_
    refine ⟨rfl, _, rfl, ?_⟩
    exact ⟨⟨_, _, _, rfl, NodsR.mono (Imm.le_trans hI31 hK) hnv0, hyS, BndsR.mono (Imm.le_trans hI31 hK) hbv0⟩, hk0.fence⟩

set_option maxHeartbeats 16000000 in
set_option maxRecDepth 20000 in
theorem rwithBind_ok {I : Imm} {O : Own} {kc : List Value} {b : Bk} (hk : BkR I kc b) {xc : List Value} {x : Bnd} (hx : BndR I xc x) (hL : b.binds.length ≤ 1000) :
    Go.Sy.Does Tryz.prog 137 [.agg ⟨kc⟩, .agg ⟨xc⟩] I O (FB (fun cs => .agg ⟨cs⟩) { b with binds := insAt b.binds (posBy (fun y : Bnd => y.task) b.binds x.task) x } O) := by
  have hk0 := hk
  obtain ⟨nv, tv, bv, rfl, hnv, htv, hbv⟩ := hk.ex
  have hnv0 := hnv
  have htv0 := htv
  have hbv0 := hbv
  obtain ⟨na, ncap, rfl, hn1, hn2, -⟩ := hnv
  obtain ⟨ta, tcap, rfl, ht1, ht2, -⟩ := htv
  obtain ⟨ba, bcap, rfl, hb1, hb2, -⟩ := hbv
  have hx0 := hx
  obtain ⟨rfl, hxa, hxb⟩ := hx
  refine Go.Sy.Does.enter Tryz.func137 rfl Tryz.ntmps137 rfl ?_
  refine .seq <| .region <| .on rfl <| .box rfl rfl rfl fun c1 _ _ => .on rfl <| .box rfl rfl rfl fun c2 _ _ => .on rfl <| .alloc zr27 rfl fun c3 _ _ => .nil ?_
  refine .go <| .seq <| .region <| .a rfl <| .nil <| .go ?_
  refine .meetO (σ := Unit) [5, 6, 7, 8, 9, 10, 11, 12, 13, 14, 15, 16, 17, 18, 19, 20, 21, 22, 23] (fun _ => True) (fun _ => [(5, .int .i64 (posBy (fun y : Bnd => y.task) b.binds x.task : Nat))]) (fun _ => I) (fun R _ => R) ?_ ?_
  · skip
    refine .block ?_
    refine .loopM [5, 6, 7, 8, 9, 10, 11, 12, 13, 14, 15, 16, 17, 18, 19, 20, 21, 22, 23] (fun k => b.binds.length - k) (fun k => k ≤ b.binds.length ∧ ∀ j (hj : j < b.binds.length), j < k → slt (b.binds[j]).task x.task = true) (fun k => [(5, .int .i64 k)]) (fun _ => _) (fun _ => _) (0) ⟨Nat.zero_le _, fun j _ h => absurd h (by omega)⟩ ⟨rfl, trivial⟩ rfl rfl ?_
    intro k hkk
    obtain ⟨hkk, hww⟩ := hkk
    refine .seq <| .seq ?_
    refine .draw [(c1, _), (c2, _)] mixed (.cons (.there <| .there <| .here) (.cons (.there <| .here) .nil)) ?_
    refine .u 0 rfl (.move rfl) <| .u 1 rfl (.fieldAddr fo27_2 rfl) <| .u 2 rfl (.load ag24 rfl .here rfl) <| .u 3 rfl (.len sl24 rfl rfl) <| .u 4 rfl (.lss rfl rfl) <| .u 5 rfl (.move rfl) ?_
    refine .sd 11 rfl (fun h11 => ?_) (fun h11 => ?_)
    · skip
      refine .u 6 rfl (.fieldAddr fo27_2 rfl) <| .u 7 rfl (.load ag24 rfl .here rfl) <| .u 8 rfl (.move rfl) ?_
      obtain ⟨eb15, eo15, cs15, hd15, hat15, hr15⟩ := SlR.at_ hbv0 (k := k) (by omega)
      cases hd15
      have hx15 := hr15
      obtain ⟨rfl, hx15a, hx15b⟩ := hr15
      refine .u 9 rfl (.indexAddrL sl24 rfl rfl rfl (by omega)) <| .u 10 rfl (.fieldAddr fo51_0 rfl) <| .u 11 rfl (.loadI ag9 rfl (hat15.cell (j := 0) rfl)) <| .u 12 rfl (.fieldAddr fo51_0 rfl) <| .u 13 rfl (.load ag9 rfl (.there <| .here) rfl) <| .u 14 rfl (.strlt rfl rfl) ?_
      refine .u 15 rfl (.pickT rfl rfl) <| .done (by kernel_rfl) <| .go ?_
      refine .split 21 rfl (fun h21 => ?_) (fun h21 => ?_)
      · skip
        have hk21 : k < b.binds.length := by omega
        refine .cond_true rfl <| .skip <| .go <| .block <| .region <| .m rfl ?_
        refine .f (.add rfl rfl (by first | exact wrap_succ (by omega) | exact IntWalk.i64_in _ (by omega) | exact rfl)) <| .a rfl <| .nil <| .blk_normal ?_
        exact .mid (k + 1) ⟨by omega, by omega, fun j hj h => (by rcases Nat.lt_or_eq_of_le (Nat.lt_succ_iff.1 h) with h | h; exact hww j hj h; subst h; exact h21)⟩ ⟨rfl, trivial⟩ rfl rfl (.pre 21 rfl (.app rfl .base))
      · skip
        refine .cond_false rfl <| .exit <| .exit <| .exit <| .blk_exit ?_
        exact .mid (()) trivial ⟨congrArg (fun y : Nat => some (Value.int .i64 (y : Int))) (pos_of (nm := (fun y : Bnd => y.task)) hkk hww (fun _ => h21)).symm, trivial⟩ rfl rfl (.pre 18 rfl (.app rfl (.del rfl .self)))
    · skip
      refine .s 6 rfl rfl rfl (by kernel_rfl) <| .s 7 rfl rfl rfl (by kernel_rfl) <| .s 8 rfl rfl rfl (by kernel_rfl) <| .s 9 rfl rfl rfl (by kernel_rfl) <| .s 10 rfl rfl rfl (by kernel_rfl) <| .s 11 rfl rfl rfl (by kernel_rfl) ?_
      refine .s 12 rfl rfl rfl (by kernel_rfl) <| .s 13 rfl rfl rfl (by kernel_rfl) <| .s 14 rfl rfl rfl (by kernel_rfl) <| .u 15 rfl (.pickF rfl rfl) <| .done (by kernel_rfl) <| .go ?_
      refine .cond_false rfl <| .exit <| .exit <| .exit <| .blk_exit ?_
      exact .mid (()) trivial ⟨congrArg (fun y : Nat => some (Value.int .i64 (y : Int))) (pos_of (nm := (fun y : Bnd => y.task)) hkk hww (fun h => absurd h (by omega))).symm, trivial⟩ rfl rfl (.pre 17 rfl (.app rfl (.del rfl .self)))
  · intro _ _
    have hple := pos_le (nm := (fun y : Bnd => y.task)) (l := b.binds) (s := x.task)
    obtain ⟨p, hp⟩ : ∃ p, posBy (fun y : Bnd => y.task) b.binds x.task = p := ⟨_, rfl⟩
    rw [hp] at hple
    rw [hp]
    obtain ⟨wsA, hsA, hdA⟩ := SlR.src (B := []) (fun _ _ h => BndR.len h) (SlR.takeN hbv0 hple)
    refine .seq ?_
    refine .draw [(c1, _), (c2, _)] mixed (.cons (.there <| .there <| .here) (.cons (.there <| .here) .nil)) ?_
    refine .u 1 rfl (.fieldAddr fo27_2 rfl) <| .u 2 rfl (.load ag24 rfl .here rfl) <| .u 3 rfl (.move rfl) <| .u 4 rfl (.sliceHn sl24 rfl rfl rfl (by omega)) <| .u 6 rfl (.loadW ag51 sz51 rfl (.there <| .here) rfl) <| .u 9 rfl (.fieldAddr fo27_2 rfl) ?_
    refine .u 10 rfl (.load ag24 rfl .here rfl) <| .u 11 rfl (.move rfl) <| .u 12 rfl (.sliceL sl24 rfl rfl rfl hple) ?_
    refine .all (rs := [0, 7]) (by kernel_rfl) (by simp) ⟨⟨_, rfl, .inl ⟨rfl, ?_⟩⟩, ⟨⟨_, rfl, .inl ⟨rfl, ?_⟩⟩, trivial⟩⟩
    · skip
      refine .buildSlice Tryz.underlying24 sz51 (by decide) (by decide) zv51 rfl rfl rfl rfl rfl fun c4 _ _ => ?_
      refine ⟨(.cons (.there <| .there <| .there <| .here) (.cons (.there <| .there <| .here) .nil)), Imm.le_refl _, ?_⟩
      refine .all (rs := [5, 7]) (by kernel_rfl) (by simp) ⟨⟨_, rfl, .inl ⟨rfl, ?_⟩⟩, ⟨⟨_, rfl, .inl ⟨rfl, ?_⟩⟩, trivial⟩⟩
      · skip
        refine .append Tryz.underlying24 Tryz.underlying24 sz51 by51 zv51 rfl rfl rfl .here (OwnS.made rfl (by decide)) hsA.any hdA.1 (hdA.ones (by decide) (fun _ _ h => BndR.ones h)) (by rw [List.length_take]; omega) (by rw [List.length_take]; omega) rfl fun v29 ob29 ho29 => ?_
        refine ⟨(.cons (.app <| .there <| .there <| .here) (.cons (.app <| .there <| .here) .nil)), Imm.le_refl _, ?_⟩
        refine .one (i := 7) (by kernel_rfl) rfl rfl <| .buildSlice Tryz.underlying24 sz51 (by decide) (by decide) zv51 rfl rfl rfl rfl rfl fun c5 _ _ => ?_
        refine ⟨(.cons (.there <| .app <| .there <| .there <| .here) (.cons (.there <| .app <| .there <| .here) .nil)), Imm.le_refl _, ?_⟩
        refine .one (i := 8) (by kernel_rfl) rfl rfl <| .append Tryz.underlying24 Tryz.underlying24 sz51 by51 zv51 rfl rfl rfl (.there <| .front) ho29 ((OwnS.made (k := 2) rfl (by decide)).src (I := _) .here) rfl rfl (by rw [List.length_take]; omega) (by rw [List.length_take]; omega) rfl fun v32 ob32 ho32 => ?_
        refine ⟨(.cons (.app <| .there <| .there <| .there <| .here) (.cons (.app <| .there <| .there <| .here) .nil)), Imm.le_refl _, ?_⟩
        obtain ⟨wsB, hsB, hdB⟩ := SlR.src (B := []) (fun _ _ h => BndR.len h) (SlR.from (l := p) hbv0 hple)
        refine .one (i := 13) (by kernel_rfl) rfl rfl <| .append Tryz.underlying24 Tryz.underlying24 sz51 by51 zv51 rfl rfl rfl .front ho32 hsB.any hdB.1 (hdB.ones (by decide) (fun _ _ h => BndR.ones h)) (by rw [List.length_take, List.length_drop]; omega) (by rw [List.length_take, List.length_drop]; omega) rfl fun v37 ob37 ho37 => ?_
        refine ⟨(.cons (.app <| .there <| .there <| .there <| .here) (.cons (.app <| .there <| .there <| .here) .nil)), Imm.le_refl _, ?_⟩
        refine .u 14 rfl (.fieldAddr fo27_2 rfl) ?_
        obtain ⟨ad37, cap37, rfl⟩ := ho37.form
        refine .late (i := 15) (by kernel_rfl) (by kernel_rfl) (by kernel_rfl) rfl rfl <| .store sz24 rfl rfl rfl rfl rfl rfl (.app <| .there <| .there <| .there <| .here) <| .go <| .seq <| .region <| .f (.loadW ag27 sz27 rfl (.app <| .there <| .there <| .there <| .here) rfl) <| .on rfl <| .storeW sz27 rfl rfl rfl rfl rfl rfl (.app <| .there <| .here) ?_
        refine .nil <| .go <| .ret ?_
        refine .freezeS ho37 fun K hK hKs => ?_
        have hdc : DR BndR 2 K ((wsA ++ _) ++ wsB) ((b.binds.take p ++ [x]) ++ b.binds.drop p) := ((hdA.mono fun _ _ h => h).append (DR.single rfl (hx0))).append (hdB.mono fun _ _ h => h)
        have hyL : (b.binds.take p ++ ([x] ++ b.binds.drop p)).length = 0 + (b.binds.take p).length + 1 + (b.binds.drop p).length := by simp; omega
        have hyS : SlR BndR 2 K _ (insAt b.binds p x) := hKs (R := BndR) (by rw [show insAt b.binds p x = (b.binds.take p ++ [x]) ++ b.binds.drop p by unfold insAt; simp]; exact hdc) (by unfold insAt; simp; omega)
        refine Post.rets rfl (.agg rfl ag27 sz27 (.there <| .here) rfl .nil) rfl hK (fun w h => (Sat.tail (Sat.tail (Sat.tail (Sat.tail h))))) ?_
        refine ⟨rfl, _, rfl, ?_⟩
        exact ⟨⟨_, _, _, rfl, NodsR.mono hK hnv0, TsksR.mono hK htv0, hyS⟩, hk0.fence⟩
      · skip
        refine .buildSlice Tryz.underlying24 sz51 (by decide) (by decide) zv51 rfl rfl rfl rfl rfl fun c6 _ _ => ?_
        refine ⟨(.cons (.there <| .there <| .there <| .there <| .here) (.cons (.there <| .there <| .there <| .here) .nil)), Imm.le_refl _, ?_⟩
        refine .one (i := 5) (by kernel_rfl) rfl rfl <| .append Tryz.underlying24 Tryz.underlying24 sz51 by51 zv51 rfl rfl rfl (.there <| .here) (OwnS.made rfl (by decide)) hsA.any hdA.1 (hdA.ones (by decide) (fun _ _ h => BndR.ones h)) (by rw [List.length_take]; omega) (by rw [List.length_take]; omega) rfl fun v29 ob29 ho29 => ?_
        refine ⟨(.cons (.app <| .there <| .there <| .there <| .here) (.cons (.app <| .there <| .there <| .here) .nil)), Imm.le_refl _, ?_⟩
        refine .one (i := 8) (by kernel_rfl) rfl rfl <| .append Tryz.underlying24 Tryz.underlying24 sz51 by51 zv51 rfl rfl rfl .front ho29 ((OwnS.made (k := 2) rfl (by decide)).src (I := _) (.app <| .here)) rfl rfl (by rw [List.length_take]; omega) (by rw [List.length_take]; omega) rfl fun v32 ob32 ho32 => ?_
        refine ⟨(.cons (.app <| .there <| .there <| .there <| .here) (.cons (.app <| .there <| .there <| .here) .nil)), Imm.le_refl _, ?_⟩
        obtain ⟨wsB, hsB, hdB⟩ := SlR.src (B := []) (fun _ _ h => BndR.len h) (SlR.from (l := p) hbv0 hple)
        refine .one (i := 13) (by kernel_rfl) rfl rfl <| .append Tryz.underlying24 Tryz.underlying24 sz51 by51 zv51 rfl rfl rfl .front ho32 hsB.any hdB.1 (hdB.ones (by decide) (fun _ _ h => BndR.ones h)) (by rw [List.length_take, List.length_drop]; omega) (by rw [List.length_take, List.length_drop]; omega) rfl fun v37 ob37 ho37 => ?_
        refine ⟨(.cons (.app <| .there <| .there <| .there <| .here) (.cons (.app <| .there <| .there <| .here) .nil)), Imm.le_refl _, ?_⟩
        refine .u 14 rfl (.fieldAddr fo27_2 rfl) ?_
        obtain ⟨ad37, cap37, rfl⟩ := ho37.form
        refine .late (i := 15) (by kernel_rfl) (by kernel_rfl) (by kernel_rfl) rfl rfl <| .store sz24 rfl rfl rfl rfl rfl rfl (.app <| .there <| .there <| .there <| .here) <| .go <| .seq <| .region <| .f (.loadW ag27 sz27 rfl (.app <| .there <| .there <| .there <| .here) rfl) <| .on rfl <| .storeW sz27 rfl rfl rfl rfl rfl rfl (.app <| .there <| .here) ?_
        refine .nil <| .go <| .ret ?_
        refine .freezeS ho37 fun K hK hKs => ?_
        have hdc : DR BndR 2 K ((wsA ++ _) ++ wsB) ((b.binds.take p ++ [x]) ++ b.binds.drop p) := ((hdA.mono fun _ _ h => h).append (DR.single rfl (hx0))).append (hdB.mono fun _ _ h => h)
        have hyL : (b.binds.take p ++ ([x] ++ b.binds.drop p)).length = 0 + (b.binds.take p).length + 1 + (b.binds.drop p).length := by simp; omega
        have hyS : SlR BndR 2 K _ (insAt b.binds p x) := hKs (R := BndR) (by rw [show insAt b.binds p x = (b.binds.take p ++ [x]) ++ b.binds.drop p by unfold insAt; simp]; exact hdc) (by unfold insAt; simp; omega)
        refine Post.rets rfl (.agg rfl ag27 sz27 (.there <| .here) rfl .nil) rfl hK (fun w h => (Sat.tail (Sat.tail (Sat.tail (Sat.tail h))))) ?_
        refine ⟨rfl, _, rfl, ?_⟩
        exact ⟨⟨_, _, _, rfl, NodsR.mono hK hnv0, TsksR.mono hK htv0, hyS⟩, hk0.fence⟩
    · skip
      refine .buildSlice Tryz.underlying24 sz51 (by decide) (by decide) zv51 rfl rfl rfl rfl rfl fun c7 _ _ => ?_
      refine ⟨(.cons (.there <| .there <| .there <| .here) (.cons (.there <| .there <| .here) .nil)), Imm.le_refl _, ?_⟩
      refine .one (i := 0) (by kernel_rfl) rfl rfl <| .buildSlice Tryz.underlying24 sz51 (by decide) (by decide) zv51 rfl rfl rfl rfl rfl fun c8 _ _ => ?_
      refine ⟨(.cons (.there <| .there <| .there <| .there <| .here) (.cons (.there <| .there <| .there <| .here) .nil)), Imm.le_refl _, ?_⟩
      refine .one (i := 5) (by kernel_rfl) rfl rfl <| .append Tryz.underlying24 Tryz.underlying24 sz51 by51 zv51 rfl rfl rfl .here (OwnS.made rfl (by decide)) hsA.any hdA.1 (hdA.ones (by decide) (fun _ _ h => BndR.ones h)) (by rw [List.length_take]; omega) (by rw [List.length_take]; omega) rfl fun v29 ob29 ho29 => ?_
      refine ⟨(.cons (.app <| .there <| .there <| .there <| .here) (.cons (.app <| .there <| .there <| .here) .nil)), Imm.le_refl _, ?_⟩
      refine .one (i := 8) (by kernel_rfl) rfl rfl <| .append Tryz.underlying24 Tryz.underlying24 sz51 by51 zv51 rfl rfl rfl .front ho29 ((OwnS.made (k := 2) rfl (by decide)).src (I := _) (.app <| .here)) rfl rfl (by rw [List.length_take]; omega) (by rw [List.length_take]; omega) rfl fun v32 ob32 ho32 => ?_
      refine ⟨(.cons (.app <| .there <| .there <| .there <| .here) (.cons (.app <| .there <| .there <| .here) .nil)), Imm.le_refl _, ?_⟩
      obtain ⟨wsB, hsB, hdB⟩ := SlR.src (B := []) (fun _ _ h => BndR.len h) (SlR.from (l := p) hbv0 hple)
      refine .one (i := 13) (by kernel_rfl) rfl rfl <| .append Tryz.underlying24 Tryz.underlying24 sz51 by51 zv51 rfl rfl rfl .front ho32 hsB.any hdB.1 (hdB.ones (by decide) (fun _ _ h => BndR.ones h)) (by rw [List.length_take, List.length_drop]; omega) (by rw [List.length_take, List.length_drop]; omega) rfl fun v37 ob37 ho37 => ?_
      refine ⟨(.cons (.app <| .there <| .there <| .there <| .here) (.cons (.app <| .there <| .there <| .here) .nil)), Imm.le_refl _, ?_⟩
      refine .u 14 rfl (.fieldAddr fo27_2 rfl) ?_
      obtain ⟨ad37, cap37, rfl⟩ := ho37.form
      refine .late (i := 15) (by kernel_rfl) (by kernel_rfl) (by kernel_rfl) rfl rfl <| .store sz24 rfl rfl rfl rfl rfl rfl (.app <| .there <| .there <| .there <| .here) <| .go <| .seq <| .region <| .f (.loadW ag27 sz27 rfl (.app <| .there <| .there <| .there <| .here) rfl) <| .on rfl <| .storeW sz27 rfl rfl rfl rfl rfl rfl (.app <| .there <| .here) ?_
      refine .nil <| .go <| .ret ?_
      refine .freezeS ho37 fun K hK hKs => ?_
      have hdc : DR BndR 2 K ((wsA ++ _) ++ wsB) ((b.binds.take p ++ [x]) ++ b.binds.drop p) := ((hdA.mono fun _ _ h => h).append (DR.single rfl (hx0))).append (hdB.mono fun _ _ h => h)
      have hyL : (b.binds.take p ++ ([x] ++ b.binds.drop p)).length = 0 + (b.binds.take p).length + 1 + (b.binds.drop p).length := by simp; omega
      have hyS : SlR BndR 2 K _ (insAt b.binds p x) := hKs (R := BndR) (by rw [show insAt b.binds p x = (b.binds.take p ++ [x]) ++ b.binds.drop p by unfold insAt; simp]; exact hdc) (by unfold insAt; simp; omega)
      refine Post.rets rfl (.agg rfl ag27 sz27 (.there <| .here) rfl .nil) rfl hK (fun w h => (Sat.tail (Sat.tail (Sat.tail (Sat.tail h))))) ?_
      refine ⟨rfl, _, rfl, ?_⟩
      exact ⟨⟨_, _, _, rfl, NodsR.mono hK hnv0, TsksR.mono hK htv0, hyS⟩, hk0.fence⟩

theorem free_eq {b : Bk} {s : ByteArray} (h : Rising (fun x : Bnd => x.task) b.binds) : { b with binds := b.binds.filter fun x => !decide (x.task = s) } = freeR b s := by
  unfold freeR
  split
  · rename_i hs
    obtain ⟨hk, hks⟩ := has_get h hs
    have hp := rising_pw.1 h
    have hsp := get_split hk
    rw [hsp, List.pairwise_append, List.pairwise_cons] at hp
    have e : b.binds.filter (fun x => !decide (x.task = s)) = delAt b.binds (posB b s) := by
      have e1 : b.binds.filter (fun x => !decide (x.task = s)) = (b.binds.take (posB b s) ++ (b.binds[posB b s]'hk :: b.binds.drop (posB b s + 1))).filter (fun x => !decide (x.task = s)) := congrArg (fun l : List Bnd => l.filter (fun x => !decide (x.task = s))) hsp
      rw [e1, List.filter_append, List.filter_cons]
      have h1 : (b.binds.take (posB b s)).filter (fun x => !decide (x.task = s)) = b.binds.take (posB b s) := by
        rw [List.filter_eq_self]
        intro a ha
        have h2 := hp.2.2 a ha _ List.mem_cons_self
        simp only [Bool.not_eq_true', decide_eq_false_iff_not]
        intro e; rw [e, hks, lt_irr] at h2; cases h2
      have h3 : (b.binds.drop (posB b s + 1)).filter (fun x => !decide (x.task = s)) = b.binds.drop (posB b s + 1) := by
        rw [List.filter_eq_self]
        intro a ha
        have h2 := hp.2.1.1 a ha
        simp only [Bool.not_eq_true', decide_eq_false_iff_not]
        intro e; rw [e, hks, lt_irr] at h2; cases h2
      have h4 : (!decide ((b.binds[posB b s]'hk).task = s)) = false := by
        rw [Bool.not_eq_false', decide_eq_true_eq]; exact hks
      rw [h1, h3, h4]; rfl
    rw [e]
  · rename_i hs
    have e : b.binds.filter (fun x => !decide (x.task = s)) = b.binds := by
      rw [List.filter_eq_self]
      intro a ha
      have := has_niff.1 (Bool.eq_false_iff.2 hs) a ha
      simpa using this
    rw [e]
def nodesR (b : Bk) (o : Ordr) : Bk × Int := if o.kind = 1 then addNR b o.node else goneR b o.name
def tasksR (b : Bk) (o : Ordr) : Bk × Int := if o.kind = 3 then addTR b o.task else ((ofR b o).1, (ofR b o).2.1)
def flt (b : Bk) (s : ByteArray) (k : Nat) : List Bnd := (b.binds.take k).filter fun x => !decide (x.task = s)
theorem flt_step {b : Bk} {s : ByteArray} {k : Nat} (hk : k < b.binds.length) : flt b s (k + 1) = flt b s k ++ if b.binds[k].task = s then [] else [b.binds[k]] := by
  unfold flt
  rw [List.take_succ_eq_append_getElem hk, List.filter_append]
  congr 1
  by_cases h : b.binds[k].task = s <;> simp [h]
theorem flt_len {b : Bk} {s : ByteArray} {k : Nat} : (flt b s k).length ≤ k := by
  unfold flt
  have := List.length_filter_le (fun x : Bnd => !decide (x.task = s)) (b.binds.take k)
  rw [List.length_take] at this; omega

set_option maxHeartbeats 4000000 in
set_option maxRecDepth 20000 in
theorem rwithoutBind_ok {I : Imm} {O : Own} {kc : List Value} {b : Bk} (hk : BkR I kc b) {s : ByteArray} (hL : b.binds.length ≤ 1000) :
  Go.Sy.Does Tryz.prog 185 [.agg ⟨kc⟩, .string s] I O (FB (fun cs => .agg ⟨cs⟩) { b with binds := b.binds.filter fun x => !decide (x.task = s) } O) := by
 have hk0 := hk
 obtain ⟨nv, tv, bv, rfl, hnv, htv, hbv⟩ := hk.ex
 have hnv0 := hnv
 have htv0 := htv
 have hbv0 := hbv
 obtain ⟨na, ncap, rfl, hn1, hn2, -⟩ := hnv
 obtain ⟨ta, tcap, rfl, ht1, ht2, -⟩ := htv
 obtain ⟨ba, bcap, rfl, hb1, hb2, -⟩ := hbv
 refine Go.Sy.Does.enter Tryz.func185 rfl Tryz.ntmps185 rfl ?_
 refine .seq <| .region <| .on rfl <| .box rfl rfl rfl fun c1 _ _ => .on rfl <| .alloc zr27 rfl fun c2 _ _ => .nil <| .go ?_
 refine .seq <| .region <| .a rfl <| .nil <| .go <| .seq ?_
 refine .seq <| .region <| .f (.fieldAddr fo27_2 rfl) <| .f (.load ag24 rfl (.there <| .here) rfl) <| .f (.len sl24 rfl rfl) <| .m rfl ?_
 refine .nil <| .go <| .block ?_
 refine .loopM [5, 7, 11, 12, 13, 14, 15, 16, 17, 18, 19, 20, 21, 22, 23] (fun s' => b.binds.length - s'.1) (fun s' => s'.1 ≤ b.binds.length ∧ OwnS 2 s'.2.1 (flt b s s'.1).length s'.2.2.1 s'.2.2.2 ∧ DR BndR 2 I s'.2.2.1 (flt b s s'.1)) (fun s' => [(11, .int .i64 s'.1), (5, s'.2.1)]) (fun _ => _) (fun s' => s'.2.2.2 ++ _) (((0, .slice none 0 0, [], []) : Nat × Value × List Value × Own)) ⟨Nat.zero_le _, OwnS.nil, DR.nil⟩ ⟨rfl, rfl, trivial⟩ rfl rfl ?_
 intro ⟨k, vL, wsL, obL⟩ hkk
 dsimp only at hkk ⊢
 obtain ⟨hkk, hoL, hdL⟩ := hkk
 obtain ⟨adL, capL, rfl⟩ := hoL.form
 have hfl := flt_len (b := b) (s := s) (k := k)
 refine .seq <| .region <| .f (.lss rfl rfl) <| .nil <| .go <| .seq ?_
 refine .sd 12 rfl (fun h12 => ?_) (fun h12 => ?_)
 ·
  refine .cond_true rfl <| .skip <| .go <| .seq <| .block <| .seq ?_
  refine .region ?_
  obtain ⟨eb13, eo13, cs13, hd13, hat13, hr13⟩ := SlR.at_ hbv0 (k := k) (by omega)
  cases hd13
  have hx13 := hr13
  obtain ⟨rfl, hx13a, hx13b⟩ := hr13
  refine .f (.indexAddrL sl24 rfl rfl rfl (by omega)) <| .f (.loadIA ag51 sz51 rfl hat13 rfl) <| .on rfl <| .alloc zr51 rfl fun c3 _ _ => .on rfl <| .storeW sz51 rfl rfl rfl rfl rfl rfl .here <| .nil <| .go ?_
  refine .seq <| .region <| .f (.fieldAddr fo51_0 rfl) <| .f (.load ag9 rfl .here rfl) <| .m rfl <| .f (.strne rfl rfl) ?_
  refine .nil <| .go ?_
  refine .split 18 rfl (fun h18 => ?_) (fun h18 => ?_)
  ·
   first | replace h18 := of_decide_eq_false ((Bool.not_eq_true' _).mp h18) | replace h18 := of_decide_eq_false (by simpa using h18)
   refine .cond_true rfl <| .region <| .m rfl <| .f (.loadW ag51 sz51 rfl .here rfl) <| .on rfl <| .buildSlice Tryz.underlying24 sz51 (by decide) (by decide) zv51 rfl rfl rfl rfl rfl fun c4 _ _ => .on rfl <| .append Tryz.underlying24 Tryz.underlying24 sz51 by51 zv51 rfl rfl rfl (.there <| .there <| .front) hoL ((OwnS.made (k := 2) rfl (by decide)).src (I := _) .here) rfl rfl (by omega) (by omega) rfl fun v22 ob22 ho22 => ?_
   refine .a rfl <| .nil <| .blk_normal <| .go <| .region <| .f (.add rfl rfl (by first | exact wrap_succ (by omega) | exact IntWalk.i64_in _ (by omega) | exact rfl)) ?_
   refine .m rfl <| .nil ?_
   refine .front1 (.app <| .here) ?_
   refine .tail ?_
   refine .front1 (.app <| .here) ?_
   refine .tail ?_
   have e5 := flt_step (b := b) (s := s) (show k < b.binds.length by omega)
   rw [if_neg h18] at e5
   have e6 : (flt b s (k + 1)).length = (flt b s k).length + 1 := by rw [e5, List.length_append]; rfl
   exact .mid ((k + 1, _, _, _)) ⟨by dsimp only; omega, by dsimp only; omega, by dsimp only; rw [e6]; exact ho22, by dsimp only; rw [e5]; exact hdL.append (DR.single rfl hx13)⟩ ⟨rfl, rfl, trivial⟩ rfl rfl (.pre 17 rfl (.app rfl .base))
  ·
   first | replace h18 := of_decide_eq_true ((Bool.not_eq_false' _).mp h18) | replace h18 := of_decide_eq_true (by simpa using h18)
   refine .cond_false rfl <| .skip <| .blk_normal <| .go <| .region <| .f (.add rfl rfl (by first | exact wrap_succ (by omega) | exact IntWalk.i64_in _ (by omega) | exact rfl)) ?_
   refine .m rfl <| .nil ?_
   refine .tail ?_
   have e5 := flt_step (b := b) (s := s) (show k < b.binds.length by omega)
   rw [if_pos h18, List.append_nil] at e5
   exact .mid ((k + 1, _, wsL, obL)) ⟨by dsimp only; omega, by dsimp only; omega, by dsimp only; rw [e5]; exact hoL, by dsimp only; rw [e5]; exact hdL⟩ ⟨rfl, rfl, trivial⟩ rfl rfl (.pre 12 rfl (.app rfl .base))
 ·
  refine .cond_false rfl <| .exit <| .exit <| .exit <| .blk_exit <| .go ?_
  refine .seq <| .region <| .m rfl <| .f (.fieldAddr fo27_2 rfl) <| .on rfl <| .store sz24 rfl rfl rfl rfl rfl rfl (.app <| .there <| .here) <| .nil ?_
  refine .go <| .seq <| .region <| .f (.loadW ag27 sz27 rfl (.app <| .there <| .here) rfl) <| .on rfl <| .storeW sz27 rfl rfl rfl rfl rfl rfl (.app <| .here) <| .nil ?_
  refine .go <| .ret ?_
  refine .freezeS hoL fun K hK hKs => ?_
  have hyS : BndsR K _ (flt b s k) := hKs (R := BndR) (hdL.mono fun _ _ h => h) rfl
  have ee : flt b s k = b.binds.filter fun x => !decide (x.task = s) := by unfold flt; rw [List.take_of_length_le (by omega)]
  rw [ee] at hyS
  refine Post.rets rfl (.agg rfl ag27 sz27 .here rfl .nil) rfl hK (fun w h => (Sat.tail (Sat.tail h))) ?_
  refine ⟨rfl, _, rfl, ?_⟩
  rw [← ee] at hyS ⊢
  exact ⟨⟨_, _, _, rfl, NodsR.mono hK hnv0, TsksR.mono hK htv0, hyS⟩, hk0.fence⟩

set_option maxHeartbeats 16000000 in
set_option maxRecDepth 20000 in
theorem rnodes_ok {I : Imm} {O : Own} {kc : List Value} {b : Bk} (hk : BkR I kc b) (hok : BookOk b) {oc : List Value} {o : Ordr} (ho : OrdrR I oc o) :
  Go.Sy.Does Tryz.prog 135 [.agg ⟨kc⟩, .agg ⟨oc⟩] I O (FB (fun cs => .tuple ⟨[.agg ⟨cs⟩, .int .i64 (nodesR b o).2]⟩) (nodesR b o).1 O) := by
 have hk0 := hk
 obtain ⟨nv, tv, bv, rfl, hnv, htv, hbv⟩ := hk.ex
 have hnv0 := hnv
 have htv0 := htv
 have hbv0 := hbv
 obtain ⟨na, ncap, rfl, hn1, hn2, -⟩ := hnv
 obtain ⟨ta, tcap, rfl, ht1, ht2, -⟩ := htv
 obtain ⟨ba, bcap, rfl, hb1, hb2, -⟩ := hbv
 have ho0 := ho
 obtain ⟨lv, tv, wv, bv, rfl, hon, holv, hotv, hot, howv, hobv⟩ := ho.ex
 have hkd := ho0.kind
 obtain ⟨olva, olvc, rfl, -⟩ := holv
 obtain ⟨otva, otvc, rfl, -⟩ := hotv
 obtain ⟨owva, owvc, rfl, -⟩ := howv
 obtain ⟨obva, obvc, rfl, -⟩ := hobv
 have hbn := hok.nodes
 refine Go.Sy.Does.enter Tryz.func135 rfl Tryz.ntmps135 rfl ?_
 refine .seq <| .region <| .on rfl <| .box rfl rfl rfl fun c1 _ _ => .on rfl <| .box rfl rfl rfl fun c2 _ _ => .on rfl <| .alloc zr27 rfl fun c3 _ _ => .a rfl ?_
 refine .nil <| .go <| .seq <| .seq <| .region <| .f (.fieldAddr fo65_0 rfl) ?_
 refine .f (.load ag63 rfl (.there <| .here) rfl) <| .f (.eql rfl rfl) <| .nil <| .go ?_
 refine .sd 10 rfl (fun h10 => ?_) (fun h10 => ?_)
 ·
  refine .cond_true rfl <| .seq <| .region <| .f (.fieldAddr fo65_1 rfl) <| .f (.loadP ag45 sz45 rfl (.there <| .here) rfl) <| .on rfl <| .callP cal156 rfl rfl rfl (rCheckNode_ok hon) ?_
  refine .a rfl <| .nil <| .go <| .seq <| .block <| .seq ?_
  refine .region <| .m rfl <| .f (.neq rfl rfl) <| .a rfl <| .nil <| .go ?_
  refine .split 14 rfl (fun h14 => ?_) (fun h14 => ?_)
  ·
   first | replace h14 := of_decide_eq_false ((Bool.not_eq_true' _).mp h14) | replace h14 := of_decide_eq_false (by simpa using h14)
   refine .cond_true rfl <| .seq <| .region <| .f (.loadW ag27 sz27 rfl (.there <| .there <| .here) rfl) <| .m rfl <| .on rfl <| .storeW sz27 rfl rfl rfl rfl rfl rfl .here ?_
   refine .a rfl <| .nil <| .go <| .ret <| .blk_ret <| .ret ?_
   refine .ret ?_
   refine Post.rets rfl (.agg rfl ag27 sz27 .here rfl (.tmp rfl .nil)) rfl (Imm.le_refl _) (fun w h => (Sat.tail (Sat.tail (Sat.tail h)))) ?_
   rw [show nodesR b o = (b, nodWhy o.node) by unfold nodesR; rw [if_pos h10]; unfold addNR; rw [if_neg h14]]
   exact ⟨rfl, _, rfl, hk0⟩
  ·
   first | replace h14 := of_decide_eq_true ((Bool.not_eq_false' _).mp h14) | replace h14 := of_decide_eq_true (by simpa using h14)
   refine .cond_false rfl <| .seq <| .region <| .f (.loadW ag27 sz27 rfl (.there <| .there <| .here) rfl) <| .f (.fieldAddr fo65_1 rfl) <| .f (.fieldAddr fo45_0 rfl) ?_
   refine .f (.load ag9 rfl (.there <| .here) rfl) <| .on rfl <| .callP cal106 rfl rfl rfl (rixN_ok hk0) <| .f ((EV.cast (.geq rfl rfl) (congrArg Value.bool (idxOf_ge (p := fun x : Nod => decide (x.name = o.node.name)))))) <| .a rfl <| .nil <| .go ?_
   refine .split 19 rfl (fun h19 => ?_) (fun h19 => ?_)
   ·
    refine .cond_true rfl <| .seq <| .region <| .f (.loadW ag27 sz27 rfl (.there <| .there <| .here) rfl) <| .on rfl <| .storeW sz27 rfl rfl rfl rfl rfl rfl .here <| .a rfl ?_
    refine .nil <| .go <| .ret <| .blk_ret <| .ret <| .ret ?_
    refine Post.rets rfl (.agg rfl ag27 sz27 .here rfl (.tmp rfl .nil)) rfl (Imm.le_refl _) (fun w h => (Sat.tail (Sat.tail (Sat.tail h)))) ?_
    rw [show nodesR b o = (b, 7) by unfold nodesR; rw [if_pos h10]; unfold addNR; rw [if_pos h14, if_pos (show hasN b o.node.name = true from h19)]]
    exact ⟨rfl, _, rfl, hk0⟩
   ·
    refine .cond_false rfl <| .seq <| .region <| .f (.fieldAddr fo27_0 rfl) <| .f (.load ag22 rfl (.there <| .there <| .here) rfl) <| .f (.len sl22 rfl rfl) ?_
    refine .f (.geq rfl rfl) <| .a rfl <| .nil <| .go ?_
    refine .sd 27 rfl (fun h27 => ?_) (fun h27 => ?_)
    ·
     refine .cond_true rfl <| .seq <| .region <| .f (.loadW ag27 sz27 rfl (.there <| .there <| .here) rfl) <| .on rfl <| .storeW sz27 rfl rfl rfl rfl rfl rfl .here <| .a rfl ?_
     refine .nil <| .go <| .ret <| .blk_ret <| .ret <| .ret ?_
     refine Post.rets rfl (.agg rfl ag27 sz27 .here rfl (.tmp rfl .nil)) rfl (Imm.le_refl _) (fun w h => (Sat.tail (Sat.tail (Sat.tail h)))) ?_
     rw [show nodesR b o = (b, 11) by unfold nodesR; rw [if_pos h10]; unfold addNR; rw [if_pos h14, if_neg (show ¬hasN b o.node.name = true from Bool.eq_false_iff.1 h19), if_pos (by omega)]]
     exact ⟨rfl, _, rfl, hk0⟩
    ·
     refine .cond_false rfl <| .skip <| .blk_normal <| .go <| .seq <| .region ?_
     refine .f (.loadW ag27 sz27 rfl (.there <| .there <| .here) rfl) <| .f (.fieldAddr fo65_1 rfl) <| .f (.loadP ag45 sz45 rfl (.there <| .here) rfl) <| .on rfl <| .call cal183 rfl rfl rfl (rwithNode_ok hk0 hon h14 (by omega)) fun v36 I36 O36 hI36 hK36 => ?_
     obtain ⟨rfl, cs36, rfl, hb36⟩ := hK36
     have hb360 := hb36
     obtain ⟨nv36, tv36, bv36, rfl, hn36, ht36, hx36⟩ := hb36.ex
     obtain ⟨_, _, rfl, -⟩ := hn36
     obtain ⟨_, _, rfl, htl36, -⟩ := ht36
     obtain ⟨_, _, rfl, -⟩ := hx36
     refine .on rfl <| .storeW sz27 rfl rfl rfl rfl rfl rfl .here <| .a rfl <| .nil <| .go <| .ret <| .ret ?_
     refine Post.rets rfl (.agg rfl ag27 sz27 .here rfl (.tmp rfl .nil)) rfl hI36 (fun w h => (Sat.tail (Sat.tail (Sat.tail h)))) ?_
     rw [show nodesR b o = ({ b with nodes := insAt b.nodes (posN b o.node.name) o.node }, 0) by unfold nodesR; rw [if_pos h10]; unfold addNR; rw [if_pos h14, if_neg (show ¬hasN b o.node.name = true from Bool.eq_false_iff.1 h19), if_neg (by omega)]]
     exact ⟨rfl, _, rfl, hb360⟩
 ·
  refine .cond_false rfl <| .skip <| .go <| .seq <| .region <| .f (.loadW ag27 sz27 rfl (.there <| .there <| .here) rfl) ?_
  refine .f (.fieldAddr fo65_3 rfl) <| .f (.load ag9 rfl (.there <| .here) rfl) <| .on rfl <| .callP cal106 rfl rfl rfl (rixN_ok hk0) <| .a rfl <| .nil <| .go ?_
  refine .seq <| .seq <| .region <| .m rfl <| .f ((EV.cast (.lss rfl rfl) (congrArg Value.bool (ix_lt (nm := fun x : Nod => x.name))))) <| .nil ?_
  refine .go ?_
  refine .split 42 rfl (fun h42 => ?_) (fun h42 => ?_)
  ·
   refine .cond_true rfl <| .seq <| .region <| .f (.loadW ag27 sz27 rfl (.there <| .there <| .here) rfl) <| .on rfl <| .storeW sz27 rfl rfl rfl rfl rfl rfl .here <| .a rfl ?_
   refine .nil <| .go <| .ret <| .ret ?_
   refine Post.rets rfl (.agg rfl ag27 sz27 .here rfl (.tmp rfl .nil)) rfl (Imm.le_refl _) (fun w h => (Sat.tail (Sat.tail (Sat.tail h)))) ?_
   rw [show nodesR b o = (b, 6) by unfold nodesR; rw [if_neg h10]; unfold goneR; rw [if_neg (show ¬hasN b o.name = true from Bool.eq_false_iff.1 ((Bool.not_eq_true' _).mp h42))]]
   exact ⟨rfl, _, rfl, hk0⟩
  ·
   have hhas := (Bool.not_eq_false' _).mp h42
   obtain ⟨hpk, -⟩ := has_get hok.rn hhas
   have hix : ixN b o.name = (posBy (fun x : Nod => x.name) b.nodes o.name : Int) := ix_pos hok.rn hhas
   obtain ⟨wsA, hsA, hdA⟩ := SlR.src (B := []) (fun _ _ h => NodR.len h) (SlR.takeN hnv0 (Nat.le_of_lt hpk))
   obtain ⟨wsB, hsB, hdB⟩ := SlR.src (B := []) (fun _ _ h => NodR.len h) (SlR.from (l := posBy (fun x : Nod => x.name) b.nodes o.name + 1) hnv0 hpk)
   refine .cond_false rfl <| .skip <| .go <| .seq <| .seq <| .region ?_
   refine .f (.loadW ag27 sz27 rfl (.there <| .there <| .here) rfl) <| .f (.fieldAddr fo65_3 rfl) <| .f (.load ag9 rfl (.there <| .here) rfl) <| .on rfl <| .call cal158 rfl rfl rfl (rthere_ok hk0 (Listed.ok hok)) fun v47 I47 O47 hI47 hK47 => ?_
   obtain ⟨rfl, hl47⟩ := hK47
   obtain ⟨la47, lc47, rfl, hl471, hl472, -⟩ := hl47
   refine .f (.len sl23 rfl rfl) <| .f (.gtr rfl rfl) <| .nil <| .go ?_
   refine .sd 49 rfl (fun h49 => ?_) (fun h49 => ?_)
   ·
    refine .cond_true rfl <| .seq <| .region <| .f (.loadW ag27 sz27 rfl (.there <| .there <| .here) rfl) <| .on rfl <| .storeW sz27 rfl rfl rfl rfl rfl rfl .here <| .a rfl ?_
    refine .nil <| .go <| .ret <| .ret ?_
    refine Post.rets rfl (.agg rfl ag27 sz27 .here rfl (.tmp rfl .nil)) rfl hI47 (fun w h => (Sat.tail (Sat.tail (Sat.tail h)))) ?_
    rw [show nodesR b o = (b, 12) by unfold nodesR; rw [if_neg h10]; unfold goneR; rw [if_pos (show hasN b o.name = true from (Bool.not_eq_false' _).mp h42), if_pos (by omega)]]
    exact ⟨rfl, _, rfl, (hk0.mono hI47)⟩
   ·
    obtain ⟨wsA, hsA, hdA⟩ := SlR.src (B := []) (fun _ _ h => NodR.len h) (SlR.takeN (NodsR.mono hI47 hnv0) (Nat.le_of_lt hpk))
    obtain ⟨wsB, hsB, hdB⟩ := SlR.src (B := []) (fun _ _ h => NodR.len h) (SlR.from (l := posBy (fun x : Nod => x.name) b.nodes o.name + 1) (NodsR.mono hI47 hnv0) hpk)
    refine .cond_false rfl <| .skip <| .go <| .seq ?_
    refine .draw [(c1, _)] mixed (.cons (.there <| .there <| .here) .nil) ?_
    refine .u 1 rfl (.fieldAddr fo27_0 rfl) <| .u 2 rfl (.load ag22 rfl .here rfl) <| .u 3 rfl (.move rfl) <| .u 4 rfl (.sliceHn sl22 rfl rfl hix (Nat.le_trans (Nat.le_of_lt hpk) hn1)) <| .u 6 rfl (.fieldAddr fo27_0 rfl) <| .u 7 rfl (.load ag22 rfl .here rfl) ?_
    refine .u 8 rfl (.move rfl) <| .u 9 rfl (.add rfl rfl rfl) <| .u 10 rfl (.sliceL (l := posBy (fun x : Nod => x.name) b.nodes o.name + 1) sl22 rfl rfl (by rw [hix]; exact wrap_succ (by omega)) hpk) <| .one (i := 0) (by kernel_rfl) rfl rfl <| .buildSlice Tryz.underlying22 sz45 (by decide) (by decide) zv45 rfl rfl rfl rfl rfl fun c4 _ _ => ?_
    refine ⟨(.cons (.there <| .there <| .there <| .here) .nil), Imm.le_refl _, ?_⟩
    refine .one (i := 5) (by kernel_rfl) rfl rfl <| .append Tryz.underlying22 Tryz.underlying22 sz45 by45 zv45 rfl rfl rfl .here (OwnS.made rfl (by decide)) hsA.any hdA.1 (hdA.ones (by decide) (fun _ _ h => NodR.ones h)) (by rw [List.length_take]; omega) (by rw [List.length_take]; omega) rfl fun v56 ob56 ho56 => ?_
    refine ⟨(.cons (.app <| .there <| .there <| .here) .nil), Imm.le_refl _, ?_⟩
    refine .one (i := 11) (by kernel_rfl) rfl rfl <| .append Tryz.underlying22 Tryz.underlying22 sz45 by45 zv45 rfl rfl rfl .front ho56 hsB.any hdB.1 (hdB.ones (by decide) (fun _ _ h => NodR.ones h)) (by rw [List.length_take, List.length_drop]; omega) (by rw [List.length_take, List.length_drop]; omega) rfl fun v62 ob62 ho62 => ?_
    refine ⟨(.cons (.app <| .there <| .there <| .here) .nil), Imm.le_refl _, ?_⟩
    refine .u 12 rfl (.fieldAddr fo27_0 rfl) ?_
    obtain ⟨ad62, cap62, rfl⟩ := ho62.form
    refine .late (i := 13) (by kernel_rfl) (by kernel_rfl) (by kernel_rfl) rfl rfl <| .store sz22 rfl rfl rfl rfl rfl rfl (.app <| .there <| .there <| .here) <| .go <| .seq <| .region <| .f (.loadW ag27 sz27 rfl (.app <| .there <| .there <| .here) rfl) <| .on rfl <| .storeW sz27 rfl rfl rfl rfl rfl rfl (.app <| .here) ?_
    refine .a rfl <| .nil <| .go <| .ret ?_
    refine .freezeS ho62 fun K hK hKs => ?_
    have hyS : NodsR K _ (delAt b.nodes (posN b o.name)) := hKs (R := NodR) (show DR NodR 6 K (wsA ++ wsB) (b.nodes.take (posN b o.name) ++ b.nodes.drop (posN b o.name + 1)) from (hdA.mono fun _ _ h => h.mono hK).append (hdB.mono fun _ _ h => h.mono hK)) (by unfold delAt posN; simp)
    refine Post.rets rfl (.agg rfl ag27 sz27 .here rfl (.tmp rfl .nil)) rfl (Imm.le_trans hI47 hK) (fun w h => (Sat.tail (Sat.tail (Sat.tail h)))) ?_
    rw [show nodesR b o = ({ b with nodes := delAt b.nodes (posN b o.name) }, 0) by unfold nodesR; rw [if_neg h10]; unfold goneR; rw [if_pos (show hasN b o.name = true from (Bool.not_eq_false' _).mp h42), if_neg (by omega)]]
    exact ⟨rfl, _, rfl, ⟨⟨_, _, _, rfl, hyS, TsksR.mono (Imm.le_trans hI47 hK) htv0, BndsR.mono (Imm.le_trans hI47 hK) hbv0⟩, hk0.fence⟩⟩

theorem on_eq {b : Bk} {s : ByteArray} (h : BookOk b) : decide (onR b s = ⟨#[]⟩) = !hasB b s := by rw [← on_ne h, Bool.not_not]
theorem free_no {b : Bk} {s : ByteArray} (h : hasB b s = false) : freeR b s = b := by unfold freeR; rw [h]; rfl
theorem done_eq {b : Bk} {s : ByteArray} (h : Rising (fun x : Bnd => x.task) b.binds) : { { b with tasks := delAt b.tasks (posT b s) } with binds := b.binds.filter fun x => !decide (x.task = s) } = { freeR b s with tasks := delAt (freeR b s).tasks (posT b s) } := by rw [freeR_tasks, ← free_eq h]
theorem of_text {b : Bk} {o : Ordr} (h : o.kind = 4 ∨ o.kind = 6) : (ofR b o).2.2 = ⟨#[]⟩ := by
  unfold ofR
  split
  · split
    · rfl
    · split
      · rfl
      · rcases h with h | h <;> contradiction
  · rfl
theorem order_kinds {o : Ordr} (h : orderOk o = true) : o.kind = 1 ∨ o.kind = 2 ∨ o.kind = 3 ∨ o.kind = 4 ∨ o.kind = 5 ∨ o.kind = 6 ∨ o.kind = 7 := by
  unfold orderOk at h
  split at h
  · omega
  · split at h
    · omega
    · split at h
      · omega
      · split at h
        · omega
        · cases h

set_option maxHeartbeats 16000000 in
set_option maxRecDepth 20000 in
theorem rtasks_ok {I : Imm} {O : Own} {kc : List Value} {b : Bk} (hk : BkR I kc b) (hok : BookOk b) {oc : List Value} {o : Ordr} (ho : OrdrR I oc o) (hkk : o.kind = 3 ∨ o.kind = 4 ∨ o.kind = 6) :
  Go.Sy.Does Tryz.prog 136 [.agg ⟨kc⟩, .agg ⟨oc⟩] I O (FB (fun cs => .tuple ⟨[.agg ⟨cs⟩, .int .i64 (tasksR b o).2]⟩) (tasksR b o).1 O) := by
 have hk0 := hk
 obtain ⟨nv, tv, bv, rfl, hnv, htv, hbv⟩ := hk.ex
 have hnv0 := hnv
 have htv0 := htv
 have hbv0 := hbv
 obtain ⟨na, ncap, rfl, hn1, hn2, -⟩ := hnv
 obtain ⟨ta, tcap, rfl, ht1, ht2, -⟩ := htv
 obtain ⟨ba, bcap, rfl, hb1, hb2, -⟩ := hbv
 have ho0 := ho
 obtain ⟨lv, tv, wv, bv, rfl, hon, holv, hotv, hot, howv, hobv⟩ := ho.ex
 have hkd := ho0.kind
 obtain ⟨olva, olvc, rfl, -⟩ := holv
 obtain ⟨otva, otvc, rfl, -⟩ := hotv
 obtain ⟨owva, owvc, rfl, -⟩ := howv
 obtain ⟨obva, obvc, rfl, -⟩ := hobv
 have hbt := hok.tasks
 have hbb := hok.binds
 refine Go.Sy.Does.enter Tryz.func136 rfl Tryz.ntmps136 rfl ?_
 refine .seq <| .region <| .on rfl <| .box rfl rfl rfl fun c1 _ _ => .on rfl <| .box rfl rfl rfl fun c2 _ _ => .on rfl <| .alloc zr27 rfl fun c3 _ _ => .a rfl ?_
 refine .nil <| .go <| .seq <| .seq <| .region <| .f (.fieldAddr fo65_0 rfl) ?_
 refine .f (.load ag63 rfl (.there <| .here) rfl) <| .f (.eql rfl rfl) <| .nil <| .go ?_
 refine .sd 10 rfl (fun h10 => ?_) (fun h10 => ?_)
 ·
  refine .cond_true rfl <| .seq <| .region <| .f (.fieldAddr fo65_2 rfl) <| .f (.loadP ag42 sz42 rfl (.there <| .here) rfl) <| .on rfl <| .callP cal157 rfl rfl rfl (rCheckTask_ok hot) ?_
  refine .a rfl <| .nil <| .go <| .seq <| .block <| .seq ?_
  refine .region <| .m rfl <| .f (.neq rfl rfl) <| .a rfl <| .nil <| .go ?_
  refine .split 14 rfl (fun h14 => ?_) (fun h14 => ?_)
  ·
   first | replace h14 := of_decide_eq_false ((Bool.not_eq_true' _).mp h14) | replace h14 := of_decide_eq_false (by simpa using h14)
   refine .cond_true rfl <| .seq <| .region <| .f (.loadW ag27 sz27 rfl (.there <| .there <| .here) rfl) <| .m rfl <| .on rfl <| .storeW sz27 rfl rfl rfl rfl rfl rfl .here ?_
   refine .a rfl <| .nil <| .go <| .ret <| .blk_ret <| .ret ?_
   refine .ret ?_
   refine Post.rets rfl (.agg rfl ag27 sz27 .here rfl (.tmp rfl .nil)) rfl (Imm.le_refl _) (fun w h => (Sat.tail (Sat.tail (Sat.tail h)))) ?_
   rw [show tasksR b o = (b, tskWhy o.task) by unfold tasksR; rw [if_pos h10]; unfold addTR; rw [if_neg h14]]
   exact ⟨rfl, _, rfl, hk0⟩
  ·
   first | replace h14 := of_decide_eq_true ((Bool.not_eq_false' _).mp h14) | replace h14 := of_decide_eq_true (by simpa using h14)
   refine .cond_false rfl <| .seq <| .region <| .f (.loadW ag27 sz27 rfl (.there <| .there <| .here) rfl) <| .f (.fieldAddr fo65_2 rfl) <| .f (.fieldAddr fo42_0 rfl) ?_
   refine .f (.load ag9 rfl (.there <| .here) rfl) <| .on rfl <| .callP cal52 rfl rfl rfl (rixT_ok hk0) <| .f ((EV.cast (.geq rfl rfl) (congrArg Value.bool (idxOf_ge (p := fun x : Tsk => decide (x.name = o.task.name)))))) <| .a rfl <| .nil <| .go ?_
   refine .split 19 rfl (fun h19 => ?_) (fun h19 => ?_)
   ·
    refine .cond_true rfl <| .seq <| .region <| .f (.loadW ag27 sz27 rfl (.there <| .there <| .here) rfl) <| .on rfl <| .storeW sz27 rfl rfl rfl rfl rfl rfl .here <| .a rfl ?_
    refine .nil <| .go <| .ret <| .blk_ret <| .ret <| .ret ?_
    refine Post.rets rfl (.agg rfl ag27 sz27 .here rfl (.tmp rfl .nil)) rfl (Imm.le_refl _) (fun w h => (Sat.tail (Sat.tail (Sat.tail h)))) ?_
    rw [show tasksR b o = (b, 7) by unfold tasksR; rw [if_pos h10]; unfold addTR; rw [if_pos h14, if_pos (show hasT b o.task.name = true from h19)]]
    exact ⟨rfl, _, rfl, hk0⟩
   ·
    refine .cond_false rfl <| .seq <| .region <| .f (.fieldAddr fo27_1 rfl) <| .f (.load ag23 rfl (.there <| .there <| .here) rfl) <| .f (.len sl23 rfl rfl) ?_
    refine .f (.geq rfl rfl) <| .a rfl <| .nil <| .go ?_
    refine .sd 27 rfl (fun h27 => ?_) (fun h27 => ?_)
    ·
     refine .cond_true rfl <| .seq <| .region <| .f (.loadW ag27 sz27 rfl (.there <| .there <| .here) rfl) <| .on rfl <| .storeW sz27 rfl rfl rfl rfl rfl rfl .here <| .a rfl ?_
     refine .nil <| .go <| .ret <| .blk_ret <| .ret <| .ret ?_
     refine Post.rets rfl (.agg rfl ag27 sz27 .here rfl (.tmp rfl .nil)) rfl (Imm.le_refl _) (fun w h => (Sat.tail (Sat.tail (Sat.tail h)))) ?_
     rw [show tasksR b o = (b, 11) by unfold tasksR; rw [if_pos h10]; unfold addTR; rw [if_pos h14, if_neg (show ¬hasT b o.task.name = true from Bool.eq_false_iff.1 h19), if_pos (by omega)]]
     exact ⟨rfl, _, rfl, hk0⟩
    ·
     refine .cond_false rfl <| .skip <| .blk_normal <| .go <| .seq <| .region ?_
     refine .f (.loadW ag27 sz27 rfl (.there <| .there <| .here) rfl) <| .f (.fieldAddr fo65_2 rfl) <| .f (.loadP ag42 sz42 rfl (.there <| .here) rfl) <| .on rfl <| .call cal184 rfl rfl rfl (rwithTask_ok hk0 hot h14 (by omega)) fun v36 I36 O36 hI36 hK36 => ?_
     obtain ⟨rfl, cs36, rfl, hb36⟩ := hK36
     have hb360 := hb36
     obtain ⟨nv36, tv36, bv36, rfl, hn36, ht36, hx36⟩ := hb36.ex
     obtain ⟨_, _, rfl, -⟩ := hn36
     obtain ⟨_, _, rfl, htl36, -⟩ := ht36
     obtain ⟨_, _, rfl, -⟩ := hx36
     refine .on rfl <| .storeW sz27 rfl rfl rfl rfl rfl rfl .here <| .a rfl <| .nil <| .go <| .ret <| .ret ?_
     refine Post.rets rfl (.agg rfl ag27 sz27 .here rfl (.tmp rfl .nil)) rfl hI36 (fun w h => (Sat.tail (Sat.tail (Sat.tail h)))) ?_
     rw [show tasksR b o = ({ b with tasks := insAt b.tasks (posT b o.task.name) o.task }, 0) by unfold tasksR; rw [if_pos h10]; unfold addTR; rw [if_pos h14, if_neg (show ¬hasT b o.task.name = true from Bool.eq_false_iff.1 h19), if_neg (by omega)]]
     exact ⟨rfl, _, rfl, hb360⟩
 ·
  refine .cond_false rfl <| .skip <| .go <| .seq <| .region <| .f (.loadW ag27 sz27 rfl (.there <| .there <| .here) rfl) ?_
  refine .f (.fieldAddr fo65_3 rfl) <| .f (.load ag9 rfl (.there <| .here) rfl) <| .on rfl <| .callP cal52 rfl rfl rfl (rixT_ok hk0) <| .a rfl <| .nil <| .go ?_
  refine .seq <| .block <| .seq <| .region <| .m rfl <| .f ((EV.cast (.lss rfl rfl) (congrArg Value.bool (ix_lt (nm := fun x : Tsk => x.name))))) ?_
  refine .a rfl <| .nil <| .go ?_
  refine .split 41 rfl (fun h41 => ?_) (fun h41 => ?_)
  ·
   refine .cond_true rfl <| .seq <| .region <| .f (.loadW ag27 sz27 rfl (.there <| .there <| .here) rfl) <| .on rfl <| .storeW sz27 rfl rfl rfl rfl rfl rfl .here <| .a rfl ?_
   refine .nil <| .go <| .ret <| .blk_ret <| .ret ?_
   refine Post.rets rfl (.agg rfl ag27 sz27 .here rfl (.tmp rfl .nil)) rfl (Imm.le_refl _) (fun w h => (Sat.tail (Sat.tail (Sat.tail h)))) ?_
   rw [show tasksR b o = (b, 6) by unfold tasksR ofR; rw [if_neg h10, if_neg (show ¬hasT b o.name = true from Bool.eq_false_iff.1 ((Bool.not_eq_true' _).mp h41))]]
   exact ⟨rfl, _, rfl, hk0⟩
  ·
   have hhas := (Bool.not_eq_false' _).mp h41
   obtain ⟨hpk, -⟩ := has_get hok.rt hhas
   have hix : ixT b o.name = (posBy (fun x : Tsk => x.name) b.tasks o.name : Int) := ix_pos hok.rt hhas
   obtain ⟨wsA, hsA, hdA⟩ := SlR.src (B := []) (fun _ _ h => TskR.len h) (SlR.takeN htv0 (Nat.le_of_lt hpk))
   obtain ⟨wsB, hsB, hdB⟩ := SlR.src (B := []) (fun _ _ h => TskR.len h) (SlR.from (l := posBy (fun x : Tsk => x.name) b.tasks o.name + 1) htv0 hpk)
   refine .cond_false rfl <| .seq <| .region <| .f (.fieldAddr fo65_0 rfl) <| .f (.load ag63 rfl (.there <| .here) rfl) <| .f (.eql rfl rfl) ?_
   refine .m rfl ?_
   refine .sd 49 rfl (fun h49 => ?_) (fun h49 => ?_)
   ·
    refine .f (.loadW ag27 sz27 rfl (.there <| .there <| .here) rfl) <| .f (.fieldAddr fo65_3 rfl) <| .f (.load ag9 rfl (.there <| .here) rfl) <| .on rfl <| .callP cal44 rfl rfl rfl (rOn_ok hk0) <| .f ((EV.cast (.streq rfl rfl) (congrArg Value.bool (on_eq hok)))) <| .f (.pickT rfl rfl) ?_
    refine .a rfl <| .nil <| .go ?_
    refine .split 45 rfl (fun h45 => ?_) (fun h45 => ?_)
    ·
     refine .cond_true rfl <| .seq <| .region <| .f (.loadW ag27 sz27 rfl (.there <| .there <| .here) rfl) <| .on rfl <| .storeW sz27 rfl rfl rfl rfl rfl rfl .here <| .a rfl ?_
     refine .nil <| .go <| .ret <| .blk_ret <| .ret ?_
     refine Post.rets rfl (.agg rfl ag27 sz27 .here rfl (.tmp rfl .nil)) rfl (Imm.le_refl _) (fun w h => (Sat.tail (Sat.tail (Sat.tail h)))) ?_
     rw [show tasksR b o = (b, 10) by unfold tasksR ofR; rw [if_neg h10, if_pos (show hasT b o.name = true from (Bool.not_eq_false' _).mp h41), if_neg (by omega), if_pos h49, if_neg (show ¬hasB b o.name = true from Bool.eq_false_iff.1 ((Bool.not_eq_true' _).mp h45))]; dsimp only; rw [free_no ((Bool.not_eq_true' _).mp h45)]]
     exact ⟨rfl, _, rfl, hk0⟩
    ·
     have hasB6 := (Bool.not_eq_false' _).mp h45
     refine .cond_false rfl <| .seq <| .region <| .f (.fieldAddr fo65_0 rfl) <| .f (.load ag63 rfl (.there <| .here) rfl) <| .f (.eql rfl rfl) ?_
     refine .a rfl <| .nil <| .go ?_
     refine .sd 57 rfl (fun h57 => ?_) (fun h57 => ?_)
     ·
      refine .cond_true rfl ?_
      refine .draw [(c1, _)] mixed (.cons (.there <| .there <| .here) .nil) ?_
      refine .u 1 rfl (.fieldAddr fo27_1 rfl) <| .u 2 rfl (.load ag23 rfl .here rfl) <| .u 3 rfl (.move rfl) <| .u 4 rfl (.sliceHn sl23 rfl rfl hix (Nat.le_trans (Nat.le_of_lt hpk) ht1)) <| .u 6 rfl (.fieldAddr fo27_1 rfl) <| .u 7 rfl (.load ag23 rfl .here rfl) ?_
      refine .u 8 rfl (.move rfl) <| .u 9 rfl (.add rfl rfl rfl) <| .u 10 rfl (.sliceL (l := posBy (fun x : Tsk => x.name) b.tasks o.name + 1) sl23 rfl rfl (by rw [hix]; exact wrap_succ (by omega)) hpk) <| .one (i := 0) (by kernel_rfl) rfl rfl <| .buildSlice Tryz.underlying23 sz42 (by decide) (by decide) zv42 rfl rfl rfl rfl rfl fun c4 _ _ => ?_
      refine ⟨(.cons (.there <| .there <| .there <| .here) .nil), Imm.le_refl _, ?_⟩
      refine .one (i := 5) (by kernel_rfl) rfl rfl <| .append Tryz.underlying23 Tryz.underlying23 sz42 by42 zv42 rfl rfl rfl .here (OwnS.made rfl (by decide)) hsA.any hdA.1 (hdA.ones (by decide) (fun _ _ h => TskR.ones h)) (by rw [List.length_take]; omega) (by rw [List.length_take]; omega) rfl fun v66 ob66 ho66 => ?_
      refine ⟨(.cons (.app <| .there <| .there <| .here) .nil), Imm.le_refl _, ?_⟩
      refine .one (i := 11) (by kernel_rfl) rfl rfl <| .append Tryz.underlying23 Tryz.underlying23 sz42 by42 zv42 rfl rfl rfl .front ho66 hsB.any hdB.1 (hdB.ones (by decide) (fun _ _ h => TskR.ones h)) (by rw [List.length_take, List.length_drop]; omega) (by rw [List.length_take, List.length_drop]; omega) rfl fun v72 ob72 ho72 => ?_
      refine ⟨(.cons (.app <| .there <| .there <| .here) .nil), Imm.le_refl _, ?_⟩
      refine .u 12 rfl (.fieldAddr fo27_1 rfl) ?_
      obtain ⟨ad72, cap72, rfl⟩ := ho72.form
      refine .late (i := 13) (by kernel_rfl) (by kernel_rfl) (by kernel_rfl) rfl rfl <| .store sz23 rfl rfl rfl rfl rfl rfl (.app <| .there <| .there <| .here) <| .blk_normal <| .go <| .seq <| .region ?_
      refine .freezeS ho72 fun K hK hKs => ?_
      have hyS : TsksR K _ (delAt b.tasks (posT b o.name)) := hKs (R := TskR) (show DR TskR 9 K (wsA ++ wsB) (b.tasks.take (posT b o.name) ++ b.tasks.drop (posT b o.name + 1)) from (hdA.mono fun _ _ h => TskR.mono hK h).append (hdB.mono fun _ _ h => TskR.mono hK h)) (by unfold delAt posT; simp)
      have hbD : BkR K _ { b with tasks := delAt b.tasks (posT b o.name) } := ⟨⟨_, _, _, rfl, NodsR.mono hK hnv0, hyS, BndsR.mono hK hbv0⟩, hk0.fence⟩
      refine .f (.loadW ag27 sz27 rfl (.there <| .there <| .here) rfl) <| .f (.fieldAddr fo65_3 rfl) <| .f (.load ag9 rfl (.there <| .here) rfl) <| .on rfl <| .call cal185 rfl rfl rfl (rwithoutBind_ok hbD (by dsimp only; omega)) fun v77 I77 O77 hI77 hK77 => ?_
      obtain ⟨rfl, cs77, rfl, hb77⟩ := hK77
      have hb770 := hb77
      obtain ⟨nv77, tv77, bv77, rfl, hn77, ht77, hx77⟩ := hb77.ex
      obtain ⟨_, _, rfl, -⟩ := hn77
      obtain ⟨_, _, rfl, htl77, -⟩ := ht77
      obtain ⟨_, _, rfl, -⟩ := hx77
      refine .on rfl <| .storeW sz27 rfl rfl rfl rfl rfl rfl .here <| .a rfl <| .nil <| .go <| .ret ?_
      refine Post.rets rfl (.agg rfl ag27 sz27 .here rfl (.tmp rfl .nil)) rfl (Imm.le_trans hK hI77) (fun w h => (Sat.tail (Sat.tail (Sat.tail h)))) ?_
      rw [show tasksR b o = ({ freeR b o.name with tasks := delAt (freeR b o.name).tasks (posT b o.name) }, 0) by unfold tasksR ofR; rw [if_neg h10, if_pos (show hasT b o.name = true from (Bool.not_eq_false' _).mp h41), if_pos h57], ← done_eq hok.rb]
      exact ⟨rfl, _, rfl, hb770⟩
     ·
      refine .cond_false rfl <| .skip <| .blk_normal <| .go <| .seq <| .region ?_
      refine .f (.loadW ag27 sz27 rfl (.there <| .there <| .here) rfl) <| .f (.fieldAddr fo65_3 rfl) <| .f (.load ag9 rfl (.there <| .here) rfl) <| .on rfl <| .call cal185 rfl rfl rfl (rwithoutBind_ok hk0 (by omega)) fun v77 I77 O77 hI77 hK77 => ?_
      obtain ⟨rfl, cs77, rfl, hb77⟩ := hK77
      have hb770 := hb77
      obtain ⟨nv77, tv77, bv77, rfl, hn77, ht77, hx77⟩ := hb77.ex
      obtain ⟨_, _, rfl, -⟩ := hn77
      obtain ⟨_, _, rfl, htl77, -⟩ := ht77
      obtain ⟨_, _, rfl, -⟩ := hx77
      refine .on rfl <| .storeW sz27 rfl rfl rfl rfl rfl rfl .here <| .a rfl <| .nil <| .go <| .ret ?_
      refine Post.rets rfl (.agg rfl ag27 sz27 .here rfl (.tmp rfl .nil)) rfl hI77 (fun w h => (Sat.tail (Sat.tail (Sat.tail h)))) ?_
      rw [show tasksR b o = (freeR b o.name, 0) by unfold tasksR ofR; rw [if_neg h10, if_pos (show hasT b o.name = true from (Bool.not_eq_false' _).mp h41), if_neg h57, if_pos (show o.kind = 6 by omega), if_pos (show hasB b o.name = true from hasB6)], ← free_eq hok.rb]
      exact ⟨rfl, _, rfl, hb770⟩
   ·
    refine .z <| .z <| .z <| .z <| .z <| .f (.pickF rfl rfl) ?_
    refine .a rfl <| .nil <| .go <| .cond_false rfl <| .seq <| .region ?_
    refine .f (.fieldAddr fo65_0 rfl) <| .f (.load ag63 rfl (.there <| .here) rfl) <| .f (.eql rfl rfl) <| .a rfl <| .nil <| .go ?_
    refine .sd 57 rfl (fun h57 => ?_) (fun h57 => ?_)
    ·
     refine .cond_true rfl ?_
     refine .draw [(c1, _)] mixed (.cons (.there <| .there <| .here) .nil) ?_
     refine .u 1 rfl (.fieldAddr fo27_1 rfl) <| .u 2 rfl (.load ag23 rfl .here rfl) <| .u 3 rfl (.move rfl) <| .u 4 rfl (.sliceHn sl23 rfl rfl hix (Nat.le_trans (Nat.le_of_lt hpk) ht1)) <| .u 6 rfl (.fieldAddr fo27_1 rfl) <| .u 7 rfl (.load ag23 rfl .here rfl) ?_
     refine .u 8 rfl (.move rfl) <| .u 9 rfl (.add rfl rfl rfl) <| .u 10 rfl (.sliceL (l := posBy (fun x : Tsk => x.name) b.tasks o.name + 1) sl23 rfl rfl (by rw [hix]; exact wrap_succ (by omega)) hpk) <| .one (i := 0) (by kernel_rfl) rfl rfl <| .buildSlice Tryz.underlying23 sz42 (by decide) (by decide) zv42 rfl rfl rfl rfl rfl fun c5 _ _ => ?_
     refine ⟨(.cons (.there <| .there <| .there <| .here) .nil), Imm.le_refl _, ?_⟩
     refine .one (i := 5) (by kernel_rfl) rfl rfl <| .append Tryz.underlying23 Tryz.underlying23 sz42 by42 zv42 rfl rfl rfl .here (OwnS.made rfl (by decide)) hsA.any hdA.1 (hdA.ones (by decide) (fun _ _ h => TskR.ones h)) (by rw [List.length_take]; omega) (by rw [List.length_take]; omega) rfl fun v66 ob66 ho66 => ?_
     refine ⟨(.cons (.app <| .there <| .there <| .here) .nil), Imm.le_refl _, ?_⟩
     refine .one (i := 11) (by kernel_rfl) rfl rfl <| .append Tryz.underlying23 Tryz.underlying23 sz42 by42 zv42 rfl rfl rfl .front ho66 hsB.any hdB.1 (hdB.ones (by decide) (fun _ _ h => TskR.ones h)) (by rw [List.length_take, List.length_drop]; omega) (by rw [List.length_take, List.length_drop]; omega) rfl fun v72 ob72 ho72 => ?_
     refine ⟨(.cons (.app <| .there <| .there <| .here) .nil), Imm.le_refl _, ?_⟩
     refine .u 12 rfl (.fieldAddr fo27_1 rfl) ?_
     obtain ⟨ad72, cap72, rfl⟩ := ho72.form
     refine .late (i := 13) (by kernel_rfl) (by kernel_rfl) (by kernel_rfl) rfl rfl <| .store sz23 rfl rfl rfl rfl rfl rfl (.app <| .there <| .there <| .here) <| .blk_normal <| .go <| .seq <| .region ?_
     refine .freezeS ho72 fun K hK hKs => ?_
     have hyS : TsksR K _ (delAt b.tasks (posT b o.name)) := hKs (R := TskR) (show DR TskR 9 K (wsA ++ wsB) (b.tasks.take (posT b o.name) ++ b.tasks.drop (posT b o.name + 1)) from (hdA.mono fun _ _ h => TskR.mono hK h).append (hdB.mono fun _ _ h => TskR.mono hK h)) (by unfold delAt posT; simp)
     have hbD : BkR K _ { b with tasks := delAt b.tasks (posT b o.name) } := ⟨⟨_, _, _, rfl, NodsR.mono hK hnv0, hyS, BndsR.mono hK hbv0⟩, hk0.fence⟩
     refine .f (.loadW ag27 sz27 rfl (.there <| .there <| .here) rfl) <| .f (.fieldAddr fo65_3 rfl) <| .f (.load ag9 rfl (.there <| .here) rfl) <| .on rfl <| .call cal185 rfl rfl rfl (rwithoutBind_ok hbD (by dsimp only; omega)) fun v77 I77 O77 hI77 hK77 => ?_
     obtain ⟨rfl, cs77, rfl, hb77⟩ := hK77
     have hb770 := hb77
     obtain ⟨nv77, tv77, bv77, rfl, hn77, ht77, hx77⟩ := hb77.ex
     obtain ⟨_, _, rfl, -⟩ := hn77
     obtain ⟨_, _, rfl, htl77, -⟩ := ht77
     obtain ⟨_, _, rfl, -⟩ := hx77
     refine .on rfl <| .storeW sz27 rfl rfl rfl rfl rfl rfl .here <| .a rfl <| .nil <| .go <| .ret ?_
     refine Post.rets rfl (.agg rfl ag27 sz27 .here rfl (.tmp rfl .nil)) rfl (Imm.le_trans hK hI77) (fun w h => (Sat.tail (Sat.tail (Sat.tail h)))) ?_
     rw [show tasksR b o = ({ freeR b o.name with tasks := delAt (freeR b o.name).tasks (posT b o.name) }, 0) by unfold tasksR ofR; rw [if_neg h10, if_pos (show hasT b o.name = true from (Bool.not_eq_false' _).mp h41), if_pos h57], ← done_eq hok.rb]
     exact ⟨rfl, _, rfl, hb770⟩
    ·
     exfalso; omega

end Go.Proofs.YtmmokaockpghaaaGreatDoor
