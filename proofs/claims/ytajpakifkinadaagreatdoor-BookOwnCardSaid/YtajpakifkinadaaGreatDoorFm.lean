/- The keeper's methods once more: the nodes' inner rows are fresh. Printed by a program of the session. -/
import Derived.Test.YtajpakifkinadaaGreatDoorFa
namespace Go.Proofs.YtajpakifkinadaaGreatDoor
open Go.Sy
set_option linter.unusedSimpArgs false
set_option linter.unusedVariables false

set_option maxHeartbeats 4000000 in
set_option maxRecDepth 20000 in
theorem kaddNodeF_ok {I : Imm} {O : Own} {kb : Nat} {b : Bk} {nv tv bv : Value} {obN obT obB : Own} {J0 : Imm} (hJ0 : J0.le I) (hk : BkN J0 I b nv tv bv obN obT obB) (hok : BookOk b) {nc : List Value} {n : Nod} (hn : NodR I nc n) :
    Go.Sy.Does Tryz.prog 18 [.pointer (some ⟨kb, 0, none⟩), .agg ⟨nc⟩] I ((kb, .cells ⟨b.cells nv tv bv⟩ 66 (0, 0)) :: (obN ++ (obT ++ (obB ++ O)))) (fun u I' O' => u = .int .i64 (addNR b n).2 ∧ KeepN J0 kb (addNR b n).1 I' O O') := by
  have hn0 := hn
  obtain ⟨nl, nt, rfl, hnl, hnt⟩ := hn.ex
  have hnl0 := hnl
  obtain ⟨la, lcap, rfl, hl1, hl2, -⟩ := hnl
  have hnt0 := hnt
  obtain ⟨ta, tcap, rfl, ht1, ht2, -⟩ := hnt
  have hk0 := hk
  obtain ⟨⟨wsN, hoN, hdN⟩, ⟨wsT, hoT, hdT⟩, ⟨wsB, hoB, hdB⟩, hf⟩ := hk
  obtain ⟨adN, capN, rfl⟩ := hoN.form
  obtain ⟨adT, capT, rfl⟩ := hoT.form
  obtain ⟨adB, capB, rfl⟩ := hoB.form
  have hcN := hoN.capLe
  have hcT := hoT.capLe
  have hcB := hoB.capLe
  have hzN := hoN.lenLe
  have hzT := hoT.lenLe
  have hzB := hoB.lenLe
  have hbn := hok.nodes
  have hbt := hok.tasks
  have hbb := hok.binds
  refine Go.Sy.Does.enter Tryz.func18 rfl Tryz.ntmps18 rfl ?_
  refine .seq <| .region <| .on rfl <| .box rfl rfl rfl fun c1 _ _ => .e (.assign rfl) rfl rfl <| .nil <| .go ?_
  refine .seq <| .region <| .e (.move rfl) rfl rfl <| .e (.fieldAddr fo32_0 rfl) rfl rfl <| .e (.load ag9 rfl .here rfl) rfl rfl ?_
  refine .front (.there <| .there <| .front) ?_
  refine .lend hoN fun JN hJN hJNs hJNt => ?_
  refine .front (.there <| .there <| .front) ?_
  refine .lend hoT fun JT hJT hJTs hJTt => ?_
  refine .front (.there <| .there <| .front) ?_
  refine .lend hoB fun JB hJB hJBs hJBt => ?_
  have hkR : BkR JB (Bk.cells b (.slice adN b.nodes.length capN) (.slice adT b.tasks.length capT) (.slice adB b.binds.length capB)) b := ⟨⟨_, _, _, rfl, NodsR.mono (Imm.le_trans hJT hJB) (hJNs (R := NodR) (hdN.to fun _ _ h => h.nod.mono hJN) rfl), TsksR.mono hJB (hJTs (R := TskR) (hdT.mono fun _ _ h => h.mono (Imm.le_trans hJN hJT)) rfl), hJBs (R := BndR) (hdB.mono fun _ _ h => h) rfl⟩, hf⟩
  refine .on rfl <| .callP cal44 rfl rfl rfl (knode_ok (.there <| .here) hkR hok.rn hok.hsn) <| .e (.move rfl) rfl rfl <| .e (.extract rfl rfl) rfl rfl <| .e (.extract rfl rfl) rfl rfl <| .e (.assign rfl) rfl rfl <| .e (.assign rfl) rfl rfl ?_
  refine .nil <| .go <| .seq <| .seq <| .region ?_
  refine .thaw hJBt ?_
  refine .thaw hJTt ?_
  refine .thaw hJNt ?_
  refine .e (.loadW ag32 sz32 rfl (.app <| .app <| .app <| .here) rfl) rfl rfl <| .on rfl <| .callP cal39 rfl rfl rfl (CheckNode_ok hn0) <| .e (.assign rfl) rfl rfl <| .nil <| .go <| .block ?_
  refine .seq <| .region <| .e (.move rfl) rfl rfl <| .e (.neq rfl rfl) rfl rfl <| .e (.assign rfl) rfl rfl <| .nil ?_
  refine .go ?_
  refine .split 17 rfl (fun h17 => ?_) (fun h17 => ?_)
  · skip
    first | replace h17 := of_decide_eq_false ((Bool.not_eq_true' _).mp h17) | replace h17 := of_decide_eq_false (by simpa using h17)
    refine .cond_true rfl <| .seq <| .region <| .e (.move rfl) rfl rfl <| .e (.assign rfl) rfl rfl <| .nil ?_
    refine .go <| .ret <| .blk_ret <| .ret ?_
    refine .front1 (.app <| .app <| .app <| .here) ?_
    refine .tail ?_
    refine .front (.app <| .app <| .front) ?_
    refine .front (.app <| .app <| .front) ?_
    refine .front (.app <| .app <| .front) ?_
    refine .front1 (.app <| .app <| .app <| .here) ?_
    refine Post.rets rfl (.tmp rfl .nil) rfl (Imm.le_refl _) (fun w h => h) ?_
    rw [show addNR b n = (b, nodWhy n) by unfold addNR; rw [if_neg h17]]
    exact ⟨rfl, ⟨_, _, _, obN, obT, obB, ⟨⟨_, hoN, hdN⟩, ⟨_, hoT, hdT⟩, ⟨_, hoB, hdB⟩, hf⟩, rfl⟩⟩
  · skip
    first | replace h17 := of_decide_eq_true ((Bool.not_eq_false' _).mp h17) | replace h17 := of_decide_eq_true (by simpa using h17)
    refine .cond_false rfl <| .seq <| .region <| .e (.move rfl) rfl rfl <| .e (.assign rfl) rfl rfl <| .nil ?_
    refine .go ?_
    refine .split 21 rfl (fun h21 => ?_) (fun h21 => ?_)
    · skip
      refine .cond_true rfl <| .seq <| .region <| .e (.assign rfl) rfl rfl <| .nil <| .go ?_
      refine .ret <| .blk_ret <| .ret ?_
      refine .front1 (.app <| .app <| .app <| .here) ?_
      refine .tail ?_
      refine .front (.app <| .app <| .front) ?_
      refine .front (.app <| .app <| .front) ?_
      refine .front (.app <| .app <| .front) ?_
      refine .front1 (.app <| .app <| .app <| .here) ?_
      refine Post.rets rfl (.tmp rfl .nil) rfl (Imm.le_refl _) (fun w h => h) ?_
      rw [show addNR b n = (b, 7) by unfold addNR; rw [if_pos h17, if_pos (show hasN b n.name = true from h21)]]
      exact ⟨rfl, ⟨_, _, _, obN, obT, obB, ⟨⟨_, hoN, hdN⟩, ⟨_, hoT, hdT⟩, ⟨_, hoB, hdB⟩, hf⟩, rfl⟩⟩
    · skip
      refine .cond_false rfl <| .seq <| .region <| .e (.move rfl) rfl rfl <| .e (.nilCheck rfl) rfl rfl <| .e (.fieldAddr fo66_0 rfl) rfl rfl ?_
      refine .e (.fieldAddr fo27_0 rfl) rfl rfl <| .e (.load ag22 rfl (.app <| .app <| .app <| .there <| .here) rfl) rfl rfl <| .e (.len sl22 rfl rfl) rfl rfl <| .e (.geq rfl rfl) rfl rfl <| .e (.assign rfl) rfl rfl <| .nil ?_
      refine .go ?_
      refine .split 23 rfl (fun h23 => ?_) (fun h23 => ?_)
      · skip
        replace h23 := of_decide_eq_true h23
        refine .cond_true rfl <| .seq <| .region <| .e (.assign rfl) rfl rfl <| .nil <| .go ?_
        refine .ret <| .blk_ret <| .ret ?_
        refine .front1 (.app <| .app <| .app <| .here) ?_
        refine .tail ?_
        refine .front (.app <| .app <| .front) ?_
        refine .front (.app <| .app <| .front) ?_
        refine .front (.app <| .app <| .front) ?_
        refine .front1 (.app <| .app <| .app <| .here) ?_
        refine Post.rets rfl (.tmp rfl .nil) rfl (Imm.le_refl _) (fun w h => h) ?_
        rw [show addNR b n = (b, 11) by unfold addNR; rw [if_pos h17, if_neg (show ¬hasN b n.name = true from Bool.eq_false_iff.1 h21), if_pos (by omega)]]
        exact ⟨rfl, ⟨_, _, _, obN, obT, obB, ⟨⟨_, hoN, hdN⟩, ⟨_, hoT, hdT⟩, ⟨_, hoB, hdB⟩, hf⟩, rfl⟩⟩
      · skip
        replace h23 := of_decide_eq_false h23
        refine .cond_false rfl <| .skip <| .blk_normal <| .go <| .seq ?_
        refine .draw [(c1, _)] mixed (.cons (.app <| .app <| .app <| .here) .nil) ?_
        refine .t 0 rfl (.move rfl) rfl rfl (by kernel_rfl) <| .t 1 rfl (.move rfl) rfl rfl (by kernel_rfl) <| .t 2 rfl (.nilCheck rfl) rfl rfl (by kernel_rfl) <| .t 3 rfl (.fieldAddr fo66_0 rfl) rfl rfl (by kernel_rfl) <| .t 4 rfl (.fieldAddr fo27_0 rfl) rfl rfl (by kernel_rfl) <| .t 6 rfl (.move rfl) rfl rfl (by kernel_rfl) ?_
        refine .t 7 rfl (.loadW ag32 sz32 rfl .here rfl) rfl rfl (by kernel_rfl) ?_
        refine .all (rs := [5, 8]) (by kernel_rfl) (by simp) ⟨⟨_, rfl, .inl ⟨rfl, ?_⟩⟩, ⟨⟨_, rfl, .inl ⟨rfl, ?_⟩⟩, trivial⟩⟩
        · skip
          refine .ev (.load ag22 rfl (.app <| .app <| .app <| .there <| .here) rfl) rfl ⟨(.cons (.app <| .app <| .app <| .here) .nil), Imm.le_refl _, ?_⟩
          refine .one (i := 8) (by kernel_rfl) rfl rfl <| .call cal51 rfl rfl rfl (ownNodeF_ok hn0 (by have := nod_few h17; omega) (by have := nod_few h17; omega)) fun v39 I39 O39 hI39 hK39 => ?_
          obtain ⟨cs39, hq39, hR39, rfl⟩ := hK39
          replace hq39 := hq39.symm
          subst hq39
          have hR39' := hR39
          obtain ⟨lv39, tv39, rfl, hl39, ht39⟩ := hR39'.nod.ex
          obtain ⟨_, _, rfl, -⟩ := hl39
          obtain ⟨_, _, rfl, -⟩ := ht39
          refine ⟨(.cons (.app <| .app <| .app <| .here) .nil), hI39, ?_⟩
          refine .one (i := 9) (by kernel_rfl) rfl rfl <| .buildSlice Tryz.underlying22 sz32 (by decide) (by decide) zv32 rfl rfl rfl rfl rfl fun c2 _ _ => ?_
          refine ⟨(.cons (.there <| .app <| .app <| .app <| .here) .nil), hI39, ?_⟩
          refine .front (.there <| .front) ?_
          refine .one (i := 10) (by kernel_rfl) rfl rfl <| .call cal55 rfl rfl rfl (insNodF_ok hoN (hdN.mono fun _ _ h => h.mono hI39) (hR39.back hJ0) pos_le (by have := hok.nodes; omega)) fun v41 I41 O41 hI41 hK41 => ?_
          obtain ⟨hq41, ws41, ob41, ho41, hd41, rfl⟩ := hK41
          replace hq41 := hq41.symm
          subst hq41
          obtain ⟨ad41, cap41, rfl⟩ := ho41.form
          refine ⟨(.cons (.app <| .app <| .app <| .here) .nil), hI39, ?_⟩
          refine .t 11 rfl (.nilCheck rfl) rfl rfl (by kernel_rfl) <| .t 12 rfl (.fieldAddr fo66_0 rfl) rfl rfl (by kernel_rfl) <| .t 13 rfl (.fieldAddr fo27_0 rfl) rfl rfl (by kernel_rfl) <| .one (i := 14) (by kernel_rfl) rfl rfl <| .store sz22 rfl rfl rfl rfl rfl rfl (.app <| .app <| .app <| .there <| .here) ?_
          refine ⟨(.cons (.app <| .app <| .app <| .here) .nil), hI39, ?_⟩
          refine .done (by kernel_rfl) <| .go <| .seq <| .region <| .e (.assign rfl) rfl rfl <| .nil ?_
          refine .go <| .ret ?_
          refine .front1 (.app <| .app <| .app <| .here) ?_
          refine .tail ?_
          refine .front (.app <| .app <| .front) ?_
          refine .front (.app <| .app <| .front) ?_
          refine .front (.app <| .app <| .front) ?_
          refine .front1 (.app <| .app <| .app <| .here) ?_
          refine Post.rets rfl (.tmp rfl .nil) rfl hI39 (fun w h => h) ?_
          rw [show addNR b n = ({ b with nodes := insAt b.nodes (posN b n.name) n }, 0) by unfold addNR; rw [if_pos h17, if_neg (show ¬hasN b n.name = true from Bool.eq_false_iff.1 h21), if_neg (by omega)]]
          exact ⟨rfl, ⟨_, _, _, ob41, obT, obB, ⟨⟨ws41, by dsimp only; rw [insAt_len (show posN b n.name ≤ _ from pos_le)]; exact ho41, hd41⟩, ⟨wsT, hoT, hdT.mono fun _ _ h => h.mono hI39⟩, ⟨wsB, hoB, hdB.mono fun _ _ h => h⟩, hf⟩, rfl⟩⟩
        · skip
          refine .call cal51 rfl rfl rfl (ownNodeF_ok hn0 (by have := nod_few h17; omega) (by have := nod_few h17; omega)) fun v39 I39 O39 hI39 hK39 => ?_
          obtain ⟨cs39, hq39, hR39, rfl⟩ := hK39
          replace hq39 := hq39.symm
          subst hq39
          have hR39' := hR39
          obtain ⟨lv39, tv39, rfl, hl39, ht39⟩ := hR39'.nod.ex
          obtain ⟨_, _, rfl, -⟩ := hl39
          obtain ⟨_, _, rfl, -⟩ := ht39
          refine ⟨(.cons (.app <| .app <| .app <| .here) .nil), hI39, ?_⟩
          refine .all (rs := [5, 9]) (by kernel_rfl) (by simp) ⟨⟨_, rfl, .inl ⟨rfl, ?_⟩⟩, ⟨⟨_, rfl, .inl ⟨rfl, ?_⟩⟩, trivial⟩⟩
          · skip
            refine .ev (.load ag22 rfl (.app <| .app <| .app <| .there <| .here) rfl) rfl ⟨(.cons (.app <| .app <| .app <| .here) .nil), hI39, ?_⟩
            refine .one (i := 9) (by kernel_rfl) rfl rfl <| .buildSlice Tryz.underlying22 sz32 (by decide) (by decide) zv32 rfl rfl rfl rfl rfl fun c3 _ _ => ?_
            refine ⟨(.cons (.there <| .app <| .app <| .app <| .here) .nil), hI39, ?_⟩
            refine .front (.there <| .front) ?_
            refine .one (i := 10) (by kernel_rfl) rfl rfl <| .call cal55 rfl rfl rfl (insNodF_ok hoN (hdN.mono fun _ _ h => h.mono hI39) (hR39.back hJ0) pos_le (by have := hok.nodes; omega)) fun v41 I41 O41 hI41 hK41 => ?_
            obtain ⟨hq41, ws41, ob41, ho41, hd41, rfl⟩ := hK41
            replace hq41 := hq41.symm
            subst hq41
            obtain ⟨ad41, cap41, rfl⟩ := ho41.form
            refine ⟨(.cons (.app <| .app <| .app <| .here) .nil), hI39, ?_⟩
            refine .t 11 rfl (.nilCheck rfl) rfl rfl (by kernel_rfl) <| .t 12 rfl (.fieldAddr fo66_0 rfl) rfl rfl (by kernel_rfl) <| .t 13 rfl (.fieldAddr fo27_0 rfl) rfl rfl (by kernel_rfl) <| .one (i := 14) (by kernel_rfl) rfl rfl <| .store sz22 rfl rfl rfl rfl rfl rfl (.app <| .app <| .app <| .there <| .here) ?_
            refine ⟨(.cons (.app <| .app <| .app <| .here) .nil), hI39, ?_⟩
            refine .done (by kernel_rfl) <| .go <| .seq <| .region <| .e (.assign rfl) rfl rfl <| .nil ?_
            refine .go <| .ret ?_
            refine .front1 (.app <| .app <| .app <| .here) ?_
            refine .tail ?_
            refine .front (.app <| .app <| .front) ?_
            refine .front (.app <| .app <| .front) ?_
            refine .front (.app <| .app <| .front) ?_
            refine .front1 (.app <| .app <| .app <| .here) ?_
            refine Post.rets rfl (.tmp rfl .nil) rfl hI39 (fun w h => h) ?_
            rw [show addNR b n = ({ b with nodes := insAt b.nodes (posN b n.name) n }, 0) by unfold addNR; rw [if_pos h17, if_neg (show ¬hasN b n.name = true from Bool.eq_false_iff.1 h21), if_neg (by omega)]]
            exact ⟨rfl, ⟨_, _, _, ob41, obT, obB, ⟨⟨ws41, by dsimp only; rw [insAt_len (show posN b n.name ≤ _ from pos_le)]; exact ho41, hd41⟩, ⟨wsT, hoT, hdT.mono fun _ _ h => h.mono hI39⟩, ⟨wsB, hoB, hdB.mono fun _ _ h => h⟩, hf⟩, rfl⟩⟩
          · skip
            refine .buildSlice Tryz.underlying22 sz32 (by decide) (by decide) zv32 rfl rfl rfl rfl rfl fun c4 _ _ => ?_
            refine ⟨(.cons (.there <| .app <| .app <| .app <| .here) .nil), hI39, ?_⟩
            refine .one (i := 5) (by kernel_rfl) rfl rfl ?_
            refine .ev (.load ag22 rfl (.there <| .app <| .app <| .app <| .there <| .here) rfl) rfl ⟨(.cons (.there <| .app <| .app <| .app <| .here) .nil), hI39, ?_⟩
            refine .front (.there <| .front) ?_
            refine .one (i := 10) (by kernel_rfl) rfl rfl <| .call cal55 rfl rfl rfl (insNodF_ok hoN (hdN.mono fun _ _ h => h.mono hI39) (hR39.back hJ0) pos_le (by have := hok.nodes; omega)) fun v41 I41 O41 hI41 hK41 => ?_
            obtain ⟨hq41, ws41, ob41, ho41, hd41, rfl⟩ := hK41
            replace hq41 := hq41.symm
            subst hq41
            obtain ⟨ad41, cap41, rfl⟩ := ho41.form
            refine ⟨(.cons (.app <| .app <| .app <| .here) .nil), hI39, ?_⟩
            refine .t 11 rfl (.nilCheck rfl) rfl rfl (by kernel_rfl) <| .t 12 rfl (.fieldAddr fo66_0 rfl) rfl rfl (by kernel_rfl) <| .t 13 rfl (.fieldAddr fo27_0 rfl) rfl rfl (by kernel_rfl) <| .one (i := 14) (by kernel_rfl) rfl rfl <| .store sz22 rfl rfl rfl rfl rfl rfl (.app <| .app <| .app <| .there <| .here) ?_
            refine ⟨(.cons (.app <| .app <| .app <| .here) .nil), hI39, ?_⟩
            refine .done (by kernel_rfl) <| .go <| .seq <| .region <| .e (.assign rfl) rfl rfl <| .nil ?_
            refine .go <| .ret ?_
            refine .front1 (.app <| .app <| .app <| .here) ?_
            refine .tail ?_
            refine .front (.app <| .app <| .front) ?_
            refine .front (.app <| .app <| .front) ?_
            refine .front (.app <| .app <| .front) ?_
            refine .front1 (.app <| .app <| .app <| .here) ?_
            refine Post.rets rfl (.tmp rfl .nil) rfl hI39 (fun w h => h) ?_
            rw [show addNR b n = ({ b with nodes := insAt b.nodes (posN b n.name) n }, 0) by unfold addNR; rw [if_pos h17, if_neg (show ¬hasN b n.name = true from Bool.eq_false_iff.1 h21), if_neg (by omega)]]
            exact ⟨rfl, ⟨_, _, _, ob41, obT, obB, ⟨⟨ws41, by dsimp only; rw [insAt_len (show posN b n.name ≤ _ from pos_le)]; exact ho41, hd41⟩, ⟨wsT, hoT, hdT.mono fun _ _ h => h.mono hI39⟩, ⟨wsB, hoB, hdB.mono fun _ _ h => h⟩, hf⟩, rfl⟩⟩

set_option maxHeartbeats 4000000 in
set_option maxRecDepth 20000 in
theorem kaddTaskF_ok {I : Imm} {O : Own} {kb : Nat} {b : Bk} {nv tv bv : Value} {obN obT obB : Own} {J0 : Imm} (hJ0 : J0.le I) (hk : BkN J0 I b nv tv bv obN obT obB) (hok : BookOk b) {tc : List Value} {t : Tsk} (ht : TskR I tc t) :
    Go.Sy.Does Tryz.prog 19 [.pointer (some ⟨kb, 0, none⟩), .agg ⟨tc⟩] I ((kb, .cells ⟨b.cells nv tv bv⟩ 66 (0, 0)) :: (obN ++ (obT ++ (obB ++ O)))) (fun u I' O' => u = .int .i64 (addTR b t).2 ∧ KeepN J0 kb (addTR b t).1 I' O O') := by
  have ht0 := ht
  obtain ⟨tw, tb, rfl, htw, htb⟩ := ht.ex
  have htw0 := htw
  obtain ⟨wa, wcap, rfl, hw1, hw2, -⟩ := htw
  have htb0 := htb
  obtain ⟨ba, bcap, rfl, hb1, hb2, -⟩ := htb
  have hk0 := hk
  obtain ⟨⟨wsN, hoN, hdN⟩, ⟨wsT, hoT, hdT⟩, ⟨wsB, hoB, hdB⟩, hf⟩ := hk
  obtain ⟨adN, capN, rfl⟩ := hoN.form
  obtain ⟨adT, capT, rfl⟩ := hoT.form
  obtain ⟨adB, capB, rfl⟩ := hoB.form
  have hcN := hoN.capLe
  have hcT := hoT.capLe
  have hcB := hoB.capLe
  have hzN := hoN.lenLe
  have hzT := hoT.lenLe
  have hzB := hoB.lenLe
  have hbn := hok.nodes
  have hbt := hok.tasks
  have hbb := hok.binds
  refine Go.Sy.Does.enter Tryz.func19 rfl Tryz.ntmps19 rfl ?_
  refine .seq <| .region <| .on rfl <| .box rfl rfl rfl fun c1 _ _ => .e (.assign rfl) rfl rfl <| .nil <| .go ?_
  refine .seq <| .region <| .e (.move rfl) rfl rfl <| .e (.fieldAddr fo34_0 rfl) rfl rfl <| .e (.load ag9 rfl .here rfl) rfl rfl ?_
  refine .front (.there <| .there <| .front) ?_
  refine .lend hoN fun JN hJN hJNs hJNt => ?_
  refine .front (.there <| .there <| .front) ?_
  refine .lend hoT fun JT hJT hJTs hJTt => ?_
  refine .front (.there <| .there <| .front) ?_
  refine .lend hoB fun JB hJB hJBs hJBt => ?_
  have hkR : BkR JB (Bk.cells b (.slice adN b.nodes.length capN) (.slice adT b.tasks.length capT) (.slice adB b.binds.length capB)) b := ⟨⟨_, _, _, rfl, NodsR.mono (Imm.le_trans hJT hJB) (hJNs (R := NodR) (hdN.to fun _ _ h => h.nod.mono hJN) rfl), TsksR.mono hJB (hJTs (R := TskR) (hdT.mono fun _ _ h => h.mono (Imm.le_trans hJN hJT)) rfl), hJBs (R := BndR) (hdB.mono fun _ _ h => h) rfl⟩, hf⟩
  refine .on rfl <| .callP cal45 rfl rfl rfl (ktask_ok (.there <| .here) hkR hok.rt hok.hst) <| .e (.move rfl) rfl rfl <| .e (.extract rfl rfl) rfl rfl <| .e (.extract rfl rfl) rfl rfl <| .e (.assign rfl) rfl rfl <| .e (.assign rfl) rfl rfl ?_
  refine .nil <| .go <| .seq <| .seq <| .region ?_
  refine .thaw hJBt ?_
  refine .thaw hJTt ?_
  refine .thaw hJNt ?_
  refine .e (.loadW ag34 sz34 rfl (.app <| .app <| .app <| .here) rfl) rfl rfl <| .on rfl <| .callP cal42 rfl rfl rfl (CheckTask_ok ht0) <| .e (.assign rfl) rfl rfl <| .nil <| .go <| .block ?_
  refine .seq <| .region <| .e (.move rfl) rfl rfl <| .e (.neq rfl rfl) rfl rfl <| .e (.assign rfl) rfl rfl <| .nil ?_
  refine .go ?_
  refine .split 17 rfl (fun h17 => ?_) (fun h17 => ?_)
  · skip
    first | replace h17 := of_decide_eq_false ((Bool.not_eq_true' _).mp h17) | replace h17 := of_decide_eq_false (by simpa using h17)
    refine .cond_true rfl <| .seq <| .region <| .e (.move rfl) rfl rfl <| .e (.assign rfl) rfl rfl <| .nil ?_
    refine .go <| .ret <| .blk_ret <| .ret ?_
    refine .front1 (.app <| .app <| .app <| .here) ?_
    refine .tail ?_
    refine .front (.app <| .app <| .front) ?_
    refine .front (.app <| .app <| .front) ?_
    refine .front (.app <| .app <| .front) ?_
    refine .front1 (.app <| .app <| .app <| .here) ?_
    refine Post.rets rfl (.tmp rfl .nil) rfl (Imm.le_refl _) (fun w h => h) ?_
    rw [show addTR b t = (b, tskWhy t) by unfold addTR; rw [if_neg h17]]
    exact ⟨rfl, ⟨_, _, _, obN, obT, obB, ⟨⟨_, hoN, hdN⟩, ⟨_, hoT, hdT⟩, ⟨_, hoB, hdB⟩, hf⟩, rfl⟩⟩
  · skip
    first | replace h17 := of_decide_eq_true ((Bool.not_eq_false' _).mp h17) | replace h17 := of_decide_eq_true (by simpa using h17)
    refine .cond_false rfl <| .seq <| .region <| .e (.move rfl) rfl rfl <| .e (.assign rfl) rfl rfl <| .nil ?_
    refine .go ?_
    refine .split 21 rfl (fun h21 => ?_) (fun h21 => ?_)
    · skip
      refine .cond_true rfl <| .seq <| .region <| .e (.assign rfl) rfl rfl <| .nil <| .go ?_
      refine .ret <| .blk_ret <| .ret ?_
      refine .front1 (.app <| .app <| .app <| .here) ?_
      refine .tail ?_
      refine .front (.app <| .app <| .front) ?_
      refine .front (.app <| .app <| .front) ?_
      refine .front (.app <| .app <| .front) ?_
      refine .front1 (.app <| .app <| .app <| .here) ?_
      refine Post.rets rfl (.tmp rfl .nil) rfl (Imm.le_refl _) (fun w h => h) ?_
      rw [show addTR b t = (b, 7) by unfold addTR; rw [if_pos h17, if_pos (show hasT b t.name = true from h21)]]
      exact ⟨rfl, ⟨_, _, _, obN, obT, obB, ⟨⟨_, hoN, hdN⟩, ⟨_, hoT, hdT⟩, ⟨_, hoB, hdB⟩, hf⟩, rfl⟩⟩
    · skip
      refine .cond_false rfl <| .seq <| .region <| .e (.move rfl) rfl rfl <| .e (.nilCheck rfl) rfl rfl <| .e (.fieldAddr fo66_0 rfl) rfl rfl ?_
      refine .e (.fieldAddr fo27_1 rfl) rfl rfl <| .e (.load ag23 rfl (.app <| .app <| .app <| .there <| .here) rfl) rfl rfl <| .e (.len sl23 rfl rfl) rfl rfl <| .e (.geq rfl rfl) rfl rfl <| .e (.assign rfl) rfl rfl <| .nil ?_
      refine .go ?_
      refine .split 23 rfl (fun h23 => ?_) (fun h23 => ?_)
      · skip
        replace h23 := of_decide_eq_true h23
        refine .cond_true rfl <| .seq <| .region <| .e (.assign rfl) rfl rfl <| .nil <| .go ?_
        refine .ret <| .blk_ret <| .ret ?_
        refine .front1 (.app <| .app <| .app <| .here) ?_
        refine .tail ?_
        refine .front (.app <| .app <| .front) ?_
        refine .front (.app <| .app <| .front) ?_
        refine .front (.app <| .app <| .front) ?_
        refine .front1 (.app <| .app <| .app <| .here) ?_
        refine Post.rets rfl (.tmp rfl .nil) rfl (Imm.le_refl _) (fun w h => h) ?_
        rw [show addTR b t = (b, 11) by unfold addTR; rw [if_pos h17, if_neg (show ¬hasT b t.name = true from Bool.eq_false_iff.1 h21), if_pos (by omega)]]
        exact ⟨rfl, ⟨_, _, _, obN, obT, obB, ⟨⟨_, hoN, hdN⟩, ⟨_, hoT, hdT⟩, ⟨_, hoB, hdB⟩, hf⟩, rfl⟩⟩
      · skip
        replace h23 := of_decide_eq_false h23
        refine .cond_false rfl <| .skip <| .blk_normal <| .go <| .seq ?_
        refine .draw [(c1, _)] mixed (.cons (.app <| .app <| .app <| .here) .nil) ?_
        refine .t 0 rfl (.move rfl) rfl rfl (by kernel_rfl) <| .t 1 rfl (.move rfl) rfl rfl (by kernel_rfl) <| .t 2 rfl (.nilCheck rfl) rfl rfl (by kernel_rfl) <| .t 3 rfl (.fieldAddr fo66_0 rfl) rfl rfl (by kernel_rfl) <| .t 4 rfl (.fieldAddr fo27_1 rfl) rfl rfl (by kernel_rfl) <| .t 6 rfl (.move rfl) rfl rfl (by kernel_rfl) ?_
        refine .t 7 rfl (.loadW ag34 sz34 rfl .here rfl) rfl rfl (by kernel_rfl) ?_
        refine .all (rs := [5, 8]) (by kernel_rfl) (by simp) ⟨⟨_, rfl, .inl ⟨rfl, ?_⟩⟩, ⟨⟨_, rfl, .inl ⟨rfl, ?_⟩⟩, trivial⟩⟩
        · skip
          refine .ev (.load ag23 rfl (.app <| .app <| .app <| .there <| .here) rfl) rfl ⟨(.cons (.app <| .app <| .app <| .here) .nil), Imm.le_refl _, ?_⟩
          refine .one (i := 8) (by kernel_rfl) rfl rfl <| .call cal52 rfl rfl rfl (ownTask_ok ht0 (by have := tsk_few h17; omega) (by have := tsk_few h17; omega)) fun v39 I39 O39 hI39 hK39 => ?_
          obtain ⟨cs39, hq39, hR39, rfl⟩ := hK39
          replace hq39 := hq39.symm
          subst hq39
          have hR39' := hR39
          obtain ⟨lv39, tv39, rfl, hl39, ht39⟩ := hR39'.ex
          obtain ⟨_, _, rfl, -⟩ := hl39
          obtain ⟨_, _, rfl, -⟩ := ht39
          refine ⟨(.cons (.app <| .app <| .app <| .here) .nil), hI39, ?_⟩
          refine .one (i := 9) (by kernel_rfl) rfl rfl <| .buildSlice Tryz.underlying23 sz34 (by decide) (by decide) zv34 rfl rfl rfl rfl rfl fun c2 _ _ => ?_
          refine ⟨(.cons (.there <| .app <| .app <| .app <| .here) .nil), hI39, ?_⟩
          refine .front (.there <| .app <| .front) ?_
          refine .one (i := 10) (by kernel_rfl) rfl rfl <| .call cal56 rfl rfl rfl (insTsk_ok hoT (hdT.mono fun _ _ h => h.mono hI39) hR39 pos_le (by have := hok.tasks; omega)) fun v41 I41 O41 hI41 hK41 => ?_
          obtain ⟨hq41, ws41, ob41, ho41, hd41, rfl⟩ := hK41
          replace hq41 := hq41.symm
          subst hq41
          obtain ⟨ad41, cap41, rfl⟩ := ho41.form
          refine ⟨(.cons (.app <| .app <| .app <| .here) .nil), hI39, ?_⟩
          refine .t 11 rfl (.nilCheck rfl) rfl rfl (by kernel_rfl) <| .t 12 rfl (.fieldAddr fo66_0 rfl) rfl rfl (by kernel_rfl) <| .t 13 rfl (.fieldAddr fo27_1 rfl) rfl rfl (by kernel_rfl) <| .one (i := 14) (by kernel_rfl) rfl rfl <| .store sz23 rfl rfl rfl rfl rfl rfl (.app <| .app <| .app <| .there <| .here) ?_
          refine ⟨(.cons (.app <| .app <| .app <| .here) .nil), hI39, ?_⟩
          refine .done (by kernel_rfl) <| .go <| .seq <| .region <| .e (.assign rfl) rfl rfl <| .nil ?_
          refine .go <| .ret ?_
          refine .front1 (.app <| .app <| .app <| .here) ?_
          refine .tail ?_
          refine .front (.app <| .app <| .front) ?_
          refine .front (.app <| .front) ?_
          refine .front (.app <| .app <| .front) ?_
          refine .front1 (.app <| .app <| .app <| .here) ?_
          refine Post.rets rfl (.tmp rfl .nil) rfl hI39 (fun w h => h) ?_
          rw [show addTR b t = ({ b with tasks := insAt b.tasks (posT b t.name) t }, 0) by unfold addTR; rw [if_pos h17, if_neg (show ¬hasT b t.name = true from Bool.eq_false_iff.1 h21), if_neg (by omega)]]
          exact ⟨rfl, ⟨_, _, _, obN, ob41, obB, ⟨⟨wsN, hoN, hdN.mono fun _ _ h => h.mono hI39⟩, ⟨ws41, by dsimp only; rw [insAt_len (show posT b t.name ≤ _ from pos_le)]; exact ho41, hd41⟩, ⟨wsB, hoB, hdB.mono fun _ _ h => h⟩, hf⟩, rfl⟩⟩
        · skip
          refine .call cal52 rfl rfl rfl (ownTask_ok ht0 (by have := tsk_few h17; omega) (by have := tsk_few h17; omega)) fun v39 I39 O39 hI39 hK39 => ?_
          obtain ⟨cs39, hq39, hR39, rfl⟩ := hK39
          replace hq39 := hq39.symm
          subst hq39
          have hR39' := hR39
          obtain ⟨lv39, tv39, rfl, hl39, ht39⟩ := hR39'.ex
          obtain ⟨_, _, rfl, -⟩ := hl39
          obtain ⟨_, _, rfl, -⟩ := ht39
          refine ⟨(.cons (.app <| .app <| .app <| .here) .nil), hI39, ?_⟩
          refine .all (rs := [5, 9]) (by kernel_rfl) (by simp) ⟨⟨_, rfl, .inl ⟨rfl, ?_⟩⟩, ⟨⟨_, rfl, .inl ⟨rfl, ?_⟩⟩, trivial⟩⟩
          · skip
            refine .ev (.load ag23 rfl (.app <| .app <| .app <| .there <| .here) rfl) rfl ⟨(.cons (.app <| .app <| .app <| .here) .nil), hI39, ?_⟩
            refine .one (i := 9) (by kernel_rfl) rfl rfl <| .buildSlice Tryz.underlying23 sz34 (by decide) (by decide) zv34 rfl rfl rfl rfl rfl fun c3 _ _ => ?_
            refine ⟨(.cons (.there <| .app <| .app <| .app <| .here) .nil), hI39, ?_⟩
            refine .front (.there <| .app <| .front) ?_
            refine .one (i := 10) (by kernel_rfl) rfl rfl <| .call cal56 rfl rfl rfl (insTsk_ok hoT (hdT.mono fun _ _ h => h.mono hI39) hR39 pos_le (by have := hok.tasks; omega)) fun v41 I41 O41 hI41 hK41 => ?_
            obtain ⟨hq41, ws41, ob41, ho41, hd41, rfl⟩ := hK41
            replace hq41 := hq41.symm
            subst hq41
            obtain ⟨ad41, cap41, rfl⟩ := ho41.form
            refine ⟨(.cons (.app <| .app <| .app <| .here) .nil), hI39, ?_⟩
            refine .t 11 rfl (.nilCheck rfl) rfl rfl (by kernel_rfl) <| .t 12 rfl (.fieldAddr fo66_0 rfl) rfl rfl (by kernel_rfl) <| .t 13 rfl (.fieldAddr fo27_1 rfl) rfl rfl (by kernel_rfl) <| .one (i := 14) (by kernel_rfl) rfl rfl <| .store sz23 rfl rfl rfl rfl rfl rfl (.app <| .app <| .app <| .there <| .here) ?_
            refine ⟨(.cons (.app <| .app <| .app <| .here) .nil), hI39, ?_⟩
            refine .done (by kernel_rfl) <| .go <| .seq <| .region <| .e (.assign rfl) rfl rfl <| .nil ?_
            refine .go <| .ret ?_
            refine .front1 (.app <| .app <| .app <| .here) ?_
            refine .tail ?_
            refine .front (.app <| .app <| .front) ?_
            refine .front (.app <| .front) ?_
            refine .front (.app <| .app <| .front) ?_
            refine .front1 (.app <| .app <| .app <| .here) ?_
            refine Post.rets rfl (.tmp rfl .nil) rfl hI39 (fun w h => h) ?_
            rw [show addTR b t = ({ b with tasks := insAt b.tasks (posT b t.name) t }, 0) by unfold addTR; rw [if_pos h17, if_neg (show ¬hasT b t.name = true from Bool.eq_false_iff.1 h21), if_neg (by omega)]]
            exact ⟨rfl, ⟨_, _, _, obN, ob41, obB, ⟨⟨wsN, hoN, hdN.mono fun _ _ h => h.mono hI39⟩, ⟨ws41, by dsimp only; rw [insAt_len (show posT b t.name ≤ _ from pos_le)]; exact ho41, hd41⟩, ⟨wsB, hoB, hdB.mono fun _ _ h => h⟩, hf⟩, rfl⟩⟩
          · skip
            refine .buildSlice Tryz.underlying23 sz34 (by decide) (by decide) zv34 rfl rfl rfl rfl rfl fun c4 _ _ => ?_
            refine ⟨(.cons (.there <| .app <| .app <| .app <| .here) .nil), hI39, ?_⟩
            refine .one (i := 5) (by kernel_rfl) rfl rfl ?_
            refine .ev (.load ag23 rfl (.there <| .app <| .app <| .app <| .there <| .here) rfl) rfl ⟨(.cons (.there <| .app <| .app <| .app <| .here) .nil), hI39, ?_⟩
            refine .front (.there <| .app <| .front) ?_
            refine .one (i := 10) (by kernel_rfl) rfl rfl <| .call cal56 rfl rfl rfl (insTsk_ok hoT (hdT.mono fun _ _ h => h.mono hI39) hR39 pos_le (by have := hok.tasks; omega)) fun v41 I41 O41 hI41 hK41 => ?_
            obtain ⟨hq41, ws41, ob41, ho41, hd41, rfl⟩ := hK41
            replace hq41 := hq41.symm
            subst hq41
            obtain ⟨ad41, cap41, rfl⟩ := ho41.form
            refine ⟨(.cons (.app <| .app <| .app <| .here) .nil), hI39, ?_⟩
            refine .t 11 rfl (.nilCheck rfl) rfl rfl (by kernel_rfl) <| .t 12 rfl (.fieldAddr fo66_0 rfl) rfl rfl (by kernel_rfl) <| .t 13 rfl (.fieldAddr fo27_1 rfl) rfl rfl (by kernel_rfl) <| .one (i := 14) (by kernel_rfl) rfl rfl <| .store sz23 rfl rfl rfl rfl rfl rfl (.app <| .app <| .app <| .there <| .here) ?_
            refine ⟨(.cons (.app <| .app <| .app <| .here) .nil), hI39, ?_⟩
            refine .done (by kernel_rfl) <| .go <| .seq <| .region <| .e (.assign rfl) rfl rfl <| .nil ?_
            refine .go <| .ret ?_
            refine .front1 (.app <| .app <| .app <| .here) ?_
            refine .tail ?_
            refine .front (.app <| .app <| .front) ?_
            refine .front (.app <| .front) ?_
            refine .front (.app <| .app <| .front) ?_
            refine .front1 (.app <| .app <| .app <| .here) ?_
            refine Post.rets rfl (.tmp rfl .nil) rfl hI39 (fun w h => h) ?_
            rw [show addTR b t = ({ b with tasks := insAt b.tasks (posT b t.name) t }, 0) by unfold addTR; rw [if_pos h17, if_neg (show ¬hasT b t.name = true from Bool.eq_false_iff.1 h21), if_neg (by omega)]]
            exact ⟨rfl, ⟨_, _, _, obN, ob41, obB, ⟨⟨wsN, hoN, hdN.mono fun _ _ h => h.mono hI39⟩, ⟨ws41, by dsimp only; rw [insAt_len (show posT b t.name ≤ _ from pos_le)]; exact ho41, hd41⟩, ⟨wsB, hoB, hdB.mono fun _ _ h => h⟩, hf⟩, rfl⟩⟩

set_option maxHeartbeats 4000000 in
set_option maxRecDepth 20000 in
theorem kgoneF_ok {I : Imm} {O : Own} {kb : Nat} {b : Bk} {nv tv bv : Value} {obN obT obB : Own} {J0 : Imm} (hJ0 : J0.le I) (hk : BkN J0 I b nv tv bv obN obT obB) (hok : BookOk b) {s : ByteArray} :
    Go.Sy.Does Tryz.prog 20 [.pointer (some ⟨kb, 0, none⟩), .string s] I ((kb, .cells ⟨b.cells nv tv bv⟩ 66 (0, 0)) :: (obN ++ (obT ++ (obB ++ O)))) (fun u I' O' => u = .int .i64 (goneR b s).2 ∧ KeepN J0 kb (goneR b s).1 I' O O') := by
  have hk0 := hk
  obtain ⟨⟨wsN, hoN, hdN⟩, ⟨wsT, hoT, hdT⟩, ⟨wsB, hoB, hdB⟩, hf⟩ := hk
  obtain ⟨adN, capN, rfl⟩ := hoN.form
  obtain ⟨adT, capT, rfl⟩ := hoT.form
  obtain ⟨adB, capB, rfl⟩ := hoB.form
  have hcN := hoN.capLe
  have hcT := hoT.capLe
  have hcB := hoB.capLe
  have hzN := hoN.lenLe
  have hzT := hoT.lenLe
  have hzB := hoB.lenLe
  have hbn := hok.nodes
  have hbt := hok.tasks
  have hbb := hok.binds
  refine Go.Sy.Does.enter Tryz.func20 rfl Tryz.ntmps20 rfl ?_
  refine .seq <| .region <| .e (.assign rfl) rfl rfl <| .nil <| .go <| .seq ?_
  refine .region <| .e (.move rfl) rfl rfl <| .e (.move rfl) rfl rfl ?_
  refine .front (.there <| .front) ?_
  refine .lend hoN fun JN hJN hJNs hJNt => ?_
  refine .front (.there <| .front) ?_
  refine .lend hoT fun JT hJT hJTs hJTt => ?_
  refine .front (.there <| .front) ?_
  refine .lend hoB fun JB hJB hJBs hJBt => ?_
  have hkR : BkR JB (Bk.cells b (.slice adN b.nodes.length capN) (.slice adT b.tasks.length capT) (.slice adB b.binds.length capB)) b := ⟨⟨_, _, _, rfl, NodsR.mono (Imm.le_trans hJT hJB) (hJNs (R := NodR) (hdN.to fun _ _ h => h.nod.mono hJN) rfl), TsksR.mono hJB (hJTs (R := TskR) (hdT.mono fun _ _ h => h.mono (Imm.le_trans hJN hJT)) rfl), hJBs (R := BndR) (hdB.mono fun _ _ h => h) rfl⟩, hf⟩
  refine .on rfl <| .callP cal44 rfl rfl rfl (knode_ok .here hkR hok.rn hok.hsn) <| .e (.move rfl) rfl rfl <| .e (.extract rfl rfl) rfl rfl <| .e (.extract rfl rfl) rfl rfl <| .e (.assign rfl) rfl rfl <| .e (.assign rfl) rfl rfl ?_
  refine .nil <| .go <| .seq <| .block <| .seq <| .region ?_
  refine .e (.move rfl) rfl rfl <| .e (.not rfl) rfl rfl <| .e (.assign rfl) rfl rfl <| .nil <| .go ?_
  refine .split 13 rfl (fun h13 => ?_) (fun h13 => ?_)
  · skip
    refine .cond_true rfl <| .seq <| .region <| .e (.assign rfl) rfl rfl <| .nil <| .go ?_
    refine .ret <| .blk_ret <| .ret ?_
    refine .thaw hJBt ?_
    refine .thaw hJTt ?_
    refine .thaw hJNt ?_
    refine .front (.app <| .app <| .front) ?_
    refine .front (.app <| .app <| .front) ?_
    refine .front (.app <| .app <| .front) ?_
    refine .front1 (.app <| .app <| .app <| .here) ?_
    refine Post.rets rfl (.tmp rfl .nil) rfl (Imm.le_refl _) (fun w h => h) ?_
    rw [show goneR b s = (b, 6) by unfold goneR; rw [if_neg (show ¬hasN b s = true from Bool.eq_false_iff.1 ((Bool.not_eq_true' _).mp h13))]]
    exact ⟨rfl, ⟨_, _, _, obN, obT, obB, ⟨⟨_, hoN, hdN⟩, ⟨_, hoT, hdT⟩, ⟨_, hoB, hdB⟩, hf⟩, rfl⟩⟩
  · skip
    have hpos := (has_get hok.rn ((Bool.not_eq_false' _).mp h13)).1
    refine .cond_false rfl <| .seq <| .region <| .e (.move rfl) rfl rfl <| .e (.move rfl) rfl rfl <| .on rfl <| .call cal57 rfl rfl rfl (there_ok .here hkR hok.rt hok.hst hok.binds) fun v19 I19 O19 hI19 hK19 => ?_
    obtain ⟨rfl, hl19⟩ := hK19
    obtain ⟨la19, lc19, rfl, hl191, hl192, -⟩ := hl19
    refine .e (.len sl23 rfl rfl) rfl rfl <| .e (.gtr rfl rfl) rfl rfl <| .e (.assign rfl) rfl rfl <| .nil <| .go ?_
    refine .split 16 rfl (fun h16 => ?_) (fun h16 => ?_)
    · skip
      replace h16 := of_decide_eq_true h16
      refine .cond_true rfl <| .seq <| .region <| .e (.assign rfl) rfl rfl <| .nil <| .go ?_
      refine .ret <| .blk_ret <| .ret ?_
      refine .back hI19 ?_
      refine .thaw hJBt ?_
      refine .thaw hJTt ?_
      refine .thaw hJNt ?_
      refine .front (.app <| .app <| .front) ?_
      refine .front (.app <| .app <| .front) ?_
      refine .front (.app <| .app <| .front) ?_
      refine .front1 (.app <| .app <| .app <| .here) ?_
      refine Post.rets rfl (.tmp rfl .nil) rfl (Imm.le_refl _) (fun w h => h) ?_
      rw [show goneR b s = (b, 12) by unfold goneR; rw [if_pos (show hasN b s = true from (Bool.not_eq_false' _).mp h13), if_pos (by omega)]]
      exact ⟨rfl, ⟨_, _, _, obN, obT, obB, ⟨⟨_, hoN, hdN⟩, ⟨_, hoT, hdT⟩, ⟨_, hoB, hdB⟩, hf⟩, rfl⟩⟩
    · skip
      replace h16 := of_decide_eq_false h16
      refine .cond_false rfl <| .skip <| .blk_normal <| .go <| .seq <| .region ?_
      refine .back hI19 ?_
      refine .thaw hJBt ?_
      refine .thaw hJTt ?_
      refine .thaw hJNt ?_
      refine .e (.move rfl) rfl rfl <| .e (.move rfl) rfl rfl <| .e (.nilCheck rfl) rfl rfl <| .e (.fieldAddr fo66_0 rfl) rfl rfl <| .e (.fieldAddr fo27_0 rfl) rfl rfl <| .e (.load ag22 rfl (.app <| .app <| .app <| .here) rfl) rfl rfl ?_
      refine .e (.move rfl) rfl rfl <| .e (.move rfl) rfl rfl <| .e (.add rfl rfl (by first | exact wrap_succ (by omega) | exact IntWalk.i64_in _ (by omega) | exact rfl)) rfl rfl ?_
      refine .on rfl <| .call cal58 rfl rfl rfl (delNodF_ok hoN hdN (Nat.lt_succ_self _) hpos rfl rfl) fun v31 I31 O31 hI31 hK31 => ?_
      obtain ⟨hq31, ws31, ob31, ho31, hd31, rfl⟩ := hK31
      replace hq31 := hq31.symm
      subst hq31
      obtain ⟨ad31, cap31, rfl⟩ := ho31.form
      refine .e (.nilCheck rfl) rfl rfl <| .e (.fieldAddr fo66_0 rfl) rfl rfl <| .e (.fieldAddr fo27_0 rfl) rfl rfl <| .on rfl <| .store sz22 rfl rfl rfl rfl rfl rfl (.app <| .app <| .app <| .here) <| .nil <| .go ?_
      refine .seq <| .region <| .e (.assign rfl) rfl rfl <| .nil <| .go <| .ret ?_
      refine .front (.app <| .app <| .front) ?_
      refine .front (.app <| .app <| .front) ?_
      refine .front (.app <| .app <| .front) ?_
      refine .front1 (.app <| .app <| .app <| .here) ?_
      refine Post.rets rfl (.tmp rfl .nil) rfl (Imm.le_refl _) (fun w h => h) ?_
      rw [show goneR b s = ({ b with nodes := delAt b.nodes (posN b s) }, 0) by unfold goneR; rw [if_pos (show hasN b s = true from (Bool.not_eq_false' _).mp h13), if_neg (by omega)]]
      exact ⟨rfl, ⟨_, _, _, ob31, obT, obB, ⟨⟨ws31, ho31, hd31⟩, ⟨_, hoT, hdT⟩, ⟨_, hoB, hdB⟩, hf⟩, rfl⟩⟩

set_option maxHeartbeats 4000000 in
set_option maxRecDepth 20000 in
theorem kfreeF_ok {I : Imm} {O : Own} {kb : Nat} {b : Bk} {nv tv bv : Value} {obN obT obB : Own} {J0 : Imm} (hJ0 : J0.le I) (hk : BkN J0 I b nv tv bv obN obT obB) (hok : BookOk b) {s : ByteArray} :
    Go.Sy.Does Tryz.prog 62 [.pointer (some ⟨kb, 0, none⟩), .string s] I ((kb, .cells ⟨b.cells nv tv bv⟩ 66 (0, 0)) :: (obN ++ (obT ++ (obB ++ O)))) (fun u I' O' => u = .bool (hasB b s) ∧ KeepN J0 kb (freeR b s) I' O O') := by
  have hk0 := hk
  obtain ⟨⟨wsN, hoN, hdN⟩, ⟨wsT, hoT, hdT⟩, ⟨wsB, hoB, hdB⟩, hf⟩ := hk
  obtain ⟨adN, capN, rfl⟩ := hoN.form
  obtain ⟨adT, capT, rfl⟩ := hoT.form
  obtain ⟨adB, capB, rfl⟩ := hoB.form
  have hcN := hoN.capLe
  have hcT := hoT.capLe
  have hcB := hoB.capLe
  have hzN := hoN.lenLe
  have hzT := hoT.lenLe
  have hzB := hoB.lenLe
  have hbn := hok.nodes
  have hbt := hok.tasks
  have hbb := hok.binds
  refine Go.Sy.Does.enter Tryz.func62 rfl Tryz.ntmps62 rfl ?_
  refine .seq <| .region <| .e (.assign rfl) rfl rfl <| .nil <| .go <| .seq ?_
  refine .region <| .e (.move rfl) rfl rfl <| .e (.move rfl) rfl rfl ?_
  refine .front (.there <| .front) ?_
  refine .lend hoN fun JN hJN hJNs hJNt => ?_
  refine .front (.there <| .front) ?_
  refine .lend hoT fun JT hJT hJTs hJTt => ?_
  refine .front (.there <| .front) ?_
  refine .lend hoB fun JB hJB hJBs hJBt => ?_
  have hkR : BkR JB (Bk.cells b (.slice adN b.nodes.length capN) (.slice adT b.tasks.length capT) (.slice adB b.binds.length capB)) b := ⟨⟨_, _, _, rfl, NodsR.mono (Imm.le_trans hJT hJB) (hJNs (R := NodR) (hdN.to fun _ _ h => h.nod.mono hJN) rfl), TsksR.mono hJB (hJTs (R := TskR) (hdT.mono fun _ _ h => h.mono (Imm.le_trans hJN hJT)) rfl), hJBs (R := BndR) (hdB.mono fun _ _ h => h) rfl⟩, hf⟩
  refine .on rfl <| .callP cal60 rfl rfl rfl (kbind_ok .here hkR hok.rb hok.hsb) <| .e (.move rfl) rfl rfl <| .e (.extract rfl rfl) rfl rfl <| .e (.extract rfl rfl) rfl rfl <| .e (.assign rfl) rfl rfl <| .e (.assign rfl) rfl rfl ?_
  refine .nil <| .go <| .seq <| .seq <| .region ?_
  refine .thaw hJBt ?_
  refine .thaw hJTt ?_
  refine .thaw hJNt ?_
  refine .e (.move rfl) rfl rfl <| .nil <| .go ?_
  refine .split 13 rfl (fun h13 => ?_) (fun h13 => ?_)
  · skip
    have hpos := (has_get hok.rb h13).1
    refine .cond_true rfl <| .region <| .e (.move rfl) rfl rfl <| .e (.move rfl) rfl rfl <| .e (.nilCheck rfl) rfl rfl <| .e (.fieldAddr fo66_0 rfl) rfl rfl ?_
    refine .e (.fieldAddr fo27_2 rfl) rfl rfl <| .e (.load ag24 rfl (.app <| .app <| .app <| .here) rfl) rfl rfl <| .e (.move rfl) rfl rfl <| .e (.move rfl) rfl rfl <| .e (.add rfl rfl (by first | exact wrap_succ (by omega) | exact IntWalk.i64_in _ (by omega) | exact rfl)) rfl rfl ?_
    refine .front (.app <| .app <| .front) ?_
    refine .on rfl <| .call cal98 rfl rfl rfl (delBnd_ok hoB hdB (Nat.lt_succ_self _) hpos rfl rfl) fun v23 I23 O23 hI23 hK23 => ?_
    obtain ⟨hq23, ws23, ob23, ho23, hd23, rfl⟩ := hK23
    replace hq23 := hq23.symm
    subst hq23
    obtain ⟨ad23, cap23, rfl⟩ := ho23.form
    refine .e (.nilCheck rfl) rfl rfl <| .e (.fieldAddr fo66_0 rfl) rfl rfl <| .e (.fieldAddr fo27_2 rfl) rfl rfl <| .on rfl <| .store sz24 rfl rfl rfl rfl rfl rfl (.app <| .app <| .app <| .here) <| .nil <| .go ?_
    refine .seq <| .region <| .e (.move rfl) rfl rfl <| .e (.assign rfl) rfl rfl <| .nil <| .go ?_
    refine .ret ?_
    refine .front (.app <| .app <| .front) ?_
    refine .front (.app <| .app <| .front) ?_
    refine .front1 (.app <| .app <| .app <| .here) ?_
    refine Post.rets rfl (.tmp rfl .nil) rfl (Imm.le_refl _) (fun w h => h) ?_
    rw [show freeR b s = { b with binds := delAt b.binds (posB b s) } by unfold freeR; rw [if_pos (show hasB b s = true from h13)]]
    exact ⟨rfl, ⟨_, _, _, obN, obT, ob23, ⟨⟨_, hoN, hdN⟩, ⟨_, hoT, hdT⟩, ⟨ws23, ho23, hd23⟩, hf⟩, rfl⟩⟩
  · skip
    refine .cond_false rfl <| .skip <| .go <| .seq <| .region <| .e (.move rfl) rfl rfl ?_
    refine .e (.assign rfl) rfl rfl <| .nil <| .go <| .ret ?_
    refine .front (.app <| .app <| .front) ?_
    refine .front (.app <| .app <| .front) ?_
    refine .front (.app <| .app <| .front) ?_
    refine .front1 (.app <| .app <| .app <| .here) ?_
    refine Post.rets rfl (.tmp rfl .nil) rfl (Imm.le_refl _) (fun w h => h) ?_
    rw [show freeR b s = b by unfold freeR; rw [if_neg (show ¬hasB b s = true from Bool.eq_false_iff.1 h13)]]
    exact ⟨rfl, ⟨_, _, _, obN, obT, obB, ⟨⟨_, hoN, hdN⟩, ⟨_, hoT, hdT⟩, ⟨_, hoB, hdB⟩, hf⟩, rfl⟩⟩

set_option maxHeartbeats 4000000 in
set_option maxRecDepth 20000 in
theorem kplaceF_ok {I : Imm} {O : Own} {kb : Nat} {b : Bk} {nv tv bv : Value} {obN obT obB : Own} {J0 : Imm} (hJ0 : J0.le I) (hk : BkN J0 I b nv tv bv obN obT obB) (hok : BookOk b) {oc : List Value} {o : Ordr} (ho : OrdrR I oc o) :
    Go.Sy.Does Tryz.prog 21 [.pointer (some ⟨kb, 0, none⟩), .agg ⟨oc⟩] I ((kb, .cells ⟨b.cells nv tv bv⟩ 66 (0, 0)) :: (obN ++ (obT ++ (obB ++ O)))) (fun u I' O' => u = .int .i64 (placeR b o).2 ∧ KeepN J0 kb (placeR b o).1 I' O O') := by
  have ho0 := ho
  obtain ⟨lv, tv, wv, bv, rfl, hon, holv, hotv, hot, howv, hobv⟩ := ho.ex
  have hkd := ho0.kind
  obtain ⟨olva, olvc, rfl, -⟩ := holv
  obtain ⟨otva, otvc, rfl, -⟩ := hotv
  obtain ⟨owva, owvc, rfl, -⟩ := howv
  obtain ⟨obva, obvc, rfl, -⟩ := hobv
  have hk0 := hk
  obtain ⟨⟨wsN, hoN, hdN⟩, ⟨wsT, hoT, hdT⟩, ⟨wsB, hoB, hdB⟩, hf⟩ := hk
  obtain ⟨adN, capN, rfl⟩ := hoN.form
  obtain ⟨adT, capT, rfl⟩ := hoT.form
  obtain ⟨adB, capB, rfl⟩ := hoB.form
  have hcN := hoN.capLe
  have hcT := hoT.capLe
  have hcB := hoB.capLe
  have hzN := hoN.lenLe
  have hzT := hoT.lenLe
  have hzB := hoB.lenLe
  have hbn := hok.nodes
  have hbt := hok.tasks
  have hbb := hok.binds
  refine Go.Sy.Does.enter Tryz.func21 rfl Tryz.ntmps21 rfl ?_
  refine .seq <| .region <| .on rfl <| .box rfl rfl rfl fun c1 _ _ => .e (.assign rfl) rfl rfl <| .nil <| .go ?_
  refine .seq <| .seq ?_
  refine .draw [(c1, _)] mixed (.cons .here .nil) ?_
  refine .t 0 rfl (.fieldAddr fo36_5 rfl) rfl rfl (by kernel_rfl) <| .t 1 rfl (.load ag25 rfl .here rfl) rfl rfl (by kernel_rfl) <| .t 2 rfl (.move rfl) rfl rfl (by kernel_rfl) <| .t 3 rfl (.nilCheck rfl) rfl rfl (by kernel_rfl) <| .t 4 rfl (.fieldAddr fo66_0 rfl) rfl rfl (by kernel_rfl) <| .t 5 rfl (.fieldAddr fo27_3 rfl) rfl rfl (by kernel_rfl) ?_
  refine .one (i := 6) (by kernel_rfl) rfl rfl ?_
  refine .ev (.load ag25 rfl (.there <| .here) rfl) rfl ⟨(.cons .here .nil), Imm.le_refl _, ?_⟩
  refine .t 7 rfl (.lss rfl rfl) rfl rfl (by kernel_rfl) <| .done (by kernel_rfl) <| .go ?_
  refine .split 15 rfl (fun h15 => ?_) (fun h15 => ?_)
  · skip
    replace h15 := of_decide_eq_true h15
    refine .cond_true rfl <| .seq <| .region <| .e (.assign rfl) rfl rfl <| .nil <| .go ?_
    refine .ret <| .ret ?_
    refine .tail ?_
    refine Post.rets rfl (.tmp rfl .nil) rfl (Imm.le_refl _) (fun w h => h) ?_
    rw [show placeR b o = (b, 14) by unfold placeR; rw [if_pos h15]]
    exact ⟨rfl, ⟨_, _, _, obN, obT, obB, ⟨⟨_, hoN, hdN⟩, ⟨_, hoT, hdT⟩, ⟨_, hoB, hdB⟩, hf⟩, rfl⟩⟩
  · skip
    replace h15 := of_decide_eq_false h15
    refine .cond_false rfl <| .skip <| .go <| .seq <| .region <| .e (.move rfl) rfl rfl ?_
    refine .e (.fieldAddr fo36_3 rfl) rfl rfl <| .e (.load ag9 rfl .here rfl) rfl rfl <| .e (.fieldAddr fo36_4 rfl) rfl rfl <| .e (.load ag9 rfl .here rfl) rfl rfl ?_
    refine .front (.there <| .there <| .front) ?_
    refine .lend hoN fun JN hJN hJNs hJNt => ?_
    refine .front (.there <| .there <| .front) ?_
    refine .lend hoT fun JT hJT hJTs hJTt => ?_
    refine .front (.there <| .there <| .front) ?_
    refine .lend hoB fun JB hJB hJBs hJBt => ?_
    have hkR : BkR JB (Bk.cells b (.slice adN b.nodes.length capN) (.slice adT b.tasks.length capT) (.slice adB b.binds.length capB)) b := ⟨⟨_, _, _, rfl, NodsR.mono (Imm.le_trans hJT hJB) (hJNs (R := NodR) (hdN.to fun _ _ h => h.nod.mono hJN) rfl), TsksR.mono hJB (hJTs (R := TskR) (hdT.mono fun _ _ h => h.mono (Imm.le_trans hJN hJT)) rfl), hJBs (R := BndR) (hdB.mono fun _ _ h => h) rfl⟩, hf⟩
    refine .on rfl <| .callP cal59 rfl rfl rfl (kcan_ok (.there <| .here) hkR hok.rn hok.rt hok.rb hok.hsn hok.hst hok.binds) <| .e (.assign rfl) rfl rfl <| .nil <| .go <| .seq <| .seq ?_
    refine .region ?_
    refine .thaw hJBt ?_
    refine .thaw hJTt ?_
    refine .thaw hJNt ?_
    refine .e (.move rfl) rfl rfl <| .e (.eql rfl rfl) rfl rfl <| .nil <| .go ?_
    refine .split 23 rfl (fun h23 => ?_) (fun h23 => ?_)
    · skip
      replace h23 := of_decide_eq_true h23
      refine .cond_true rfl <| .seq <| .region <| .e (.move rfl) rfl rfl <| .e (.fieldAddr fo36_3 rfl) rfl rfl <| .e (.load ag9 rfl (.app <| .app <| .app <| .here) rfl) rfl rfl ?_
      refine .lend hoN fun JN hJN hJNs hJNt => ?_
      refine .lend hoT fun JT hJT hJTs hJTt => ?_
      refine .lend hoB fun JB hJB hJBs hJBt => ?_
      have hkR : BkR JB (Bk.cells b (.slice adN b.nodes.length capN) (.slice adT b.tasks.length capT) (.slice adB b.binds.length capB)) b := ⟨⟨_, _, _, rfl, NodsR.mono (Imm.le_trans hJT hJB) (hJNs (R := NodR) (hdN.to fun _ _ h => h.nod.mono hJN) rfl), TsksR.mono hJB (hJTs (R := TskR) (hdT.mono fun _ _ h => h.mono (Imm.le_trans hJN hJT)) rfl), hJBs (R := BndR) (hdB.mono fun _ _ h => h) rfl⟩, hf⟩
      refine .on rfl <| .callP cal60 rfl rfl rfl (kbind_ok (.there <| .here) hkR hok.rb hok.hsb) <| .e (.move rfl) rfl rfl <| .e (.extract rfl rfl) rfl rfl <| .e (.extract rfl rfl) rfl rfl <| .e (.assign rfl) rfl rfl ?_
      refine .thaw hJBt ?_
      refine .thaw hJTt ?_
      refine .thaw hJNt ?_
      refine .e (.assign rfl) rfl rfl <| .nil <| .go ?_
      refine .draw [(c1, _)] mixed (.cons (.app <| .app <| .app <| .here) .nil) ?_
      refine .t 0 rfl (.move rfl) rfl rfl (by kernel_rfl) <| .t 1 rfl (.move rfl) rfl rfl (by kernel_rfl) <| .t 2 rfl (.nilCheck rfl) rfl rfl (by kernel_rfl) <| .t 3 rfl (.fieldAddr fo66_0 rfl) rfl rfl (by kernel_rfl) <| .t 4 rfl (.fieldAddr fo27_2 rfl) rfl rfl (by kernel_rfl) <| .t 6 rfl (.move rfl) rfl rfl (by kernel_rfl) ?_
      refine .t 7 rfl (.fieldAddr fo36_3 rfl) rfl rfl (by kernel_rfl) <| .t 8 rfl (.load ag9 rfl .here rfl) rfl rfl (by kernel_rfl) <| .t 9 rfl (.fieldAddr fo36_4 rfl) rfl rfl (by kernel_rfl) <| .t 10 rfl (.load ag9 rfl .here rfl) rfl rfl (by kernel_rfl) <| .t 11 rfl (.build bs47 zv47 rfl rfl) rfl rfl (by kernel_rfl) ?_
      refine .all (rs := [5, 12]) (by kernel_rfl) (by simp) ⟨⟨_, rfl, .inl ⟨rfl, ?_⟩⟩, ⟨⟨_, rfl, .inl ⟨rfl, ?_⟩⟩, trivial⟩⟩
      · skip
        refine .ev (.load ag24 rfl (.app <| .app <| .app <| .there <| .here) rfl) rfl ⟨(.cons (.app <| .app <| .app <| .here) .nil), Imm.le_refl _, ?_⟩
        refine .one (i := 12) (by kernel_rfl) rfl rfl <| .buildSlice Tryz.underlying24 sz47 (by decide) (by decide) zv47 rfl rfl rfl rfl rfl fun c2 _ _ => ?_
        refine ⟨(.cons (.there <| .app <| .app <| .app <| .here) .nil), Imm.le_refl _, ?_⟩
        refine .front (.there <| .app <| .app <| .front) ?_
        refine .one (i := 13) (by kernel_rfl) rfl rfl <| .call cal61 rfl rfl rfl (insBnd_ok hoB hdB (x := ⟨o.name, o.on⟩) ⟨rfl, ho0.name, ho0.on⟩ pos_le (by have := hok.binds; omega)) fun v44 I44 O44 hI44 hK44 => ?_
        obtain ⟨hq44, ws44, ob44, ho44, hd44, rfl⟩ := hK44
        replace hq44 := hq44.symm
        subst hq44
        obtain ⟨ad44, cap44, rfl⟩ := ho44.form
        refine ⟨(.cons (.app <| .app <| .app <| .here) .nil), Imm.le_refl _, ?_⟩
        refine .t 14 rfl (.nilCheck rfl) rfl rfl (by kernel_rfl) <| .t 15 rfl (.fieldAddr fo66_0 rfl) rfl rfl (by kernel_rfl) <| .t 16 rfl (.fieldAddr fo27_2 rfl) rfl rfl (by kernel_rfl) <| .one (i := 17) (by kernel_rfl) rfl rfl <| .store sz24 rfl rfl rfl rfl rfl rfl (.app <| .app <| .app <| .there <| .here) ?_
        refine ⟨(.cons (.app <| .app <| .app <| .here) .nil), Imm.le_refl _, ?_⟩
        refine .done (by kernel_rfl) <| .go <| .seq <| .region <| .e (.move rfl) rfl rfl <| .e (.assign rfl) rfl rfl ?_
        refine .nil <| .go <| .ret ?_
        refine .front1 (.app <| .app <| .app <| .here) ?_
        refine .tail ?_
        refine .front (.app <| .app <| .front) ?_
        refine .front (.app <| .app <| .front) ?_
        refine .front1 (.app <| .app <| .app <| .here) ?_
        refine Post.rets rfl (.tmp rfl .nil) rfl (Imm.le_refl _) (fun w h => h) ?_
        rw [show placeR b o = ({ b with binds := insAt b.binds (posB b o.name) ⟨o.name, o.on⟩ }, 0) by unfold placeR; rw [if_neg h15, if_pos h23]]
        exact ⟨congrArg (Value.int .i64) h23, ⟨_, _, _, obN, obT, ob44, ⟨⟨wsN, hoN, hdN⟩, ⟨wsT, hoT, hdT⟩, ⟨ws44, by dsimp only; rw [insAt_len (show posB b o.name ≤ _ from pos_le)]; exact ho44, hd44⟩, hf⟩, rfl⟩⟩
      · skip
        refine .buildSlice Tryz.underlying24 sz47 (by decide) (by decide) zv47 rfl rfl rfl rfl rfl fun c3 _ _ => ?_
        refine ⟨(.cons (.there <| .app <| .app <| .app <| .here) .nil), Imm.le_refl _, ?_⟩
        refine .one (i := 5) (by kernel_rfl) rfl rfl ?_
        refine .ev (.load ag24 rfl (.there <| .app <| .app <| .app <| .there <| .here) rfl) rfl ⟨(.cons (.there <| .app <| .app <| .app <| .here) .nil), Imm.le_refl _, ?_⟩
        refine .front (.there <| .app <| .app <| .front) ?_
        refine .one (i := 13) (by kernel_rfl) rfl rfl <| .call cal61 rfl rfl rfl (insBnd_ok hoB hdB (x := ⟨o.name, o.on⟩) ⟨rfl, ho0.name, ho0.on⟩ pos_le (by have := hok.binds; omega)) fun v44 I44 O44 hI44 hK44 => ?_
        obtain ⟨hq44, ws44, ob44, ho44, hd44, rfl⟩ := hK44
        replace hq44 := hq44.symm
        subst hq44
        obtain ⟨ad44, cap44, rfl⟩ := ho44.form
        refine ⟨(.cons (.app <| .app <| .app <| .here) .nil), Imm.le_refl _, ?_⟩
        refine .t 14 rfl (.nilCheck rfl) rfl rfl (by kernel_rfl) <| .t 15 rfl (.fieldAddr fo66_0 rfl) rfl rfl (by kernel_rfl) <| .t 16 rfl (.fieldAddr fo27_2 rfl) rfl rfl (by kernel_rfl) <| .one (i := 17) (by kernel_rfl) rfl rfl <| .store sz24 rfl rfl rfl rfl rfl rfl (.app <| .app <| .app <| .there <| .here) ?_
        refine ⟨(.cons (.app <| .app <| .app <| .here) .nil), Imm.le_refl _, ?_⟩
        refine .done (by kernel_rfl) <| .go <| .seq <| .region <| .e (.move rfl) rfl rfl <| .e (.assign rfl) rfl rfl ?_
        refine .nil <| .go <| .ret ?_
        refine .front1 (.app <| .app <| .app <| .here) ?_
        refine .tail ?_
        refine .front (.app <| .app <| .front) ?_
        refine .front (.app <| .app <| .front) ?_
        refine .front1 (.app <| .app <| .app <| .here) ?_
        refine Post.rets rfl (.tmp rfl .nil) rfl (Imm.le_refl _) (fun w h => h) ?_
        rw [show placeR b o = ({ b with binds := insAt b.binds (posB b o.name) ⟨o.name, o.on⟩ }, 0) by unfold placeR; rw [if_neg h15, if_pos h23]]
        exact ⟨congrArg (Value.int .i64) h23, ⟨_, _, _, obN, obT, ob44, ⟨⟨wsN, hoN, hdN⟩, ⟨wsT, hoT, hdT⟩, ⟨ws44, by dsimp only; rw [insAt_len (show posB b o.name ≤ _ from pos_le)]; exact ho44, hd44⟩, hf⟩, rfl⟩⟩
    · skip
      replace h23 := of_decide_eq_false h23
      refine .cond_false rfl <| .skip <| .go <| .seq <| .region <| .e (.move rfl) rfl rfl ?_
      refine .e (.assign rfl) rfl rfl <| .nil <| .go <| .ret ?_
      refine .front1 (.app <| .app <| .app <| .here) ?_
      refine .tail ?_
      refine .front (.app <| .app <| .front) ?_
      refine .front (.app <| .app <| .front) ?_
      refine .front (.app <| .app <| .front) ?_
      refine .front1 (.app <| .app <| .app <| .here) ?_
      refine Post.rets rfl (.tmp rfl .nil) rfl (Imm.le_refl _) (fun w h => h) ?_
      rw [show placeR b o = (b, canR b o.name o.on) by unfold placeR; rw [if_neg h15, if_neg h23]]
      exact ⟨rfl, ⟨_, _, _, obN, obT, obB, ⟨⟨_, hoN, hdN⟩, ⟨_, hoT, hdT⟩, ⟨_, hoB, hdB⟩, hf⟩, rfl⟩⟩

set_option maxHeartbeats 8000000 in
set_option maxRecDepth 20000 in
theorem kofF_ok {I : Imm} {O : Own} {kb : Nat} {b : Bk} {nv tv bv : Value} {obN obT obB : Own} {J0 : Imm} (hJ0 : J0.le I) (hk : BkN J0 I b nv tv bv obN obT obB) (hok : BookOk b) {oc : List Value} {o : Ordr} (ho : OrdrR I oc o) :
    Go.Sy.Does Tryz.prog 22 [.pointer (some ⟨kb, 0, none⟩), .agg ⟨oc⟩] I ((kb, .cells ⟨b.cells nv tv bv⟩ 66 (0, 0)) :: (obN ++ (obT ++ (obB ++ O)))) (fun u I' O' => u = .agg ⟨[.int .i64 (ofR b o).2.1, .string (ofR b o).2.2]⟩ ∧ KeepN J0 kb (ofR b o).1 I' O O') := by
  have ho0 := ho
  obtain ⟨lv, tv, wv, bv, rfl, hon, holv, hotv, hot, howv, hobv⟩ := ho.ex
  have hkd := ho0.kind
  obtain ⟨olva, olvc, rfl, -⟩ := holv
  obtain ⟨otva, otvc, rfl, -⟩ := hotv
  obtain ⟨owva, owvc, rfl, -⟩ := howv
  obtain ⟨obva, obvc, rfl, -⟩ := hobv
  have hk0 := hk
  obtain ⟨⟨wsN, hoN, hdN⟩, ⟨wsT, hoT, hdT⟩, ⟨wsB, hoB, hdB⟩, hf⟩ := hk
  obtain ⟨adN, capN, rfl⟩ := hoN.form
  obtain ⟨adT, capT, rfl⟩ := hoT.form
  obtain ⟨adB, capB, rfl⟩ := hoB.form
  have hcN := hoN.capLe
  have hcT := hoT.capLe
  have hcB := hoB.capLe
  have hzN := hoN.lenLe
  have hzT := hoT.lenLe
  have hzB := hoB.lenLe
  have hbn := hok.nodes
  have hbt := hok.tasks
  have hbb := hok.binds
  refine Go.Sy.Does.enter Tryz.func22 rfl Tryz.ntmps22 rfl ?_
  refine .seq <| .region <| .on rfl <| .box rfl rfl rfl fun c1 _ _ => .on rfl <| .alloc zr41 rfl fun c2 _ _ => .nil <| .go ?_
  refine .seq <| .region <| .e (.move rfl) rfl rfl <| .e (.fieldAddr fo36_3 rfl) rfl rfl <| .e (.load ag9 rfl (.there <| .here) rfl) rfl rfl ?_
  refine .front (.there <| .there <| .there <| .front) ?_
  refine .lend hoN fun JN hJN hJNs hJNt => ?_
  refine .front (.there <| .there <| .there <| .front) ?_
  refine .lend hoT fun JT hJT hJTs hJTt => ?_
  refine .front (.there <| .there <| .there <| .front) ?_
  refine .lend hoB fun JB hJB hJBs hJBt => ?_
  have hkR : BkR JB (Bk.cells b (.slice adN b.nodes.length capN) (.slice adT b.tasks.length capT) (.slice adB b.binds.length capB)) b := ⟨⟨_, _, _, rfl, NodsR.mono (Imm.le_trans hJT hJB) (hJNs (R := NodR) (hdN.to fun _ _ h => h.nod.mono hJN) rfl), TsksR.mono hJB (hJTs (R := TskR) (hdT.mono fun _ _ h => h.mono (Imm.le_trans hJN hJT)) rfl), hJBs (R := BndR) (hdB.mono fun _ _ h => h) rfl⟩, hf⟩
  refine .on rfl <| .callP cal45 rfl rfl rfl (ktask_ok (.there <| .there <| .here) hkR hok.rt hok.hst) <| .e (.move rfl) rfl rfl <| .e (.extract rfl rfl) rfl rfl <| .e (.extract rfl rfl) rfl rfl <| .e (.assign rfl) rfl rfl <| .e (.assign rfl) rfl rfl ?_
  refine .nil <| .go <| .seq <| .seq <| .region ?_
  refine .thaw hJBt ?_
  refine .thaw hJTt ?_
  refine .thaw hJNt ?_
  refine .e (.move rfl) rfl rfl <| .e (.not rfl) rfl rfl <| .nil <| .go ?_
  refine .split 17 rfl (fun h17 => ?_) (fun h17 => ?_)
  · skip
    refine .cond_true rfl <| .seq <| .region <| .e (.build bs41 zv41 rfl rfl) rfl rfl <| .on rfl <| .storeW sz41 rfl rfl rfl rfl rfl rfl (.app <| .app <| .app <| .here) <| .nil ?_
    refine .go <| .ret <| .ret ?_
    refine .front1 (.app <| .app <| .app <| .there <| .here) ?_
    refine .tail ?_
    refine .front1 (.app <| .app <| .app <| .here) ?_
    refine .front (.there <| .app <| .app <| .front) ?_
    refine .front (.app <| .there <| .app <| .front) ?_
    refine .front (.app <| .app <| .there <| .front) ?_
    refine .front1 (.app <| .app <| .app <| .there <| .here) ?_
    refine Post.rets rfl (.agg rfl ag41 sz41 (.there <| .app <| .app <| .app <| .here) rfl .nil) rfl (Imm.le_refl _) (fun w h => (Sat.tail (Sat.rem h (Rem.there <| Rem.app <| Rem.app <| Rem.app <| Rem.here)))) ?_
    rw [show ofR b o = (b, 6, ⟨#[]⟩) by unfold ofR; rw [if_neg (show ¬hasT b o.name = true from Bool.eq_false_iff.1 ((Bool.not_eq_true' _).mp h17))]]
    exact ⟨rfl, _, _, _, obN, obT, obB, ⟨⟨_, hoN, hdN⟩, ⟨_, hoT, hdT⟩, ⟨_, hoB, hdB⟩, hf⟩, rfl⟩
  · skip
    have hpos := (has_get hok.rt ((Bool.not_eq_false' _).mp h17)).1
    refine .cond_false rfl <| .skip <| .go <| .seq <| .seq <| .region ?_
    refine .e (.fieldAddr fo36_0 rfl) rfl rfl <| .e (.load ag28 rfl (.app <| .app <| .app <| .there <| .here) rfl) rfl rfl <| .nil <| .go <| .block <| .seq ?_
    refine .region <| .e (.eql rfl rfl) rfl rfl <| .e (.assign rfl) rfl rfl <| .nil <| .go ?_
    refine .split 21 rfl (fun h21 => ?_) (fun h21 => ?_)
    · skip
      replace h21 := of_decide_eq_true h21
      refine .cond_true rfl <| .seq <| .region <| .e (.move rfl) rfl rfl <| .e (.fieldAddr fo36_3 rfl) rfl rfl <| .e (.load ag9 rfl (.app <| .app <| .app <| .there <| .here) rfl) rfl rfl ?_
      refine .front1 (.app <| .app <| .app <| .there <| .here) ?_
      refine .front1 (.there <| .app <| .app <| .app <| .here) ?_
      refine .front (.there <| .there <| .app <| .app <| .front) ?_
      refine .front (.app <| .there <| .there <| .app <| .front) ?_
      refine .front (.app <| .app <| .there <| .there <| .front) ?_
      refine .front1 (.app <| .app <| .app <| .there <| .there <| .here) ?_
      refine .on rfl <| .call cal62 rfl rfl rfl (kfreeF_ok hJ0 hk0 hok) fun v26 I26 O26 hI26 hK26 => ?_
      obtain ⟨hq26, nv26, tv26, bv26, obN26, obT26, obB26, hk26, rfl⟩ := hK26
      subst hq26
      have hk260 := hk26
      obtain ⟨⟨wsN26, hoN26, hdN26⟩, ⟨wsT26, hoT26, hdT26⟩, ⟨wsB26, hoB26, hdB26⟩, hf26⟩ := hk26
      obtain ⟨adN26, capN26, rfl⟩ := hoN26.form
      obtain ⟨adT26, capT26, rfl⟩ := hoT26.form
      obtain ⟨adB26, capB26, rfl⟩ := hoB26.form
      refine .nil <| .go <| .region <| .e (.move rfl) rfl rfl <| .e (.move rfl) rfl rfl <| .e (.nilCheck rfl) rfl rfl ?_
      refine .e (.fieldAddr fo66_0 rfl) rfl rfl <| .e (.fieldAddr fo27_1 rfl) rfl rfl <| .e (.load ag23 rfl .here rfl) rfl rfl <| .e (.move rfl) rfl rfl <| .e (.move rfl) rfl rfl <| .e (.add rfl rfl (by first | exact wrap_succ (by omega) | exact IntWalk.i64_in _ (by omega) | exact rfl)) rfl rfl ?_
      refine .front (.there <| .app <| .front) ?_
      refine .on rfl <| .call cal63 rfl rfl rfl (delTsk_ok hoT26 hdT26 (Nat.lt_succ_self _) (by rw [freeR_tasks]; exact hpos) rfl rfl) fun v36 I36 O36 hI36 hK36 => ?_
      obtain ⟨hq36, ws36, ob36, ho36, hd36, rfl⟩ := hK36
      replace hq36 := hq36.symm
      subst hq36
      obtain ⟨ad36, cap36, rfl⟩ := ho36.form
      refine .e (.nilCheck rfl) rfl rfl <| .e (.fieldAddr fo66_0 rfl) rfl rfl <| .e (.fieldAddr fo27_1 rfl) rfl rfl <| .on rfl <| .store sz23 rfl rfl rfl rfl rfl rfl (.app <| .here) <| .nil <| .blk_normal ?_
      refine .go <| .seq <| .region <| .e (.loadW ag41 sz41 rfl (.app <| .there <| .app <| .app <| .here) rfl) rfl rfl <| .on rfl <| .storeW sz41 rfl rfl rfl rfl rfl rfl (.app <| .there <| .app <| .app <| .here) <| .nil ?_
      refine .go <| .ret ?_
      refine .front1 (.app <| .there <| .app <| .app <| .there <| .here) ?_
      refine .tail ?_
      refine .front (.app <| .there <| .front) ?_
      refine .front1 (.app <| .app <| .here) ?_
      refine Post.rets rfl (.agg rfl ag41 sz41 (.there <| .app <| .app <| .app <| .here) rfl .nil) rfl hI26 (fun w h => (Sat.tail (Sat.rem h (Rem.there <| Rem.app <| Rem.app <| Rem.app <| Rem.here)))) ?_
      rw [show ofR b o = ({ freeR b o.name with tasks := delAt (freeR b o.name).tasks (posT b o.name) }, 0, ⟨#[]⟩) by unfold ofR; rw [if_pos (show hasT b o.name = true from (Bool.not_eq_false' _).mp h17), if_pos h21]]
      exact ⟨rfl, _, _, _, obN26, ob36, obB26, ⟨⟨_, hoN26, hdN26⟩, ⟨ws36, ho36, hd36⟩, ⟨_, hoB26, hdB26⟩, hf26⟩, rfl⟩
    · skip
      replace h21 := of_decide_eq_false h21
      refine .cond_false rfl <| .seq <| .region <| .e (.eql rfl rfl) rfl rfl <| .e (.assign rfl) rfl rfl <| .nil ?_
      refine .go ?_
      refine .split 40 rfl (fun h40 => ?_) (fun h40 => ?_)
      · skip
        replace h40 := of_decide_eq_true h40
        refine .cond_true rfl <| .seq <| .region <| .e (.move rfl) rfl rfl <| .e (.fieldAddr fo36_3 rfl) rfl rfl <| .e (.load ag9 rfl (.app <| .app <| .app <| .there <| .here) rfl) rfl rfl ?_
        refine .front1 (.app <| .app <| .app <| .there <| .here) ?_
        refine .front1 (.there <| .app <| .app <| .app <| .here) ?_
        refine .front (.there <| .there <| .app <| .app <| .front) ?_
        refine .front (.app <| .there <| .there <| .app <| .front) ?_
        refine .front (.app <| .app <| .there <| .there <| .front) ?_
        refine .front1 (.app <| .app <| .app <| .there <| .there <| .here) ?_
        refine .on rfl <| .call cal62 rfl rfl rfl (kfreeF_ok hJ0 hk0 hok) fun v45 I45 O45 hI45 hK45 => ?_
        obtain ⟨hq45, nv45, tv45, bv45, obN45, obT45, obB45, hk45, rfl⟩ := hK45
        subst hq45
        have hk450 := hk45
        obtain ⟨⟨wsN45, hoN45, hdN45⟩, ⟨wsT45, hoT45, hdT45⟩, ⟨wsB45, hoB45, hdB45⟩, hf45⟩ := hk45
        obtain ⟨adN45, capN45, rfl⟩ := hoN45.form
        obtain ⟨adT45, capT45, rfl⟩ := hoT45.form
        obtain ⟨adB45, capB45, rfl⟩ := hoB45.form
        refine .e (.not rfl) rfl rfl <| .nil <| .go ?_
        refine .split 46 rfl (fun h46 => ?_) (fun h46 => ?_)
        · skip
          refine .cond_true rfl <| .region <| .e (.fieldAddr fo41_0 rfl) rfl rfl <| .on rfl <| .store sz39 rfl rfl rfl rfl rfl rfl (.there <| .app <| .app <| .app <| .here) <| .nil <| .blk_normal ?_
          refine .go <| .seq <| .region <| .e (.loadW ag41 sz41 rfl (.there <| .app <| .app <| .app <| .here) rfl) rfl rfl <| .on rfl <| .storeW sz41 rfl rfl rfl rfl rfl rfl (.there <| .app <| .app <| .app <| .here) <| .nil ?_
          refine .go <| .ret ?_
          refine .front1 (.there <| .app <| .app <| .app <| .there <| .here) ?_
          refine .tail ?_
          refine Post.rets rfl (.agg rfl ag41 sz41 (.there <| .app <| .app <| .app <| .here) rfl .nil) rfl hI45 (fun w h => (Sat.tail (Sat.rem h (Rem.there <| Rem.app <| Rem.app <| Rem.app <| Rem.here)))) ?_
          rw [show ofR b o = (freeR b o.name, 10, ⟨#[]⟩) by unfold ofR; rw [if_pos (show hasT b o.name = true from (Bool.not_eq_false' _).mp h17), if_neg h21, if_pos h40, if_neg (show ¬hasB b o.name = true from Bool.eq_false_iff.1 ((Bool.not_eq_true' _).mp h46))]]
          exact ⟨rfl, _, _, _, obN45, obT45, obB45, hk450, rfl⟩
        · skip
          refine .cond_false rfl <| .skip <| .blk_normal <| .go <| .seq <| .region ?_
          refine .e (.loadW ag41 sz41 rfl (.there <| .app <| .app <| .app <| .here) rfl) rfl rfl <| .on rfl <| .storeW sz41 rfl rfl rfl rfl rfl rfl (.there <| .app <| .app <| .app <| .here) <| .nil <| .go <| .ret ?_
          refine .front1 (.there <| .app <| .app <| .app <| .there <| .here) ?_
          refine .tail ?_
          refine Post.rets rfl (.agg rfl ag41 sz41 (.there <| .app <| .app <| .app <| .here) rfl .nil) rfl hI45 (fun w h => (Sat.tail (Sat.rem h (Rem.there <| Rem.app <| Rem.app <| Rem.app <| Rem.here)))) ?_
          rw [show ofR b o = (freeR b o.name, 0, ⟨#[]⟩) by unfold ofR; rw [if_pos (show hasT b o.name = true from (Bool.not_eq_false' _).mp h17), if_neg h21, if_pos h40, if_pos (show hasB b o.name = true from (Bool.not_eq_false' _).mp h46)]]
          exact ⟨rfl, _, _, _, obN45, obT45, obB45, hk450, rfl⟩
      · skip
        replace h40 := of_decide_eq_false h40
        refine .cond_false rfl <| .seq <| .region <| .e (.eql rfl rfl) rfl rfl <| .e (.assign rfl) rfl rfl <| .nil ?_
        refine .go ?_
        refine .split 48 rfl (fun h48 => ?_) (fun h48 => ?_)
        · skip
          replace h48 := of_decide_eq_true h48
          refine .cond_true rfl <| .seq <| .region <| .e (.move rfl) rfl rfl <| .e (.fieldAddr fo36_3 rfl) rfl rfl <| .e (.load ag9 rfl (.app <| .app <| .app <| .there <| .here) rfl) rfl rfl ?_
          refine .lend hoN fun JN hJN hJNs hJNt => ?_
          refine .lend hoT fun JT hJT hJTs hJTt => ?_
          refine .lend hoB fun JB hJB hJBs hJBt => ?_
          have hkR : BkR JB (Bk.cells b (.slice adN b.nodes.length capN) (.slice adT b.tasks.length capT) (.slice adB b.binds.length capB)) b := ⟨⟨_, _, _, rfl, NodsR.mono (Imm.le_trans hJT hJB) (hJNs (R := NodR) (hdN.to fun _ _ h => h.nod.mono hJN) rfl), TsksR.mono hJB (hJTs (R := TskR) (hdT.mono fun _ _ h => h.mono (Imm.le_trans hJN hJT)) rfl), hJBs (R := BndR) (hdB.mono fun _ _ h => h) rfl⟩, hf⟩
          refine .on rfl <| .callP cal60 rfl rfl rfl (kbind_ok (.there <| .there <| .here) hkR hok.rb hok.hsb) <| .e (.move rfl) rfl rfl <| .e (.extract rfl rfl) rfl rfl <| .e (.extract rfl rfl) rfl rfl <| .e (.assign rfl) rfl rfl <| .e (.assign rfl) rfl rfl ?_
          refine .nil <| .go <| .seq <| .region <| .e (.move rfl) rfl rfl <| .nil ?_
          refine .go ?_
          refine .split 57 rfl (fun h57 => ?_) (fun h57 => ?_)
          · skip
            obtain ⟨hpb, -⟩ := has_get hok.rb h57
            refine .cond_true rfl <| .region <| .e (.move rfl) rfl rfl <| .e (.nilCheck rfl) rfl rfl <| .e (.fieldAddr fo66_0 rfl) rfl rfl <| .e (.fieldAddr fo27_2 rfl) rfl rfl ?_
            refine .e (.load ag24 rfl (.there <| .there <| .here) rfl) rfl rfl <| .e (.move rfl) rfl rfl ?_
            obtain ⟨eb64, eo64, cs64, hd64, hat64, hr64⟩ := SlR.at_ (hJBs (R := BndR) (hdB.mono fun _ _ h => h) rfl) (k := posBy (fun x : Bnd => x.task) b.binds o.name) hpb
            cases hd64
            have hx64 := hr64
            obtain ⟨rfl, hx64a, hx64b⟩ := hr64
            refine .e (.indexAddrL sl24 rfl rfl rfl hpb) rfl rfl <| .e (.fieldAddr fo47_1 rfl) rfl rfl <| .e (.loadI ag9 rfl (hat64.cell (j := 1) rfl)) rfl rfl <| .e (.fieldAddr fo41_1 rfl) rfl rfl <| .on rfl <| .store sz9 rfl rfl rfl rfl rfl rfl .here <| .nil ?_
            refine .blk_normal <| .go <| .seq <| .region ?_
            refine .thaw hJBt ?_
            refine .thaw hJTt ?_
            refine .thaw hJNt ?_
            refine .e (.loadW ag41 sz41 rfl (.app <| .app <| .app <| .here) rfl) rfl rfl <| .on rfl <| .storeW sz41 rfl rfl rfl rfl rfl rfl (.app <| .app <| .app <| .here) <| .nil <| .go <| .ret ?_
            refine .front1 (.app <| .app <| .app <| .there <| .here) ?_
            refine .tail ?_
            refine .front1 (.app <| .app <| .app <| .here) ?_
            refine .front (.there <| .app <| .app <| .front) ?_
            refine .front (.app <| .there <| .app <| .front) ?_
            refine .front (.app <| .app <| .there <| .front) ?_
            refine .front1 (.app <| .app <| .app <| .there <| .here) ?_
            refine Post.rets rfl (.agg rfl ag41 sz41 (.there <| .app <| .app <| .app <| .here) rfl .nil) rfl (Imm.le_refl _) (fun w h => (Sat.tail (Sat.rem h (Rem.there <| Rem.app <| Rem.app <| Rem.app <| Rem.here)))) ?_
            rw [show ofR b o = (b, 0, (b.binds[posBy (fun x : Bnd => x.task) b.binds o.name]'(has_get hok.rb h57).1).node) by unfold ofR; rw [if_pos (show hasT b o.name = true from (Bool.not_eq_false' _).mp h17), if_neg h21, if_neg h40, if_pos h48, onR_has hok.rb h57]]
            exact ⟨rfl, _, _, _, obN, obT, obB, ⟨⟨_, hoN, hdN⟩, ⟨_, hoT, hdT⟩, ⟨_, hoB, hdB⟩, hf⟩, rfl⟩
          · skip
            refine .cond_false rfl <| .skip <| .blk_normal <| .go <| .seq <| .region ?_
            refine .thaw hJBt ?_
            refine .thaw hJTt ?_
            refine .thaw hJNt ?_
            refine .e (.loadW ag41 sz41 rfl (.app <| .app <| .app <| .here) rfl) rfl rfl <| .on rfl <| .storeW sz41 rfl rfl rfl rfl rfl rfl (.app <| .app <| .app <| .here) <| .nil <| .go <| .ret ?_
            refine .front1 (.app <| .app <| .app <| .there <| .here) ?_
            refine .tail ?_
            refine .front1 (.app <| .app <| .app <| .here) ?_
            refine .front (.there <| .app <| .app <| .front) ?_
            refine .front (.app <| .there <| .app <| .front) ?_
            refine .front (.app <| .app <| .there <| .front) ?_
            refine .front1 (.app <| .app <| .app <| .there <| .here) ?_
            refine Post.rets rfl (.agg rfl ag41 sz41 (.there <| .app <| .app <| .app <| .here) rfl .nil) rfl (Imm.le_refl _) (fun w h => (Sat.tail (Sat.rem h (Rem.there <| Rem.app <| Rem.app <| Rem.app <| Rem.here)))) ?_
            rw [show ofR b o = (b, 0, ⟨#[]⟩) by unfold ofR; rw [if_pos (show hasT b o.name = true from (Bool.not_eq_false' _).mp h17), if_neg h21, if_neg h40, if_pos h48, onR_no h57]]
            exact ⟨rfl, _, _, _, obN, obT, obB, ⟨⟨_, hoN, hdN⟩, ⟨_, hoT, hdT⟩, ⟨_, hoB, hdB⟩, hf⟩, rfl⟩
        · skip
          replace h48 := of_decide_eq_false h48
          refine .cond_false rfl <| .skip <| .blk_normal <| .go <| .seq <| .region ?_
          refine .e (.loadW ag41 sz41 rfl (.app <| .app <| .app <| .here) rfl) rfl rfl <| .on rfl <| .storeW sz41 rfl rfl rfl rfl rfl rfl (.app <| .app <| .app <| .here) <| .nil <| .go <| .ret ?_
          refine .front1 (.app <| .app <| .app <| .there <| .here) ?_
          refine .tail ?_
          refine .front1 (.app <| .app <| .app <| .here) ?_
          refine .front (.there <| .app <| .app <| .front) ?_
          refine .front (.app <| .there <| .app <| .front) ?_
          refine .front (.app <| .app <| .there <| .front) ?_
          refine .front1 (.app <| .app <| .app <| .there <| .here) ?_
          refine Post.rets rfl (.agg rfl ag41 sz41 (.there <| .app <| .app <| .app <| .here) rfl .nil) rfl (Imm.le_refl _) (fun w h => (Sat.tail (Sat.rem h (Rem.there <| Rem.app <| Rem.app <| Rem.app <| Rem.here)))) ?_
          rw [show ofR b o = (b, 0, ⟨#[]⟩) by unfold ofR; rw [if_pos (show hasT b o.name = true from (Bool.not_eq_false' _).mp h17), if_neg h21, if_neg h40, if_neg h48]]
          exact ⟨rfl, _, _, _, obN, obT, obB, ⟨⟨_, hoN, hdN⟩, ⟨_, hoT, hdT⟩, ⟨_, hoB, hdB⟩, hf⟩, rfl⟩

set_option maxHeartbeats 16000000 in
set_option maxRecDepth 20000 in
theorem bDoF_ok {I : Imm} {O : Own} {kc : List Value} {b : Bk} (hk : BkR I kc b) {oc : List Value} {o : Ordr} (ho : OrdrR I oc o) (hs : OrdS o) :
    Go.Sy.Does Tryz.prog 7 [.agg ⟨kc⟩, .agg ⟨oc⟩] I O (fun u I' O' => ∃ nv tv bv on ot ob, u = .tuple ⟨[.agg ⟨(doR b o).1.cells nv tv bv⟩, .agg ⟨[.int .i64 (doR b o).2.1, .string (doR b o).2.2]⟩]⟩ ∧ BkN I I' (doR b o).1 nv tv bv on ot ob ∧ O' = on ++ (ot ++ (ob ++ O))) := by
  have hk0 := hk
  obtain ⟨nv, tv, bv, rfl, hnv, htv, hbv⟩ := hk.ex
  have hnv0 := hnv
  have htv0 := htv
  have hbv0 := hbv
  obtain ⟨na, ncap, rfl, hn1, hn2, -⟩ := hnv
  obtain ⟨ta, tcap, rfl, ht1, ht2, -⟩ := htv
  obtain ⟨ba, bcap, rfl, hb1, hb2, -⟩ := hbv
  have ho0 := ho
  obtain ⟨lv, tv, wv, bv, rfl, hon, holv, hotv, hot, howv, hobv⟩ := ho.ex
  have hkd := ho0.kind
  obtain ⟨olva, olvc, rfl, -⟩ := holv
  obtain ⟨otva, otvc, rfl, -⟩ := hotv
  obtain ⟨owva, owvc, rfl, -⟩ := howv
  obtain ⟨obva, obvc, rfl, -⟩ := hobv
  refine Go.Sy.Does.enter Tryz.func7 rfl Tryz.ntmps7 rfl ?_
  refine .seq <| .region <| .on rfl <| .box rfl rfl rfl fun c1 _ _ => .on rfl <| .box rfl rfl rfl fun c2 _ _ => .on rfl <| .alloc zr27 rfl fun c3 _ _ => .on rfl <| .alloc zr41 rfl fun c4 _ _ => ?_
  refine .nil <| .go <| .seq <| .seq <| .region <| .e (.loadW ag27 sz27 rfl (.there <| .there <| .there <| .here) rfl) rfl rfl ?_
  refine .on rfl <| .callP cal15 rfl rfl rfl (bCheck_ok hk0) <| .e (.assign rfl) rfl rfl <| .nil <| .go <| .seq <| .region ?_
  refine .e (.move rfl) rfl rfl <| .e (.neq rfl rfl) rfl rfl <| .nil <| .go ?_
  refine .split 13 rfl (fun h13 => ?_) (fun h13 => ?_)
  · skip
    first | replace h13 := of_decide_eq_false ((Bool.not_eq_true' _).mp h13) | replace h13 := of_decide_eq_false (by simpa using h13)
    refine .cond_true rfl <| .seq <| .region <| .e (.build bs27 zv27 rfl rfl) rfl rfl <| .e (.move rfl) rfl rfl <| .e (.build bs41 zv41 rfl rfl) rfl rfl ?_
    refine .on rfl <| .storeW sz27 rfl rfl rfl rfl rfl rfl (.there <| .here) <| .on rfl <| .storeW sz41 rfl rfl rfl rfl rfl rfl .here <| .nil <| .go <| .ret <| .ret ?_
    refine Post.rets rfl (.agg rfl ag27 sz27 (.there <| .here) rfl (.agg rfl ag41 sz41 .here rfl .nil)) rfl (Imm.le_refl _) (fun w h => (Sat.tail (Sat.tail (Sat.tail (Sat.tail h))))) ?_
    rw [(bookWhy_no h13).2]
    rw [show doR b o = (bk0, 10, ⟨#[]⟩) from doR_no h13]
    exact ⟨_, _, _, [], [], [], rfl, bk0N, rfl⟩
  · skip
    first | replace h13 := of_decide_eq_true ((Bool.not_eq_false' _).mp h13) | replace h13 := of_decide_eq_true (by simpa using h13)
    have hok := BookOk.of (bookWhy_ok h13)
    refine .cond_false rfl <| .skip <| .go <| .seq <| .region <| .e (.loadW ag27 sz27 rfl (.there <| .there <| .there <| .here) rfl) rfl rfl ?_
    refine .on rfl <| .call cal16 rfl rfl rfl (bOwnF_ok hk0 (BkM.of hok)) fun v18 I18 O18 hI18 hK18 => ?_
    obtain ⟨nv, tv, bv, obN, obT, obB, hq18, hb18, rfl⟩ := hK18
    replace hb18 := BkN.of hb18
    subst hq18
    have hk0 := hb18
    obtain ⟨⟨wsN, hoN, hdN⟩, ⟨wsT, hoT, hdT⟩, ⟨wsB, hoB, hdB⟩, hf⟩ := hb18
    obtain ⟨adN, capN, rfl⟩ := hoN.form
    obtain ⟨adT, capT, rfl⟩ := hoT.form
    obtain ⟨adB, capB, rfl⟩ := hoB.form
    refine .e (.build bs66 zv66 rfl rfl) rfl rfl <| .on rfl <| .box rfl rfl rfl fun c5 _ _ => .e (.assign rfl) rfl rfl <| .nil <| .go <| .seq ?_
    refine .seq <| .region <| .e (.loadW ag36 sz36 rfl (.there <| .app <| .app <| .app <| .there <| .there <| .here) rfl) rfl rfl <| .on rfl <| .callP cal17 rfl rfl rfl (CheckOrder_ok (ho0.mono hI18) hs) <| .e (.assign rfl) rfl rfl <| .nil ?_
    refine .go <| .seq <| .region <| .e (.move rfl) rfl rfl <| .e (.neq rfl rfl) rfl rfl <| .nil ?_
    refine .go ?_
    refine .split 24 rfl (fun h24 => ?_) (fun h24 => ?_)
    · skip
      first | replace h24 := of_decide_eq_false ((Bool.not_eq_true' _).mp h24) | replace h24 := of_decide_eq_false (by simpa using h24)
      refine .cond_true rfl <| .seq <| .region <| .e (.move rfl) rfl rfl <| .e (.nilCheck rfl) rfl rfl <| .e (.fieldAddr fo66_0 rfl) rfl rfl ?_
      refine .e (.loadW ag27 sz27 rfl .here rfl) rfl rfl <| .e (.move rfl) rfl rfl <| .e (.build bs41 zv41 rfl rfl) rfl rfl <| .on rfl <| .storeW sz27 rfl rfl rfl rfl rfl rfl (.there <| .app <| .app <| .app <| .there <| .here) <| .on rfl <| .storeW sz41 rfl rfl rfl rfl rfl rfl (.there <| .app <| .app <| .app <| .here) <| .nil ?_
      refine .go <| .ret <| .ret ?_
      refine .front (.there <| .app <| .app <| .front) ?_
      refine .front (.app <| .there <| .app <| .front) ?_
      refine .front (.app <| .app <| .there <| .front) ?_
      refine Post.rets rfl (.agg rfl ag27 sz27 (.app <| .app <| .app <| .there <| .there <| .here) rfl (.agg rfl ag41 sz41 (.app <| .app <| .app <| .there <| .here) rfl .nil)) rfl hI18 (fun w h => (Sat.tail (Sat.rem (Sat.tail (Sat.rem (Sat.tail (Sat.rem (Sat.tail (Sat.rem (Sat.tail (Sat.rem h (Rem.app <| Rem.app <| Rem.app <| Rem.here))) (Rem.app <| Rem.app <| Rem.app <| Rem.here))) (Rem.app <| Rem.app <| Rem.app <| Rem.here))) (Rem.app <| Rem.app <| Rem.app <| Rem.here))) (Rem.app <| Rem.app <| Rem.app <| Rem.here)))) ?_
      rw [(orderWhy_no h24).2]
      rw [show doR b o = (b, 4, ⟨#[]⟩) from doR_form h13 h24]
      exact ⟨_, _, _, obN, obT, obB, rfl, hk0, rfl⟩
    · skip
      first | replace h24 := of_decide_eq_true ((Bool.not_eq_false' _).mp h24) | replace h24 := of_decide_eq_true (by simpa using h24)
      refine .cond_false rfl <| .skip <| .go <| .seq <| .region <| .on rfl <| .alloc zr41 rfl fun c6 _ _ => ?_
      refine .nil <| .go <| .seq <| .seq <| .region <| .e (.fieldAddr fo36_0 rfl) rfl rfl ?_
      refine .e (.load ag28 rfl (.there <| .there <| .app <| .app <| .app <| .there <| .there <| .here) rfl) rfl rfl <| .nil <| .go <| .block <| .seq <| .region ?_
      refine .e (.eql rfl rfl) rfl rfl <| .e (.assign rfl) rfl rfl <| .nil <| .go ?_
      refine .split 36 rfl (fun h36 => ?_) (fun h36 => ?_)
      · skip
        replace h36 := of_decide_eq_true h36
        refine .cond_true rfl <| .region <| .e (.move rfl) rfl rfl <| .e (.fieldAddr fo36_1 rfl) rfl rfl <| .e (.loadP ag32 sz32 rfl (.there <| .there <| .app <| .app <| .app <| .there <| .there <| .here) rfl) rfl rfl ?_
        refine .front (.there <| .there <| .app <| .app <| .front) ?_
        refine .front (.app <| .there <| .there <| .app <| .front) ?_
        refine .front (.app <| .app <| .there <| .there <| .front) ?_
        refine .front1 (.app <| .app <| .app <| .there <| .here) ?_
        refine .on rfl <| .call cal18 rfl rfl rfl (kaddNodeF_ok hI18 hk0 hok (hon.mono hI18)) fun v41 I41 O41 hI41 hK41 => ?_
        obtain ⟨hq41, nv41, tv41, bv41, obN41, obT41, obB41, hk41, rfl⟩ := hK41
        subst hq41
        have hk410 := hk41
        obtain ⟨⟨wsN41, hoN41, hdN41⟩, ⟨wsT41, hoT41, hdT41⟩, ⟨wsB41, hoB41, hdB41⟩, hf41⟩ := hk41
        obtain ⟨adN41, capN41, rfl⟩ := hoN41.form
        obtain ⟨adT41, capT41, rfl⟩ := hoT41.form
        obtain ⟨adB41, capB41, rfl⟩ := hoB41.form
        refine .e (.fieldAddr fo41_0 rfl) rfl rfl <| .on rfl <| .store sz39 rfl rfl rfl rfl rfl rfl (.there <| .app <| .app <| .app <| .here) <| .nil <| .blk_normal <| .go <| .seq ?_
        refine .draw [(c6, _)] mixed (.cons (.there <| .app <| .app <| .app <| .here) .nil) ?_
        refine .t 0 rfl (.move rfl) rfl rfl (by kernel_rfl) <| .t 1 rfl (.nilCheck rfl) rfl rfl (by kernel_rfl) <| .t 2 rfl (.fieldAddr fo66_0 rfl) rfl rfl (by kernel_rfl) <| .t 4 rfl (.loadW ag41 sz41 rfl .here rfl) rfl rfl (by kernel_rfl) <| .one (i := 3) (by kernel_rfl) rfl rfl ?_
        refine .ev (.loadW ag27 sz27 rfl .here rfl) rfl ⟨(.cons (.there <| .app <| .app <| .app <| .here) .nil), Imm.le_refl _, ?_⟩
        refine .one (i := 5) (by kernel_rfl) rfl rfl <| .storeW sz27 rfl rfl rfl rfl rfl rfl (.there <| .app <| .app <| .app <| .there <| .there <| .here) ?_
        refine ⟨(.cons (.there <| .app <| .app <| .app <| .here) .nil), Imm.le_refl _, ?_⟩
        refine .late (i := 6) (by kernel_rfl) (by kernel_rfl) (by kernel_rfl) rfl rfl <| .storeW sz41 rfl rfl rfl rfl rfl rfl (.there <| .app <| .app <| .app <| .there <| .here) <| .go <| .ret ?_
        refine .front (.there <| .app <| .app <| .front) ?_
        refine .front (.app <| .there <| .app <| .front) ?_
        refine .front (.app <| .app <| .there <| .front) ?_
        refine Post.rets rfl (.agg rfl ag27 sz27 (.app <| .app <| .app <| .there <| .there <| .there <| .here) rfl (.agg rfl ag41 sz41 (.app <| .app <| .app <| .there <| .there <| .here) rfl .nil)) rfl (Imm.le_trans hI18 hI41) (fun w h => (Sat.tail (Sat.rem (Sat.tail (Sat.rem (Sat.tail (Sat.rem (Sat.tail (Sat.rem (Sat.tail (Sat.rem (Sat.tail (Sat.rem h (Rem.app <| Rem.app <| Rem.app <| Rem.here))) (Rem.app <| Rem.app <| Rem.app <| Rem.here))) (Rem.app <| Rem.app <| Rem.app <| Rem.here))) (Rem.app <| Rem.app <| Rem.app <| Rem.here))) (Rem.app <| Rem.app <| Rem.app <| Rem.here))) (Rem.app <| Rem.app <| Rem.app <| Rem.here)))) ?_
        rw [show doR b o = ((addNR b o.node).1, (addNR b o.node).2, ⟨#[]⟩) by rw [doR_step h13 h24]; unfold stepR; rw [if_pos h36]]
        exact ⟨_, _, _, obN41, obT41, obB41, rfl, hk410, rfl⟩
      · skip
        replace h36 := of_decide_eq_false h36
        refine .cond_false rfl <| .seq <| .region <| .e (.eql rfl rfl) rfl rfl <| .e (.assign rfl) rfl rfl <| .nil ?_
        refine .go ?_
        refine .split 43 rfl (fun h43 => ?_) (fun h43 => ?_)
        · skip
          replace h43 := of_decide_eq_true h43
          refine .cond_true rfl <| .region <| .e (.move rfl) rfl rfl <| .e (.fieldAddr fo36_2 rfl) rfl rfl <| .e (.loadP ag34 sz34 rfl (.there <| .there <| .app <| .app <| .app <| .there <| .there <| .here) rfl) rfl rfl ?_
          refine .front (.there <| .there <| .app <| .app <| .front) ?_
          refine .front (.app <| .there <| .there <| .app <| .front) ?_
          refine .front (.app <| .app <| .there <| .there <| .front) ?_
          refine .front1 (.app <| .app <| .app <| .there <| .here) ?_
          refine .on rfl <| .call cal19 rfl rfl rfl (kaddTaskF_ok hI18 hk0 hok (hot.mono hI18)) fun v48 I48 O48 hI48 hK48 => ?_
          obtain ⟨hq48, nv48, tv48, bv48, obN48, obT48, obB48, hk48, rfl⟩ := hK48
          subst hq48
          have hk480 := hk48
          obtain ⟨⟨wsN48, hoN48, hdN48⟩, ⟨wsT48, hoT48, hdT48⟩, ⟨wsB48, hoB48, hdB48⟩, hf48⟩ := hk48
          obtain ⟨adN48, capN48, rfl⟩ := hoN48.form
          obtain ⟨adT48, capT48, rfl⟩ := hoT48.form
          obtain ⟨adB48, capB48, rfl⟩ := hoB48.form
          refine .e (.fieldAddr fo41_0 rfl) rfl rfl <| .on rfl <| .store sz39 rfl rfl rfl rfl rfl rfl (.there <| .app <| .app <| .app <| .here) <| .nil <| .blk_normal <| .go <| .seq ?_
          refine .draw [(c6, _)] mixed (.cons (.there <| .app <| .app <| .app <| .here) .nil) ?_
          refine .t 0 rfl (.move rfl) rfl rfl (by kernel_rfl) <| .t 1 rfl (.nilCheck rfl) rfl rfl (by kernel_rfl) <| .t 2 rfl (.fieldAddr fo66_0 rfl) rfl rfl (by kernel_rfl) <| .t 4 rfl (.loadW ag41 sz41 rfl .here rfl) rfl rfl (by kernel_rfl) <| .one (i := 3) (by kernel_rfl) rfl rfl ?_
          refine .ev (.loadW ag27 sz27 rfl .here rfl) rfl ⟨(.cons (.there <| .app <| .app <| .app <| .here) .nil), Imm.le_refl _, ?_⟩
          refine .one (i := 5) (by kernel_rfl) rfl rfl <| .storeW sz27 rfl rfl rfl rfl rfl rfl (.there <| .app <| .app <| .app <| .there <| .there <| .here) ?_
          refine ⟨(.cons (.there <| .app <| .app <| .app <| .here) .nil), Imm.le_refl _, ?_⟩
          refine .late (i := 6) (by kernel_rfl) (by kernel_rfl) (by kernel_rfl) rfl rfl <| .storeW sz41 rfl rfl rfl rfl rfl rfl (.there <| .app <| .app <| .app <| .there <| .here) <| .go <| .ret ?_
          refine .front (.there <| .app <| .app <| .front) ?_
          refine .front (.app <| .there <| .app <| .front) ?_
          refine .front (.app <| .app <| .there <| .front) ?_
          refine Post.rets rfl (.agg rfl ag27 sz27 (.app <| .app <| .app <| .there <| .there <| .there <| .here) rfl (.agg rfl ag41 sz41 (.app <| .app <| .app <| .there <| .there <| .here) rfl .nil)) rfl (Imm.le_trans hI18 hI48) (fun w h => (Sat.tail (Sat.rem (Sat.tail (Sat.rem (Sat.tail (Sat.rem (Sat.tail (Sat.rem (Sat.tail (Sat.rem (Sat.tail (Sat.rem h (Rem.app <| Rem.app <| Rem.app <| Rem.here))) (Rem.app <| Rem.app <| Rem.app <| Rem.here))) (Rem.app <| Rem.app <| Rem.app <| Rem.here))) (Rem.app <| Rem.app <| Rem.app <| Rem.here))) (Rem.app <| Rem.app <| Rem.app <| Rem.here))) (Rem.app <| Rem.app <| Rem.app <| Rem.here)))) ?_
          rw [show doR b o = ((addTR b o.task).1, (addTR b o.task).2, ⟨#[]⟩) by rw [doR_step h13 h24]; unfold stepR; rw [if_neg h36, if_pos h43]]
          exact ⟨_, _, _, obN48, obT48, obB48, rfl, hk480, rfl⟩
        · skip
          replace h43 := of_decide_eq_false h43
          refine .cond_false rfl <| .seq <| .region <| .e (.eql rfl rfl) rfl rfl <| .e (.assign rfl) rfl rfl <| .nil ?_
          refine .go ?_
          refine .split 50 rfl (fun h50 => ?_) (fun h50 => ?_)
          · skip
            replace h50 := of_decide_eq_true h50
            refine .cond_true rfl <| .region <| .e (.move rfl) rfl rfl <| .e (.fieldAddr fo36_3 rfl) rfl rfl <| .e (.load ag9 rfl (.there <| .there <| .app <| .app <| .app <| .there <| .there <| .here) rfl) rfl rfl ?_
            refine .front (.there <| .there <| .app <| .app <| .front) ?_
            refine .front (.app <| .there <| .there <| .app <| .front) ?_
            refine .front (.app <| .app <| .there <| .there <| .front) ?_
            refine .front1 (.app <| .app <| .app <| .there <| .here) ?_
            refine .on rfl <| .call cal20 rfl rfl rfl (kgoneF_ok hI18 hk0 hok) fun v55 I55 O55 hI55 hK55 => ?_
            obtain ⟨hq55, nv55, tv55, bv55, obN55, obT55, obB55, hk55, rfl⟩ := hK55
            subst hq55
            have hk550 := hk55
            obtain ⟨⟨wsN55, hoN55, hdN55⟩, ⟨wsT55, hoT55, hdT55⟩, ⟨wsB55, hoB55, hdB55⟩, hf55⟩ := hk55
            obtain ⟨adN55, capN55, rfl⟩ := hoN55.form
            obtain ⟨adT55, capT55, rfl⟩ := hoT55.form
            obtain ⟨adB55, capB55, rfl⟩ := hoB55.form
            refine .e (.fieldAddr fo41_0 rfl) rfl rfl <| .on rfl <| .store sz39 rfl rfl rfl rfl rfl rfl (.there <| .app <| .app <| .app <| .here) <| .nil <| .blk_normal <| .go <| .seq ?_
            refine .draw [(c6, _)] mixed (.cons (.there <| .app <| .app <| .app <| .here) .nil) ?_
            refine .t 0 rfl (.move rfl) rfl rfl (by kernel_rfl) <| .t 1 rfl (.nilCheck rfl) rfl rfl (by kernel_rfl) <| .t 2 rfl (.fieldAddr fo66_0 rfl) rfl rfl (by kernel_rfl) <| .t 4 rfl (.loadW ag41 sz41 rfl .here rfl) rfl rfl (by kernel_rfl) <| .one (i := 3) (by kernel_rfl) rfl rfl ?_
            refine .ev (.loadW ag27 sz27 rfl .here rfl) rfl ⟨(.cons (.there <| .app <| .app <| .app <| .here) .nil), Imm.le_refl _, ?_⟩
            refine .one (i := 5) (by kernel_rfl) rfl rfl <| .storeW sz27 rfl rfl rfl rfl rfl rfl (.there <| .app <| .app <| .app <| .there <| .there <| .here) ?_
            refine ⟨(.cons (.there <| .app <| .app <| .app <| .here) .nil), Imm.le_refl _, ?_⟩
            refine .late (i := 6) (by kernel_rfl) (by kernel_rfl) (by kernel_rfl) rfl rfl <| .storeW sz41 rfl rfl rfl rfl rfl rfl (.there <| .app <| .app <| .app <| .there <| .here) <| .go <| .ret ?_
            refine .front (.there <| .app <| .app <| .front) ?_
            refine .front (.app <| .there <| .app <| .front) ?_
            refine .front (.app <| .app <| .there <| .front) ?_
            refine Post.rets rfl (.agg rfl ag27 sz27 (.app <| .app <| .app <| .there <| .there <| .there <| .here) rfl (.agg rfl ag41 sz41 (.app <| .app <| .app <| .there <| .there <| .here) rfl .nil)) rfl (Imm.le_trans hI18 hI55) (fun w h => (Sat.tail (Sat.rem (Sat.tail (Sat.rem (Sat.tail (Sat.rem (Sat.tail (Sat.rem (Sat.tail (Sat.rem (Sat.tail (Sat.rem h (Rem.app <| Rem.app <| Rem.app <| Rem.here))) (Rem.app <| Rem.app <| Rem.app <| Rem.here))) (Rem.app <| Rem.app <| Rem.app <| Rem.here))) (Rem.app <| Rem.app <| Rem.app <| Rem.here))) (Rem.app <| Rem.app <| Rem.app <| Rem.here))) (Rem.app <| Rem.app <| Rem.app <| Rem.here)))) ?_
            rw [show doR b o = ((goneR b o.name).1, (goneR b o.name).2, ⟨#[]⟩) by rw [doR_step h13 h24]; unfold stepR; rw [if_neg h36, if_neg h43, if_pos h50]]
            exact ⟨_, _, _, obN55, obT55, obB55, rfl, hk550, rfl⟩
          · skip
            replace h50 := of_decide_eq_false h50
            refine .cond_false rfl <| .seq <| .region <| .e (.eql rfl rfl) rfl rfl <| .e (.assign rfl) rfl rfl <| .nil ?_
            refine .go ?_
            refine .split 57 rfl (fun h57 => ?_) (fun h57 => ?_)
            · skip
              replace h57 := of_decide_eq_true h57
              refine .cond_true rfl <| .region <| .e (.move rfl) rfl rfl <| .e (.loadW ag36 sz36 rfl (.there <| .there <| .app <| .app <| .app <| .there <| .there <| .here) rfl) rfl rfl ?_
              refine .front (.there <| .there <| .app <| .app <| .front) ?_
              refine .front (.app <| .there <| .there <| .app <| .front) ?_
              refine .front (.app <| .app <| .there <| .there <| .front) ?_
              refine .front1 (.app <| .app <| .app <| .there <| .here) ?_
              refine .on rfl <| .call cal21 rfl rfl rfl (kplaceF_ok hI18 hk0 hok (ho0.mono hI18)) fun v61 I61 O61 hI61 hK61 => ?_
              obtain ⟨hq61, nv61, tv61, bv61, obN61, obT61, obB61, hk61, rfl⟩ := hK61
              subst hq61
              have hk610 := hk61
              obtain ⟨⟨wsN61, hoN61, hdN61⟩, ⟨wsT61, hoT61, hdT61⟩, ⟨wsB61, hoB61, hdB61⟩, hf61⟩ := hk61
              obtain ⟨adN61, capN61, rfl⟩ := hoN61.form
              obtain ⟨adT61, capT61, rfl⟩ := hoT61.form
              obtain ⟨adB61, capB61, rfl⟩ := hoB61.form
              refine .e (.fieldAddr fo41_0 rfl) rfl rfl <| .on rfl <| .store sz39 rfl rfl rfl rfl rfl rfl (.there <| .app <| .app <| .app <| .here) <| .nil <| .blk_normal <| .go <| .seq ?_
              refine .draw [(c6, _)] mixed (.cons (.there <| .app <| .app <| .app <| .here) .nil) ?_
              refine .t 0 rfl (.move rfl) rfl rfl (by kernel_rfl) <| .t 1 rfl (.nilCheck rfl) rfl rfl (by kernel_rfl) <| .t 2 rfl (.fieldAddr fo66_0 rfl) rfl rfl (by kernel_rfl) <| .t 4 rfl (.loadW ag41 sz41 rfl .here rfl) rfl rfl (by kernel_rfl) <| .one (i := 3) (by kernel_rfl) rfl rfl ?_
              refine .ev (.loadW ag27 sz27 rfl .here rfl) rfl ⟨(.cons (.there <| .app <| .app <| .app <| .here) .nil), Imm.le_refl _, ?_⟩
              refine .one (i := 5) (by kernel_rfl) rfl rfl <| .storeW sz27 rfl rfl rfl rfl rfl rfl (.there <| .app <| .app <| .app <| .there <| .there <| .here) ?_
              refine ⟨(.cons (.there <| .app <| .app <| .app <| .here) .nil), Imm.le_refl _, ?_⟩
              refine .late (i := 6) (by kernel_rfl) (by kernel_rfl) (by kernel_rfl) rfl rfl <| .storeW sz41 rfl rfl rfl rfl rfl rfl (.there <| .app <| .app <| .app <| .there <| .here) <| .go <| .ret ?_
              refine .front (.there <| .app <| .app <| .front) ?_
              refine .front (.app <| .there <| .app <| .front) ?_
              refine .front (.app <| .app <| .there <| .front) ?_
              refine Post.rets rfl (.agg rfl ag27 sz27 (.app <| .app <| .app <| .there <| .there <| .there <| .here) rfl (.agg rfl ag41 sz41 (.app <| .app <| .app <| .there <| .there <| .here) rfl .nil)) rfl (Imm.le_trans hI18 hI61) (fun w h => (Sat.tail (Sat.rem (Sat.tail (Sat.rem (Sat.tail (Sat.rem (Sat.tail (Sat.rem (Sat.tail (Sat.rem (Sat.tail (Sat.rem h (Rem.app <| Rem.app <| Rem.app <| Rem.here))) (Rem.app <| Rem.app <| Rem.app <| Rem.here))) (Rem.app <| Rem.app <| Rem.app <| Rem.here))) (Rem.app <| Rem.app <| Rem.app <| Rem.here))) (Rem.app <| Rem.app <| Rem.app <| Rem.here))) (Rem.app <| Rem.app <| Rem.app <| Rem.here)))) ?_
              rw [show doR b o = ((placeR b o).1, (placeR b o).2, ⟨#[]⟩) by rw [doR_step h13 h24]; unfold stepR; rw [if_neg h36, if_neg h43, if_neg h50, if_pos h57]]
              exact ⟨_, _, _, obN61, obT61, obB61, rfl, hk610, rfl⟩
            · skip
              replace h57 := of_decide_eq_false h57
              refine .cond_false rfl <| .region <| .e (.move rfl) rfl rfl <| .e (.loadW ag36 sz36 rfl (.there <| .there <| .app <| .app <| .app <| .there <| .there <| .here) rfl) rfl rfl ?_
              refine .front (.there <| .there <| .app <| .app <| .front) ?_
              refine .front (.app <| .there <| .there <| .app <| .front) ?_
              refine .front (.app <| .app <| .there <| .there <| .front) ?_
              refine .front1 (.app <| .app <| .app <| .there <| .here) ?_
              refine .on rfl <| .call cal22 rfl rfl rfl (kofF_ok hI18 hk0 hok (ho0.mono hI18)) fun v35 I35 O35 hI35 hK35 => ?_
              obtain ⟨hq35, nv35, tv35, bv35, obN35, obT35, obB35, hk35, rfl⟩ := hK35
              subst hq35
              have hk350 := hk35
              obtain ⟨⟨wsN35, hoN35, hdN35⟩, ⟨wsT35, hoT35, hdT35⟩, ⟨wsB35, hoB35, hdB35⟩, hf35⟩ := hk35
              obtain ⟨adN35, capN35, rfl⟩ := hoN35.form
              obtain ⟨adT35, capT35, rfl⟩ := hoT35.form
              obtain ⟨adB35, capB35, rfl⟩ := hoB35.form
              refine .on rfl <| .storeW sz41 rfl rfl rfl rfl rfl rfl (.there <| .app <| .app <| .app <| .here) <| .nil <| .blk_normal <| .go <| .seq ?_
              refine .draw [(c6, _)] mixed (.cons (.there <| .app <| .app <| .app <| .here) .nil) ?_
              refine .t 0 rfl (.move rfl) rfl rfl (by kernel_rfl) <| .t 1 rfl (.nilCheck rfl) rfl rfl (by kernel_rfl) <| .t 2 rfl (.fieldAddr fo66_0 rfl) rfl rfl (by kernel_rfl) <| .t 4 rfl (.loadW ag41 sz41 rfl .here rfl) rfl rfl (by kernel_rfl) <| .one (i := 3) (by kernel_rfl) rfl rfl ?_
              refine .ev (.loadW ag27 sz27 rfl .here rfl) rfl ⟨(.cons (.there <| .app <| .app <| .app <| .here) .nil), Imm.le_refl _, ?_⟩
              refine .one (i := 5) (by kernel_rfl) rfl rfl <| .storeW sz27 rfl rfl rfl rfl rfl rfl (.there <| .app <| .app <| .app <| .there <| .there <| .here) ?_
              refine ⟨(.cons (.there <| .app <| .app <| .app <| .here) .nil), Imm.le_refl _, ?_⟩
              refine .late (i := 6) (by kernel_rfl) (by kernel_rfl) (by kernel_rfl) rfl rfl <| .storeW sz41 rfl rfl rfl rfl rfl rfl (.there <| .app <| .app <| .app <| .there <| .here) <| .go <| .ret ?_
              refine .front (.there <| .app <| .app <| .front) ?_
              refine .front (.app <| .there <| .app <| .front) ?_
              refine .front (.app <| .app <| .there <| .front) ?_
              refine Post.rets rfl (.agg rfl ag27 sz27 (.app <| .app <| .app <| .there <| .there <| .there <| .here) rfl (.agg rfl ag41 sz41 (.app <| .app <| .app <| .there <| .there <| .here) rfl .nil)) rfl (Imm.le_trans hI18 hI35) (fun w h => (Sat.tail (Sat.rem (Sat.tail (Sat.rem (Sat.tail (Sat.rem (Sat.tail (Sat.rem (Sat.tail (Sat.rem (Sat.tail (Sat.rem h (Rem.app <| Rem.app <| Rem.app <| Rem.here))) (Rem.app <| Rem.app <| Rem.app <| Rem.here))) (Rem.app <| Rem.app <| Rem.app <| Rem.here))) (Rem.app <| Rem.app <| Rem.app <| Rem.here))) (Rem.app <| Rem.app <| Rem.app <| Rem.here))) (Rem.app <| Rem.app <| Rem.app <| Rem.here)))) ?_
              rw [show doR b o = ofR b o by rw [doR_step h13 h24]; unfold stepR; rw [if_neg h36, if_neg h43, if_neg h50, if_neg h57]]
              exact ⟨_, _, _, obN35, obT35, obB35, rfl, hk350, rfl⟩


end Go.Proofs.YtajpakifkinadaaGreatDoor
