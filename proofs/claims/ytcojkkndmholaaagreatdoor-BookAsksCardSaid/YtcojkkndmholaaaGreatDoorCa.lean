/- Walks of functions over a symbolic memory, printed by a program of the session. -/
import Derived.Test.YtcojkkndmholaaaGreatDoorBz
namespace Go.Proofs.YtcojkkndmholaaaGreatDoor
open Go.Sy
set_option linter.unusedSimpArgs false
set_option linter.unusedVariables false

theorem on_eq {b : Bk} {s : ByteArray} (h : BookOk b) : decide (onR b s = ⟨#[]⟩) = !hasB b s := by rw [← on_ne h, Bool.not_not]
theorem free_no {b : Bk} {s : ByteArray} (h : hasB b s = false) : freeR b s = b := by unfold freeR; rw [h]; rfl
theorem done_eq {b : Bk} {s : ByteArray} (h : Rising (fun x : Bnd => x.task) b.binds) : { { b with tasks := delAt b.tasks (posT b s) } with binds := b.binds.filter fun x => !decide (x.task = s) } = { freeR b s with tasks := delAt (freeR b s).tasks (posT b s) } := by rw [freeR_tasks, ← free_eq h]
theorem of_text {b : Bk} {o : Ordr} (h : o.kind = 4 ∨ o.kind = 6) : (ofR b o).2.2 = ⟨#[]⟩ := by
  unfold ofR
  split
  · split
    · rfl
    · split
      · rfl
      · rcases h with h | h <;> contradiction
  · rfl
theorem order_kinds {o : Ordr} (h : orderOk o = true) : o.kind = 1 ∨ o.kind = 2 ∨ o.kind = 3 ∨ o.kind = 4 ∨ o.kind = 5 ∨ o.kind = 6 ∨ o.kind = 7 := by
  unfold orderOk at h
  split at h
  · omega
  · split at h
    · omega
    · split at h
      · omega
      · split at h
        · omega
        · cases h

set_option maxHeartbeats 16000000 in
set_option maxRecDepth 20000 in
theorem rtasks_ok {I : Imm} {O : Own} {kc : List Value} {b : Bk} (hk : BkR I kc b) (hok : BookOk b) {oc : List Value} {o : Ordr} (ho : OrdrR I oc o) (hkk : o.kind = 3 ∨ o.kind = 4 ∨ o.kind = 6) :
    Go.Sy.Does Tryz.prog 35 [.agg ⟨kc⟩, .agg ⟨oc⟩] I O (FB (fun cs => .tuple ⟨[.agg ⟨cs⟩, .int .i64 (tasksR b o).2]⟩) (tasksR b o).1 O) := by
  have hk0 := hk
  obtain ⟨nv, tv, bv, rfl, hnv, htv, hbv⟩ := hk.ex
  have hnv0 := hnv
  have htv0 := htv
  have hbv0 := hbv
  obtain ⟨na, ncap, rfl, hn1, hn2, -⟩ := hnv
  obtain ⟨ta, tcap, rfl, ht1, ht2, -⟩ := htv
  obtain ⟨ba, bcap, rfl, hb1, hb2, -⟩ := hbv
  have ho0 := ho
  obtain ⟨lv, tv, wv, bv, rfl, hon, holv, hotv, hot, howv, hobv⟩ := ho.ex
  have hkd := ho0.kind
  obtain ⟨olva, olvc, rfl, -⟩ := holv
  obtain ⟨otva, otvc, rfl, -⟩ := hotv
  obtain ⟨owva, owvc, rfl, -⟩ := howv
  obtain ⟨obva, obvc, rfl, -⟩ := hobv
  have hbt := hok.tasks
  have hbb := hok.binds
  refine Go.Sy.Does.enter Tryz.func35 rfl Tryz.ntmps35 rfl ?_
  refine .seq <| .region <| .on rfl <| .box rfl rfl rfl fun c1 _ _ => .on rfl <| .box rfl rfl rfl fun c2 _ _ => .on rfl <| .alloc zr27 rfl fun c3 _ _ => .e (.assign rfl) rfl rfl ?_
  refine .nil <| .go <| .seq <| .seq <| .region <| .e (.fieldAddr fo36_0 rfl) rfl rfl ?_
  refine .e (.load ag28 rfl (.there <| .here) rfl) rfl rfl <| .e (.eql rfl rfl) rfl rfl <| .nil <| .go ?_
  refine .split 10 rfl (fun h10 => ?_) (fun h10 => ?_)
  · skip
    replace h10 := of_decide_eq_true h10
    refine .cond_true rfl <| .seq <| .region <| .e (.fieldAddr fo36_2 rfl) rfl rfl <| .e (.loadP ag34 sz34 rfl (.there <| .here) rfl) rfl rfl <| .on rfl <| .callP cal86 rfl rfl rfl (rCheckTask_ok hot) ?_
    refine .e (.assign rfl) rfl rfl <| .nil <| .go <| .seq <| .block <| .seq ?_
    refine .region <| .e (.move rfl) rfl rfl <| .e (.neq rfl rfl) rfl rfl <| .e (.assign rfl) rfl rfl <| .nil <| .go ?_
    refine .split 14 rfl (fun h14 => ?_) (fun h14 => ?_)
    · skip
      first | replace h14 := of_decide_eq_false ((Bool.not_eq_true' _).mp h14) | replace h14 := of_decide_eq_false (by simpa using h14)
      refine .cond_true rfl <| .seq <| .region <| .e (.loadW ag27 sz27 rfl (.there <| .there <| .here) rfl) rfl rfl <| .e (.move rfl) rfl rfl <| .on rfl <| .storeW sz27 rfl rfl rfl rfl rfl rfl .here ?_
      refine .e (.assign rfl) rfl rfl <| .nil <| .go <| .ret <| .blk_ret <| .ret ?_
      refine .ret ?_
      refine Post.rets rfl (.agg rfl ag27 sz27 .here rfl (.tmp rfl .nil)) rfl (Imm.le_refl _) (fun w h => (Sat.tail (Sat.tail (Sat.tail h)))) ?_
      rw [show tasksR b o = (b, tskWhy o.task) by unfold tasksR; rw [if_pos h10]; unfold addTR; rw [if_neg h14]]
      exact ⟨rfl, _, rfl, hk0⟩
    · skip
      first | replace h14 := of_decide_eq_true ((Bool.not_eq_false' _).mp h14) | replace h14 := of_decide_eq_true (by simpa using h14)
      refine .cond_false rfl <| .seq <| .region <| .e (.loadW ag27 sz27 rfl (.there <| .there <| .here) rfl) rfl rfl <| .e (.fieldAddr fo36_2 rfl) rfl rfl <| .e (.fieldAddr fo34_0 rfl) rfl rfl ?_
      refine .e (.load ag9 rfl (.there <| .here) rfl) rfl rfl <| .on rfl <| .callP cal38 rfl rfl rfl (rixT_ok hk0) <| .e ((EV.cast (.geq rfl rfl) (congrArg Value.bool (idxOf_ge (p := fun x : Tsk => decide (x.name = o.task.name)))))) rfl rfl <| .e (.assign rfl) rfl rfl <| .nil <| .go ?_
      refine .split 19 rfl (fun h19 => ?_) (fun h19 => ?_)
      · skip
        refine .cond_true rfl <| .seq <| .region <| .e (.loadW ag27 sz27 rfl (.there <| .there <| .here) rfl) rfl rfl <| .on rfl <| .storeW sz27 rfl rfl rfl rfl rfl rfl .here <| .e (.assign rfl) rfl rfl ?_
        refine .nil <| .go <| .ret <| .blk_ret <| .ret <| .ret ?_
        refine Post.rets rfl (.agg rfl ag27 sz27 .here rfl (.tmp rfl .nil)) rfl (Imm.le_refl _) (fun w h => (Sat.tail (Sat.tail (Sat.tail h)))) ?_
        rw [show tasksR b o = (b, 7) by unfold tasksR; rw [if_pos h10]; unfold addTR; rw [if_pos h14, if_pos (show hasT b o.task.name = true from h19)]]
        exact ⟨rfl, _, rfl, hk0⟩
      · skip
        refine .cond_false rfl <| .seq <| .region <| .e (.fieldAddr fo27_1 rfl) rfl rfl <| .e (.load ag23 rfl (.there <| .there <| .here) rfl) rfl rfl <| .e (.len sl23 rfl rfl) rfl rfl ?_
        refine .e (.geq rfl rfl) rfl rfl <| .e (.assign rfl) rfl rfl <| .nil <| .go ?_
        refine .split 27 rfl (fun h27 => ?_) (fun h27 => ?_)
        · skip
          replace h27 := of_decide_eq_true h27
          refine .cond_true rfl <| .seq <| .region <| .e (.loadW ag27 sz27 rfl (.there <| .there <| .here) rfl) rfl rfl <| .on rfl <| .storeW sz27 rfl rfl rfl rfl rfl rfl .here <| .e (.assign rfl) rfl rfl ?_
          refine .nil <| .go <| .ret <| .blk_ret <| .ret <| .ret ?_
          refine Post.rets rfl (.agg rfl ag27 sz27 .here rfl (.tmp rfl .nil)) rfl (Imm.le_refl _) (fun w h => (Sat.tail (Sat.tail (Sat.tail h)))) ?_
          rw [show tasksR b o = (b, 11) by unfold tasksR; rw [if_pos h10]; unfold addTR; rw [if_pos h14, if_neg (show ¬hasT b o.task.name = true from Bool.eq_false_iff.1 h19), if_pos (by omega)]]
          exact ⟨rfl, _, rfl, hk0⟩
        · skip
          replace h27 := of_decide_eq_false h27
          refine .cond_false rfl <| .skip <| .blk_normal <| .go <| .seq <| .region ?_
          refine .e (.loadW ag27 sz27 rfl (.there <| .there <| .here) rfl) rfl rfl <| .e (.fieldAddr fo36_2 rfl) rfl rfl <| .e (.loadP ag34 sz34 rfl (.there <| .here) rfl) rfl rfl <| .on rfl <| .call cal87 rfl rfl rfl (rwithTask_ok hk0 hot h14 (by omega)) fun v36 I36 O36 hI36 hK36 => ?_
          obtain ⟨rfl, cs36, rfl, hb36⟩ := hK36
          have hb360 := hb36
          obtain ⟨nv36, tv36, bv36, rfl, hn36, ht36, hx36⟩ := hb36.ex
          obtain ⟨_, _, rfl, -⟩ := hn36
          obtain ⟨_, _, rfl, htl36, -⟩ := ht36
          obtain ⟨_, _, rfl, -⟩ := hx36
          refine .on rfl <| .storeW sz27 rfl rfl rfl rfl rfl rfl .here <| .e (.assign rfl) rfl rfl <| .nil <| .go <| .ret <| .ret ?_
          refine Post.rets rfl (.agg rfl ag27 sz27 .here rfl (.tmp rfl .nil)) rfl hI36 (fun w h => (Sat.tail (Sat.tail (Sat.tail h)))) ?_
          rw [show tasksR b o = ({ b with tasks := insAt b.tasks (posT b o.task.name) o.task }, 0) by unfold tasksR; rw [if_pos h10]; unfold addTR; rw [if_pos h14, if_neg (show ¬hasT b o.task.name = true from Bool.eq_false_iff.1 h19), if_neg (by omega)]]
          exact ⟨rfl, _, rfl, hb360⟩
  · skip
    replace h10 := of_decide_eq_false h10
    refine .cond_false rfl <| .skip <| .go <| .seq <| .region <| .e (.loadW ag27 sz27 rfl (.there <| .there <| .here) rfl) rfl rfl ?_
    refine .e (.fieldAddr fo36_3 rfl) rfl rfl <| .e (.load ag9 rfl (.there <| .here) rfl) rfl rfl <| .on rfl <| .callP cal38 rfl rfl rfl (rixT_ok hk0) <| .e (.assign rfl) rfl rfl <| .nil <| .go ?_
    refine .seq <| .block <| .seq <| .region <| .e (.move rfl) rfl rfl <| .e ((EV.cast (.lss rfl rfl) (congrArg Value.bool (ix_lt (nm := fun x : Tsk => x.name))))) rfl rfl ?_
    refine .e (.assign rfl) rfl rfl <| .nil <| .go ?_
    refine .split 41 rfl (fun h41 => ?_) (fun h41 => ?_)
    · skip
      refine .cond_true rfl <| .seq <| .region <| .e (.loadW ag27 sz27 rfl (.there <| .there <| .here) rfl) rfl rfl <| .on rfl <| .storeW sz27 rfl rfl rfl rfl rfl rfl .here <| .e (.assign rfl) rfl rfl ?_
      refine .nil <| .go <| .ret <| .blk_ret <| .ret ?_
      refine Post.rets rfl (.agg rfl ag27 sz27 .here rfl (.tmp rfl .nil)) rfl (Imm.le_refl _) (fun w h => (Sat.tail (Sat.tail (Sat.tail h)))) ?_
      rw [show tasksR b o = (b, 6) by unfold tasksR ofR; rw [if_neg h10, if_neg (show ¬hasT b o.name = true from Bool.eq_false_iff.1 ((Bool.not_eq_true' _).mp h41))]]
      exact ⟨rfl, _, rfl, hk0⟩
    · skip
      have hhas := (Bool.not_eq_false' _).mp h41
      obtain ⟨hpk, -⟩ := has_get hok.rt hhas
      have hix : ixT b o.name = (posBy (fun x : Tsk => x.name) b.tasks o.name : Int) := ix_pos hok.rt hhas
      obtain ⟨wsA, hsA, hdA⟩ := SlR.src (B := []) (fun _ _ h => TskR.len h) (SlR.takeN htv0 (Nat.le_of_lt hpk))
      obtain ⟨wsB, hsB, hdB⟩ := SlR.src (B := []) (fun _ _ h => TskR.len h) (SlR.from (l := posBy (fun x : Tsk => x.name) b.tasks o.name + 1) htv0 hpk)
      refine .cond_false rfl <| .seq <| .region <| .e (.fieldAddr fo36_0 rfl) rfl rfl <| .e (.load ag28 rfl (.there <| .here) rfl) rfl rfl <| .e (.eql rfl rfl) rfl rfl ?_
      refine .e (.move rfl) rfl rfl ?_
      refine .split 49 rfl (fun h49 => ?_) (fun h49 => ?_)
      · skip
        replace h49 := of_decide_eq_true h49
        refine .e (.loadW ag27 sz27 rfl (.there <| .there <| .here) rfl) rfl rfl <| .e (.fieldAddr fo36_3 rfl) rfl rfl <| .e (.load ag9 rfl (.there <| .here) rfl) rfl rfl <| .on rfl <| .callP cal39 rfl rfl rfl (rOn_ok hk0) <| .e ((EV.cast (.streq rfl rfl) (congrArg Value.bool (on_eq hok)))) rfl rfl <| .e (.pickT rfl rfl) rfl rfl ?_
        refine .e (.assign rfl) rfl rfl <| .nil <| .go ?_
        refine .split 45 rfl (fun h45 => ?_) (fun h45 => ?_)
        · skip
          refine .cond_true rfl <| .seq <| .region <| .e (.loadW ag27 sz27 rfl (.there <| .there <| .here) rfl) rfl rfl <| .on rfl <| .storeW sz27 rfl rfl rfl rfl rfl rfl .here <| .e (.assign rfl) rfl rfl ?_
          refine .nil <| .go <| .ret <| .blk_ret <| .ret ?_
          refine Post.rets rfl (.agg rfl ag27 sz27 .here rfl (.tmp rfl .nil)) rfl (Imm.le_refl _) (fun w h => (Sat.tail (Sat.tail (Sat.tail h)))) ?_
          rw [show tasksR b o = (b, 10) by unfold tasksR ofR; rw [if_neg h10, if_pos (show hasT b o.name = true from (Bool.not_eq_false' _).mp h41), if_neg (by omega), if_pos h49, if_neg (show ¬hasB b o.name = true from Bool.eq_false_iff.1 ((Bool.not_eq_true' _).mp h45))]; dsimp only; rw [free_no ((Bool.not_eq_true' _).mp h45)]]
          exact ⟨rfl, _, rfl, hk0⟩
        · skip
          have hasB6 := (Bool.not_eq_false' _).mp h45
          refine .cond_false rfl <| .seq <| .region <| .e (.fieldAddr fo36_0 rfl) rfl rfl <| .e (.load ag28 rfl (.there <| .here) rfl) rfl rfl <| .e (.eql rfl rfl) rfl rfl ?_
          refine .e (.assign rfl) rfl rfl <| .nil <| .go ?_
          refine .split 57 rfl (fun h57 => ?_) (fun h57 => ?_)
          · skip
            replace h57 := of_decide_eq_true h57
            refine .cond_true rfl ?_
            refine .draw [(c1, _)] mixed (.cons (.there <| .there <| .here) .nil) ?_
            refine .t 1 rfl (.fieldAddr fo27_1 rfl) rfl rfl (by kernel_rfl) <| .t 2 rfl (.load ag23 rfl .here rfl) rfl rfl (by kernel_rfl) <| .t 3 rfl (.move rfl) rfl rfl (by kernel_rfl) <| .t 4 rfl (.sliceHn sl23 rfl rfl hix (Nat.le_trans (Nat.le_of_lt hpk) ht1)) rfl rfl (by kernel_rfl) <| .t 6 rfl (.fieldAddr fo27_1 rfl) rfl rfl (by kernel_rfl) <| .t 7 rfl (.load ag23 rfl .here rfl) rfl rfl (by kernel_rfl) ?_
            refine .t 8 rfl (.move rfl) rfl rfl (by kernel_rfl) <| .t 9 rfl (.add rfl rfl rfl) rfl rfl (by kernel_rfl) <| .t 10 rfl (.sliceL (l := posBy (fun x : Tsk => x.name) b.tasks o.name + 1) sl23 rfl rfl (by rw [hix]; exact wrap_succ (by omega)) hpk) rfl rfl (by kernel_rfl) <| .one (i := 0) (by kernel_rfl) rfl rfl <| .buildSlice Tryz.underlying23 sz34 (by decide) (by decide) zv34 rfl rfl rfl rfl rfl fun c4 _ _ => ?_
            refine ⟨(.cons (.there <| .there <| .there <| .here) .nil), Imm.le_refl _, ?_⟩
            refine .one (i := 5) (by kernel_rfl) rfl rfl <| .append Tryz.underlying23 Tryz.underlying23 sz34 by34 zv34 rfl rfl rfl .here (OwnS.made rfl (by decide)) hsA.any hdA.1 (hdA.ones (by decide) (fun _ _ h => TskR.ones h)) (by rw [List.length_take]; omega) (by rw [List.length_take]; omega) rfl fun v66 ob66 ho66 => ?_
            refine ⟨(.cons (.app <| .there <| .there <| .here) .nil), Imm.le_refl _, ?_⟩
            refine .one (i := 11) (by kernel_rfl) rfl rfl <| .append Tryz.underlying23 Tryz.underlying23 sz34 by34 zv34 rfl rfl rfl .front ho66 hsB.any hdB.1 (hdB.ones (by decide) (fun _ _ h => TskR.ones h)) (by rw [List.length_take, List.length_drop]; omega) (by rw [List.length_take, List.length_drop]; omega) rfl fun v72 ob72 ho72 => ?_
            refine ⟨(.cons (.app <| .there <| .there <| .here) .nil), Imm.le_refl _, ?_⟩
            refine .t 12 rfl (.fieldAddr fo27_1 rfl) rfl rfl (by kernel_rfl) ?_
            obtain ⟨ad72, cap72, rfl⟩ := ho72.form
            refine .late (i := 13) (by kernel_rfl) (by kernel_rfl) (by kernel_rfl) rfl rfl <| .store sz23 rfl rfl rfl rfl rfl rfl (.app <| .there <| .there <| .here) <| .blk_normal <| .go <| .seq <| .region ?_
            refine .freezeS ho72 fun K hK hKs => ?_
            have hyS : TsksR K _ (delAt b.tasks (posT b o.name)) := hKs (R := TskR) (show DR TskR 9 K (wsA ++ wsB) (b.tasks.take (posT b o.name) ++ b.tasks.drop (posT b o.name + 1)) from (hdA.mono fun _ _ h => TskR.mono hK h).append (hdB.mono fun _ _ h => TskR.mono hK h)) (by unfold delAt posT; simp)
            have hbD : BkR K _ { b with tasks := delAt b.tasks (posT b o.name) } := ⟨⟨_, _, _, rfl, NodsR.mono hK hnv0, hyS, BndsR.mono hK hbv0⟩, hk0.fence⟩
            refine .e (.loadW ag27 sz27 rfl (.there <| .there <| .here) rfl) rfl rfl <| .e (.fieldAddr fo36_3 rfl) rfl rfl <| .e (.load ag9 rfl (.there <| .here) rfl) rfl rfl <| .on rfl <| .call cal88 rfl rfl rfl (rwithoutBind_ok hbD (by dsimp only; omega)) fun v77 I77 O77 hI77 hK77 => ?_
            obtain ⟨rfl, cs77, rfl, hb77⟩ := hK77
            have hb770 := hb77
            obtain ⟨nv77, tv77, bv77, rfl, hn77, ht77, hx77⟩ := hb77.ex
            obtain ⟨_, _, rfl, -⟩ := hn77
            obtain ⟨_, _, rfl, htl77, -⟩ := ht77
            obtain ⟨_, _, rfl, -⟩ := hx77
            refine .on rfl <| .storeW sz27 rfl rfl rfl rfl rfl rfl .here <| .e (.assign rfl) rfl rfl <| .nil <| .go <| .ret ?_
            refine Post.rets rfl (.agg rfl ag27 sz27 .here rfl (.tmp rfl .nil)) rfl (Imm.le_trans hK hI77) (fun w h => (Sat.tail (Sat.tail (Sat.tail h)))) ?_
            rw [show tasksR b o = ({ freeR b o.name with tasks := delAt (freeR b o.name).tasks (posT b o.name) }, 0) by unfold tasksR ofR; rw [if_neg h10, if_pos (show hasT b o.name = true from (Bool.not_eq_false' _).mp h41), if_pos h57], ← done_eq hok.rb]
            exact ⟨rfl, _, rfl, hb770⟩
          · skip
            replace h57 := of_decide_eq_false h57
            refine .cond_false rfl <| .skip <| .blk_normal <| .go <| .seq <| .region ?_
            refine .e (.loadW ag27 sz27 rfl (.there <| .there <| .here) rfl) rfl rfl <| .e (.fieldAddr fo36_3 rfl) rfl rfl <| .e (.load ag9 rfl (.there <| .here) rfl) rfl rfl <| .on rfl <| .call cal88 rfl rfl rfl (rwithoutBind_ok hk0 (by omega)) fun v77 I77 O77 hI77 hK77 => ?_
            obtain ⟨rfl, cs77, rfl, hb77⟩ := hK77
            have hb770 := hb77
            obtain ⟨nv77, tv77, bv77, rfl, hn77, ht77, hx77⟩ := hb77.ex
            obtain ⟨_, _, rfl, -⟩ := hn77
            obtain ⟨_, _, rfl, htl77, -⟩ := ht77
            obtain ⟨_, _, rfl, -⟩ := hx77
            refine .on rfl <| .storeW sz27 rfl rfl rfl rfl rfl rfl .here <| .e (.assign rfl) rfl rfl <| .nil <| .go <| .ret ?_
            refine Post.rets rfl (.agg rfl ag27 sz27 .here rfl (.tmp rfl .nil)) rfl hI77 (fun w h => (Sat.tail (Sat.tail (Sat.tail h)))) ?_
            rw [show tasksR b o = (freeR b o.name, 0) by unfold tasksR ofR; rw [if_neg h10, if_pos (show hasT b o.name = true from (Bool.not_eq_false' _).mp h41), if_neg h57, if_pos (show o.kind = 6 by omega), if_pos (show hasB b o.name = true from hasB6)], ← free_eq hok.rb]
            exact ⟨rfl, _, rfl, hb770⟩
      · skip
        replace h49 := of_decide_eq_false h49
        refine .off rfl rfl <| .off rfl rfl <| .off rfl rfl <| .off rfl rfl <| .off rfl rfl <| .e (.pickF rfl rfl) rfl rfl ?_
        refine .e (.assign rfl) rfl rfl <| .nil <| .go <| .cond_false rfl <| .seq <| .region ?_
        refine .e (.fieldAddr fo36_0 rfl) rfl rfl <| .e (.load ag28 rfl (.there <| .here) rfl) rfl rfl <| .e (.eql rfl rfl) rfl rfl <| .e (.assign rfl) rfl rfl <| .nil <| .go ?_
        refine .split 57 rfl (fun h57 => ?_) (fun h57 => ?_)
        · skip
          replace h57 := of_decide_eq_true h57
          refine .cond_true rfl ?_
          refine .draw [(c1, _)] mixed (.cons (.there <| .there <| .here) .nil) ?_
          refine .t 1 rfl (.fieldAddr fo27_1 rfl) rfl rfl (by kernel_rfl) <| .t 2 rfl (.load ag23 rfl .here rfl) rfl rfl (by kernel_rfl) <| .t 3 rfl (.move rfl) rfl rfl (by kernel_rfl) <| .t 4 rfl (.sliceHn sl23 rfl rfl hix (Nat.le_trans (Nat.le_of_lt hpk) ht1)) rfl rfl (by kernel_rfl) <| .t 6 rfl (.fieldAddr fo27_1 rfl) rfl rfl (by kernel_rfl) <| .t 7 rfl (.load ag23 rfl .here rfl) rfl rfl (by kernel_rfl) ?_
          refine .t 8 rfl (.move rfl) rfl rfl (by kernel_rfl) <| .t 9 rfl (.add rfl rfl rfl) rfl rfl (by kernel_rfl) <| .t 10 rfl (.sliceL (l := posBy (fun x : Tsk => x.name) b.tasks o.name + 1) sl23 rfl rfl (by rw [hix]; exact wrap_succ (by omega)) hpk) rfl rfl (by kernel_rfl) <| .one (i := 0) (by kernel_rfl) rfl rfl <| .buildSlice Tryz.underlying23 sz34 (by decide) (by decide) zv34 rfl rfl rfl rfl rfl fun c5 _ _ => ?_
          refine ⟨(.cons (.there <| .there <| .there <| .here) .nil), Imm.le_refl _, ?_⟩
          refine .one (i := 5) (by kernel_rfl) rfl rfl <| .append Tryz.underlying23 Tryz.underlying23 sz34 by34 zv34 rfl rfl rfl .here (OwnS.made rfl (by decide)) hsA.any hdA.1 (hdA.ones (by decide) (fun _ _ h => TskR.ones h)) (by rw [List.length_take]; omega) (by rw [List.length_take]; omega) rfl fun v66 ob66 ho66 => ?_
          refine ⟨(.cons (.app <| .there <| .there <| .here) .nil), Imm.le_refl _, ?_⟩
          refine .one (i := 11) (by kernel_rfl) rfl rfl <| .append Tryz.underlying23 Tryz.underlying23 sz34 by34 zv34 rfl rfl rfl .front ho66 hsB.any hdB.1 (hdB.ones (by decide) (fun _ _ h => TskR.ones h)) (by rw [List.length_take, List.length_drop]; omega) (by rw [List.length_take, List.length_drop]; omega) rfl fun v72 ob72 ho72 => ?_
          refine ⟨(.cons (.app <| .there <| .there <| .here) .nil), Imm.le_refl _, ?_⟩
          refine .t 12 rfl (.fieldAddr fo27_1 rfl) rfl rfl (by kernel_rfl) ?_
          obtain ⟨ad72, cap72, rfl⟩ := ho72.form
          refine .late (i := 13) (by kernel_rfl) (by kernel_rfl) (by kernel_rfl) rfl rfl <| .store sz23 rfl rfl rfl rfl rfl rfl (.app <| .there <| .there <| .here) <| .blk_normal <| .go <| .seq <| .region ?_
          refine .freezeS ho72 fun K hK hKs => ?_
          have hyS : TsksR K _ (delAt b.tasks (posT b o.name)) := hKs (R := TskR) (show DR TskR 9 K (wsA ++ wsB) (b.tasks.take (posT b o.name) ++ b.tasks.drop (posT b o.name + 1)) from (hdA.mono fun _ _ h => TskR.mono hK h).append (hdB.mono fun _ _ h => TskR.mono hK h)) (by unfold delAt posT; simp)
          have hbD : BkR K _ { b with tasks := delAt b.tasks (posT b o.name) } := ⟨⟨_, _, _, rfl, NodsR.mono hK hnv0, hyS, BndsR.mono hK hbv0⟩, hk0.fence⟩
          refine .e (.loadW ag27 sz27 rfl (.there <| .there <| .here) rfl) rfl rfl <| .e (.fieldAddr fo36_3 rfl) rfl rfl <| .e (.load ag9 rfl (.there <| .here) rfl) rfl rfl <| .on rfl <| .call cal88 rfl rfl rfl (rwithoutBind_ok hbD (by dsimp only; omega)) fun v77 I77 O77 hI77 hK77 => ?_
          obtain ⟨rfl, cs77, rfl, hb77⟩ := hK77
          have hb770 := hb77
          obtain ⟨nv77, tv77, bv77, rfl, hn77, ht77, hx77⟩ := hb77.ex
          obtain ⟨_, _, rfl, -⟩ := hn77
          obtain ⟨_, _, rfl, htl77, -⟩ := ht77
          obtain ⟨_, _, rfl, -⟩ := hx77
          refine .on rfl <| .storeW sz27 rfl rfl rfl rfl rfl rfl .here <| .e (.assign rfl) rfl rfl <| .nil <| .go <| .ret ?_
          refine Post.rets rfl (.agg rfl ag27 sz27 .here rfl (.tmp rfl .nil)) rfl (Imm.le_trans hK hI77) (fun w h => (Sat.tail (Sat.tail (Sat.tail h)))) ?_
          rw [show tasksR b o = ({ freeR b o.name with tasks := delAt (freeR b o.name).tasks (posT b o.name) }, 0) by unfold tasksR ofR; rw [if_neg h10, if_pos (show hasT b o.name = true from (Bool.not_eq_false' _).mp h41), if_pos h57], ← done_eq hok.rb]
          exact ⟨rfl, _, rfl, hb770⟩
        · skip
          replace h57 := of_decide_eq_false h57
          exfalso; omega

end Go.Proofs.YtcojkkndmholaaaGreatDoor
