/- Walks of functions over a symbolic memory, printed by a program of the session. -/
import Derived.Test.YtajpakifkinadaaGreatDoorBl
namespace Go.Proofs.YtajpakifkinadaaGreatDoor
open Go.Sy
set_option linter.unusedSimpArgs false
set_option linter.unusedVariables false

theorem _root_.Go.Sy.WL.back {P : Program} {n : Nat} {Q : Exit → Act → World → Prop} {F : Fr} {I J : Imm} {O : Own} {ops : Array Oper} {l : List Oper} (hJ : J.le I) (h : WL P n ops Q l F J O) : WL P n ops Q l F I O := fun a w ha hw => h a w ha (hw.sub hJ (fun _ hx => hx) hw.nodup)
theorem _root_.Go.Sy.WC.back {P : Program} {n : Nat} {Q : Exit → Act → World → Prop} {F : Fr} {I J : Imm} {O : Own} {c : Code} (hJ : J.le I) (h : WC P n c Q F J O) : WC P n c Q F I O := fun a w ha hw => h a w ha (hw.sub hJ (fun _ hx => hx) hw.nodup)
def insAt {α : Type} (l : List α) (k : Nat) (x : α) : List α := l.take k ++ (x :: l.drop k)
def delAt {α : Type} (l : List α) (k : Nat) : List α := l.take k ++ l.drop (k + 1)
theorem insAt_len {α : Type} {l : List α} {k : Nat} {x : α} (h : k ≤ l.length) : (insAt l k x).length = l.length + 1 := by unfold insAt; simp; omega
theorem delAt_len {α : Type} {l : List α} {k : Nat} (h : k < l.length) : (delAt l k).length = l.length - 1 := by unfold delAt; simp; omega
def KeepP (kb : Nat) (b : Bk) (I : Imm) (O O' : Own) : Prop := ∃ nv tv bv on ot ob, BkO I b nv tv bv on ot ob ∧ O' = (kb, .cells ⟨b.cells nv tv bv⟩ 66 (0, 0)) :: (on ++ (ot ++ (ob ++ O)))
def posN (b : Bk) (s : ByteArray) : Nat := posBy (fun x : Nod => x.name) b.nodes s
def posT (b : Bk) (s : ByteArray) : Nat := posBy (fun x : Tsk => x.name) b.tasks s
def posB (b : Bk) (s : ByteArray) : Nat := posBy (fun x : Bnd => x.task) b.binds s
def addNR (b : Bk) (n : Nod) : Bk × Int := if nodWhy n = 0 then (if hasN b n.name = true then (b, 7) else if 16 ≤ b.nodes.length then (b, 11) else ({ b with nodes := insAt b.nodes (posN b n.name) n }, 0)) else (b, nodWhy n)
def addTR (b : Bk) (t : Tsk) : Bk × Int := if tskWhy t = 0 then (if hasT b t.name = true then (b, 7) else if 32 ≤ b.tasks.length then (b, 11) else ({ b with tasks := insAt b.tasks (posT b t.name) t }, 0)) else (b, tskWhy t)
def goneR (b : Bk) (s : ByteArray) : Bk × Int := if hasN b s = true then (if 0 < (thereR b s).length then (b, 12) else ({ b with nodes := delAt b.nodes (posN b s) }, 0)) else (b, 6)
def freeR (b : Bk) (s : ByteArray) : Bk := if hasB b s = true then { b with binds := delAt b.binds (posB b s) } else b
def placeR (b : Bk) (o : Ordr) : Bk × Int := if o.fence < b.fence then (b, 14) else if canR b o.name o.on = 0 then ({ b with binds := insAt b.binds (posB b o.name) ⟨o.name, o.on⟩ }, 0) else (b, canR b o.name o.on)
def onR (b : Bk) (s : ByteArray) : ByteArray := match b.binds.find? (fun x => decide (x.task = s)) with | some x => x.node | none => ⟨#[]⟩
def ofR (b : Bk) (o : Ordr) : Bk × Int × ByteArray := if hasT b o.name = true then (if o.kind = 4 then ({ freeR b o.name with tasks := delAt (freeR b o.name).tasks (posT b o.name) }, 0, ⟨#[]⟩) else if o.kind = 6 then (freeR b o.name, if hasB b o.name = true then 0 else 10, ⟨#[]⟩) else if o.kind = 7 then (b, 0, onR b o.name) else (b, 0, ⟨#[]⟩)) else (b, 6, ⟨#[]⟩)
theorem freeR_tasks {b : Bk} {s : ByteArray} : (freeR b s).tasks = b.tasks := by unfold freeR; split <;> rfl
theorem freeR_nodes {b : Bk} {s : ByteArray} : (freeR b s).nodes = b.nodes := by unfold freeR; split <;> rfl
theorem freeR_fence {b : Bk} {s : ByteArray} : (freeR b s).fence = b.fence := by unfold freeR; split <;> rfl
theorem BookOk.hsn {b : Bk} (h : BookOk b) : b.nodes.length ≤ 4611686018427387903 := by have := h.nodes; omega
theorem BookOk.hst {b : Bk} (h : BookOk b) : b.tasks.length ≤ 4611686018427387903 := by have := h.tasks; omega
theorem BookOk.hsb {b : Bk} (h : BookOk b) : b.binds.length ≤ 4611686018427387903 := by have := h.binds; omega

set_option maxHeartbeats 4000000 in
set_option maxRecDepth 20000 in
theorem kaddNode_ok {I : Imm} {O : Own} {kb : Nat} {b : Bk} {nv tv bv : Value} {obN obT obB : Own} (hk : BkO I b nv tv bv obN obT obB) (hok : BookOk b) {nc : List Value} {n : Nod} (hn : NodR I nc n) :
    Go.Sy.Does Tryz.prog 18 [.pointer (some ⟨kb, 0, none⟩), .agg ⟨nc⟩] I ((kb, .cells ⟨b.cells nv tv bv⟩ 66 (0, 0)) :: (obN ++ (obT ++ (obB ++ O)))) (fun u I' O' => u = .int .i64 (addNR b n).2 ∧ KeepP kb (addNR b n).1 I' O O') := by
  have hn0 := hn
  obtain ⟨nl, nt, rfl, hnl, hnt⟩ := hn.ex
  have hnl0 := hnl
  obtain ⟨la, lcap, rfl, hl1, hl2, -⟩ := hnl
  have hnt0 := hnt
  obtain ⟨ta, tcap, rfl, ht1, ht2, -⟩ := hnt
  have hk0 := hk
  obtain ⟨⟨wsN, hoN, hdN⟩, ⟨wsT, hoT, hdT⟩, ⟨wsB, hoB, hdB⟩, hf⟩ := hk
  obtain ⟨adN, capN, rfl⟩ := hoN.form
  obtain ⟨adT, capT, rfl⟩ := hoT.form
  obtain ⟨adB, capB, rfl⟩ := hoB.form
  have hcN := hoN.capLe
  have hcT := hoT.capLe
  have hcB := hoB.capLe
  have hzN := hoN.lenLe
  have hzT := hoT.lenLe
  have hzB := hoB.lenLe
  have hbn := hok.nodes
  have hbt := hok.tasks
  have hbb := hok.binds
  refine Go.Sy.Does.enter Tryz.func18 rfl Tryz.ntmps18 rfl ?_
  refine .seq <| .region <| .on rfl <| .box rfl rfl rfl fun c1 _ _ => .e (.assign rfl) rfl rfl <| .nil <| .go ?_
  refine .seq <| .region <| .e (.move rfl) rfl rfl <| .e (.fieldAddr fo32_0 rfl) rfl rfl <| .e (.load ag9 rfl .here rfl) rfl rfl ?_
  refine .front (.there <| .there <| .front) ?_
  refine .lend hoN fun JN hJN hJNs hJNt => ?_
  refine .front (.there <| .there <| .front) ?_
  refine .lend hoT fun JT hJT hJTs hJTt => ?_
  refine .front (.there <| .there <| .front) ?_
  refine .lend hoB fun JB hJB hJBs hJBt => ?_
  have hkR : BkR JB (Bk.cells b (.slice adN b.nodes.length capN) (.slice adT b.tasks.length capT) (.slice adB b.binds.length capB)) b := ⟨⟨_, _, _, rfl, NodsR.mono (Imm.le_trans hJT hJB) (hJNs (R := NodR) (hdN.mono fun _ _ h => h.mono hJN) rfl), TsksR.mono hJB (hJTs (R := TskR) (hdT.mono fun _ _ h => h.mono (Imm.le_trans hJN hJT)) rfl), hJBs (R := BndR) (hdB.mono fun _ _ h => h) rfl⟩, hf⟩
  refine .on rfl <| .callP cal44 rfl rfl rfl (knode_ok (.there <| .here) hkR hok.rn hok.hsn) <| .e (.move rfl) rfl rfl <| .e (.extract rfl rfl) rfl rfl <| .e (.extract rfl rfl) rfl rfl <| .e (.assign rfl) rfl rfl <| .e (.assign rfl) rfl rfl ?_
  refine .nil <| .go <| .seq <| .seq <| .region ?_
  refine .thaw hJBt ?_
  refine .thaw hJTt ?_
  refine .thaw hJNt ?_
  refine .e (.loadW ag32 sz32 rfl (.app <| .app <| .app <| .here) rfl) rfl rfl <| .on rfl <| .callP cal39 rfl rfl rfl (CheckNode_ok hn0) <| .e (.assign rfl) rfl rfl <| .nil <| .go <| .block ?_
  refine .seq <| .region <| .e (.move rfl) rfl rfl <| .e (.neq rfl rfl) rfl rfl <| .e (.assign rfl) rfl rfl <| .nil ?_
  refine .go ?_
  refine .split 17 rfl (fun h17 => ?_) (fun h17 => ?_)
  · skip
    first | replace h17 := of_decide_eq_false ((Bool.not_eq_true' _).mp h17) | replace h17 := of_decide_eq_false (by simpa using h17)
    refine .cond_true rfl <| .seq <| .region <| .e (.move rfl) rfl rfl <| .e (.assign rfl) rfl rfl <| .nil ?_
    refine .go <| .ret <| .blk_ret <| .ret ?_
    refine .front1 (.app <| .app <| .app <| .here) ?_
    refine .tail ?_
    refine .front (.app <| .app <| .front) ?_
    refine .front (.app <| .app <| .front) ?_
    refine .front (.app <| .app <| .front) ?_
    refine .front1 (.app <| .app <| .app <| .here) ?_
    refine Post.rets rfl (.tmp rfl .nil) rfl (Imm.le_refl _) (fun w h => h) ?_
    rw [show addNR b n = (b, nodWhy n) by unfold addNR; rw [if_neg h17]]
    exact ⟨rfl, ⟨_, _, _, obN, obT, obB, ⟨⟨_, hoN, hdN⟩, ⟨_, hoT, hdT⟩, ⟨_, hoB, hdB⟩, hf⟩, rfl⟩⟩
  · skip
    first | replace h17 := of_decide_eq_true ((Bool.not_eq_false' _).mp h17) | replace h17 := of_decide_eq_true (by simpa using h17)
    refine .cond_false rfl <| .seq <| .region <| .e (.move rfl) rfl rfl <| .e (.assign rfl) rfl rfl <| .nil ?_
    refine .go ?_
    refine .split 21 rfl (fun h21 => ?_) (fun h21 => ?_)
    · skip
      refine .cond_true rfl <| .seq <| .region <| .e (.assign rfl) rfl rfl <| .nil <| .go ?_
      refine .ret <| .blk_ret <| .ret ?_
      refine .front1 (.app <| .app <| .app <| .here) ?_
      refine .tail ?_
      refine .front (.app <| .app <| .front) ?_
      refine .front (.app <| .app <| .front) ?_
      refine .front (.app <| .app <| .front) ?_
      refine .front1 (.app <| .app <| .app <| .here) ?_
      refine Post.rets rfl (.tmp rfl .nil) rfl (Imm.le_refl _) (fun w h => h) ?_
      rw [show addNR b n = (b, 7) by unfold addNR; rw [if_pos h17, if_pos (show hasN b n.name = true from h21)]]
      exact ⟨rfl, ⟨_, _, _, obN, obT, obB, ⟨⟨_, hoN, hdN⟩, ⟨_, hoT, hdT⟩, ⟨_, hoB, hdB⟩, hf⟩, rfl⟩⟩
    · skip
      refine .cond_false rfl <| .seq <| .region <| .e (.move rfl) rfl rfl <| .e (.nilCheck rfl) rfl rfl <| .e (.fieldAddr fo66_0 rfl) rfl rfl ?_
      refine .e (.fieldAddr fo27_0 rfl) rfl rfl <| .e (.load ag22 rfl (.app <| .app <| .app <| .there <| .here) rfl) rfl rfl <| .e (.len sl22 rfl rfl) rfl rfl <| .e (.geq rfl rfl) rfl rfl <| .e (.assign rfl) rfl rfl <| .nil ?_
      refine .go ?_
      refine .split 23 rfl (fun h23 => ?_) (fun h23 => ?_)
      · skip
        replace h23 := of_decide_eq_true h23
        refine .cond_true rfl <| .seq <| .region <| .e (.assign rfl) rfl rfl <| .nil <| .go ?_
        refine .ret <| .blk_ret <| .ret ?_
        refine .front1 (.app <| .app <| .app <| .here) ?_
        refine .tail ?_
        refine .front (.app <| .app <| .front) ?_
        refine .front (.app <| .app <| .front) ?_
        refine .front (.app <| .app <| .front) ?_
        refine .front1 (.app <| .app <| .app <| .here) ?_
        refine Post.rets rfl (.tmp rfl .nil) rfl (Imm.le_refl _) (fun w h => h) ?_
        rw [show addNR b n = (b, 11) by unfold addNR; rw [if_pos h17, if_neg (show ¬hasN b n.name = true from Bool.eq_false_iff.1 h21), if_pos (by omega)]]
        exact ⟨rfl, ⟨_, _, _, obN, obT, obB, ⟨⟨_, hoN, hdN⟩, ⟨_, hoT, hdT⟩, ⟨_, hoB, hdB⟩, hf⟩, rfl⟩⟩
      · skip
        replace h23 := of_decide_eq_false h23
        refine .cond_false rfl <| .skip <| .blk_normal <| .go <| .seq ?_
        refine .draw [(c1, _)] mixed (.cons (.app <| .app <| .app <| .here) .nil) ?_
        refine .t 0 rfl (.move rfl) rfl rfl (by kernel_rfl) <| .t 1 rfl (.move rfl) rfl rfl (by kernel_rfl) <| .t 2 rfl (.nilCheck rfl) rfl rfl (by kernel_rfl) <| .t 3 rfl (.fieldAddr fo66_0 rfl) rfl rfl (by kernel_rfl) <| .t 4 rfl (.fieldAddr fo27_0 rfl) rfl rfl (by kernel_rfl) <| .t 6 rfl (.move rfl) rfl rfl (by kernel_rfl) ?_
        refine .t 7 rfl (.loadW ag32 sz32 rfl .here rfl) rfl rfl (by kernel_rfl) ?_
        refine .all (rs := [5, 8]) (by kernel_rfl) (by simp) ⟨⟨_, rfl, .inl ⟨rfl, ?_⟩⟩, ⟨⟨_, rfl, .inl ⟨rfl, ?_⟩⟩, trivial⟩⟩
        · skip
          refine .ev (.load ag22 rfl (.app <| .app <| .app <| .there <| .here) rfl) rfl ⟨(.cons (.app <| .app <| .app <| .here) .nil), Imm.le_refl _, ?_⟩
          refine .one (i := 8) (by kernel_rfl) rfl rfl <| .call cal51 rfl rfl rfl (ownNode_ok hn0 (by have := nod_few h17; omega) (by have := nod_few h17; omega)) fun v39 I39 O39 hI39 hK39 => ?_
          obtain ⟨cs39, hq39, hR39, rfl⟩ := hK39
          replace hq39 := hq39.symm
          subst hq39
          have hR39' := hR39
          obtain ⟨lv39, tv39, rfl, hl39, ht39⟩ := hR39'.ex
          obtain ⟨_, _, rfl, -⟩ := hl39
          obtain ⟨_, _, rfl, -⟩ := ht39
          refine ⟨(.cons (.app <| .app <| .app <| .here) .nil), hI39, ?_⟩
          refine .one (i := 9) (by kernel_rfl) rfl rfl <| .buildSlice Tryz.underlying22 sz32 (by decide) (by decide) zv32 rfl rfl rfl rfl rfl fun c2 _ _ => ?_
          refine ⟨(.cons (.there <| .app <| .app <| .app <| .here) .nil), hI39, ?_⟩
          refine .front (.there <| .front) ?_
          refine .one (i := 10) (by kernel_rfl) rfl rfl <| .call cal55 rfl rfl rfl (insNod_ok hoN (hdN.mono fun _ _ h => h.mono hI39) hR39 pos_le (by have := hok.nodes; omega)) fun v41 I41 O41 hI41 hK41 => ?_
          obtain ⟨hq41, ws41, ob41, ho41, hd41, rfl⟩ := hK41
          replace hq41 := hq41.symm
          subst hq41
          obtain ⟨ad41, cap41, rfl⟩ := ho41.form
          refine ⟨(.cons (.app <| .app <| .app <| .here) .nil), hI39, ?_⟩
          refine .t 11 rfl (.nilCheck rfl) rfl rfl (by kernel_rfl) <| .t 12 rfl (.fieldAddr fo66_0 rfl) rfl rfl (by kernel_rfl) <| .t 13 rfl (.fieldAddr fo27_0 rfl) rfl rfl (by kernel_rfl) <| .one (i := 14) (by kernel_rfl) rfl rfl <| .store sz22 rfl rfl rfl rfl rfl rfl (.app <| .app <| .app <| .there <| .here) ?_
          refine ⟨(.cons (.app <| .app <| .app <| .here) .nil), hI39, ?_⟩
          refine .done (by kernel_rfl) <| .go <| .seq <| .region <| .e (.assign rfl) rfl rfl <| .nil ?_
          refine .go <| .ret ?_
          refine .front1 (.app <| .app <| .app <| .here) ?_
          refine .tail ?_
          refine .front (.app <| .app <| .front) ?_
          refine .front (.app <| .app <| .front) ?_
          refine .front (.app <| .app <| .front) ?_
          refine .front1 (.app <| .app <| .app <| .here) ?_
          refine Post.rets rfl (.tmp rfl .nil) rfl hI39 (fun w h => h) ?_
          rw [show addNR b n = ({ b with nodes := insAt b.nodes (posN b n.name) n }, 0) by unfold addNR; rw [if_pos h17, if_neg (show ¬hasN b n.name = true from Bool.eq_false_iff.1 h21), if_neg (by omega)]]
          exact ⟨rfl, ⟨_, _, _, ob41, obT, obB, ⟨⟨ws41, by dsimp only; rw [insAt_len (show posN b n.name ≤ _ from pos_le)]; exact ho41, hd41⟩, ⟨wsT, hoT, hdT.mono fun _ _ h => h.mono hI39⟩, ⟨wsB, hoB, hdB.mono fun _ _ h => h⟩, hf⟩, rfl⟩⟩
        · skip
          refine .call cal51 rfl rfl rfl (ownNode_ok hn0 (by have := nod_few h17; omega) (by have := nod_few h17; omega)) fun v39 I39 O39 hI39 hK39 => ?_
          obtain ⟨cs39, hq39, hR39, rfl⟩ := hK39
          replace hq39 := hq39.symm
          subst hq39
          have hR39' := hR39
          obtain ⟨lv39, tv39, rfl, hl39, ht39⟩ := hR39'.ex
          obtain ⟨_, _, rfl, -⟩ := hl39
          obtain ⟨_, _, rfl, -⟩ := ht39
          refine ⟨(.cons (.app <| .app <| .app <| .here) .nil), hI39, ?_⟩
          refine .all (rs := [5, 9]) (by kernel_rfl) (by simp) ⟨⟨_, rfl, .inl ⟨rfl, ?_⟩⟩, ⟨⟨_, rfl, .inl ⟨rfl, ?_⟩⟩, trivial⟩⟩
          · skip
            refine .ev (.load ag22 rfl (.app <| .app <| .app <| .there <| .here) rfl) rfl ⟨(.cons (.app <| .app <| .app <| .here) .nil), hI39, ?_⟩
            refine .one (i := 9) (by kernel_rfl) rfl rfl <| .buildSlice Tryz.underlying22 sz32 (by decide) (by decide) zv32 rfl rfl rfl rfl rfl fun c3 _ _ => ?_
            refine ⟨(.cons (.there <| .app <| .app <| .app <| .here) .nil), hI39, ?_⟩
            refine .front (.there <| .front) ?_
            refine .one (i := 10) (by kernel_rfl) rfl rfl <| .call cal55 rfl rfl rfl (insNod_ok hoN (hdN.mono fun _ _ h => h.mono hI39) hR39 pos_le (by have := hok.nodes; omega)) fun v41 I41 O41 hI41 hK41 => ?_
            obtain ⟨hq41, ws41, ob41, ho41, hd41, rfl⟩ := hK41
            replace hq41 := hq41.symm
            subst hq41
            obtain ⟨ad41, cap41, rfl⟩ := ho41.form
            refine ⟨(.cons (.app <| .app <| .app <| .here) .nil), hI39, ?_⟩
            refine .t 11 rfl (.nilCheck rfl) rfl rfl (by kernel_rfl) <| .t 12 rfl (.fieldAddr fo66_0 rfl) rfl rfl (by kernel_rfl) <| .t 13 rfl (.fieldAddr fo27_0 rfl) rfl rfl (by kernel_rfl) <| .one (i := 14) (by kernel_rfl) rfl rfl <| .store sz22 rfl rfl rfl rfl rfl rfl (.app <| .app <| .app <| .there <| .here) ?_
            refine ⟨(.cons (.app <| .app <| .app <| .here) .nil), hI39, ?_⟩
            refine .done (by kernel_rfl) <| .go <| .seq <| .region <| .e (.assign rfl) rfl rfl <| .nil ?_
            refine .go <| .ret ?_
            refine .front1 (.app <| .app <| .app <| .here) ?_
            refine .tail ?_
            refine .front (.app <| .app <| .front) ?_
            refine .front (.app <| .app <| .front) ?_
            refine .front (.app <| .app <| .front) ?_
            refine .front1 (.app <| .app <| .app <| .here) ?_
            refine Post.rets rfl (.tmp rfl .nil) rfl hI39 (fun w h => h) ?_
            rw [show addNR b n = ({ b with nodes := insAt b.nodes (posN b n.name) n }, 0) by unfold addNR; rw [if_pos h17, if_neg (show ¬hasN b n.name = true from Bool.eq_false_iff.1 h21), if_neg (by omega)]]
            exact ⟨rfl, ⟨_, _, _, ob41, obT, obB, ⟨⟨ws41, by dsimp only; rw [insAt_len (show posN b n.name ≤ _ from pos_le)]; exact ho41, hd41⟩, ⟨wsT, hoT, hdT.mono fun _ _ h => h.mono hI39⟩, ⟨wsB, hoB, hdB.mono fun _ _ h => h⟩, hf⟩, rfl⟩⟩
          · skip
            refine .buildSlice Tryz.underlying22 sz32 (by decide) (by decide) zv32 rfl rfl rfl rfl rfl fun c4 _ _ => ?_
            refine ⟨(.cons (.there <| .app <| .app <| .app <| .here) .nil), hI39, ?_⟩
            refine .one (i := 5) (by kernel_rfl) rfl rfl ?_
            refine .ev (.load ag22 rfl (.there <| .app <| .app <| .app <| .there <| .here) rfl) rfl ⟨(.cons (.there <| .app <| .app <| .app <| .here) .nil), hI39, ?_⟩
            refine .front (.there <| .front) ?_
            refine .one (i := 10) (by kernel_rfl) rfl rfl <| .call cal55 rfl rfl rfl (insNod_ok hoN (hdN.mono fun _ _ h => h.mono hI39) hR39 pos_le (by have := hok.nodes; omega)) fun v41 I41 O41 hI41 hK41 => ?_
            obtain ⟨hq41, ws41, ob41, ho41, hd41, rfl⟩ := hK41
            replace hq41 := hq41.symm
            subst hq41
            obtain ⟨ad41, cap41, rfl⟩ := ho41.form
            refine ⟨(.cons (.app <| .app <| .app <| .here) .nil), hI39, ?_⟩
            refine .t 11 rfl (.nilCheck rfl) rfl rfl (by kernel_rfl) <| .t 12 rfl (.fieldAddr fo66_0 rfl) rfl rfl (by kernel_rfl) <| .t 13 rfl (.fieldAddr fo27_0 rfl) rfl rfl (by kernel_rfl) <| .one (i := 14) (by kernel_rfl) rfl rfl <| .store sz22 rfl rfl rfl rfl rfl rfl (.app <| .app <| .app <| .there <| .here) ?_
            refine ⟨(.cons (.app <| .app <| .app <| .here) .nil), hI39, ?_⟩
            refine .done (by kernel_rfl) <| .go <| .seq <| .region <| .e (.assign rfl) rfl rfl <| .nil ?_
            refine .go <| .ret ?_
            refine .front1 (.app <| .app <| .app <| .here) ?_
            refine .tail ?_
            refine .front (.app <| .app <| .front) ?_
            refine .front (.app <| .app <| .front) ?_
            refine .front (.app <| .app <| .front) ?_
            refine .front1 (.app <| .app <| .app <| .here) ?_
            refine Post.rets rfl (.tmp rfl .nil) rfl hI39 (fun w h => h) ?_
            rw [show addNR b n = ({ b with nodes := insAt b.nodes (posN b n.name) n }, 0) by unfold addNR; rw [if_pos h17, if_neg (show ¬hasN b n.name = true from Bool.eq_false_iff.1 h21), if_neg (by omega)]]
            exact ⟨rfl, ⟨_, _, _, ob41, obT, obB, ⟨⟨ws41, by dsimp only; rw [insAt_len (show posN b n.name ≤ _ from pos_le)]; exact ho41, hd41⟩, ⟨wsT, hoT, hdT.mono fun _ _ h => h.mono hI39⟩, ⟨wsB, hoB, hdB.mono fun _ _ h => h⟩, hf⟩, rfl⟩⟩

set_option maxHeartbeats 4000000 in
set_option maxRecDepth 20000 in
theorem kaddTask_ok {I : Imm} {O : Own} {kb : Nat} {b : Bk} {nv tv bv : Value} {obN obT obB : Own} (hk : BkO I b nv tv bv obN obT obB) (hok : BookOk b) {tc : List Value} {t : Tsk} (ht : TskR I tc t) :
    Go.Sy.Does Tryz.prog 19 [.pointer (some ⟨kb, 0, none⟩), .agg ⟨tc⟩] I ((kb, .cells ⟨b.cells nv tv bv⟩ 66 (0, 0)) :: (obN ++ (obT ++ (obB ++ O)))) (fun u I' O' => u = .int .i64 (addTR b t).2 ∧ KeepP kb (addTR b t).1 I' O O') := by
  have ht0 := ht
  obtain ⟨tw, tb, rfl, htw, htb⟩ := ht.ex
  have htw0 := htw
  obtain ⟨wa, wcap, rfl, hw1, hw2, -⟩ := htw
  have htb0 := htb
  obtain ⟨ba, bcap, rfl, hb1, hb2, -⟩ := htb
  have hk0 := hk
  obtain ⟨⟨wsN, hoN, hdN⟩, ⟨wsT, hoT, hdT⟩, ⟨wsB, hoB, hdB⟩, hf⟩ := hk
  obtain ⟨adN, capN, rfl⟩ := hoN.form
  obtain ⟨adT, capT, rfl⟩ := hoT.form
  obtain ⟨adB, capB, rfl⟩ := hoB.form
  have hcN := hoN.capLe
  have hcT := hoT.capLe
  have hcB := hoB.capLe
  have hzN := hoN.lenLe
  have hzT := hoT.lenLe
  have hzB := hoB.lenLe
  have hbn := hok.nodes
  have hbt := hok.tasks
  have hbb := hok.binds
  refine Go.Sy.Does.enter Tryz.func19 rfl Tryz.ntmps19 rfl ?_
  refine .seq <| .region <| .on rfl <| .box rfl rfl rfl fun c1 _ _ => .e (.assign rfl) rfl rfl <| .nil <| .go ?_
  refine .seq <| .region <| .e (.move rfl) rfl rfl <| .e (.fieldAddr fo34_0 rfl) rfl rfl <| .e (.load ag9 rfl .here rfl) rfl rfl ?_
  refine .front (.there <| .there <| .front) ?_
  refine .lend hoN fun JN hJN hJNs hJNt => ?_
  refine .front (.there <| .there <| .front) ?_
  refine .lend hoT fun JT hJT hJTs hJTt => ?_
  refine .front (.there <| .there <| .front) ?_
  refine .lend hoB fun JB hJB hJBs hJBt => ?_
  have hkR : BkR JB (Bk.cells b (.slice adN b.nodes.length capN) (.slice adT b.tasks.length capT) (.slice adB b.binds.length capB)) b := ⟨⟨_, _, _, rfl, NodsR.mono (Imm.le_trans hJT hJB) (hJNs (R := NodR) (hdN.mono fun _ _ h => h.mono hJN) rfl), TsksR.mono hJB (hJTs (R := TskR) (hdT.mono fun _ _ h => h.mono (Imm.le_trans hJN hJT)) rfl), hJBs (R := BndR) (hdB.mono fun _ _ h => h) rfl⟩, hf⟩
  refine .on rfl <| .callP cal45 rfl rfl rfl (ktask_ok (.there <| .here) hkR hok.rt hok.hst) <| .e (.move rfl) rfl rfl <| .e (.extract rfl rfl) rfl rfl <| .e (.extract rfl rfl) rfl rfl <| .e (.assign rfl) rfl rfl <| .e (.assign rfl) rfl rfl ?_
  refine .nil <| .go <| .seq <| .seq <| .region ?_
  refine .thaw hJBt ?_
  refine .thaw hJTt ?_
  refine .thaw hJNt ?_
  refine .e (.loadW ag34 sz34 rfl (.app <| .app <| .app <| .here) rfl) rfl rfl <| .on rfl <| .callP cal42 rfl rfl rfl (CheckTask_ok ht0) <| .e (.assign rfl) rfl rfl <| .nil <| .go <| .block ?_
  refine .seq <| .region <| .e (.move rfl) rfl rfl <| .e (.neq rfl rfl) rfl rfl <| .e (.assign rfl) rfl rfl <| .nil ?_
  refine .go ?_
  refine .split 17 rfl (fun h17 => ?_) (fun h17 => ?_)
  · skip
    first | replace h17 := of_decide_eq_false ((Bool.not_eq_true' _).mp h17) | replace h17 := of_decide_eq_false (by simpa using h17)
    refine .cond_true rfl <| .seq <| .region <| .e (.move rfl) rfl rfl <| .e (.assign rfl) rfl rfl <| .nil ?_
    refine .go <| .ret <| .blk_ret <| .ret ?_
    refine .front1 (.app <| .app <| .app <| .here) ?_
    refine .tail ?_
    refine .front (.app <| .app <| .front) ?_
    refine .front (.app <| .app <| .front) ?_
    refine .front (.app <| .app <| .front) ?_
    refine .front1 (.app <| .app <| .app <| .here) ?_
    refine Post.rets rfl (.tmp rfl .nil) rfl (Imm.le_refl _) (fun w h => h) ?_
    rw [show addTR b t = (b, tskWhy t) by unfold addTR; rw [if_neg h17]]
    exact ⟨rfl, ⟨_, _, _, obN, obT, obB, ⟨⟨_, hoN, hdN⟩, ⟨_, hoT, hdT⟩, ⟨_, hoB, hdB⟩, hf⟩, rfl⟩⟩
  · skip
    first | replace h17 := of_decide_eq_true ((Bool.not_eq_false' _).mp h17) | replace h17 := of_decide_eq_true (by simpa using h17)
    refine .cond_false rfl <| .seq <| .region <| .e (.move rfl) rfl rfl <| .e (.assign rfl) rfl rfl <| .nil ?_
    refine .go ?_
    refine .split 21 rfl (fun h21 => ?_) (fun h21 => ?_)
    · skip
      refine .cond_true rfl <| .seq <| .region <| .e (.assign rfl) rfl rfl <| .nil <| .go ?_
      refine .ret <| .blk_ret <| .ret ?_
      refine .front1 (.app <| .app <| .app <| .here) ?_
      refine .tail ?_
      refine .front (.app <| .app <| .front) ?_
      refine .front (.app <| .app <| .front) ?_
      refine .front (.app <| .app <| .front) ?_
      refine .front1 (.app <| .app <| .app <| .here) ?_
      refine Post.rets rfl (.tmp rfl .nil) rfl (Imm.le_refl _) (fun w h => h) ?_
      rw [show addTR b t = (b, 7) by unfold addTR; rw [if_pos h17, if_pos (show hasT b t.name = true from h21)]]
      exact ⟨rfl, ⟨_, _, _, obN, obT, obB, ⟨⟨_, hoN, hdN⟩, ⟨_, hoT, hdT⟩, ⟨_, hoB, hdB⟩, hf⟩, rfl⟩⟩
    · skip
      refine .cond_false rfl <| .seq <| .region <| .e (.move rfl) rfl rfl <| .e (.nilCheck rfl) rfl rfl <| .e (.fieldAddr fo66_0 rfl) rfl rfl ?_
      refine .e (.fieldAddr fo27_1 rfl) rfl rfl <| .e (.load ag23 rfl (.app <| .app <| .app <| .there <| .here) rfl) rfl rfl <| .e (.len sl23 rfl rfl) rfl rfl <| .e (.geq rfl rfl) rfl rfl <| .e (.assign rfl) rfl rfl <| .nil ?_
      refine .go ?_
      refine .split 23 rfl (fun h23 => ?_) (fun h23 => ?_)
      · skip
        replace h23 := of_decide_eq_true h23
        refine .cond_true rfl <| .seq <| .region <| .e (.assign rfl) rfl rfl <| .nil <| .go ?_
        refine .ret <| .blk_ret <| .ret ?_
        refine .front1 (.app <| .app <| .app <| .here) ?_
        refine .tail ?_
        refine .front (.app <| .app <| .front) ?_
        refine .front (.app <| .app <| .front) ?_
        refine .front (.app <| .app <| .front) ?_
        refine .front1 (.app <| .app <| .app <| .here) ?_
        refine Post.rets rfl (.tmp rfl .nil) rfl (Imm.le_refl _) (fun w h => h) ?_
        rw [show addTR b t = (b, 11) by unfold addTR; rw [if_pos h17, if_neg (show ¬hasT b t.name = true from Bool.eq_false_iff.1 h21), if_pos (by omega)]]
        exact ⟨rfl, ⟨_, _, _, obN, obT, obB, ⟨⟨_, hoN, hdN⟩, ⟨_, hoT, hdT⟩, ⟨_, hoB, hdB⟩, hf⟩, rfl⟩⟩
      · skip
        replace h23 := of_decide_eq_false h23
        refine .cond_false rfl <| .skip <| .blk_normal <| .go <| .seq ?_
        refine .draw [(c1, _)] mixed (.cons (.app <| .app <| .app <| .here) .nil) ?_
        refine .t 0 rfl (.move rfl) rfl rfl (by kernel_rfl) <| .t 1 rfl (.move rfl) rfl rfl (by kernel_rfl) <| .t 2 rfl (.nilCheck rfl) rfl rfl (by kernel_rfl) <| .t 3 rfl (.fieldAddr fo66_0 rfl) rfl rfl (by kernel_rfl) <| .t 4 rfl (.fieldAddr fo27_1 rfl) rfl rfl (by kernel_rfl) <| .t 6 rfl (.move rfl) rfl rfl (by kernel_rfl) ?_
        refine .t 7 rfl (.loadW ag34 sz34 rfl .here rfl) rfl rfl (by kernel_rfl) ?_
        refine .all (rs := [5, 8]) (by kernel_rfl) (by simp) ⟨⟨_, rfl, .inl ⟨rfl, ?_⟩⟩, ⟨⟨_, rfl, .inl ⟨rfl, ?_⟩⟩, trivial⟩⟩
        · skip
          refine .ev (.load ag23 rfl (.app <| .app <| .app <| .there <| .here) rfl) rfl ⟨(.cons (.app <| .app <| .app <| .here) .nil), Imm.le_refl _, ?_⟩
          refine .one (i := 8) (by kernel_rfl) rfl rfl <| .call cal52 rfl rfl rfl (ownTask_ok ht0 (by have := tsk_few h17; omega) (by have := tsk_few h17; omega)) fun v39 I39 O39 hI39 hK39 => ?_
          obtain ⟨cs39, hq39, hR39, rfl⟩ := hK39
          replace hq39 := hq39.symm
          subst hq39
          have hR39' := hR39
          obtain ⟨lv39, tv39, rfl, hl39, ht39⟩ := hR39'.ex
          obtain ⟨_, _, rfl, -⟩ := hl39
          obtain ⟨_, _, rfl, -⟩ := ht39
          refine ⟨(.cons (.app <| .app <| .app <| .here) .nil), hI39, ?_⟩
          refine .one (i := 9) (by kernel_rfl) rfl rfl <| .buildSlice Tryz.underlying23 sz34 (by decide) (by decide) zv34 rfl rfl rfl rfl rfl fun c2 _ _ => ?_
          refine ⟨(.cons (.there <| .app <| .app <| .app <| .here) .nil), hI39, ?_⟩
          refine .front (.there <| .app <| .front) ?_
          refine .one (i := 10) (by kernel_rfl) rfl rfl <| .call cal56 rfl rfl rfl (insTsk_ok hoT (hdT.mono fun _ _ h => h.mono hI39) hR39 pos_le (by have := hok.tasks; omega)) fun v41 I41 O41 hI41 hK41 => ?_
          obtain ⟨hq41, ws41, ob41, ho41, hd41, rfl⟩ := hK41
          replace hq41 := hq41.symm
          subst hq41
          obtain ⟨ad41, cap41, rfl⟩ := ho41.form
          refine ⟨(.cons (.app <| .app <| .app <| .here) .nil), hI39, ?_⟩
          refine .t 11 rfl (.nilCheck rfl) rfl rfl (by kernel_rfl) <| .t 12 rfl (.fieldAddr fo66_0 rfl) rfl rfl (by kernel_rfl) <| .t 13 rfl (.fieldAddr fo27_1 rfl) rfl rfl (by kernel_rfl) <| .one (i := 14) (by kernel_rfl) rfl rfl <| .store sz23 rfl rfl rfl rfl rfl rfl (.app <| .app <| .app <| .there <| .here) ?_
          refine ⟨(.cons (.app <| .app <| .app <| .here) .nil), hI39, ?_⟩
          refine .done (by kernel_rfl) <| .go <| .seq <| .region <| .e (.assign rfl) rfl rfl <| .nil ?_
          refine .go <| .ret ?_
          refine .front1 (.app <| .app <| .app <| .here) ?_
          refine .tail ?_
          refine .front (.app <| .app <| .front) ?_
          refine .front (.app <| .front) ?_
          refine .front (.app <| .app <| .front) ?_
          refine .front1 (.app <| .app <| .app <| .here) ?_
          refine Post.rets rfl (.tmp rfl .nil) rfl hI39 (fun w h => h) ?_
          rw [show addTR b t = ({ b with tasks := insAt b.tasks (posT b t.name) t }, 0) by unfold addTR; rw [if_pos h17, if_neg (show ¬hasT b t.name = true from Bool.eq_false_iff.1 h21), if_neg (by omega)]]
          exact ⟨rfl, ⟨_, _, _, obN, ob41, obB, ⟨⟨wsN, hoN, hdN.mono fun _ _ h => h.mono hI39⟩, ⟨ws41, by dsimp only; rw [insAt_len (show posT b t.name ≤ _ from pos_le)]; exact ho41, hd41⟩, ⟨wsB, hoB, hdB.mono fun _ _ h => h⟩, hf⟩, rfl⟩⟩
        · skip
          refine .call cal52 rfl rfl rfl (ownTask_ok ht0 (by have := tsk_few h17; omega) (by have := tsk_few h17; omega)) fun v39 I39 O39 hI39 hK39 => ?_
          obtain ⟨cs39, hq39, hR39, rfl⟩ := hK39
          replace hq39 := hq39.symm
          subst hq39
          have hR39' := hR39
          obtain ⟨lv39, tv39, rfl, hl39, ht39⟩ := hR39'.ex
          obtain ⟨_, _, rfl, -⟩ := hl39
          obtain ⟨_, _, rfl, -⟩ := ht39
          refine ⟨(.cons (.app <| .app <| .app <| .here) .nil), hI39, ?_⟩
          refine .all (rs := [5, 9]) (by kernel_rfl) (by simp) ⟨⟨_, rfl, .inl ⟨rfl, ?_⟩⟩, ⟨⟨_, rfl, .inl ⟨rfl, ?_⟩⟩, trivial⟩⟩
          · skip
            refine .ev (.load ag23 rfl (.app <| .app <| .app <| .there <| .here) rfl) rfl ⟨(.cons (.app <| .app <| .app <| .here) .nil), hI39, ?_⟩
            refine .one (i := 9) (by kernel_rfl) rfl rfl <| .buildSlice Tryz.underlying23 sz34 (by decide) (by decide) zv34 rfl rfl rfl rfl rfl fun c3 _ _ => ?_
            refine ⟨(.cons (.there <| .app <| .app <| .app <| .here) .nil), hI39, ?_⟩
            refine .front (.there <| .app <| .front) ?_
            refine .one (i := 10) (by kernel_rfl) rfl rfl <| .call cal56 rfl rfl rfl (insTsk_ok hoT (hdT.mono fun _ _ h => h.mono hI39) hR39 pos_le (by have := hok.tasks; omega)) fun v41 I41 O41 hI41 hK41 => ?_
            obtain ⟨hq41, ws41, ob41, ho41, hd41, rfl⟩ := hK41
            replace hq41 := hq41.symm
            subst hq41
            obtain ⟨ad41, cap41, rfl⟩ := ho41.form
            refine ⟨(.cons (.app <| .app <| .app <| .here) .nil), hI39, ?_⟩
            refine .t 11 rfl (.nilCheck rfl) rfl rfl (by kernel_rfl) <| .t 12 rfl (.fieldAddr fo66_0 rfl) rfl rfl (by kernel_rfl) <| .t 13 rfl (.fieldAddr fo27_1 rfl) rfl rfl (by kernel_rfl) <| .one (i := 14) (by kernel_rfl) rfl rfl <| .store sz23 rfl rfl rfl rfl rfl rfl (.app <| .app <| .app <| .there <| .here) ?_
            refine ⟨(.cons (.app <| .app <| .app <| .here) .nil), hI39, ?_⟩
            refine .done (by kernel_rfl) <| .go <| .seq <| .region <| .e (.assign rfl) rfl rfl <| .nil ?_
            refine .go <| .ret ?_
            refine .front1 (.app <| .app <| .app <| .here) ?_
            refine .tail ?_
            refine .front (.app <| .app <| .front) ?_
            refine .front (.app <| .front) ?_
            refine .front (.app <| .app <| .front) ?_
            refine .front1 (.app <| .app <| .app <| .here) ?_
            refine Post.rets rfl (.tmp rfl .nil) rfl hI39 (fun w h => h) ?_
            rw [show addTR b t = ({ b with tasks := insAt b.tasks (posT b t.name) t }, 0) by unfold addTR; rw [if_pos h17, if_neg (show ¬hasT b t.name = true from Bool.eq_false_iff.1 h21), if_neg (by omega)]]
            exact ⟨rfl, ⟨_, _, _, obN, ob41, obB, ⟨⟨wsN, hoN, hdN.mono fun _ _ h => h.mono hI39⟩, ⟨ws41, by dsimp only; rw [insAt_len (show posT b t.name ≤ _ from pos_le)]; exact ho41, hd41⟩, ⟨wsB, hoB, hdB.mono fun _ _ h => h⟩, hf⟩, rfl⟩⟩
          · skip
            refine .buildSlice Tryz.underlying23 sz34 (by decide) (by decide) zv34 rfl rfl rfl rfl rfl fun c4 _ _ => ?_
            refine ⟨(.cons (.there <| .app <| .app <| .app <| .here) .nil), hI39, ?_⟩
            refine .one (i := 5) (by kernel_rfl) rfl rfl ?_
            refine .ev (.load ag23 rfl (.there <| .app <| .app <| .app <| .there <| .here) rfl) rfl ⟨(.cons (.there <| .app <| .app <| .app <| .here) .nil), hI39, ?_⟩
            refine .front (.there <| .app <| .front) ?_
            refine .one (i := 10) (by kernel_rfl) rfl rfl <| .call cal56 rfl rfl rfl (insTsk_ok hoT (hdT.mono fun _ _ h => h.mono hI39) hR39 pos_le (by have := hok.tasks; omega)) fun v41 I41 O41 hI41 hK41 => ?_
            obtain ⟨hq41, ws41, ob41, ho41, hd41, rfl⟩ := hK41
            replace hq41 := hq41.symm
            subst hq41
            obtain ⟨ad41, cap41, rfl⟩ := ho41.form
            refine ⟨(.cons (.app <| .app <| .app <| .here) .nil), hI39, ?_⟩
            refine .t 11 rfl (.nilCheck rfl) rfl rfl (by kernel_rfl) <| .t 12 rfl (.fieldAddr fo66_0 rfl) rfl rfl (by kernel_rfl) <| .t 13 rfl (.fieldAddr fo27_1 rfl) rfl rfl (by kernel_rfl) <| .one (i := 14) (by kernel_rfl) rfl rfl <| .store sz23 rfl rfl rfl rfl rfl rfl (.app <| .app <| .app <| .there <| .here) ?_
            refine ⟨(.cons (.app <| .app <| .app <| .here) .nil), hI39, ?_⟩
            refine .done (by kernel_rfl) <| .go <| .seq <| .region <| .e (.assign rfl) rfl rfl <| .nil ?_
            refine .go <| .ret ?_
            refine .front1 (.app <| .app <| .app <| .here) ?_
            refine .tail ?_
            refine .front (.app <| .app <| .front) ?_
            refine .front (.app <| .front) ?_
            refine .front (.app <| .app <| .front) ?_
            refine .front1 (.app <| .app <| .app <| .here) ?_
            refine Post.rets rfl (.tmp rfl .nil) rfl hI39 (fun w h => h) ?_
            rw [show addTR b t = ({ b with tasks := insAt b.tasks (posT b t.name) t }, 0) by unfold addTR; rw [if_pos h17, if_neg (show ¬hasT b t.name = true from Bool.eq_false_iff.1 h21), if_neg (by omega)]]
            exact ⟨rfl, ⟨_, _, _, obN, ob41, obB, ⟨⟨wsN, hoN, hdN.mono fun _ _ h => h.mono hI39⟩, ⟨ws41, by dsimp only; rw [insAt_len (show posT b t.name ≤ _ from pos_le)]; exact ho41, hd41⟩, ⟨wsB, hoB, hdB.mono fun _ _ h => h⟩, hf⟩, rfl⟩⟩

set_option maxHeartbeats 4000000 in
set_option maxRecDepth 20000 in
theorem kgone_ok {I : Imm} {O : Own} {kb : Nat} {b : Bk} {nv tv bv : Value} {obN obT obB : Own} (hk : BkO I b nv tv bv obN obT obB) (hok : BookOk b) {s : ByteArray} :
    Go.Sy.Does Tryz.prog 20 [.pointer (some ⟨kb, 0, none⟩), .string s] I ((kb, .cells ⟨b.cells nv tv bv⟩ 66 (0, 0)) :: (obN ++ (obT ++ (obB ++ O)))) (fun u I' O' => u = .int .i64 (goneR b s).2 ∧ KeepP kb (goneR b s).1 I' O O') := by
  have hk0 := hk
  obtain ⟨⟨wsN, hoN, hdN⟩, ⟨wsT, hoT, hdT⟩, ⟨wsB, hoB, hdB⟩, hf⟩ := hk
  obtain ⟨adN, capN, rfl⟩ := hoN.form
  obtain ⟨adT, capT, rfl⟩ := hoT.form
  obtain ⟨adB, capB, rfl⟩ := hoB.form
  have hcN := hoN.capLe
  have hcT := hoT.capLe
  have hcB := hoB.capLe
  have hzN := hoN.lenLe
  have hzT := hoT.lenLe
  have hzB := hoB.lenLe
  have hbn := hok.nodes
  have hbt := hok.tasks
  have hbb := hok.binds
  refine Go.Sy.Does.enter Tryz.func20 rfl Tryz.ntmps20 rfl ?_
  refine .seq <| .region <| .e (.assign rfl) rfl rfl <| .nil <| .go <| .seq ?_
  refine .region <| .e (.move rfl) rfl rfl <| .e (.move rfl) rfl rfl ?_
  refine .front (.there <| .front) ?_
  refine .lend hoN fun JN hJN hJNs hJNt => ?_
  refine .front (.there <| .front) ?_
  refine .lend hoT fun JT hJT hJTs hJTt => ?_
  refine .front (.there <| .front) ?_
  refine .lend hoB fun JB hJB hJBs hJBt => ?_
  have hkR : BkR JB (Bk.cells b (.slice adN b.nodes.length capN) (.slice adT b.tasks.length capT) (.slice adB b.binds.length capB)) b := ⟨⟨_, _, _, rfl, NodsR.mono (Imm.le_trans hJT hJB) (hJNs (R := NodR) (hdN.mono fun _ _ h => h.mono hJN) rfl), TsksR.mono hJB (hJTs (R := TskR) (hdT.mono fun _ _ h => h.mono (Imm.le_trans hJN hJT)) rfl), hJBs (R := BndR) (hdB.mono fun _ _ h => h) rfl⟩, hf⟩
  refine .on rfl <| .callP cal44 rfl rfl rfl (knode_ok .here hkR hok.rn hok.hsn) <| .e (.move rfl) rfl rfl <| .e (.extract rfl rfl) rfl rfl <| .e (.extract rfl rfl) rfl rfl <| .e (.assign rfl) rfl rfl <| .e (.assign rfl) rfl rfl ?_
  refine .nil <| .go <| .seq <| .block <| .seq <| .region ?_
  refine .e (.move rfl) rfl rfl <| .e (.not rfl) rfl rfl <| .e (.assign rfl) rfl rfl <| .nil <| .go ?_
  refine .split 13 rfl (fun h13 => ?_) (fun h13 => ?_)
  · skip
    refine .cond_true rfl <| .seq <| .region <| .e (.assign rfl) rfl rfl <| .nil <| .go ?_
    refine .ret <| .blk_ret <| .ret ?_
    refine .thaw hJBt ?_
    refine .thaw hJTt ?_
    refine .thaw hJNt ?_
    refine .front (.app <| .app <| .front) ?_
    refine .front (.app <| .app <| .front) ?_
    refine .front (.app <| .app <| .front) ?_
    refine .front1 (.app <| .app <| .app <| .here) ?_
    refine Post.rets rfl (.tmp rfl .nil) rfl (Imm.le_refl _) (fun w h => h) ?_
    rw [show goneR b s = (b, 6) by unfold goneR; rw [if_neg (show ¬hasN b s = true from Bool.eq_false_iff.1 ((Bool.not_eq_true' _).mp h13))]]
    exact ⟨rfl, ⟨_, _, _, obN, obT, obB, ⟨⟨_, hoN, hdN⟩, ⟨_, hoT, hdT⟩, ⟨_, hoB, hdB⟩, hf⟩, rfl⟩⟩
  · skip
    have hpos := (has_get hok.rn ((Bool.not_eq_false' _).mp h13)).1
    refine .cond_false rfl <| .seq <| .region <| .e (.move rfl) rfl rfl <| .e (.move rfl) rfl rfl <| .on rfl <| .call cal57 rfl rfl rfl (there_ok .here hkR hok.rt hok.hst hok.binds) fun v19 I19 O19 hI19 hK19 => ?_
    obtain ⟨rfl, hl19⟩ := hK19
    obtain ⟨la19, lc19, rfl, hl191, hl192, -⟩ := hl19
    refine .e (.len sl23 rfl rfl) rfl rfl <| .e (.gtr rfl rfl) rfl rfl <| .e (.assign rfl) rfl rfl <| .nil <| .go ?_
    refine .split 16 rfl (fun h16 => ?_) (fun h16 => ?_)
    · skip
      replace h16 := of_decide_eq_true h16
      refine .cond_true rfl <| .seq <| .region <| .e (.assign rfl) rfl rfl <| .nil <| .go ?_
      refine .ret <| .blk_ret <| .ret ?_
      refine .back hI19 ?_
      refine .thaw hJBt ?_
      refine .thaw hJTt ?_
      refine .thaw hJNt ?_
      refine .front (.app <| .app <| .front) ?_
      refine .front (.app <| .app <| .front) ?_
      refine .front (.app <| .app <| .front) ?_
      refine .front1 (.app <| .app <| .app <| .here) ?_
      refine Post.rets rfl (.tmp rfl .nil) rfl (Imm.le_refl _) (fun w h => h) ?_
      rw [show goneR b s = (b, 12) by unfold goneR; rw [if_pos (show hasN b s = true from (Bool.not_eq_false' _).mp h13), if_pos (by omega)]]
      exact ⟨rfl, ⟨_, _, _, obN, obT, obB, ⟨⟨_, hoN, hdN⟩, ⟨_, hoT, hdT⟩, ⟨_, hoB, hdB⟩, hf⟩, rfl⟩⟩
    · skip
      replace h16 := of_decide_eq_false h16
      refine .cond_false rfl <| .skip <| .blk_normal <| .go <| .seq <| .region ?_
      refine .back hI19 ?_
      refine .thaw hJBt ?_
      refine .thaw hJTt ?_
      refine .thaw hJNt ?_
      refine .e (.move rfl) rfl rfl <| .e (.move rfl) rfl rfl <| .e (.nilCheck rfl) rfl rfl <| .e (.fieldAddr fo66_0 rfl) rfl rfl <| .e (.fieldAddr fo27_0 rfl) rfl rfl <| .e (.load ag22 rfl (.app <| .app <| .app <| .here) rfl) rfl rfl ?_
      refine .e (.move rfl) rfl rfl <| .e (.move rfl) rfl rfl <| .e (.add rfl rfl (by first | exact wrap_succ (by omega) | exact IntWalk.i64_in _ (by omega) | exact rfl)) rfl rfl ?_
      refine .on rfl <| .call cal58 rfl rfl rfl (delNod_ok hoN hdN (Nat.lt_succ_self _) hpos rfl rfl) fun v31 I31 O31 hI31 hK31 => ?_
      obtain ⟨hq31, ws31, ob31, ho31, hd31, rfl⟩ := hK31
      replace hq31 := hq31.symm
      subst hq31
      obtain ⟨ad31, cap31, rfl⟩ := ho31.form
      refine .e (.nilCheck rfl) rfl rfl <| .e (.fieldAddr fo66_0 rfl) rfl rfl <| .e (.fieldAddr fo27_0 rfl) rfl rfl <| .on rfl <| .store sz22 rfl rfl rfl rfl rfl rfl (.app <| .app <| .app <| .here) <| .nil <| .go ?_
      refine .seq <| .region <| .e (.assign rfl) rfl rfl <| .nil <| .go <| .ret ?_
      refine .front (.app <| .app <| .front) ?_
      refine .front (.app <| .app <| .front) ?_
      refine .front (.app <| .app <| .front) ?_
      refine .front1 (.app <| .app <| .app <| .here) ?_
      refine Post.rets rfl (.tmp rfl .nil) rfl (Imm.le_refl _) (fun w h => h) ?_
      rw [show goneR b s = ({ b with nodes := delAt b.nodes (posN b s) }, 0) by unfold goneR; rw [if_pos (show hasN b s = true from (Bool.not_eq_false' _).mp h13), if_neg (by omega)]]
      exact ⟨rfl, ⟨_, _, _, ob31, obT, obB, ⟨⟨ws31, ho31, hd31⟩, ⟨_, hoT, hdT⟩, ⟨_, hoB, hdB⟩, hf⟩, rfl⟩⟩

set_option maxHeartbeats 4000000 in
set_option maxRecDepth 20000 in
theorem kfree_ok {I : Imm} {O : Own} {kb : Nat} {b : Bk} {nv tv bv : Value} {obN obT obB : Own} (hk : BkO I b nv tv bv obN obT obB) (hok : BookOk b) {s : ByteArray} :
    Go.Sy.Does Tryz.prog 62 [.pointer (some ⟨kb, 0, none⟩), .string s] I ((kb, .cells ⟨b.cells nv tv bv⟩ 66 (0, 0)) :: (obN ++ (obT ++ (obB ++ O)))) (fun u I' O' => u = .bool (hasB b s) ∧ KeepP kb (freeR b s) I' O O') := by
  have hk0 := hk
  obtain ⟨⟨wsN, hoN, hdN⟩, ⟨wsT, hoT, hdT⟩, ⟨wsB, hoB, hdB⟩, hf⟩ := hk
  obtain ⟨adN, capN, rfl⟩ := hoN.form
  obtain ⟨adT, capT, rfl⟩ := hoT.form
  obtain ⟨adB, capB, rfl⟩ := hoB.form
  have hcN := hoN.capLe
  have hcT := hoT.capLe
  have hcB := hoB.capLe
  have hzN := hoN.lenLe
  have hzT := hoT.lenLe
  have hzB := hoB.lenLe
  have hbn := hok.nodes
  have hbt := hok.tasks
  have hbb := hok.binds
  refine Go.Sy.Does.enter Tryz.func62 rfl Tryz.ntmps62 rfl ?_
  refine .seq <| .region <| .e (.assign rfl) rfl rfl <| .nil <| .go <| .seq ?_
  refine .region <| .e (.move rfl) rfl rfl <| .e (.move rfl) rfl rfl ?_
  refine .front (.there <| .front) ?_
  refine .lend hoN fun JN hJN hJNs hJNt => ?_
  refine .front (.there <| .front) ?_
  refine .lend hoT fun JT hJT hJTs hJTt => ?_
  refine .front (.there <| .front) ?_
  refine .lend hoB fun JB hJB hJBs hJBt => ?_
  have hkR : BkR JB (Bk.cells b (.slice adN b.nodes.length capN) (.slice adT b.tasks.length capT) (.slice adB b.binds.length capB)) b := ⟨⟨_, _, _, rfl, NodsR.mono (Imm.le_trans hJT hJB) (hJNs (R := NodR) (hdN.mono fun _ _ h => h.mono hJN) rfl), TsksR.mono hJB (hJTs (R := TskR) (hdT.mono fun _ _ h => h.mono (Imm.le_trans hJN hJT)) rfl), hJBs (R := BndR) (hdB.mono fun _ _ h => h) rfl⟩, hf⟩
  refine .on rfl <| .callP cal60 rfl rfl rfl (kbind_ok .here hkR hok.rb hok.hsb) <| .e (.move rfl) rfl rfl <| .e (.extract rfl rfl) rfl rfl <| .e (.extract rfl rfl) rfl rfl <| .e (.assign rfl) rfl rfl <| .e (.assign rfl) rfl rfl ?_
  refine .nil <| .go <| .seq <| .seq <| .region ?_
  refine .thaw hJBt ?_
  refine .thaw hJTt ?_
  refine .thaw hJNt ?_
  refine .e (.move rfl) rfl rfl <| .nil <| .go ?_
  refine .split 13 rfl (fun h13 => ?_) (fun h13 => ?_)
  · skip
    have hpos := (has_get hok.rb h13).1
    refine .cond_true rfl <| .region <| .e (.move rfl) rfl rfl <| .e (.move rfl) rfl rfl <| .e (.nilCheck rfl) rfl rfl <| .e (.fieldAddr fo66_0 rfl) rfl rfl ?_
    refine .e (.fieldAddr fo27_2 rfl) rfl rfl <| .e (.load ag24 rfl (.app <| .app <| .app <| .here) rfl) rfl rfl <| .e (.move rfl) rfl rfl <| .e (.move rfl) rfl rfl <| .e (.add rfl rfl (by first | exact wrap_succ (by omega) | exact IntWalk.i64_in _ (by omega) | exact rfl)) rfl rfl ?_
    refine .front (.app <| .app <| .front) ?_
    refine .on rfl <| .call cal98 rfl rfl rfl (delBnd_ok hoB hdB (Nat.lt_succ_self _) hpos rfl rfl) fun v23 I23 O23 hI23 hK23 => ?_
    obtain ⟨hq23, ws23, ob23, ho23, hd23, rfl⟩ := hK23
    replace hq23 := hq23.symm
    subst hq23
    obtain ⟨ad23, cap23, rfl⟩ := ho23.form
    refine .e (.nilCheck rfl) rfl rfl <| .e (.fieldAddr fo66_0 rfl) rfl rfl <| .e (.fieldAddr fo27_2 rfl) rfl rfl <| .on rfl <| .store sz24 rfl rfl rfl rfl rfl rfl (.app <| .app <| .app <| .here) <| .nil <| .go ?_
    refine .seq <| .region <| .e (.move rfl) rfl rfl <| .e (.assign rfl) rfl rfl <| .nil <| .go ?_
    refine .ret ?_
    refine .front (.app <| .app <| .front) ?_
    refine .front (.app <| .app <| .front) ?_
    refine .front1 (.app <| .app <| .app <| .here) ?_
    refine Post.rets rfl (.tmp rfl .nil) rfl (Imm.le_refl _) (fun w h => h) ?_
    rw [show freeR b s = { b with binds := delAt b.binds (posB b s) } by unfold freeR; rw [if_pos (show hasB b s = true from h13)]]
    exact ⟨rfl, ⟨_, _, _, obN, obT, ob23, ⟨⟨_, hoN, hdN⟩, ⟨_, hoT, hdT⟩, ⟨ws23, ho23, hd23⟩, hf⟩, rfl⟩⟩
  · skip
    refine .cond_false rfl <| .skip <| .go <| .seq <| .region <| .e (.move rfl) rfl rfl ?_
    refine .e (.assign rfl) rfl rfl <| .nil <| .go <| .ret ?_
    refine .front (.app <| .app <| .front) ?_
    refine .front (.app <| .app <| .front) ?_
    refine .front (.app <| .app <| .front) ?_
    refine .front1 (.app <| .app <| .app <| .here) ?_
    refine Post.rets rfl (.tmp rfl .nil) rfl (Imm.le_refl _) (fun w h => h) ?_
    rw [show freeR b s = b by unfold freeR; rw [if_neg (show ¬hasB b s = true from Bool.eq_false_iff.1 h13)]]
    exact ⟨rfl, ⟨_, _, _, obN, obT, obB, ⟨⟨_, hoN, hdN⟩, ⟨_, hoT, hdT⟩, ⟨_, hoB, hdB⟩, hf⟩, rfl⟩⟩

set_option maxHeartbeats 4000000 in
set_option maxRecDepth 20000 in
theorem kplace_ok {I : Imm} {O : Own} {kb : Nat} {b : Bk} {nv tv bv : Value} {obN obT obB : Own} (hk : BkO I b nv tv bv obN obT obB) (hok : BookOk b) {oc : List Value} {o : Ordr} (ho : OrdrR I oc o) :
    Go.Sy.Does Tryz.prog 21 [.pointer (some ⟨kb, 0, none⟩), .agg ⟨oc⟩] I ((kb, .cells ⟨b.cells nv tv bv⟩ 66 (0, 0)) :: (obN ++ (obT ++ (obB ++ O)))) (fun u I' O' => u = .int .i64 (placeR b o).2 ∧ KeepP kb (placeR b o).1 I' O O') := by
  have ho0 := ho
  obtain ⟨lv, tv, wv, bv, rfl, hon, holv, hotv, hot, howv, hobv⟩ := ho.ex
  have hkd := ho0.kind
  obtain ⟨olva, olvc, rfl, -⟩ := holv
  obtain ⟨otva, otvc, rfl, -⟩ := hotv
  obtain ⟨owva, owvc, rfl, -⟩ := howv
  obtain ⟨obva, obvc, rfl, -⟩ := hobv
  have hk0 := hk
  obtain ⟨⟨wsN, hoN, hdN⟩, ⟨wsT, hoT, hdT⟩, ⟨wsB, hoB, hdB⟩, hf⟩ := hk
  obtain ⟨adN, capN, rfl⟩ := hoN.form
  obtain ⟨adT, capT, rfl⟩ := hoT.form
  obtain ⟨adB, capB, rfl⟩ := hoB.form
  have hcN := hoN.capLe
  have hcT := hoT.capLe
  have hcB := hoB.capLe
  have hzN := hoN.lenLe
  have hzT := hoT.lenLe
  have hzB := hoB.lenLe
  have hbn := hok.nodes
  have hbt := hok.tasks
  have hbb := hok.binds
  refine Go.Sy.Does.enter Tryz.func21 rfl Tryz.ntmps21 rfl ?_
  refine .seq <| .region <| .on rfl <| .box rfl rfl rfl fun c1 _ _ => .e (.assign rfl) rfl rfl <| .nil <| .go ?_
  refine .seq <| .seq ?_
  refine .draw [(c1, _)] mixed (.cons .here .nil) ?_
  refine .t 0 rfl (.fieldAddr fo36_5 rfl) rfl rfl (by kernel_rfl) <| .t 1 rfl (.load ag25 rfl .here rfl) rfl rfl (by kernel_rfl) <| .t 2 rfl (.move rfl) rfl rfl (by kernel_rfl) <| .t 3 rfl (.nilCheck rfl) rfl rfl (by kernel_rfl) <| .t 4 rfl (.fieldAddr fo66_0 rfl) rfl rfl (by kernel_rfl) <| .t 5 rfl (.fieldAddr fo27_3 rfl) rfl rfl (by kernel_rfl) ?_
  refine .one (i := 6) (by kernel_rfl) rfl rfl ?_
  refine .ev (.load ag25 rfl (.there <| .here) rfl) rfl ⟨(.cons .here .nil), Imm.le_refl _, ?_⟩
  refine .t 7 rfl (.lss rfl rfl) rfl rfl (by kernel_rfl) <| .done (by kernel_rfl) <| .go ?_
  refine .split 15 rfl (fun h15 => ?_) (fun h15 => ?_)
  · skip
    replace h15 := of_decide_eq_true h15
    refine .cond_true rfl <| .seq <| .region <| .e (.assign rfl) rfl rfl <| .nil <| .go ?_
    refine .ret <| .ret ?_
    refine .tail ?_
    refine Post.rets rfl (.tmp rfl .nil) rfl (Imm.le_refl _) (fun w h => h) ?_
    rw [show placeR b o = (b, 14) by unfold placeR; rw [if_pos h15]]
    exact ⟨rfl, ⟨_, _, _, obN, obT, obB, ⟨⟨_, hoN, hdN⟩, ⟨_, hoT, hdT⟩, ⟨_, hoB, hdB⟩, hf⟩, rfl⟩⟩
  · skip
    replace h15 := of_decide_eq_false h15
    refine .cond_false rfl <| .skip <| .go <| .seq <| .region <| .e (.move rfl) rfl rfl ?_
    refine .e (.fieldAddr fo36_3 rfl) rfl rfl <| .e (.load ag9 rfl .here rfl) rfl rfl <| .e (.fieldAddr fo36_4 rfl) rfl rfl <| .e (.load ag9 rfl .here rfl) rfl rfl ?_
    refine .front (.there <| .there <| .front) ?_
    refine .lend hoN fun JN hJN hJNs hJNt => ?_
    refine .front (.there <| .there <| .front) ?_
    refine .lend hoT fun JT hJT hJTs hJTt => ?_
    refine .front (.there <| .there <| .front) ?_
    refine .lend hoB fun JB hJB hJBs hJBt => ?_
    have hkR : BkR JB (Bk.cells b (.slice adN b.nodes.length capN) (.slice adT b.tasks.length capT) (.slice adB b.binds.length capB)) b := ⟨⟨_, _, _, rfl, NodsR.mono (Imm.le_trans hJT hJB) (hJNs (R := NodR) (hdN.mono fun _ _ h => h.mono hJN) rfl), TsksR.mono hJB (hJTs (R := TskR) (hdT.mono fun _ _ h => h.mono (Imm.le_trans hJN hJT)) rfl), hJBs (R := BndR) (hdB.mono fun _ _ h => h) rfl⟩, hf⟩
    refine .on rfl <| .callP cal59 rfl rfl rfl (kcan_ok (.there <| .here) hkR hok.rn hok.rt hok.rb hok.hsn hok.hst hok.binds) <| .e (.assign rfl) rfl rfl <| .nil <| .go <| .seq <| .seq ?_
    refine .region ?_
    refine .thaw hJBt ?_
    refine .thaw hJTt ?_
    refine .thaw hJNt ?_
    refine .e (.move rfl) rfl rfl <| .e (.eql rfl rfl) rfl rfl <| .nil <| .go ?_
    refine .split 23 rfl (fun h23 => ?_) (fun h23 => ?_)
    · skip
      replace h23 := of_decide_eq_true h23
      refine .cond_true rfl <| .seq <| .region <| .e (.move rfl) rfl rfl <| .e (.fieldAddr fo36_3 rfl) rfl rfl <| .e (.load ag9 rfl (.app <| .app <| .app <| .here) rfl) rfl rfl ?_
      refine .lend hoN fun JN hJN hJNs hJNt => ?_
      refine .lend hoT fun JT hJT hJTs hJTt => ?_
      refine .lend hoB fun JB hJB hJBs hJBt => ?_
      have hkR : BkR JB (Bk.cells b (.slice adN b.nodes.length capN) (.slice adT b.tasks.length capT) (.slice adB b.binds.length capB)) b := ⟨⟨_, _, _, rfl, NodsR.mono (Imm.le_trans hJT hJB) (hJNs (R := NodR) (hdN.mono fun _ _ h => h.mono hJN) rfl), TsksR.mono hJB (hJTs (R := TskR) (hdT.mono fun _ _ h => h.mono (Imm.le_trans hJN hJT)) rfl), hJBs (R := BndR) (hdB.mono fun _ _ h => h) rfl⟩, hf⟩
      refine .on rfl <| .callP cal60 rfl rfl rfl (kbind_ok (.there <| .here) hkR hok.rb hok.hsb) <| .e (.move rfl) rfl rfl <| .e (.extract rfl rfl) rfl rfl <| .e (.extract rfl rfl) rfl rfl <| .e (.assign rfl) rfl rfl ?_
      refine .thaw hJBt ?_
      refine .thaw hJTt ?_
      refine .thaw hJNt ?_
      refine .e (.assign rfl) rfl rfl <| .nil <| .go ?_
      refine .draw [(c1, _)] mixed (.cons (.app <| .app <| .app <| .here) .nil) ?_
      refine .t 0 rfl (.move rfl) rfl rfl (by kernel_rfl) <| .t 1 rfl (.move rfl) rfl rfl (by kernel_rfl) <| .t 2 rfl (.nilCheck rfl) rfl rfl (by kernel_rfl) <| .t 3 rfl (.fieldAddr fo66_0 rfl) rfl rfl (by kernel_rfl) <| .t 4 rfl (.fieldAddr fo27_2 rfl) rfl rfl (by kernel_rfl) <| .t 6 rfl (.move rfl) rfl rfl (by kernel_rfl) ?_
      refine .t 7 rfl (.fieldAddr fo36_3 rfl) rfl rfl (by kernel_rfl) <| .t 8 rfl (.load ag9 rfl .here rfl) rfl rfl (by kernel_rfl) <| .t 9 rfl (.fieldAddr fo36_4 rfl) rfl rfl (by kernel_rfl) <| .t 10 rfl (.load ag9 rfl .here rfl) rfl rfl (by kernel_rfl) <| .t 11 rfl (.build bs47 zv47 rfl rfl) rfl rfl (by kernel_rfl) ?_
      refine .all (rs := [5, 12]) (by kernel_rfl) (by simp) ⟨⟨_, rfl, .inl ⟨rfl, ?_⟩⟩, ⟨⟨_, rfl, .inl ⟨rfl, ?_⟩⟩, trivial⟩⟩
      · skip
        refine .ev (.load ag24 rfl (.app <| .app <| .app <| .there <| .here) rfl) rfl ⟨(.cons (.app <| .app <| .app <| .here) .nil), Imm.le_refl _, ?_⟩
        refine .one (i := 12) (by kernel_rfl) rfl rfl <| .buildSlice Tryz.underlying24 sz47 (by decide) (by decide) zv47 rfl rfl rfl rfl rfl fun c2 _ _ => ?_
        refine ⟨(.cons (.there <| .app <| .app <| .app <| .here) .nil), Imm.le_refl _, ?_⟩
        refine .front (.there <| .app <| .app <| .front) ?_
        refine .one (i := 13) (by kernel_rfl) rfl rfl <| .call cal61 rfl rfl rfl (insBnd_ok hoB hdB (x := ⟨o.name, o.on⟩) ⟨rfl, ho0.name, ho0.on⟩ pos_le (by have := hok.binds; omega)) fun v44 I44 O44 hI44 hK44 => ?_
        obtain ⟨hq44, ws44, ob44, ho44, hd44, rfl⟩ := hK44
        replace hq44 := hq44.symm
        subst hq44
        obtain ⟨ad44, cap44, rfl⟩ := ho44.form
        refine ⟨(.cons (.app <| .app <| .app <| .here) .nil), Imm.le_refl _, ?_⟩
        refine .t 14 rfl (.nilCheck rfl) rfl rfl (by kernel_rfl) <| .t 15 rfl (.fieldAddr fo66_0 rfl) rfl rfl (by kernel_rfl) <| .t 16 rfl (.fieldAddr fo27_2 rfl) rfl rfl (by kernel_rfl) <| .one (i := 17) (by kernel_rfl) rfl rfl <| .store sz24 rfl rfl rfl rfl rfl rfl (.app <| .app <| .app <| .there <| .here) ?_
        refine ⟨(.cons (.app <| .app <| .app <| .here) .nil), Imm.le_refl _, ?_⟩
        refine .done (by kernel_rfl) <| .go <| .seq <| .region <| .e (.move rfl) rfl rfl <| .e (.assign rfl) rfl rfl ?_
        refine .nil <| .go <| .ret ?_
        refine .front1 (.app <| .app <| .app <| .here) ?_
        refine .tail ?_
        refine .front (.app <| .app <| .front) ?_
        refine .front (.app <| .app <| .front) ?_
        refine .front1 (.app <| .app <| .app <| .here) ?_
        refine Post.rets rfl (.tmp rfl .nil) rfl (Imm.le_refl _) (fun w h => h) ?_
        rw [show placeR b o = ({ b with binds := insAt b.binds (posB b o.name) ⟨o.name, o.on⟩ }, 0) by unfold placeR; rw [if_neg h15, if_pos h23]]
        exact ⟨congrArg (Value.int .i64) h23, ⟨_, _, _, obN, obT, ob44, ⟨⟨wsN, hoN, hdN⟩, ⟨wsT, hoT, hdT⟩, ⟨ws44, by dsimp only; rw [insAt_len (show posB b o.name ≤ _ from pos_le)]; exact ho44, hd44⟩, hf⟩, rfl⟩⟩
      · skip
        refine .buildSlice Tryz.underlying24 sz47 (by decide) (by decide) zv47 rfl rfl rfl rfl rfl fun c3 _ _ => ?_
        refine ⟨(.cons (.there <| .app <| .app <| .app <| .here) .nil), Imm.le_refl _, ?_⟩
        refine .one (i := 5) (by kernel_rfl) rfl rfl ?_
        refine .ev (.load ag24 rfl (.there <| .app <| .app <| .app <| .there <| .here) rfl) rfl ⟨(.cons (.there <| .app <| .app <| .app <| .here) .nil), Imm.le_refl _, ?_⟩
        refine .front (.there <| .app <| .app <| .front) ?_
        refine .one (i := 13) (by kernel_rfl) rfl rfl <| .call cal61 rfl rfl rfl (insBnd_ok hoB hdB (x := ⟨o.name, o.on⟩) ⟨rfl, ho0.name, ho0.on⟩ pos_le (by have := hok.binds; omega)) fun v44 I44 O44 hI44 hK44 => ?_
        obtain ⟨hq44, ws44, ob44, ho44, hd44, rfl⟩ := hK44
        replace hq44 := hq44.symm
        subst hq44
        obtain ⟨ad44, cap44, rfl⟩ := ho44.form
        refine ⟨(.cons (.app <| .app <| .app <| .here) .nil), Imm.le_refl _, ?_⟩
        refine .t 14 rfl (.nilCheck rfl) rfl rfl (by kernel_rfl) <| .t 15 rfl (.fieldAddr fo66_0 rfl) rfl rfl (by kernel_rfl) <| .t 16 rfl (.fieldAddr fo27_2 rfl) rfl rfl (by kernel_rfl) <| .one (i := 17) (by kernel_rfl) rfl rfl <| .store sz24 rfl rfl rfl rfl rfl rfl (.app <| .app <| .app <| .there <| .here) ?_
        refine ⟨(.cons (.app <| .app <| .app <| .here) .nil), Imm.le_refl _, ?_⟩
        refine .done (by kernel_rfl) <| .go <| .seq <| .region <| .e (.move rfl) rfl rfl <| .e (.assign rfl) rfl rfl ?_
        refine .nil <| .go <| .ret ?_
        refine .front1 (.app <| .app <| .app <| .here) ?_
        refine .tail ?_
        refine .front (.app <| .app <| .front) ?_
        refine .front (.app <| .app <| .front) ?_
        refine .front1 (.app <| .app <| .app <| .here) ?_
        refine Post.rets rfl (.tmp rfl .nil) rfl (Imm.le_refl _) (fun w h => h) ?_
        rw [show placeR b o = ({ b with binds := insAt b.binds (posB b o.name) ⟨o.name, o.on⟩ }, 0) by unfold placeR; rw [if_neg h15, if_pos h23]]
        exact ⟨congrArg (Value.int .i64) h23, ⟨_, _, _, obN, obT, ob44, ⟨⟨wsN, hoN, hdN⟩, ⟨wsT, hoT, hdT⟩, ⟨ws44, by dsimp only; rw [insAt_len (show posB b o.name ≤ _ from pos_le)]; exact ho44, hd44⟩, hf⟩, rfl⟩⟩
    · skip
      replace h23 := of_decide_eq_false h23
      refine .cond_false rfl <| .skip <| .go <| .seq <| .region <| .e (.move rfl) rfl rfl ?_
      refine .e (.assign rfl) rfl rfl <| .nil <| .go <| .ret ?_
      refine .front1 (.app <| .app <| .app <| .here) ?_
      refine .tail ?_
      refine .front (.app <| .app <| .front) ?_
      refine .front (.app <| .app <| .front) ?_
      refine .front (.app <| .app <| .front) ?_
      refine .front1 (.app <| .app <| .app <| .here) ?_
      refine Post.rets rfl (.tmp rfl .nil) rfl (Imm.le_refl _) (fun w h => h) ?_
      rw [show placeR b o = (b, canR b o.name o.on) by unfold placeR; rw [if_neg h15, if_neg h23]]
      exact ⟨rfl, ⟨_, _, _, obN, obT, obB, ⟨⟨_, hoN, hdN⟩, ⟨_, hoT, hdT⟩, ⟨_, hoB, hdB⟩, hf⟩, rfl⟩⟩

end Go.Proofs.YtajpakifkinadaaGreatDoor
