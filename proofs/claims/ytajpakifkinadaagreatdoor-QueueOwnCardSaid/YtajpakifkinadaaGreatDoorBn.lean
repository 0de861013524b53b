/- Walks of functions over a symbolic memory, printed by a program of the session. -/
import Derived.Test.YtajpakifkinadaaGreatDoorBm
namespace Go.Proofs.YtajpakifkinadaaGreatDoor
open Go.Sy
set_option linter.unusedSimpArgs false
set_option linter.unusedVariables false

theorem onR_has {b : Bk} {s : ByteArray} (hr : Rising (fun x : Bnd => x.task) b.binds) (h : hasBy (fun x : Bnd => x.task) b.binds s = true) : onR b s = (b.binds[posBy (fun x : Bnd => x.task) b.binds s]'(has_get hr h).1).node := by
  unfold onR; rw [find_get hr h]
theorem onR_no {b : Bk} {s : ByteArray} (h : hasBy (fun x : Bnd => x.task) b.binds s = false) : onR b s = ⟨#[]⟩ := by
  unfold onR; rw [find_no h]
theorem _root_.Go.Sy.OrdrR.mono {I J : Imm} {cs : List Value} {o : Ordr} (hI : I.le J) (h : OrdrR I cs o) : OrdrR J cs o := by
  obtain ⟨lv, tv, wv, bv, e, h1, h2, h3, h4, h5, h6⟩ := h.ex
  exact ⟨⟨lv, tv, wv, bv, e, h1.mono hI, h2.mono hI, h3.mono hI, h4.mono hI, h5.mono hI, h6.mono hI⟩, h.kind, h.name, h.on, h.fence⟩
def bk0 : Bk := ⟨[], [], [], 0⟩
def stepR (b : Bk) (o : Ordr) : Bk × Int × ByteArray := if o.kind = 1 then ((addNR b o.node).1, (addNR b o.node).2, ⟨#[]⟩) else if o.kind = 3 then ((addTR b o.task).1, (addTR b o.task).2, ⟨#[]⟩) else if o.kind = 2 then ((goneR b o.name).1, (goneR b o.name).2, ⟨#[]⟩) else
  if o.kind = 5 then ((placeR b o).1, (placeR b o).2, ⟨#[]⟩) else ofR b o
def doR (b : Bk) (o : Ordr) : Bk × Int × ByteArray := if bookOk b = true then (if orderOk o = true then stepR b o else (b, 4, ⟨#[]⟩)) else (bk0, 10, ⟨#[]⟩)
def leadR (b : Bk) (t : Int) : Bk × Int := if bookOk b = true then ({ b with fence := max b.fence t }, 0) else (bk0, 10)
theorem bk0R {I : Imm} : BkO I bk0 (.slice none 0 0) (.slice none 0 0) (.slice none 0 0) [] [] [] := ⟨⟨[], OwnS.nil, DR.nil⟩, ⟨[], OwnS.nil, DR.nil⟩, ⟨[], OwnS.nil, DR.nil⟩, by unfold U64 bk0; decide⟩
theorem doR_no {b : Bk} {o : Ordr} (h : ¬bookWhy b = 0) : doR b o = (bk0, 10, ⟨#[]⟩) := by unfold doR; rw [(bookWhy_no h).1, if_neg (by simp)]
theorem doR_form {b : Bk} {o : Ordr} (h : bookWhy b = 0) (h2 : ¬orderWhy o = 0) : doR b o = (b, 4, ⟨#[]⟩) := by unfold doR; rw [bookWhy_ok h, (orderWhy_no h2).1, if_pos rfl, if_neg (by simp)]
theorem doR_step {b : Bk} {o : Ordr} (h : bookWhy b = 0) (h2 : orderWhy o = 0) : doR b o = stepR b o := by unfold doR; rw [bookWhy_ok h, orderWhy_ok h2, if_pos rfl, if_pos rfl]

set_option maxHeartbeats 8000000 in
set_option maxRecDepth 20000 in
theorem kof_ok {I : Imm} {O : Own} {kb : Nat} {b : Bk} {nv tv bv : Value} {obN obT obB : Own} (hk : BkO I b nv tv bv obN obT obB) (hok : BookOk b) {oc : List Value} {o : Ordr} (ho : OrdrR I oc o) :
    Go.Sy.Does Tryz.prog 22 [.pointer (some ⟨kb, 0, none⟩), .agg ⟨oc⟩] I ((kb, .cells ⟨b.cells nv tv bv⟩ 66 (0, 0)) :: (obN ++ (obT ++ (obB ++ O)))) (fun u I' O' => u = .agg ⟨[.int .i64 (ofR b o).2.1, .string (ofR b o).2.2]⟩ ∧ KeepP kb (ofR b o).1 I' O O') := by
  have ho0 := ho
  obtain ⟨lv, tv, wv, bv, rfl, hon, holv, hotv, hot, howv, hobv⟩ := ho.ex
  have hkd := ho0.kind
  obtain ⟨olva, olvc, rfl, -⟩ := holv
  obtain ⟨otva, otvc, rfl, -⟩ := hotv
  obtain ⟨owva, owvc, rfl, -⟩ := howv
  obtain ⟨obva, obvc, rfl, -⟩ := hobv
  have hk0 := hk
  obtain ⟨⟨wsN, hoN, hdN⟩, ⟨wsT, hoT, hdT⟩, ⟨wsB, hoB, hdB⟩, hf⟩ := hk
  obtain ⟨adN, capN, rfl⟩ := hoN.form
  obtain ⟨adT, capT, rfl⟩ := hoT.form
  obtain ⟨adB, capB, rfl⟩ := hoB.form
  have hcN := hoN.capLe
  have hcT := hoT.capLe
  have hcB := hoB.capLe
  have hzN := hoN.lenLe
  have hzT := hoT.lenLe
  have hzB := hoB.lenLe
  have hbn := hok.nodes
  have hbt := hok.tasks
  have hbb := hok.binds
  refine Go.Sy.Does.enter Tryz.func22 rfl Tryz.ntmps22 rfl ?_
  refine .seq <| .region <| .on rfl <| .box rfl rfl rfl fun c1 _ _ => .on rfl <| .alloc zr41 rfl fun c2 _ _ => .nil <| .go ?_
  refine .seq <| .region <| .e (.move rfl) rfl rfl <| .e (.fieldAddr fo36_3 rfl) rfl rfl <| .e (.load ag9 rfl (.there <| .here) rfl) rfl rfl ?_
  refine .front (.there <| .there <| .there <| .front) ?_
  refine .lend hoN fun JN hJN hJNs hJNt => ?_
  refine .front (.there <| .there <| .there <| .front) ?_
  refine .lend hoT fun JT hJT hJTs hJTt => ?_
  refine .front (.there <| .there <| .there <| .front) ?_
  refine .lend hoB fun JB hJB hJBs hJBt => ?_
  have hkR : BkR JB (Bk.cells b (.slice adN b.nodes.length capN) (.slice adT b.tasks.length capT) (.slice adB b.binds.length capB)) b := ⟨⟨_, _, _, rfl, NodsR.mono (Imm.le_trans hJT hJB) (hJNs (R := NodR) (hdN.mono fun _ _ h => h.mono hJN) rfl), TsksR.mono hJB (hJTs (R := TskR) (hdT.mono fun _ _ h => h.mono (Imm.le_trans hJN hJT)) rfl), hJBs (R := BndR) (hdB.mono fun _ _ h => h) rfl⟩, hf⟩
  refine .on rfl <| .callP cal45 rfl rfl rfl (ktask_ok (.there <| .there <| .here) hkR hok.rt hok.hst) <| .e (.move rfl) rfl rfl <| .e (.extract rfl rfl) rfl rfl <| .e (.extract rfl rfl) rfl rfl <| .e (.assign rfl) rfl rfl <| .e (.assign rfl) rfl rfl ?_
  refine .nil <| .go <| .seq <| .seq <| .region ?_
  refine .thaw hJBt ?_
  refine .thaw hJTt ?_
  refine .thaw hJNt ?_
  refine .e (.move rfl) rfl rfl <| .e (.not rfl) rfl rfl <| .nil <| .go ?_
  refine .split 17 rfl (fun h17 => ?_) (fun h17 => ?_)
  · skip
    refine .cond_true rfl <| .seq <| .region <| .e (.build bs41 zv41 rfl rfl) rfl rfl <| .on rfl <| .storeW sz41 rfl rfl rfl rfl rfl rfl (.app <| .app <| .app <| .here) <| .nil ?_
    refine .go <| .ret <| .ret ?_
    refine .front1 (.app <| .app <| .app <| .there <| .here) ?_
    refine .tail ?_
    refine .front1 (.app <| .app <| .app <| .here) ?_
    refine .front (.there <| .app <| .app <| .front) ?_
    refine .front (.app <| .there <| .app <| .front) ?_
    refine .front (.app <| .app <| .there <| .front) ?_
    refine .front1 (.app <| .app <| .app <| .there <| .here) ?_
    refine Post.rets rfl (.agg rfl ag41 sz41 (.there <| .app <| .app <| .app <| .here) rfl .nil) rfl (Imm.le_refl _) (fun w h => (Sat.tail (Sat.rem h (Rem.there <| Rem.app <| Rem.app <| Rem.app <| Rem.here)))) ?_
    rw [show ofR b o = (b, 6, ⟨#[]⟩) by unfold ofR; rw [if_neg (show ¬hasT b o.name = true from Bool.eq_false_iff.1 ((Bool.not_eq_true' _).mp h17))]]
    exact ⟨rfl, _, _, _, obN, obT, obB, ⟨⟨_, hoN, hdN⟩, ⟨_, hoT, hdT⟩, ⟨_, hoB, hdB⟩, hf⟩, rfl⟩
  · skip
    have hpos := (has_get hok.rt ((Bool.not_eq_false' _).mp h17)).1
    refine .cond_false rfl <| .skip <| .go <| .seq <| .seq <| .region ?_
    refine .e (.fieldAddr fo36_0 rfl) rfl rfl <| .e (.load ag28 rfl (.app <| .app <| .app <| .there <| .here) rfl) rfl rfl <| .nil <| .go <| .block <| .seq ?_
    refine .region <| .e (.eql rfl rfl) rfl rfl <| .e (.assign rfl) rfl rfl <| .nil <| .go ?_
    refine .split 21 rfl (fun h21 => ?_) (fun h21 => ?_)
    · skip
      replace h21 := of_decide_eq_true h21
      refine .cond_true rfl <| .seq <| .region <| .e (.move rfl) rfl rfl <| .e (.fieldAddr fo36_3 rfl) rfl rfl <| .e (.load ag9 rfl (.app <| .app <| .app <| .there <| .here) rfl) rfl rfl ?_
      refine .front1 (.app <| .app <| .app <| .there <| .here) ?_
      refine .front1 (.there <| .app <| .app <| .app <| .here) ?_
      refine .front (.there <| .there <| .app <| .app <| .front) ?_
      refine .front (.app <| .there <| .there <| .app <| .front) ?_
      refine .front (.app <| .app <| .there <| .there <| .front) ?_
      refine .front1 (.app <| .app <| .app <| .there <| .there <| .here) ?_
      refine .on rfl <| .call cal62 rfl rfl rfl (kfree_ok hk0 hok) fun v26 I26 O26 hI26 hK26 => ?_
      obtain ⟨hq26, nv26, tv26, bv26, obN26, obT26, obB26, hk26, rfl⟩ := hK26
      subst hq26
      have hk260 := hk26
      obtain ⟨⟨wsN26, hoN26, hdN26⟩, ⟨wsT26, hoT26, hdT26⟩, ⟨wsB26, hoB26, hdB26⟩, hf26⟩ := hk26
      obtain ⟨adN26, capN26, rfl⟩ := hoN26.form
      obtain ⟨adT26, capT26, rfl⟩ := hoT26.form
      obtain ⟨adB26, capB26, rfl⟩ := hoB26.form
      refine .nil <| .go <| .region <| .e (.move rfl) rfl rfl <| .e (.move rfl) rfl rfl <| .e (.nilCheck rfl) rfl rfl ?_
      refine .e (.fieldAddr fo66_0 rfl) rfl rfl <| .e (.fieldAddr fo27_1 rfl) rfl rfl <| .e (.load ag23 rfl .here rfl) rfl rfl <| .e (.move rfl) rfl rfl <| .e (.move rfl) rfl rfl <| .e (.add rfl rfl (by first | exact wrap_succ (by omega) | exact IntWalk.i64_in _ (by omega) | exact rfl)) rfl rfl ?_
      refine .front (.there <| .app <| .front) ?_
      refine .on rfl <| .call cal63 rfl rfl rfl (delTsk_ok hoT26 hdT26 (Nat.lt_succ_self _) (by rw [freeR_tasks]; exact hpos) rfl rfl) fun v36 I36 O36 hI36 hK36 => ?_
      obtain ⟨hq36, ws36, ob36, ho36, hd36, rfl⟩ := hK36
      replace hq36 := hq36.symm
      subst hq36
      obtain ⟨ad36, cap36, rfl⟩ := ho36.form
      refine .e (.nilCheck rfl) rfl rfl <| .e (.fieldAddr fo66_0 rfl) rfl rfl <| .e (.fieldAddr fo27_1 rfl) rfl rfl <| .on rfl <| .store sz23 rfl rfl rfl rfl rfl rfl (.app <| .here) <| .nil <| .blk_normal ?_
      refine .go <| .seq <| .region <| .e (.loadW ag41 sz41 rfl (.app <| .there <| .app <| .app <| .here) rfl) rfl rfl <| .on rfl <| .storeW sz41 rfl rfl rfl rfl rfl rfl (.app <| .there <| .app <| .app <| .here) <| .nil ?_
      refine .go <| .ret ?_
      refine .front1 (.app <| .there <| .app <| .app <| .there <| .here) ?_
      refine .tail ?_
      refine .front (.app <| .there <| .front) ?_
      refine .front1 (.app <| .app <| .here) ?_
      refine Post.rets rfl (.agg rfl ag41 sz41 (.there <| .app <| .app <| .app <| .here) rfl .nil) rfl hI26 (fun w h => (Sat.tail (Sat.rem h (Rem.there <| Rem.app <| Rem.app <| Rem.app <| Rem.here)))) ?_
      rw [show ofR b o = ({ freeR b o.name with tasks := delAt (freeR b o.name).tasks (posT b o.name) }, 0, ⟨#[]⟩) by unfold ofR; rw [if_pos (show hasT b o.name = true from (Bool.not_eq_false' _).mp h17), if_pos h21]]
      exact ⟨rfl, _, _, _, obN26, ob36, obB26, ⟨⟨_, hoN26, hdN26⟩, ⟨ws36, ho36, hd36⟩, ⟨_, hoB26, hdB26⟩, hf26⟩, rfl⟩
    · skip
      replace h21 := of_decide_eq_false h21
      refine .cond_false rfl <| .seq <| .region <| .e (.eql rfl rfl) rfl rfl <| .e (.assign rfl) rfl rfl <| .nil ?_
      refine .go ?_
      refine .split 40 rfl (fun h40 => ?_) (fun h40 => ?_)
      · skip
        replace h40 := of_decide_eq_true h40
        refine .cond_true rfl <| .seq <| .region <| .e (.move rfl) rfl rfl <| .e (.fieldAddr fo36_3 rfl) rfl rfl <| .e (.load ag9 rfl (.app <| .app <| .app <| .there <| .here) rfl) rfl rfl ?_
        refine .front1 (.app <| .app <| .app <| .there <| .here) ?_
        refine .front1 (.there <| .app <| .app <| .app <| .here) ?_
        refine .front (.there <| .there <| .app <| .app <| .front) ?_
        refine .front (.app <| .there <| .there <| .app <| .front) ?_
        refine .front (.app <| .app <| .there <| .there <| .front) ?_
        refine .front1 (.app <| .app <| .app <| .there <| .there <| .here) ?_
        refine .on rfl <| .call cal62 rfl rfl rfl (kfree_ok hk0 hok) fun v45 I45 O45 hI45 hK45 => ?_
        obtain ⟨hq45, nv45, tv45, bv45, obN45, obT45, obB45, hk45, rfl⟩ := hK45
        subst hq45
        have hk450 := hk45
        obtain ⟨⟨wsN45, hoN45, hdN45⟩, ⟨wsT45, hoT45, hdT45⟩, ⟨wsB45, hoB45, hdB45⟩, hf45⟩ := hk45
        obtain ⟨adN45, capN45, rfl⟩ := hoN45.form
        obtain ⟨adT45, capT45, rfl⟩ := hoT45.form
        obtain ⟨adB45, capB45, rfl⟩ := hoB45.form
        refine .e (.not rfl) rfl rfl <| .nil <| .go ?_
        refine .split 46 rfl (fun h46 => ?_) (fun h46 => ?_)
        · skip
          refine .cond_true rfl <| .region <| .e (.fieldAddr fo41_0 rfl) rfl rfl <| .on rfl <| .store sz39 rfl rfl rfl rfl rfl rfl (.there <| .app <| .app <| .app <| .here) <| .nil <| .blk_normal ?_
          refine .go <| .seq <| .region <| .e (.loadW ag41 sz41 rfl (.there <| .app <| .app <| .app <| .here) rfl) rfl rfl <| .on rfl <| .storeW sz41 rfl rfl rfl rfl rfl rfl (.there <| .app <| .app <| .app <| .here) <| .nil ?_
          refine .go <| .ret ?_
          refine .front1 (.there <| .app <| .app <| .app <| .there <| .here) ?_
          refine .tail ?_
          refine Post.rets rfl (.agg rfl ag41 sz41 (.there <| .app <| .app <| .app <| .here) rfl .nil) rfl hI45 (fun w h => (Sat.tail (Sat.rem h (Rem.there <| Rem.app <| Rem.app <| Rem.app <| Rem.here)))) ?_
          rw [show ofR b o = (freeR b o.name, 10, ⟨#[]⟩) by unfold ofR; rw [if_pos (show hasT b o.name = true from (Bool.not_eq_false' _).mp h17), if_neg h21, if_pos h40, if_neg (show ¬hasB b o.name = true from Bool.eq_false_iff.1 ((Bool.not_eq_true' _).mp h46))]]
          exact ⟨rfl, _, _, _, obN45, obT45, obB45, hk450, rfl⟩
        · skip
          refine .cond_false rfl <| .skip <| .blk_normal <| .go <| .seq <| .region ?_
          refine .e (.loadW ag41 sz41 rfl (.there <| .app <| .app <| .app <| .here) rfl) rfl rfl <| .on rfl <| .storeW sz41 rfl rfl rfl rfl rfl rfl (.there <| .app <| .app <| .app <| .here) <| .nil <| .go <| .ret ?_
          refine .front1 (.there <| .app <| .app <| .app <| .there <| .here) ?_
          refine .tail ?_
          refine Post.rets rfl (.agg rfl ag41 sz41 (.there <| .app <| .app <| .app <| .here) rfl .nil) rfl hI45 (fun w h => (Sat.tail (Sat.rem h (Rem.there <| Rem.app <| Rem.app <| Rem.app <| Rem.here)))) ?_
          rw [show ofR b o = (freeR b o.name, 0, ⟨#[]⟩) by unfold ofR; rw [if_pos (show hasT b o.name = true from (Bool.not_eq_false' _).mp h17), if_neg h21, if_pos h40, if_pos (show hasB b o.name = true from (Bool.not_eq_false' _).mp h46)]]
          exact ⟨rfl, _, _, _, obN45, obT45, obB45, hk450, rfl⟩
      · skip
        replace h40 := of_decide_eq_false h40
        refine .cond_false rfl <| .seq <| .region <| .e (.eql rfl rfl) rfl rfl <| .e (.assign rfl) rfl rfl <| .nil ?_
        refine .go ?_
        refine .split 48 rfl (fun h48 => ?_) (fun h48 => ?_)
        · skip
          replace h48 := of_decide_eq_true h48
          refine .cond_true rfl <| .seq <| .region <| .e (.move rfl) rfl rfl <| .e (.fieldAddr fo36_3 rfl) rfl rfl <| .e (.load ag9 rfl (.app <| .app <| .app <| .there <| .here) rfl) rfl rfl ?_
          refine .lend hoN fun JN hJN hJNs hJNt => ?_
          refine .lend hoT fun JT hJT hJTs hJTt => ?_
          refine .lend hoB fun JB hJB hJBs hJBt => ?_
          have hkR : BkR JB (Bk.cells b (.slice adN b.nodes.length capN) (.slice adT b.tasks.length capT) (.slice adB b.binds.length capB)) b := ⟨⟨_, _, _, rfl, NodsR.mono (Imm.le_trans hJT hJB) (hJNs (R := NodR) (hdN.mono fun _ _ h => h.mono hJN) rfl), TsksR.mono hJB (hJTs (R := TskR) (hdT.mono fun _ _ h => h.mono (Imm.le_trans hJN hJT)) rfl), hJBs (R := BndR) (hdB.mono fun _ _ h => h) rfl⟩, hf⟩
          refine .on rfl <| .callP cal60 rfl rfl rfl (kbind_ok (.there <| .there <| .here) hkR hok.rb hok.hsb) <| .e (.move rfl) rfl rfl <| .e (.extract rfl rfl) rfl rfl <| .e (.extract rfl rfl) rfl rfl <| .e (.assign rfl) rfl rfl <| .e (.assign rfl) rfl rfl ?_
          refine .nil <| .go <| .seq <| .region <| .e (.move rfl) rfl rfl <| .nil ?_
          refine .go ?_
          refine .split 57 rfl (fun h57 => ?_) (fun h57 => ?_)
          · skip
            obtain ⟨hpb, -⟩ := has_get hok.rb h57
            refine .cond_true rfl <| .region <| .e (.move rfl) rfl rfl <| .e (.nilCheck rfl) rfl rfl <| .e (.fieldAddr fo66_0 rfl) rfl rfl <| .e (.fieldAddr fo27_2 rfl) rfl rfl ?_
            refine .e (.load ag24 rfl (.there <| .there <| .here) rfl) rfl rfl <| .e (.move rfl) rfl rfl ?_
            obtain ⟨eb64, eo64, cs64, hd64, hat64, hr64⟩ := SlR.at_ (hJBs (R := BndR) (hdB.mono fun _ _ h => h) rfl) (k := posBy (fun x : Bnd => x.task) b.binds o.name) hpb
            cases hd64
            have hx64 := hr64
            obtain ⟨rfl, hx64a, hx64b⟩ := hr64
            refine .e (.indexAddrL sl24 rfl rfl rfl hpb) rfl rfl <| .e (.fieldAddr fo47_1 rfl) rfl rfl <| .e (.loadI ag9 rfl (hat64.cell (j := 1) rfl)) rfl rfl <| .e (.fieldAddr fo41_1 rfl) rfl rfl <| .on rfl <| .store sz9 rfl rfl rfl rfl rfl rfl .here <| .nil ?_
            refine .blk_normal <| .go <| .seq <| .region ?_
            refine .thaw hJBt ?_
            refine .thaw hJTt ?_
            refine .thaw hJNt ?_
            refine .e (.loadW ag41 sz41 rfl (.app <| .app <| .app <| .here) rfl) rfl rfl <| .on rfl <| .storeW sz41 rfl rfl rfl rfl rfl rfl (.app <| .app <| .app <| .here) <| .nil <| .go <| .ret ?_
            refine .front1 (.app <| .app <| .app <| .there <| .here) ?_
            refine .tail ?_
            refine .front1 (.app <| .app <| .app <| .here) ?_
            refine .front (.there <| .app <| .app <| .front) ?_
            refine .front (.app <| .there <| .app <| .front) ?_
            refine .front (.app <| .app <| .there <| .front) ?_
            refine .front1 (.app <| .app <| .app <| .there <| .here) ?_
            refine Post.rets rfl (.agg rfl ag41 sz41 (.there <| .app <| .app <| .app <| .here) rfl .nil) rfl (Imm.le_refl _) (fun w h => (Sat.tail (Sat.rem h (Rem.there <| Rem.app <| Rem.app <| Rem.app <| Rem.here)))) ?_
            rw [show ofR b o = (b, 0, (b.binds[posBy (fun x : Bnd => x.task) b.binds o.name]'(has_get hok.rb h57).1).node) by unfold ofR; rw [if_pos (show hasT b o.name = true from (Bool.not_eq_false' _).mp h17), if_neg h21, if_neg h40, if_pos h48, onR_has hok.rb h57]]
            exact ⟨rfl, _, _, _, obN, obT, obB, ⟨⟨_, hoN, hdN⟩, ⟨_, hoT, hdT⟩, ⟨_, hoB, hdB⟩, hf⟩, rfl⟩
          · skip
            refine .cond_false rfl <| .skip <| .blk_normal <| .go <| .seq <| .region ?_
            refine .thaw hJBt ?_
            refine .thaw hJTt ?_
            refine .thaw hJNt ?_
            refine .e (.loadW ag41 sz41 rfl (.app <| .app <| .app <| .here) rfl) rfl rfl <| .on rfl <| .storeW sz41 rfl rfl rfl rfl rfl rfl (.app <| .app <| .app <| .here) <| .nil <| .go <| .ret ?_
            refine .front1 (.app <| .app <| .app <| .there <| .here) ?_
            refine .tail ?_
            refine .front1 (.app <| .app <| .app <| .here) ?_
            refine .front (.there <| .app <| .app <| .front) ?_
            refine .front (.app <| .there <| .app <| .front) ?_
            refine .front (.app <| .app <| .there <| .front) ?_
            refine .front1 (.app <| .app <| .app <| .there <| .here) ?_
            refine Post.rets rfl (.agg rfl ag41 sz41 (.there <| .app <| .app <| .app <| .here) rfl .nil) rfl (Imm.le_refl _) (fun w h => (Sat.tail (Sat.rem h (Rem.there <| Rem.app <| Rem.app <| Rem.app <| Rem.here)))) ?_
            rw [show ofR b o = (b, 0, ⟨#[]⟩) by unfold ofR; rw [if_pos (show hasT b o.name = true from (Bool.not_eq_false' _).mp h17), if_neg h21, if_neg h40, if_pos h48, onR_no h57]]
            exact ⟨rfl, _, _, _, obN, obT, obB, ⟨⟨_, hoN, hdN⟩, ⟨_, hoT, hdT⟩, ⟨_, hoB, hdB⟩, hf⟩, rfl⟩
        · skip
          replace h48 := of_decide_eq_false h48
          refine .cond_false rfl <| .skip <| .blk_normal <| .go <| .seq <| .region ?_
          refine .e (.loadW ag41 sz41 rfl (.app <| .app <| .app <| .here) rfl) rfl rfl <| .on rfl <| .storeW sz41 rfl rfl rfl rfl rfl rfl (.app <| .app <| .app <| .here) <| .nil <| .go <| .ret ?_
          refine .front1 (.app <| .app <| .app <| .there <| .here) ?_
          refine .tail ?_
          refine .front1 (.app <| .app <| .app <| .here) ?_
          refine .front (.there <| .app <| .app <| .front) ?_
          refine .front (.app <| .there <| .app <| .front) ?_
          refine .front (.app <| .app <| .there <| .front) ?_
          refine .front1 (.app <| .app <| .app <| .there <| .here) ?_
          refine Post.rets rfl (.agg rfl ag41 sz41 (.there <| .app <| .app <| .app <| .here) rfl .nil) rfl (Imm.le_refl _) (fun w h => (Sat.tail (Sat.rem h (Rem.there <| Rem.app <| Rem.app <| Rem.app <| Rem.here)))) ?_
          rw [show ofR b o = (b, 0, ⟨#[]⟩) by unfold ofR; rw [if_pos (show hasT b o.name = true from (Bool.not_eq_false' _).mp h17), if_neg h21, if_neg h40, if_neg h48]]
          exact ⟨rfl, _, _, _, obN, obT, obB, ⟨⟨_, hoN, hdN⟩, ⟨_, hoT, hdT⟩, ⟨_, hoB, hdB⟩, hf⟩, rfl⟩

set_option maxHeartbeats 16000000 in
set_option maxRecDepth 20000 in
theorem bDo_ok {I : Imm} {O : Own} {kc : List Value} {b : Bk} (hk : BkR I kc b) {oc : List Value} {o : Ordr} (ho : OrdrR I oc o) (hs : OrdS o) :
    Go.Sy.Does Tryz.prog 7 [.agg ⟨kc⟩, .agg ⟨oc⟩] I O (fun u I' O' => ∃ nv tv bv on ot ob, u = .tuple ⟨[.agg ⟨(doR b o).1.cells nv tv bv⟩, .agg ⟨[.int .i64 (doR b o).2.1, .string (doR b o).2.2]⟩]⟩ ∧ BkO I' (doR b o).1 nv tv bv on ot ob ∧ O' = on ++ (ot ++ (ob ++ O))) := by
  have hk0 := hk
  obtain ⟨nv, tv, bv, rfl, hnv, htv, hbv⟩ := hk.ex
  have hnv0 := hnv
  have htv0 := htv
  have hbv0 := hbv
  obtain ⟨na, ncap, rfl, hn1, hn2, -⟩ := hnv
  obtain ⟨ta, tcap, rfl, ht1, ht2, -⟩ := htv
  obtain ⟨ba, bcap, rfl, hb1, hb2, -⟩ := hbv
  have ho0 := ho
  obtain ⟨lv, tv, wv, bv, rfl, hon, holv, hotv, hot, howv, hobv⟩ := ho.ex
  have hkd := ho0.kind
  obtain ⟨olva, olvc, rfl, -⟩ := holv
  obtain ⟨otva, otvc, rfl, -⟩ := hotv
  obtain ⟨owva, owvc, rfl, -⟩ := howv
  obtain ⟨obva, obvc, rfl, -⟩ := hobv
  refine Go.Sy.Does.enter Tryz.func7 rfl Tryz.ntmps7 rfl ?_
  refine .seq <| .region <| .on rfl <| .box rfl rfl rfl fun c1 _ _ => .on rfl <| .box rfl rfl rfl fun c2 _ _ => .on rfl <| .alloc zr27 rfl fun c3 _ _ => .on rfl <| .alloc zr41 rfl fun c4 _ _ => ?_
  refine .nil <| .go <| .seq <| .seq <| .region <| .e (.loadW ag27 sz27 rfl (.there <| .there <| .there <| .here) rfl) rfl rfl ?_
  refine .on rfl <| .callP cal15 rfl rfl rfl (bCheck_ok hk0) <| .e (.assign rfl) rfl rfl <| .nil <| .go <| .seq <| .region ?_
  refine .e (.move rfl) rfl rfl <| .e (.neq rfl rfl) rfl rfl <| .nil <| .go ?_
  refine .split 13 rfl (fun h13 => ?_) (fun h13 => ?_)
  · skip
    first | replace h13 := of_decide_eq_false ((Bool.not_eq_true' _).mp h13) | replace h13 := of_decide_eq_false (by simpa using h13)
    refine .cond_true rfl <| .seq <| .region <| .e (.build bs27 zv27 rfl rfl) rfl rfl <| .e (.move rfl) rfl rfl <| .e (.build bs41 zv41 rfl rfl) rfl rfl ?_
    refine .on rfl <| .storeW sz27 rfl rfl rfl rfl rfl rfl (.there <| .here) <| .on rfl <| .storeW sz41 rfl rfl rfl rfl rfl rfl .here <| .nil <| .go <| .ret <| .ret ?_
    refine Post.rets rfl (.agg rfl ag27 sz27 (.there <| .here) rfl (.agg rfl ag41 sz41 .here rfl .nil)) rfl (Imm.le_refl _) (fun w h => (Sat.tail (Sat.tail (Sat.tail (Sat.tail h))))) ?_
    rw [(bookWhy_no h13).2]
    rw [show doR b o = (bk0, 10, ⟨#[]⟩) from doR_no h13]
    exact ⟨_, _, _, [], [], [], rfl, bk0R, rfl⟩
  · skip
    first | replace h13 := of_decide_eq_true ((Bool.not_eq_false' _).mp h13) | replace h13 := of_decide_eq_true (by simpa using h13)
    have hok := BookOk.of (bookWhy_ok h13)
    refine .cond_false rfl <| .skip <| .go <| .seq <| .region <| .e (.loadW ag27 sz27 rfl (.there <| .there <| .there <| .here) rfl) rfl rfl ?_
    refine .on rfl <| .call cal16 rfl rfl rfl (bOwn_ok hk0 (BkM.of hok)) fun v18 I18 O18 hI18 hK18 => ?_
    obtain ⟨nv, tv, bv, obN, obT, obB, hq18, hb18, rfl⟩ := hK18
    subst hq18
    have hk0 := hb18
    obtain ⟨⟨wsN, hoN, hdN⟩, ⟨wsT, hoT, hdT⟩, ⟨wsB, hoB, hdB⟩, hf⟩ := hb18
    obtain ⟨adN, capN, rfl⟩ := hoN.form
    obtain ⟨adT, capT, rfl⟩ := hoT.form
    obtain ⟨adB, capB, rfl⟩ := hoB.form
    refine .e (.build bs66 zv66 rfl rfl) rfl rfl <| .on rfl <| .box rfl rfl rfl fun c5 _ _ => .e (.assign rfl) rfl rfl <| .nil <| .go <| .seq ?_
    refine .seq <| .region <| .e (.loadW ag36 sz36 rfl (.there <| .app <| .app <| .app <| .there <| .there <| .here) rfl) rfl rfl <| .on rfl <| .callP cal17 rfl rfl rfl (CheckOrder_ok (ho0.mono hI18) hs) <| .e (.assign rfl) rfl rfl <| .nil ?_
    refine .go <| .seq <| .region <| .e (.move rfl) rfl rfl <| .e (.neq rfl rfl) rfl rfl <| .nil ?_
    refine .go ?_
    refine .split 24 rfl (fun h24 => ?_) (fun h24 => ?_)
    · skip
      first | replace h24 := of_decide_eq_false ((Bool.not_eq_true' _).mp h24) | replace h24 := of_decide_eq_false (by simpa using h24)
      refine .cond_true rfl <| .seq <| .region <| .e (.move rfl) rfl rfl <| .e (.nilCheck rfl) rfl rfl <| .e (.fieldAddr fo66_0 rfl) rfl rfl ?_
      refine .e (.loadW ag27 sz27 rfl .here rfl) rfl rfl <| .e (.move rfl) rfl rfl <| .e (.build bs41 zv41 rfl rfl) rfl rfl <| .on rfl <| .storeW sz27 rfl rfl rfl rfl rfl rfl (.there <| .app <| .app <| .app <| .there <| .here) <| .on rfl <| .storeW sz41 rfl rfl rfl rfl rfl rfl (.there <| .app <| .app <| .app <| .here) <| .nil ?_
      refine .go <| .ret <| .ret ?_
      refine .front (.there <| .app <| .app <| .front) ?_
      refine .front (.app <| .there <| .app <| .front) ?_
      refine .front (.app <| .app <| .there <| .front) ?_
      refine Post.rets rfl (.agg rfl ag27 sz27 (.app <| .app <| .app <| .there <| .there <| .here) rfl (.agg rfl ag41 sz41 (.app <| .app <| .app <| .there <| .here) rfl .nil)) rfl hI18 (fun w h => (Sat.tail (Sat.rem (Sat.tail (Sat.rem (Sat.tail (Sat.rem (Sat.tail (Sat.rem (Sat.tail (Sat.rem h (Rem.app <| Rem.app <| Rem.app <| Rem.here))) (Rem.app <| Rem.app <| Rem.app <| Rem.here))) (Rem.app <| Rem.app <| Rem.app <| Rem.here))) (Rem.app <| Rem.app <| Rem.app <| Rem.here))) (Rem.app <| Rem.app <| Rem.app <| Rem.here)))) ?_
      rw [(orderWhy_no h24).2]
      rw [show doR b o = (b, 4, ⟨#[]⟩) from doR_form h13 h24]
      exact ⟨_, _, _, obN, obT, obB, rfl, hk0, rfl⟩
    · skip
      first | replace h24 := of_decide_eq_true ((Bool.not_eq_false' _).mp h24) | replace h24 := of_decide_eq_true (by simpa using h24)
      refine .cond_false rfl <| .skip <| .go <| .seq <| .region <| .on rfl <| .alloc zr41 rfl fun c6 _ _ => ?_
      refine .nil <| .go <| .seq <| .seq <| .region <| .e (.fieldAddr fo36_0 rfl) rfl rfl ?_
      refine .e (.load ag28 rfl (.there <| .there <| .app <| .app <| .app <| .there <| .there <| .here) rfl) rfl rfl <| .nil <| .go <| .block <| .seq <| .region ?_
      refine .e (.eql rfl rfl) rfl rfl <| .e (.assign rfl) rfl rfl <| .nil <| .go ?_
      refine .split 36 rfl (fun h36 => ?_) (fun h36 => ?_)
      · skip
        replace h36 := of_decide_eq_true h36
        refine .cond_true rfl <| .region <| .e (.move rfl) rfl rfl <| .e (.fieldAddr fo36_1 rfl) rfl rfl <| .e (.loadP ag32 sz32 rfl (.there <| .there <| .app <| .app <| .app <| .there <| .there <| .here) rfl) rfl rfl ?_
        refine .front (.there <| .there <| .app <| .app <| .front) ?_
        refine .front (.app <| .there <| .there <| .app <| .front) ?_
        refine .front (.app <| .app <| .there <| .there <| .front) ?_
        refine .front1 (.app <| .app <| .app <| .there <| .here) ?_
        refine .on rfl <| .call cal18 rfl rfl rfl (kaddNode_ok hk0 hok (hon.mono hI18)) fun v41 I41 O41 hI41 hK41 => ?_
        obtain ⟨hq41, nv41, tv41, bv41, obN41, obT41, obB41, hk41, rfl⟩ := hK41
        subst hq41
        have hk410 := hk41
        obtain ⟨⟨wsN41, hoN41, hdN41⟩, ⟨wsT41, hoT41, hdT41⟩, ⟨wsB41, hoB41, hdB41⟩, hf41⟩ := hk41
        obtain ⟨adN41, capN41, rfl⟩ := hoN41.form
        obtain ⟨adT41, capT41, rfl⟩ := hoT41.form
        obtain ⟨adB41, capB41, rfl⟩ := hoB41.form
        refine .e (.fieldAddr fo41_0 rfl) rfl rfl <| .on rfl <| .store sz39 rfl rfl rfl rfl rfl rfl (.there <| .app <| .app <| .app <| .here) <| .nil <| .blk_normal <| .go <| .seq ?_
        refine .draw [(c6, _)] mixed (.cons (.there <| .app <| .app <| .app <| .here) .nil) ?_
        refine .t 0 rfl (.move rfl) rfl rfl (by kernel_rfl) <| .t 1 rfl (.nilCheck rfl) rfl rfl (by kernel_rfl) <| .t 2 rfl (.fieldAddr fo66_0 rfl) rfl rfl (by kernel_rfl) <| .t 4 rfl (.loadW ag41 sz41 rfl .here rfl) rfl rfl (by kernel_rfl) <| .one (i := 3) (by kernel_rfl) rfl rfl ?_
        refine .ev (.loadW ag27 sz27 rfl .here rfl) rfl ⟨(.cons (.there <| .app <| .app <| .app <| .here) .nil), Imm.le_refl _, ?_⟩
        refine .one (i := 5) (by kernel_rfl) rfl rfl <| .storeW sz27 rfl rfl rfl rfl rfl rfl (.there <| .app <| .app <| .app <| .there <| .there <| .here) ?_
        refine ⟨(.cons (.there <| .app <| .app <| .app <| .here) .nil), Imm.le_refl _, ?_⟩
        refine .late (i := 6) (by kernel_rfl) (by kernel_rfl) (by kernel_rfl) rfl rfl <| .storeW sz41 rfl rfl rfl rfl rfl rfl (.there <| .app <| .app <| .app <| .there <| .here) <| .go <| .ret ?_
        refine .front (.there <| .app <| .app <| .front) ?_
        refine .front (.app <| .there <| .app <| .front) ?_
        refine .front (.app <| .app <| .there <| .front) ?_
        refine Post.rets rfl (.agg rfl ag27 sz27 (.app <| .app <| .app <| .there <| .there <| .there <| .here) rfl (.agg rfl ag41 sz41 (.app <| .app <| .app <| .there <| .there <| .here) rfl .nil)) rfl (Imm.le_trans hI18 hI41) (fun w h => (Sat.tail (Sat.rem (Sat.tail (Sat.rem (Sat.tail (Sat.rem (Sat.tail (Sat.rem (Sat.tail (Sat.rem (Sat.tail (Sat.rem h (Rem.app <| Rem.app <| Rem.app <| Rem.here))) (Rem.app <| Rem.app <| Rem.app <| Rem.here))) (Rem.app <| Rem.app <| Rem.app <| Rem.here))) (Rem.app <| Rem.app <| Rem.app <| Rem.here))) (Rem.app <| Rem.app <| Rem.app <| Rem.here))) (Rem.app <| Rem.app <| Rem.app <| Rem.here)))) ?_
        rw [show doR b o = ((addNR b o.node).1, (addNR b o.node).2, ⟨#[]⟩) by rw [doR_step h13 h24]; unfold stepR; rw [if_pos h36]]
        exact ⟨_, _, _, obN41, obT41, obB41, rfl, hk410, rfl⟩
      · skip
        replace h36 := of_decide_eq_false h36
        refine .cond_false rfl <| .seq <| .region <| .e (.eql rfl rfl) rfl rfl <| .e (.assign rfl) rfl rfl <| .nil ?_
        refine .go ?_
        refine .split 43 rfl (fun h43 => ?_) (fun h43 => ?_)
        · skip
          replace h43 := of_decide_eq_true h43
          refine .cond_true rfl <| .region <| .e (.move rfl) rfl rfl <| .e (.fieldAddr fo36_2 rfl) rfl rfl <| .e (.loadP ag34 sz34 rfl (.there <| .there <| .app <| .app <| .app <| .there <| .there <| .here) rfl) rfl rfl ?_
          refine .front (.there <| .there <| .app <| .app <| .front) ?_
          refine .front (.app <| .there <| .there <| .app <| .front) ?_
          refine .front (.app <| .app <| .there <| .there <| .front) ?_
          refine .front1 (.app <| .app <| .app <| .there <| .here) ?_
          refine .on rfl <| .call cal19 rfl rfl rfl (kaddTask_ok hk0 hok (hot.mono hI18)) fun v48 I48 O48 hI48 hK48 => ?_
          obtain ⟨hq48, nv48, tv48, bv48, obN48, obT48, obB48, hk48, rfl⟩ := hK48
          subst hq48
          have hk480 := hk48
          obtain ⟨⟨wsN48, hoN48, hdN48⟩, ⟨wsT48, hoT48, hdT48⟩, ⟨wsB48, hoB48, hdB48⟩, hf48⟩ := hk48
          obtain ⟨adN48, capN48, rfl⟩ := hoN48.form
          obtain ⟨adT48, capT48, rfl⟩ := hoT48.form
          obtain ⟨adB48, capB48, rfl⟩ := hoB48.form
          refine .e (.fieldAddr fo41_0 rfl) rfl rfl <| .on rfl <| .store sz39 rfl rfl rfl rfl rfl rfl (.there <| .app <| .app <| .app <| .here) <| .nil <| .blk_normal <| .go <| .seq ?_
          refine .draw [(c6, _)] mixed (.cons (.there <| .app <| .app <| .app <| .here) .nil) ?_
          refine .t 0 rfl (.move rfl) rfl rfl (by kernel_rfl) <| .t 1 rfl (.nilCheck rfl) rfl rfl (by kernel_rfl) <| .t 2 rfl (.fieldAddr fo66_0 rfl) rfl rfl (by kernel_rfl) <| .t 4 rfl (.loadW ag41 sz41 rfl .here rfl) rfl rfl (by kernel_rfl) <| .one (i := 3) (by kernel_rfl) rfl rfl ?_
          refine .ev (.loadW ag27 sz27 rfl .here rfl) rfl ⟨(.cons (.there <| .app <| .app <| .app <| .here) .nil), Imm.le_refl _, ?_⟩
          refine .one (i := 5) (by kernel_rfl) rfl rfl <| .storeW sz27 rfl rfl rfl rfl rfl rfl (.there <| .app <| .app <| .app <| .there <| .there <| .here) ?_
          refine ⟨(.cons (.there <| .app <| .app <| .app <| .here) .nil), Imm.le_refl _, ?_⟩
          refine .late (i := 6) (by kernel_rfl) (by kernel_rfl) (by kernel_rfl) rfl rfl <| .storeW sz41 rfl rfl rfl rfl rfl rfl (.there <| .app <| .app <| .app <| .there <| .here) <| .go <| .ret ?_
          refine .front (.there <| .app <| .app <| .front) ?_
          refine .front (.app <| .there <| .app <| .front) ?_
          refine .front (.app <| .app <| .there <| .front) ?_
          refine Post.rets rfl (.agg rfl ag27 sz27 (.app <| .app <| .app <| .there <| .there <| .there <| .here) rfl (.agg rfl ag41 sz41 (.app <| .app <| .app <| .there <| .there <| .here) rfl .nil)) rfl (Imm.le_trans hI18 hI48) (fun w h => (Sat.tail (Sat.rem (Sat.tail (Sat.rem (Sat.tail (Sat.rem (Sat.tail (Sat.rem (Sat.tail (Sat.rem (Sat.tail (Sat.rem h (Rem.app <| Rem.app <| Rem.app <| Rem.here))) (Rem.app <| Rem.app <| Rem.app <| Rem.here))) (Rem.app <| Rem.app <| Rem.app <| Rem.here))) (Rem.app <| Rem.app <| Rem.app <| Rem.here))) (Rem.app <| Rem.app <| Rem.app <| Rem.here))) (Rem.app <| Rem.app <| Rem.app <| Rem.here)))) ?_
          rw [show doR b o = ((addTR b o.task).1, (addTR b o.task).2, ⟨#[]⟩) by rw [doR_step h13 h24]; unfold stepR; rw [if_neg h36, if_pos h43]]
          exact ⟨_, _, _, obN48, obT48, obB48, rfl, hk480, rfl⟩
        · skip
          replace h43 := of_decide_eq_false h43
          refine .cond_false rfl <| .seq <| .region <| .e (.eql rfl rfl) rfl rfl <| .e (.assign rfl) rfl rfl <| .nil ?_
          refine .go ?_
          refine .split 50 rfl (fun h50 => ?_) (fun h50 => ?_)
          · skip
            replace h50 := of_decide_eq_true h50
            refine .cond_true rfl <| .region <| .e (.move rfl) rfl rfl <| .e (.fieldAddr fo36_3 rfl) rfl rfl <| .e (.load ag9 rfl (.there <| .there <| .app <| .app <| .app <| .there <| .there <| .here) rfl) rfl rfl ?_
            refine .front (.there <| .there <| .app <| .app <| .front) ?_
            refine .front (.app <| .there <| .there <| .app <| .front) ?_
            refine .front (.app <| .app <| .there <| .there <| .front) ?_
            refine .front1 (.app <| .app <| .app <| .there <| .here) ?_
            refine .on rfl <| .call cal20 rfl rfl rfl (kgone_ok hk0 hok) fun v55 I55 O55 hI55 hK55 => ?_
            obtain ⟨hq55, nv55, tv55, bv55, obN55, obT55, obB55, hk55, rfl⟩ := hK55
            subst hq55
            have hk550 := hk55
            obtain ⟨⟨wsN55, hoN55, hdN55⟩, ⟨wsT55, hoT55, hdT55⟩, ⟨wsB55, hoB55, hdB55⟩, hf55⟩ := hk55
            obtain ⟨adN55, capN55, rfl⟩ := hoN55.form
            obtain ⟨adT55, capT55, rfl⟩ := hoT55.form
            obtain ⟨adB55, capB55, rfl⟩ := hoB55.form
            refine .e (.fieldAddr fo41_0 rfl) rfl rfl <| .on rfl <| .store sz39 rfl rfl rfl rfl rfl rfl (.there <| .app <| .app <| .app <| .here) <| .nil <| .blk_normal <| .go <| .seq ?_
            refine .draw [(c6, _)] mixed (.cons (.there <| .app <| .app <| .app <| .here) .nil) ?_
            refine .t 0 rfl (.move rfl) rfl rfl (by kernel_rfl) <| .t 1 rfl (.nilCheck rfl) rfl rfl (by kernel_rfl) <| .t 2 rfl (.fieldAddr fo66_0 rfl) rfl rfl (by kernel_rfl) <| .t 4 rfl (.loadW ag41 sz41 rfl .here rfl) rfl rfl (by kernel_rfl) <| .one (i := 3) (by kernel_rfl) rfl rfl ?_
            refine .ev (.loadW ag27 sz27 rfl .here rfl) rfl ⟨(.cons (.there <| .app <| .app <| .app <| .here) .nil), Imm.le_refl _, ?_⟩
            refine .one (i := 5) (by kernel_rfl) rfl rfl <| .storeW sz27 rfl rfl rfl rfl rfl rfl (.there <| .app <| .app <| .app <| .there <| .there <| .here) ?_
            refine ⟨(.cons (.there <| .app <| .app <| .app <| .here) .nil), Imm.le_refl _, ?_⟩
            refine .late (i := 6) (by kernel_rfl) (by kernel_rfl) (by kernel_rfl) rfl rfl <| .storeW sz41 rfl rfl rfl rfl rfl rfl (.there <| .app <| .app <| .app <| .there <| .here) <| .go <| .ret ?_
            refine .front (.there <| .app <| .app <| .front) ?_
            refine .front (.app <| .there <| .app <| .front) ?_
            refine .front (.app <| .app <| .there <| .front) ?_
            refine Post.rets rfl (.agg rfl ag27 sz27 (.app <| .app <| .app <| .there <| .there <| .there <| .here) rfl (.agg rfl ag41 sz41 (.app <| .app <| .app <| .there <| .there <| .here) rfl .nil)) rfl (Imm.le_trans hI18 hI55) (fun w h => (Sat.tail (Sat.rem (Sat.tail (Sat.rem (Sat.tail (Sat.rem (Sat.tail (Sat.rem (Sat.tail (Sat.rem (Sat.tail (Sat.rem h (Rem.app <| Rem.app <| Rem.app <| Rem.here))) (Rem.app <| Rem.app <| Rem.app <| Rem.here))) (Rem.app <| Rem.app <| Rem.app <| Rem.here))) (Rem.app <| Rem.app <| Rem.app <| Rem.here))) (Rem.app <| Rem.app <| Rem.app <| Rem.here))) (Rem.app <| Rem.app <| Rem.app <| Rem.here)))) ?_
            rw [show doR b o = ((goneR b o.name).1, (goneR b o.name).2, ⟨#[]⟩) by rw [doR_step h13 h24]; unfold stepR; rw [if_neg h36, if_neg h43, if_pos h50]]
            exact ⟨_, _, _, obN55, obT55, obB55, rfl, hk550, rfl⟩
          · skip
            replace h50 := of_decide_eq_false h50
            refine .cond_false rfl <| .seq <| .region <| .e (.eql rfl rfl) rfl rfl <| .e (.assign rfl) rfl rfl <| .nil ?_
            refine .go ?_
            refine .split 57 rfl (fun h57 => ?_) (fun h57 => ?_)
            · skip
              replace h57 := of_decide_eq_true h57
              refine .cond_true rfl <| .region <| .e (.move rfl) rfl rfl <| .e (.loadW ag36 sz36 rfl (.there <| .there <| .app <| .app <| .app <| .there <| .there <| .here) rfl) rfl rfl ?_
              refine .front (.there <| .there <| .app <| .app <| .front) ?_
              refine .front (.app <| .there <| .there <| .app <| .front) ?_
              refine .front (.app <| .app <| .there <| .there <| .front) ?_
              refine .front1 (.app <| .app <| .app <| .there <| .here) ?_
              refine .on rfl <| .call cal21 rfl rfl rfl (kplace_ok hk0 hok (ho0.mono hI18)) fun v61 I61 O61 hI61 hK61 => ?_
              obtain ⟨hq61, nv61, tv61, bv61, obN61, obT61, obB61, hk61, rfl⟩ := hK61
              subst hq61
              have hk610 := hk61
              obtain ⟨⟨wsN61, hoN61, hdN61⟩, ⟨wsT61, hoT61, hdT61⟩, ⟨wsB61, hoB61, hdB61⟩, hf61⟩ := hk61
              obtain ⟨adN61, capN61, rfl⟩ := hoN61.form
              obtain ⟨adT61, capT61, rfl⟩ := hoT61.form
              obtain ⟨adB61, capB61, rfl⟩ := hoB61.form
              refine .e (.fieldAddr fo41_0 rfl) rfl rfl <| .on rfl <| .store sz39 rfl rfl rfl rfl rfl rfl (.there <| .app <| .app <| .app <| .here) <| .nil <| .blk_normal <| .go <| .seq ?_
              refine .draw [(c6, _)] mixed (.cons (.there <| .app <| .app <| .app <| .here) .nil) ?_
              refine .t 0 rfl (.move rfl) rfl rfl (by kernel_rfl) <| .t 1 rfl (.nilCheck rfl) rfl rfl (by kernel_rfl) <| .t 2 rfl (.fieldAddr fo66_0 rfl) rfl rfl (by kernel_rfl) <| .t 4 rfl (.loadW ag41 sz41 rfl .here rfl) rfl rfl (by kernel_rfl) <| .one (i := 3) (by kernel_rfl) rfl rfl ?_
              refine .ev (.loadW ag27 sz27 rfl .here rfl) rfl ⟨(.cons (.there <| .app <| .app <| .app <| .here) .nil), Imm.le_refl _, ?_⟩
              refine .one (i := 5) (by kernel_rfl) rfl rfl <| .storeW sz27 rfl rfl rfl rfl rfl rfl (.there <| .app <| .app <| .app <| .there <| .there <| .here) ?_
              refine ⟨(.cons (.there <| .app <| .app <| .app <| .here) .nil), Imm.le_refl _, ?_⟩
              refine .late (i := 6) (by kernel_rfl) (by kernel_rfl) (by kernel_rfl) rfl rfl <| .storeW sz41 rfl rfl rfl rfl rfl rfl (.there <| .app <| .app <| .app <| .there <| .here) <| .go <| .ret ?_
              refine .front (.there <| .app <| .app <| .front) ?_
              refine .front (.app <| .there <| .app <| .front) ?_
              refine .front (.app <| .app <| .there <| .front) ?_
              refine Post.rets rfl (.agg rfl ag27 sz27 (.app <| .app <| .app <| .there <| .there <| .there <| .here) rfl (.agg rfl ag41 sz41 (.app <| .app <| .app <| .there <| .there <| .here) rfl .nil)) rfl (Imm.le_trans hI18 hI61) (fun w h => (Sat.tail (Sat.rem (Sat.tail (Sat.rem (Sat.tail (Sat.rem (Sat.tail (Sat.rem (Sat.tail (Sat.rem (Sat.tail (Sat.rem h (Rem.app <| Rem.app <| Rem.app <| Rem.here))) (Rem.app <| Rem.app <| Rem.app <| Rem.here))) (Rem.app <| Rem.app <| Rem.app <| Rem.here))) (Rem.app <| Rem.app <| Rem.app <| Rem.here))) (Rem.app <| Rem.app <| Rem.app <| Rem.here))) (Rem.app <| Rem.app <| Rem.app <| Rem.here)))) ?_
              rw [show doR b o = ((placeR b o).1, (placeR b o).2, ⟨#[]⟩) by rw [doR_step h13 h24]; unfold stepR; rw [if_neg h36, if_neg h43, if_neg h50, if_pos h57]]
              exact ⟨_, _, _, obN61, obT61, obB61, rfl, hk610, rfl⟩
            · skip
              replace h57 := of_decide_eq_false h57
              refine .cond_false rfl <| .region <| .e (.move rfl) rfl rfl <| .e (.loadW ag36 sz36 rfl (.there <| .there <| .app <| .app <| .app <| .there <| .there <| .here) rfl) rfl rfl ?_
              refine .front (.there <| .there <| .app <| .app <| .front) ?_
              refine .front (.app <| .there <| .there <| .app <| .front) ?_
              refine .front (.app <| .app <| .there <| .there <| .front) ?_
              refine .front1 (.app <| .app <| .app <| .there <| .here) ?_
              refine .on rfl <| .call cal22 rfl rfl rfl (kof_ok hk0 hok (ho0.mono hI18)) fun v35 I35 O35 hI35 hK35 => ?_
              obtain ⟨hq35, nv35, tv35, bv35, obN35, obT35, obB35, hk35, rfl⟩ := hK35
              subst hq35
              have hk350 := hk35
              obtain ⟨⟨wsN35, hoN35, hdN35⟩, ⟨wsT35, hoT35, hdT35⟩, ⟨wsB35, hoB35, hdB35⟩, hf35⟩ := hk35
              obtain ⟨adN35, capN35, rfl⟩ := hoN35.form
              obtain ⟨adT35, capT35, rfl⟩ := hoT35.form
              obtain ⟨adB35, capB35, rfl⟩ := hoB35.form
              refine .on rfl <| .storeW sz41 rfl rfl rfl rfl rfl rfl (.there <| .app <| .app <| .app <| .here) <| .nil <| .blk_normal <| .go <| .seq ?_
              refine .draw [(c6, _)] mixed (.cons (.there <| .app <| .app <| .app <| .here) .nil) ?_
              refine .t 0 rfl (.move rfl) rfl rfl (by kernel_rfl) <| .t 1 rfl (.nilCheck rfl) rfl rfl (by kernel_rfl) <| .t 2 rfl (.fieldAddr fo66_0 rfl) rfl rfl (by kernel_rfl) <| .t 4 rfl (.loadW ag41 sz41 rfl .here rfl) rfl rfl (by kernel_rfl) <| .one (i := 3) (by kernel_rfl) rfl rfl ?_
              refine .ev (.loadW ag27 sz27 rfl .here rfl) rfl ⟨(.cons (.there <| .app <| .app <| .app <| .here) .nil), Imm.le_refl _, ?_⟩
              refine .one (i := 5) (by kernel_rfl) rfl rfl <| .storeW sz27 rfl rfl rfl rfl rfl rfl (.there <| .app <| .app <| .app <| .there <| .there <| .here) ?_
              refine ⟨(.cons (.there <| .app <| .app <| .app <| .here) .nil), Imm.le_refl _, ?_⟩
              refine .late (i := 6) (by kernel_rfl) (by kernel_rfl) (by kernel_rfl) rfl rfl <| .storeW sz41 rfl rfl rfl rfl rfl rfl (.there <| .app <| .app <| .app <| .there <| .here) <| .go <| .ret ?_
              refine .front (.there <| .app <| .app <| .front) ?_
              refine .front (.app <| .there <| .app <| .front) ?_
              refine .front (.app <| .app <| .there <| .front) ?_
              refine Post.rets rfl (.agg rfl ag27 sz27 (.app <| .app <| .app <| .there <| .there <| .there <| .here) rfl (.agg rfl ag41 sz41 (.app <| .app <| .app <| .there <| .there <| .here) rfl .nil)) rfl (Imm.le_trans hI18 hI35) (fun w h => (Sat.tail (Sat.rem (Sat.tail (Sat.rem (Sat.tail (Sat.rem (Sat.tail (Sat.rem (Sat.tail (Sat.rem (Sat.tail (Sat.rem h (Rem.app <| Rem.app <| Rem.app <| Rem.here))) (Rem.app <| Rem.app <| Rem.app <| Rem.here))) (Rem.app <| Rem.app <| Rem.app <| Rem.here))) (Rem.app <| Rem.app <| Rem.app <| Rem.here))) (Rem.app <| Rem.app <| Rem.app <| Rem.here))) (Rem.app <| Rem.app <| Rem.app <| Rem.here)))) ?_
              rw [show doR b o = ofR b o by rw [doR_step h13 h24]; unfold stepR; rw [if_neg h36, if_neg h43, if_neg h50, if_neg h57]]
              exact ⟨_, _, _, obN35, obT35, obB35, rfl, hk350, rfl⟩

set_option maxHeartbeats 4000000 in
set_option maxRecDepth 20000 in
theorem bLead_ok {I : Imm} {O : Own} {kc : List Value} {b : Bk} (hk : BkR I kc b) {t : Int} (ht : U64 t) :
    Go.Sy.Does Tryz.prog 12 [.agg ⟨kc⟩, .int .u64 t] I O (fun u I' O' => ∃ nv tv bv on ot ob, u = .tuple ⟨[.agg ⟨(leadR b t).1.cells nv tv bv⟩, .int .i64 (leadR b t).2]⟩ ∧ BkO I' (leadR b t).1 nv tv bv on ot ob ∧ O' = on ++ (ot ++ (ob ++ O))) := by
  have hk0 := hk
  obtain ⟨nv, tv, bv, rfl, hnv, htv, hbv⟩ := hk.ex
  have hnv0 := hnv
  have htv0 := htv
  have hbv0 := hbv
  obtain ⟨na, ncap, rfl, hn1, hn2, -⟩ := hnv
  obtain ⟨ta, tcap, rfl, ht1, ht2, -⟩ := htv
  obtain ⟨ba, bcap, rfl, hb1, hb2, -⟩ := hbv
  refine Go.Sy.Does.enter Tryz.func12 rfl Tryz.ntmps12 rfl ?_
  refine .seq <| .region <| .on rfl <| .box rfl rfl rfl fun c1 _ _ => .on rfl <| .alloc zr27 rfl fun c2 _ _ => .e (.assign rfl) rfl rfl <| .nil ?_
  refine .go <| .seq <| .seq <| .region <| .e (.loadW ag27 sz27 rfl (.there <| .here) rfl) rfl rfl <| .on rfl <| .callP cal15 rfl rfl rfl (bCheck_ok hk0) ?_
  refine .e (.assign rfl) rfl rfl <| .nil <| .go <| .seq <| .region <| .e (.move rfl) rfl rfl ?_
  refine .e (.neq rfl rfl) rfl rfl <| .nil <| .go ?_
  refine .split 10 rfl (fun h10 => ?_) (fun h10 => ?_)
  · skip
    first | replace h10 := of_decide_eq_false ((Bool.not_eq_true' _).mp h10) | replace h10 := of_decide_eq_false (by simpa using h10)
    refine .cond_true rfl <| .seq <| .region <| .e (.build bs27 zv27 rfl rfl) rfl rfl <| .e (.move rfl) rfl rfl <| .on rfl <| .storeW sz27 rfl rfl rfl rfl rfl rfl .here ?_
    refine .e (.assign rfl) rfl rfl <| .nil <| .go <| .ret <| .ret ?_
    refine Post.rets rfl (.agg rfl ag27 sz27 .here rfl (.tmp rfl .nil)) rfl (Imm.le_refl _) (fun w h => (Sat.tail (Sat.tail h))) ?_
    rw [(bookWhy_no h10).2]
    rw [show leadR b t = (bk0, 10) by unfold leadR; rw [(bookWhy_no h10).1, if_neg (by simp)]]
    exact ⟨_, _, _, [], [], [], rfl, bk0R, rfl⟩
  · skip
    first | replace h10 := of_decide_eq_true ((Bool.not_eq_false' _).mp h10) | replace h10 := of_decide_eq_true (by simpa using h10)
    have hok := BookOk.of (bookWhy_ok h10)
    refine .cond_false rfl <| .skip <| .go <| .seq <| .region <| .e (.loadW ag27 sz27 rfl (.there <| .here) rfl) rfl rfl ?_
    refine .on rfl <| .call cal16 rfl rfl rfl (bOwn_ok hk0 (BkM.of hok)) fun v18 I18 O18 hI18 hK18 => ?_
    obtain ⟨nv, tv, bv, obN, obT, obB, hq18, hb18, rfl⟩ := hK18
    subst hq18
    have hk0 := hb18
    obtain ⟨⟨wsN, hoN, hdN⟩, ⟨wsT, hoT, hdT⟩, ⟨wsB, hoB, hdB⟩, hf⟩ := hb18
    obtain ⟨adN, capN, rfl⟩ := hoN.form
    obtain ⟨adT, capT, rfl⟩ := hoT.form
    obtain ⟨adB, capB, rfl⟩ := hoB.form
    refine .on rfl <| .storeW sz27 rfl rfl rfl rfl rfl rfl (.app <| .app <| .app <| .there <| .here) <| .nil <| .go <| .seq <| .region <| .e (.fieldAddr fo27_3 rfl) rfl rfl ?_
    refine .e (.load ag25 rfl (.app <| .app <| .app <| .there <| .here) rfl) rfl rfl <| .e (.move rfl) rfl rfl <| .e ((EV.cast (.max2 rfl rfl rfl) (congrArg (Value.int .u64) (ite_max _ _)))) rfl rfl <| .e (.fieldAddr fo27_3 rfl) rfl rfl <| .on rfl <| .store sz25 rfl rfl rfl rfl rfl rfl (.app <| .app <| .app <| .there <| .here) <| .nil ?_
    refine .go <| .seq <| .region <| .e (.loadW ag27 sz27 rfl (.app <| .app <| .app <| .there <| .here) rfl) rfl rfl <| .on rfl <| .storeW sz27 rfl rfl rfl rfl rfl rfl (.app <| .app <| .app <| .here) <| .e (.assign rfl) rfl rfl ?_
    refine .nil <| .go <| .ret ?_
    refine Post.rets rfl (.agg rfl ag27 sz27 (.app <| .app <| .app <| .here) rfl (.tmp rfl .nil)) rfl hI18 (fun w h => (Sat.tail (Sat.rem (Sat.tail (Sat.rem h (Rem.app <| Rem.app <| Rem.app <| Rem.here))) (Rem.app <| Rem.app <| Rem.app <| Rem.here)))) ?_
    rw [show leadR b t = ({ b with fence := max b.fence t }, 0) by unfold leadR; rw [if_pos (bookWhy_ok h10)]]
    exact ⟨_, _, _, obN, obT, obB, rfl, ⟨⟨_, hoN, hdN⟩, ⟨_, hoT, hdT⟩, ⟨_, hoB, hdB⟩, by unfold U64 at *; dsimp only; omega⟩, rfl⟩

end Go.Proofs.YtajpakifkinadaaGreatDoor
