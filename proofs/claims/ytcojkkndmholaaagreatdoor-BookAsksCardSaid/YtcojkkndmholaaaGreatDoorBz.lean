/- Walks of functions over a symbolic memory, printed by a program of the session. -/
import Derived.Test.YtcojkkndmholaaaGreatDoorBy
namespace Go.Proofs.YtcojkkndmholaaaGreatDoor
open Go.Sy
set_option linter.unusedSimpArgs false
set_option linter.unusedVariables false

theorem free_eq {b : Bk} {s : ByteArray} (h : Rising (fun x : Bnd => x.task) b.binds) : { b with binds := b.binds.filter fun x => !decide (x.task = s) } = freeR b s := by
  unfold freeR
  split
  · rename_i hs
    obtain ⟨hk, hks⟩ := has_get h hs
    have hp := rising_pw.1 h
    have hsp := get_split hk
    rw [hsp, List.pairwise_append, List.pairwise_cons] at hp
    have e : b.binds.filter (fun x => !decide (x.task = s)) = delAt b.binds (posB b s) := by
      have e1 : b.binds.filter (fun x => !decide (x.task = s)) = (b.binds.take (posB b s) ++ (b.binds[posB b s]'hk :: b.binds.drop (posB b s + 1))).filter (fun x => !decide (x.task = s)) := congrArg (fun l : List Bnd => l.filter (fun x => !decide (x.task = s))) hsp
      rw [e1, List.filter_append, List.filter_cons]
      have h1 : (b.binds.take (posB b s)).filter (fun x => !decide (x.task = s)) = b.binds.take (posB b s) := by
        rw [List.filter_eq_self]
        intro a ha
        have h2 := hp.2.2 a ha _ List.mem_cons_self
        simp only [Bool.not_eq_true', decide_eq_false_iff_not]
        intro e; rw [e, hks, lt_irr] at h2; cases h2
      have h3 : (b.binds.drop (posB b s + 1)).filter (fun x => !decide (x.task = s)) = b.binds.drop (posB b s + 1) := by
        rw [List.filter_eq_self]
        intro a ha
        have h2 := hp.2.1.1 a ha
        simp only [Bool.not_eq_true', decide_eq_false_iff_not]
        intro e; rw [e, hks, lt_irr] at h2; cases h2
      have h4 : (!decide ((b.binds[posB b s]'hk).task = s)) = false := by
        rw [Bool.not_eq_false', decide_eq_true_eq]; exact hks
      rw [h1, h3, h4]; rfl
    rw [e]
  · rename_i hs
    have e : b.binds.filter (fun x => !decide (x.task = s)) = b.binds := by
      rw [List.filter_eq_self]
      intro a ha
      have := has_niff.1 (Bool.eq_false_iff.2 hs) a ha
      simpa using this
    rw [e]
def nodesR (b : Bk) (o : Ordr) : Bk × Int := if o.kind = 1 then addNR b o.node else goneR b o.name
def tasksR (b : Bk) (o : Ordr) : Bk × Int := if o.kind = 3 then addTR b o.task else ((ofR b o).1, (ofR b o).2.1)
def flt (b : Bk) (s : ByteArray) (k : Nat) : List Bnd := (b.binds.take k).filter fun x => !decide (x.task = s)
theorem flt_step {b : Bk} {s : ByteArray} {k : Nat} (hk : k < b.binds.length) : flt b s (k + 1) = flt b s k ++ if b.binds[k].task = s then [] else [b.binds[k]] := by
  unfold flt
  rw [List.take_succ_eq_append_getElem hk, List.filter_append]
  congr 1
  by_cases h : b.binds[k].task = s <;> simp [h]
theorem flt_len {b : Bk} {s : ByteArray} {k : Nat} : (flt b s k).length ≤ k := by
  unfold flt
  have := List.length_filter_le (fun x : Bnd => !decide (x.task = s)) (b.binds.take k)
  rw [List.length_take] at this; omega

set_option maxHeartbeats 4000000 in
set_option maxRecDepth 20000 in
theorem rwithoutBind_ok {I : Imm} {O : Own} {kc : List Value} {b : Bk} (hk : BkR I kc b) {s : ByteArray} (hL : b.binds.length ≤ 1000) :
    Go.Sy.Does Tryz.prog 88 [.agg ⟨kc⟩, .string s] I O (FB (fun cs => .agg ⟨cs⟩) { b with binds := b.binds.filter fun x => !decide (x.task = s) } O) := by
  have hk0 := hk
  obtain ⟨nv, tv, bv, rfl, hnv, htv, hbv⟩ := hk.ex
  have hnv0 := hnv
  have htv0 := htv
  have hbv0 := hbv
  obtain ⟨na, ncap, rfl, hn1, hn2, -⟩ := hnv
  obtain ⟨ta, tcap, rfl, ht1, ht2, -⟩ := htv
  obtain ⟨ba, bcap, rfl, hb1, hb2, -⟩ := hbv
  refine Go.Sy.Does.enter Tryz.func88 rfl Tryz.ntmps88 rfl ?_
  refine .seq <| .region <| .on rfl <| .box rfl rfl rfl fun c1 _ _ => .on rfl <| .alloc zr27 rfl fun c2 _ _ => .nil <| .go ?_
  refine .seq <| .region <| .e (.assign rfl) rfl rfl <| .nil <| .go <| .seq ?_
  refine .seq <| .region <| .e (.fieldAddr fo27_2 rfl) rfl rfl <| .e (.load ag24 rfl (.there <| .here) rfl) rfl rfl <| .e (.len sl24 rfl rfl) rfl rfl <| .e (.move rfl) rfl rfl ?_
  refine .nil <| .go <| .block ?_
  refine .loopM [5, 7, 11, 12, 13, 14, 15, 16, 17, 18, 19, 20, 21, 22, 23] (fun s' => b.binds.length - s'.1) (fun s' => s'.1 ≤ b.binds.length ∧ OwnS 2 s'.2.1 (flt b s s'.1).length s'.2.2.1 s'.2.2.2 ∧ DR BndR 2 I s'.2.2.1 (flt b s s'.1)) (fun s' => [(11, .int .i64 s'.1), (5, s'.2.1)]) (fun _ => _) (fun s' => s'.2.2.2 ++ _) (((0, .slice none 0 0, [], []) : Nat × Value × List Value × Own)) ⟨Nat.zero_le _, OwnS.nil, DR.nil⟩ ⟨rfl, rfl, trivial⟩ rfl rfl ?_
  intro ⟨k, vL, wsL, obL⟩ hkk
  dsimp only at hkk ⊢
  obtain ⟨hkk, hoL, hdL⟩ := hkk
  obtain ⟨adL, capL, rfl⟩ := hoL.form
  have hfl := flt_len (b := b) (s := s) (k := k)
  refine .seq <| .region <| .e (.lss rfl rfl) rfl rfl <| .nil <| .go <| .seq ?_
  refine .split 12 rfl (fun h12 => ?_) (fun h12 => ?_)
  · skip
    replace h12 := of_decide_eq_true h12
    refine .cond_true rfl <| .skip <| .go <| .seq <| .block <| .seq ?_
    refine .region ?_
    obtain ⟨eb13, eo13, cs13, hd13, hat13, hr13⟩ := SlR.at_ hbv0 (k := k) (by omega)
    cases hd13
    have hx13 := hr13
    obtain ⟨rfl, hx13a, hx13b⟩ := hr13
    refine .e (.indexAddrL sl24 rfl rfl rfl (by omega)) rfl rfl <| .e (.loadIA ag56 sz56 rfl hat13 rfl) rfl rfl <| .on rfl <| .alloc zr56 rfl fun c3 _ _ => .on rfl <| .storeW sz56 rfl rfl rfl rfl rfl rfl .here <| .nil <| .go ?_
    refine .seq <| .region <| .e (.fieldAddr fo56_0 rfl) rfl rfl <| .e (.load ag9 rfl .here rfl) rfl rfl <| .e (.move rfl) rfl rfl <| .e (.strne rfl rfl) rfl rfl ?_
    refine .nil <| .go ?_
    refine .split 18 rfl (fun h18 => ?_) (fun h18 => ?_)
    · skip
      first | replace h18 := of_decide_eq_false ((Bool.not_eq_true' _).mp h18) | replace h18 := of_decide_eq_false (by simpa using h18)
      refine .cond_true rfl <| .region <| .e (.move rfl) rfl rfl <| .e (.loadW ag56 sz56 rfl .here rfl) rfl rfl <| .on rfl <| .buildSlice Tryz.underlying24 sz56 (by decide) (by decide) zv56 rfl rfl rfl rfl rfl fun c4 _ _ => .on rfl <| .append Tryz.underlying24 Tryz.underlying24 sz56 by56 zv56 rfl rfl rfl (.there <| .there <| .front) hoL ((OwnS.made (k := 2) rfl (by decide)).src (I := _) .here) rfl rfl (by omega) (by omega) rfl fun v22 ob22 ho22 => ?_
      refine .e (.assign rfl) rfl rfl <| .nil <| .blk_normal <| .go <| .region <| .e (.add rfl rfl (by first | exact wrap_succ (by omega) | exact IntWalk.i64_in _ (by omega) | exact rfl)) rfl rfl ?_
      refine .e (.move rfl) rfl rfl <| .nil ?_
      refine .front1 (.app <| .here) ?_
      refine .tail ?_
      refine .front1 (.app <| .here) ?_
      refine .tail ?_
      have e5 := flt_step (b := b) (s := s) (show k < b.binds.length by omega)
      rw [if_neg h18] at e5
      have e6 : (flt b s (k + 1)).length = (flt b s k).length + 1 := by rw [e5, List.length_append]; rfl
      exact .mid ((k + 1, _, _, _)) ⟨by dsimp only; omega, by dsimp only; omega, by dsimp only; rw [e6]; exact ho22, by dsimp only; rw [e5]; exact hdL.append (DR.single rfl hx13)⟩ ⟨rfl, rfl, trivial⟩ rfl rfl (.pre 17 rfl (.app rfl .base))
    · skip
      first | replace h18 := of_decide_eq_true ((Bool.not_eq_false' _).mp h18) | replace h18 := of_decide_eq_true (by simpa using h18)
      refine .cond_false rfl <| .skip <| .blk_normal <| .go <| .region <| .e (.add rfl rfl (by first | exact wrap_succ (by omega) | exact IntWalk.i64_in _ (by omega) | exact rfl)) rfl rfl ?_
      refine .e (.move rfl) rfl rfl <| .nil ?_
      refine .tail ?_
      have e5 := flt_step (b := b) (s := s) (show k < b.binds.length by omega)
      rw [if_pos h18, List.append_nil] at e5
      exact .mid ((k + 1, _, wsL, obL)) ⟨by dsimp only; omega, by dsimp only; omega, by dsimp only; rw [e5]; exact hoL, by dsimp only; rw [e5]; exact hdL⟩ ⟨rfl, rfl, trivial⟩ rfl rfl (.pre 12 rfl (.app rfl .base))
  · skip
    replace h12 := of_decide_eq_false h12
    refine .cond_false rfl <| .exit <| .exit <| .exit <| .blk_exit <| .go ?_
    refine .seq <| .region <| .e (.move rfl) rfl rfl <| .e (.fieldAddr fo27_2 rfl) rfl rfl <| .on rfl <| .store sz24 rfl rfl rfl rfl rfl rfl (.app <| .there <| .here) <| .nil ?_
    refine .go <| .seq <| .region <| .e (.loadW ag27 sz27 rfl (.app <| .there <| .here) rfl) rfl rfl <| .on rfl <| .storeW sz27 rfl rfl rfl rfl rfl rfl (.app <| .here) <| .nil ?_
    refine .go <| .ret ?_
    refine .freezeS hoL fun K hK hKs => ?_
    have hyS : BndsR K _ (flt b s k) := hKs (R := BndR) (hdL.mono fun _ _ h => h) rfl
    have ee : flt b s k = b.binds.filter fun x => !decide (x.task = s) := by unfold flt; rw [List.take_of_length_le (by omega)]
    rw [ee] at hyS
    refine Post.rets rfl (.agg rfl ag27 sz27 .here rfl .nil) rfl hK (fun w h => (Sat.tail (Sat.tail h))) ?_
    refine ⟨rfl, _, rfl, ?_⟩
    rw [← ee] at hyS ⊢
    exact ⟨⟨_, _, _, rfl, NodsR.mono hK hnv0, TsksR.mono hK htv0, hyS⟩, hk0.fence⟩

set_option maxHeartbeats 16000000 in
set_option maxRecDepth 20000 in
theorem rnodes_ok {I : Imm} {O : Own} {kc : List Value} {b : Bk} (hk : BkR I kc b) (hok : BookOk b) {oc : List Value} {o : Ordr} (ho : OrdrR I oc o) :
    Go.Sy.Does Tryz.prog 34 [.agg ⟨kc⟩, .agg ⟨oc⟩] I O (FB (fun cs => .tuple ⟨[.agg ⟨cs⟩, .int .i64 (nodesR b o).2]⟩) (nodesR b o).1 O) := by
  have hk0 := hk
  obtain ⟨nv, tv, bv, rfl, hnv, htv, hbv⟩ := hk.ex
  have hnv0 := hnv
  have htv0 := htv
  have hbv0 := hbv
  obtain ⟨na, ncap, rfl, hn1, hn2, -⟩ := hnv
  obtain ⟨ta, tcap, rfl, ht1, ht2, -⟩ := htv
  obtain ⟨ba, bcap, rfl, hb1, hb2, -⟩ := hbv
  have ho0 := ho
  obtain ⟨lv, tv, wv, bv, rfl, hon, holv, hotv, hot, howv, hobv⟩ := ho.ex
  have hkd := ho0.kind
  obtain ⟨olva, olvc, rfl, -⟩ := holv
  obtain ⟨otva, otvc, rfl, -⟩ := hotv
  obtain ⟨owva, owvc, rfl, -⟩ := howv
  obtain ⟨obva, obvc, rfl, -⟩ := hobv
  have hbn := hok.nodes
  refine Go.Sy.Does.enter Tryz.func34 rfl Tryz.ntmps34 rfl ?_
  refine .seq <| .region <| .on rfl <| .box rfl rfl rfl fun c1 _ _ => .on rfl <| .box rfl rfl rfl fun c2 _ _ => .on rfl <| .alloc zr27 rfl fun c3 _ _ => .e (.assign rfl) rfl rfl ?_
  refine .nil <| .go <| .seq <| .seq <| .region <| .e (.fieldAddr fo36_0 rfl) rfl rfl ?_
  refine .e (.load ag28 rfl (.there <| .here) rfl) rfl rfl <| .e (.eql rfl rfl) rfl rfl <| .nil <| .go ?_
  refine .split 10 rfl (fun h10 => ?_) (fun h10 => ?_)
  · skip
    replace h10 := of_decide_eq_true h10
    refine .cond_true rfl <| .seq <| .region <| .e (.fieldAddr fo36_1 rfl) rfl rfl <| .e (.loadP ag32 sz32 rfl (.there <| .here) rfl) rfl rfl <| .on rfl <| .callP cal83 rfl rfl rfl (rCheckNode_ok hon) ?_
    refine .e (.assign rfl) rfl rfl <| .nil <| .go <| .seq <| .block <| .seq ?_
    refine .region <| .e (.move rfl) rfl rfl <| .e (.neq rfl rfl) rfl rfl <| .e (.assign rfl) rfl rfl <| .nil <| .go ?_
    refine .split 14 rfl (fun h14 => ?_) (fun h14 => ?_)
    · skip
      first | replace h14 := of_decide_eq_false ((Bool.not_eq_true' _).mp h14) | replace h14 := of_decide_eq_false (by simpa using h14)
      refine .cond_true rfl <| .seq <| .region <| .e (.loadW ag27 sz27 rfl (.there <| .there <| .here) rfl) rfl rfl <| .e (.move rfl) rfl rfl <| .on rfl <| .storeW sz27 rfl rfl rfl rfl rfl rfl .here ?_
      refine .e (.assign rfl) rfl rfl <| .nil <| .go <| .ret <| .blk_ret <| .ret ?_
      refine .ret ?_
      refine Post.rets rfl (.agg rfl ag27 sz27 .here rfl (.tmp rfl .nil)) rfl (Imm.le_refl _) (fun w h => (Sat.tail (Sat.tail (Sat.tail h)))) ?_
      rw [show nodesR b o = (b, nodWhy o.node) by unfold nodesR; rw [if_pos h10]; unfold addNR; rw [if_neg h14]]
      exact ⟨rfl, _, rfl, hk0⟩
    · skip
      first | replace h14 := of_decide_eq_true ((Bool.not_eq_false' _).mp h14) | replace h14 := of_decide_eq_true (by simpa using h14)
      refine .cond_false rfl <| .seq <| .region <| .e (.loadW ag27 sz27 rfl (.there <| .there <| .here) rfl) rfl rfl <| .e (.fieldAddr fo36_1 rfl) rfl rfl <| .e (.fieldAddr fo32_0 rfl) rfl rfl ?_
      refine .e (.load ag9 rfl (.there <| .here) rfl) rfl rfl <| .on rfl <| .callP cal67 rfl rfl rfl (rixN_ok hk0) <| .e ((EV.cast (.geq rfl rfl) (congrArg Value.bool (idxOf_ge (p := fun x : Nod => decide (x.name = o.node.name)))))) rfl rfl <| .e (.assign rfl) rfl rfl <| .nil <| .go ?_
      refine .split 19 rfl (fun h19 => ?_) (fun h19 => ?_)
      · skip
        refine .cond_true rfl <| .seq <| .region <| .e (.loadW ag27 sz27 rfl (.there <| .there <| .here) rfl) rfl rfl <| .on rfl <| .storeW sz27 rfl rfl rfl rfl rfl rfl .here <| .e (.assign rfl) rfl rfl ?_
        refine .nil <| .go <| .ret <| .blk_ret <| .ret <| .ret ?_
        refine Post.rets rfl (.agg rfl ag27 sz27 .here rfl (.tmp rfl .nil)) rfl (Imm.le_refl _) (fun w h => (Sat.tail (Sat.tail (Sat.tail h)))) ?_
        rw [show nodesR b o = (b, 7) by unfold nodesR; rw [if_pos h10]; unfold addNR; rw [if_pos h14, if_pos (show hasN b o.node.name = true from h19)]]
        exact ⟨rfl, _, rfl, hk0⟩
      · skip
        refine .cond_false rfl <| .seq <| .region <| .e (.fieldAddr fo27_0 rfl) rfl rfl <| .e (.load ag22 rfl (.there <| .there <| .here) rfl) rfl rfl <| .e (.len sl22 rfl rfl) rfl rfl ?_
        refine .e (.geq rfl rfl) rfl rfl <| .e (.assign rfl) rfl rfl <| .nil <| .go ?_
        refine .split 27 rfl (fun h27 => ?_) (fun h27 => ?_)
        · skip
          replace h27 := of_decide_eq_true h27
          refine .cond_true rfl <| .seq <| .region <| .e (.loadW ag27 sz27 rfl (.there <| .there <| .here) rfl) rfl rfl <| .on rfl <| .storeW sz27 rfl rfl rfl rfl rfl rfl .here <| .e (.assign rfl) rfl rfl ?_
          refine .nil <| .go <| .ret <| .blk_ret <| .ret <| .ret ?_
          refine Post.rets rfl (.agg rfl ag27 sz27 .here rfl (.tmp rfl .nil)) rfl (Imm.le_refl _) (fun w h => (Sat.tail (Sat.tail (Sat.tail h)))) ?_
          rw [show nodesR b o = (b, 11) by unfold nodesR; rw [if_pos h10]; unfold addNR; rw [if_pos h14, if_neg (show ¬hasN b o.node.name = true from Bool.eq_false_iff.1 h19), if_pos (by omega)]]
          exact ⟨rfl, _, rfl, hk0⟩
        · skip
          replace h27 := of_decide_eq_false h27
          refine .cond_false rfl <| .skip <| .blk_normal <| .go <| .seq <| .region ?_
          refine .e (.loadW ag27 sz27 rfl (.there <| .there <| .here) rfl) rfl rfl <| .e (.fieldAddr fo36_1 rfl) rfl rfl <| .e (.loadP ag32 sz32 rfl (.there <| .here) rfl) rfl rfl <| .on rfl <| .call cal84 rfl rfl rfl (rwithNode_ok hk0 hon h14 (by omega)) fun v36 I36 O36 hI36 hK36 => ?_
          obtain ⟨rfl, cs36, rfl, hb36⟩ := hK36
          have hb360 := hb36
          obtain ⟨nv36, tv36, bv36, rfl, hn36, ht36, hx36⟩ := hb36.ex
          obtain ⟨_, _, rfl, -⟩ := hn36
          obtain ⟨_, _, rfl, htl36, -⟩ := ht36
          obtain ⟨_, _, rfl, -⟩ := hx36
          refine .on rfl <| .storeW sz27 rfl rfl rfl rfl rfl rfl .here <| .e (.assign rfl) rfl rfl <| .nil <| .go <| .ret <| .ret ?_
          refine Post.rets rfl (.agg rfl ag27 sz27 .here rfl (.tmp rfl .nil)) rfl hI36 (fun w h => (Sat.tail (Sat.tail (Sat.tail h)))) ?_
          rw [show nodesR b o = ({ b with nodes := insAt b.nodes (posN b o.node.name) o.node }, 0) by unfold nodesR; rw [if_pos h10]; unfold addNR; rw [if_pos h14, if_neg (show ¬hasN b o.node.name = true from Bool.eq_false_iff.1 h19), if_neg (by omega)]]
          exact ⟨rfl, _, rfl, hb360⟩
  · skip
    replace h10 := of_decide_eq_false h10
    refine .cond_false rfl <| .skip <| .go <| .seq <| .region <| .e (.loadW ag27 sz27 rfl (.there <| .there <| .here) rfl) rfl rfl ?_
    refine .e (.fieldAddr fo36_3 rfl) rfl rfl <| .e (.load ag9 rfl (.there <| .here) rfl) rfl rfl <| .on rfl <| .callP cal67 rfl rfl rfl (rixN_ok hk0) <| .e (.assign rfl) rfl rfl <| .nil <| .go ?_
    refine .seq <| .seq <| .region <| .e (.move rfl) rfl rfl <| .e ((EV.cast (.lss rfl rfl) (congrArg Value.bool (ix_lt (nm := fun x : Nod => x.name))))) rfl rfl <| .nil ?_
    refine .go ?_
    refine .split 42 rfl (fun h42 => ?_) (fun h42 => ?_)
    · skip
      refine .cond_true rfl <| .seq <| .region <| .e (.loadW ag27 sz27 rfl (.there <| .there <| .here) rfl) rfl rfl <| .on rfl <| .storeW sz27 rfl rfl rfl rfl rfl rfl .here <| .e (.assign rfl) rfl rfl ?_
      refine .nil <| .go <| .ret <| .ret ?_
      refine Post.rets rfl (.agg rfl ag27 sz27 .here rfl (.tmp rfl .nil)) rfl (Imm.le_refl _) (fun w h => (Sat.tail (Sat.tail (Sat.tail h)))) ?_
      rw [show nodesR b o = (b, 6) by unfold nodesR; rw [if_neg h10]; unfold goneR; rw [if_neg (show ¬hasN b o.name = true from Bool.eq_false_iff.1 ((Bool.not_eq_true' _).mp h42))]]
      exact ⟨rfl, _, rfl, hk0⟩
    · skip
      have hhas := (Bool.not_eq_false' _).mp h42
      obtain ⟨hpk, -⟩ := has_get hok.rn hhas
      have hix : ixN b o.name = (posBy (fun x : Nod => x.name) b.nodes o.name : Int) := ix_pos hok.rn hhas
      obtain ⟨wsA, hsA, hdA⟩ := SlR.src (B := []) (fun _ _ h => NodR.len h) (SlR.takeN hnv0 (Nat.le_of_lt hpk))
      obtain ⟨wsB, hsB, hdB⟩ := SlR.src (B := []) (fun _ _ h => NodR.len h) (SlR.from (l := posBy (fun x : Nod => x.name) b.nodes o.name + 1) hnv0 hpk)
      refine .cond_false rfl <| .skip <| .go <| .seq <| .seq <| .region ?_
      refine .e (.loadW ag27 sz27 rfl (.there <| .there <| .here) rfl) rfl rfl <| .e (.fieldAddr fo36_3 rfl) rfl rfl <| .e (.load ag9 rfl (.there <| .here) rfl) rfl rfl <| .on rfl <| .call cal85 rfl rfl rfl (rthere_ok hk0 (Listed.ok hok)) fun v47 I47 O47 hI47 hK47 => ?_
      obtain ⟨rfl, hl47⟩ := hK47
      obtain ⟨la47, lc47, rfl, hl471, hl472, -⟩ := hl47
      refine .e (.len sl23 rfl rfl) rfl rfl <| .e (.gtr rfl rfl) rfl rfl <| .nil <| .go ?_
      refine .split 49 rfl (fun h49 => ?_) (fun h49 => ?_)
      · skip
        replace h49 := of_decide_eq_true h49
        refine .cond_true rfl <| .seq <| .region <| .e (.loadW ag27 sz27 rfl (.there <| .there <| .here) rfl) rfl rfl <| .on rfl <| .storeW sz27 rfl rfl rfl rfl rfl rfl .here <| .e (.assign rfl) rfl rfl ?_
        refine .nil <| .go <| .ret <| .ret ?_
        refine Post.rets rfl (.agg rfl ag27 sz27 .here rfl (.tmp rfl .nil)) rfl hI47 (fun w h => (Sat.tail (Sat.tail (Sat.tail h)))) ?_
        rw [show nodesR b o = (b, 12) by unfold nodesR; rw [if_neg h10]; unfold goneR; rw [if_pos (show hasN b o.name = true from (Bool.not_eq_false' _).mp h42), if_pos (by omega)]]
        exact ⟨rfl, _, rfl, (hk0.mono hI47)⟩
      · skip
        replace h49 := of_decide_eq_false h49
        obtain ⟨wsA, hsA, hdA⟩ := SlR.src (B := []) (fun _ _ h => NodR.len h) (SlR.takeN (NodsR.mono hI47 hnv0) (Nat.le_of_lt hpk))
        obtain ⟨wsB, hsB, hdB⟩ := SlR.src (B := []) (fun _ _ h => NodR.len h) (SlR.from (l := posBy (fun x : Nod => x.name) b.nodes o.name + 1) (NodsR.mono hI47 hnv0) hpk)
        refine .cond_false rfl <| .skip <| .go <| .seq ?_
        refine .draw [(c1, _)] mixed (.cons (.there <| .there <| .here) .nil) ?_
        refine .t 1 rfl (.fieldAddr fo27_0 rfl) rfl rfl (by kernel_rfl) <| .t 2 rfl (.load ag22 rfl .here rfl) rfl rfl (by kernel_rfl) <| .t 3 rfl (.move rfl) rfl rfl (by kernel_rfl) <| .t 4 rfl (.sliceHn sl22 rfl rfl hix (Nat.le_trans (Nat.le_of_lt hpk) hn1)) rfl rfl (by kernel_rfl) <| .t 6 rfl (.fieldAddr fo27_0 rfl) rfl rfl (by kernel_rfl) <| .t 7 rfl (.load ag22 rfl .here rfl) rfl rfl (by kernel_rfl) ?_
        refine .t 8 rfl (.move rfl) rfl rfl (by kernel_rfl) <| .t 9 rfl (.add rfl rfl rfl) rfl rfl (by kernel_rfl) <| .t 10 rfl (.sliceL (l := posBy (fun x : Nod => x.name) b.nodes o.name + 1) sl22 rfl rfl (by rw [hix]; exact wrap_succ (by omega)) hpk) rfl rfl (by kernel_rfl) <| .one (i := 0) (by kernel_rfl) rfl rfl <| .buildSlice Tryz.underlying22 sz32 (by decide) (by decide) zv32 rfl rfl rfl rfl rfl fun c4 _ _ => ?_
        refine ⟨(.cons (.there <| .there <| .there <| .here) .nil), Imm.le_refl _, ?_⟩
        refine .one (i := 5) (by kernel_rfl) rfl rfl <| .append Tryz.underlying22 Tryz.underlying22 sz32 by32 zv32 rfl rfl rfl .here (OwnS.made rfl (by decide)) hsA.any hdA.1 (hdA.ones (by decide) (fun _ _ h => NodR.ones h)) (by rw [List.length_take]; omega) (by rw [List.length_take]; omega) rfl fun v56 ob56 ho56 => ?_
        refine ⟨(.cons (.app <| .there <| .there <| .here) .nil), Imm.le_refl _, ?_⟩
        refine .one (i := 11) (by kernel_rfl) rfl rfl <| .append Tryz.underlying22 Tryz.underlying22 sz32 by32 zv32 rfl rfl rfl .front ho56 hsB.any hdB.1 (hdB.ones (by decide) (fun _ _ h => NodR.ones h)) (by rw [List.length_take, List.length_drop]; omega) (by rw [List.length_take, List.length_drop]; omega) rfl fun v62 ob62 ho62 => ?_
        refine ⟨(.cons (.app <| .there <| .there <| .here) .nil), Imm.le_refl _, ?_⟩
        refine .t 12 rfl (.fieldAddr fo27_0 rfl) rfl rfl (by kernel_rfl) ?_
        obtain ⟨ad62, cap62, rfl⟩ := ho62.form
        refine .late (i := 13) (by kernel_rfl) (by kernel_rfl) (by kernel_rfl) rfl rfl <| .store sz22 rfl rfl rfl rfl rfl rfl (.app <| .there <| .there <| .here) <| .go <| .seq <| .region <| .e (.loadW ag27 sz27 rfl (.app <| .there <| .there <| .here) rfl) rfl rfl <| .on rfl <| .storeW sz27 rfl rfl rfl rfl rfl rfl (.app <| .here) ?_
        refine .e (.assign rfl) rfl rfl <| .nil <| .go <| .ret ?_
        refine .freezeS ho62 fun K hK hKs => ?_
        have hyS : NodsR K _ (delAt b.nodes (posN b o.name)) := hKs (R := NodR) (show DR NodR 6 K (wsA ++ wsB) (b.nodes.take (posN b o.name) ++ b.nodes.drop (posN b o.name + 1)) from (hdA.mono fun _ _ h => h.mono hK).append (hdB.mono fun _ _ h => h.mono hK)) (by unfold delAt posN; simp)
        refine Post.rets rfl (.agg rfl ag27 sz27 .here rfl (.tmp rfl .nil)) rfl (Imm.le_trans hI47 hK) (fun w h => (Sat.tail (Sat.tail (Sat.tail h)))) ?_
        rw [show nodesR b o = ({ b with nodes := delAt b.nodes (posN b o.name) }, 0) by unfold nodesR; rw [if_neg h10]; unfold goneR; rw [if_pos (show hasN b o.name = true from (Bool.not_eq_false' _).mp h42), if_neg (by omega)]]
        exact ⟨rfl, _, rfl, ⟨⟨_, _, _, rfl, hyS, TsksR.mono (Imm.le_trans hI47 hK) htv0, BndsR.mono (Imm.le_trans hI47 hK) hbv0⟩, hk0.fence⟩⟩

end Go.Proofs.YtcojkkndmholaaaGreatDoor
