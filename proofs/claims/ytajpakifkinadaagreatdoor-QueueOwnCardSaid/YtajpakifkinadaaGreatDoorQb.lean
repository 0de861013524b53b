/- Walks of functions over a symbolic memory, printed by a program of the session. -/
import Derived.Test.YtajpakifkinadaaGreatDoorQa
namespace Go.Proofs.YtajpakifkinadaaGreatDoor
open Go.Sy
set_option linter.unusedSimpArgs false
set_option linter.unusedVariables false

def freeTo' (b : Bk) (k : Nat) : List Tsk := (b.tasks.take k).filter fun t => !hasB b t.name
theorem freeTo'_step {b : Bk} {k : Nat} (hk : k < b.tasks.length) : freeTo' b (k + 1) = if hasB b b.tasks[k].name = true then freeTo' b k else freeTo' b k ++ [b.tasks[k]] := by
  unfold freeTo'
  rw [List.take_succ_eq_append_getElem hk, List.filter_append]
  cases h : hasB b b.tasks[k].name <;> simp [h]
theorem freeTo'_len {b : Bk} {k : Nat} : (freeTo' b k).length ≤ k := by
  unfold freeTo'
  have := List.length_filter_le (fun t : Tsk => !hasB b t.name) (b.tasks.take k)
  rw [List.length_take] at this; omega
theorem freeTo'_end {b : Bk} {k : Nat} (hk : b.tasks.length ≤ k) : freeTo' b k = freeT b := by unfold freeTo' freeT; rw [List.take_of_length_le hk]
/-- What lies in the channel. -/
def ChT (I : Imm) (vs : List (List Value)) (l : List Tsk) : Prop := vs.length = l.length ∧ ∀ (i : Nat) (x : Tsk), l[i]? = some x → ∃ c, vs[i]? = some c ∧ TskR I c x
def aggV (c : List Value) : Value := .agg ⟨c⟩
theorem ChT.nil {I : Imm} : ChT I [] [] := ⟨rfl, fun i x h => by simp at h⟩
theorem ChT.snoc {I : Imm} {vs : List (List Value)} {l : List Tsk} {c : List Value} {t : Tsk} (h : ChT I vs l) (ht : TskR I c t) : ChT I (vs ++ [c]) (l ++ [t]) := by
  refine ⟨by rw [List.length_append, List.length_append, h.1]; rfl, fun i x hx => ?_⟩
  by_cases hi : i < l.length
  · rw [List.getElem?_append_left hi] at hx
    obtain ⟨d, h1, h2⟩ := h.2 i x hx
    exact ⟨d, by rw [List.getElem?_append_left (by rw [h.1]; exact hi)]; exact h1, h2⟩
  · rw [List.getElem?_append_right (by omega)] at hx
    have h0 : i - l.length = 0 := by
      rcases Nat.eq_zero_or_pos (i - l.length) with h | h
      · exact h
      · rw [List.getElem?_eq_none (by simp; omega)] at hx; cases hx
    rw [h0] at hx
    cases hx
    exact ⟨c, by rw [List.getElem?_append_right (by rw [h.1]; omega), h.1, h0]; rfl, ht⟩
theorem ch_push {vs : List (List Value)} {c : List Value} : (⟨vs.map aggV⟩ : Array Value).push (.agg ⟨c⟩) = ⟨(vs ++ [c]).map aggV⟩ := by simp [aggV]
theorem ch_tail {vs : List (List Value)} {k : Nat} : ((vs.drop k).map aggV).tail = (vs.drop (k + 1)).map aggV := by rw [← List.map_tail, List.tail_drop]
theorem ch_cons {I : Imm} {vs : List (List Value)} {l : List Tsk} {k : Nat} {v : Value} {r : List Value} (h : ChT I vs l) (hv : (vs.drop k).map aggV = v :: r) : ∃ (hk : k < l.length), ∃ c, v = .agg ⟨c⟩ ∧ TskR I c l[k] := by
  have hk : k < vs.length := by
    rcases Nat.lt_or_ge k vs.length with h1 | h1
    · exact h1
    · rw [List.drop_eq_nil_iff.2 h1] at hv; cases hv
  have hkl : k < l.length := by rw [← h.1]; exact hk
  obtain ⟨c, h1, h2⟩ := h.2 k l[k] (List.getElem?_eq_getElem hkl)
  rw [List.drop_eq_getElem_cons hk, List.map_cons] at hv
  rw [List.getElem?_eq_getElem hk] at h1
  cases h1
  cases hv
  exact ⟨hkl, _, rfl, h2⟩
theorem ch_nil {I : Imm} {vs : List (List Value)} {l : List Tsk} {k : Nat} (h : ChT I vs l) (hv : (vs.drop k).map aggV = []) : l.length ≤ k := by
  have := congrArg List.length hv
  rw [List.length_map, List.length_drop, h.1, List.length_nil] at this
  omega

set_option maxHeartbeats 1000000 in
set_option maxRecDepth 20000 in
theorem wait1_ok {I : Imm} {O : Own} {cs : List Value} {x : Bnd} {t : Tsk} {wv bv : Value} {cb : Nat} (hc : Has O cb (.cells ⟨t.cells wv bv⟩ 34 (0, 0))) (hx : BndR I cs x) :
    Pure Tryz.prog 27 [.agg ⟨cs⟩, .pointer (some ⟨cb, 0, none⟩)] I O (.bool (decide (x.task = t.name))) := by
  obtain ⟨rfl, hx1, hx2⟩ := hx
  refine Go.Sy.Does.enter Tryz.func27 rfl Tryz.ntmps27 rfl ?_
  refine .seq <| .region <| .on rfl <| .box rfl rfl rfl fun c1 _ _ => .e (.assign rfl) rfl rfl <| .nil <| .go ?_
  refine .seq <| .region <| .e (.fieldAddr fo47_0 rfl) rfl rfl <| .e (.load ag9 rfl .here rfl) rfl rfl <| .e (.fieldAddr fo34_0 rfl) rfl rfl <| .e (.load ag9 rfl (.there <| hc) rfl) rfl rfl ?_
  refine .e (.streq rfl rfl) rfl rfl <| .e (.assign rfl) rfl rfl <| .nil <| .go <| .ret ?_
  refine .tail ?_
  refine Post.retE rfl rfl ?_
  rfl

theorem ownF {I : Imm} {O : Own} {kc : List Value} {b : Bk} (hk : BkR I kc b) (hM : BkM b) : Go.Sy.Does Tryz.prog 16 [.agg ⟨kc⟩] I O (FB (fun cs => .agg ⟨cs⟩) b O) := frzBk (U := fun cs => .agg ⟨cs⟩) (bOwn_ok hk hM)

set_option maxHeartbeats 16000000 in
set_option maxRecDepth 20000 in
theorem wait_ok {I : Imm} {O : Own} {kc : List Value} {b : Bk} (hk : BkR I kc b) :
    Go.Sy.Does Tryz.prog 10 [.agg ⟨kc⟩] I O (fun u I' O' => ∃ v ws ob, u = .tuple ⟨[v, .int .i64 (waitQ b).2]⟩ ∧ OwnS 9 v (waitQ b).1.length ws ob ∧ DR TskR 9 I' ws (waitQ b).1 ∧ O' = ob ++ O) := by
  have hk0 := hk
  obtain ⟨nv, tv, bv, rfl, hnv, htv, hbv⟩ := hk.ex
  have hnv0 := hnv
  have htv0 := htv
  have hbv0 := hbv
  obtain ⟨na, ncap, rfl, hn1, hn2, -⟩ := hnv
  obtain ⟨ta, tcap, rfl, ht1, ht2, -⟩ := htv
  obtain ⟨ba, bcap, rfl, hb1, hb2, -⟩ := hbv
  refine Go.Sy.Does.enter Tryz.func10 rfl Tryz.ntmps10 rfl ?_
  refine .seq <| .region <| .on rfl <| .box rfl rfl rfl fun c1 _ _ => .e (.assign rfl) rfl rfl <| .e (.assign rfl) rfl rfl <| .nil ?_
  refine .go <| .scope <| .seq <| .seq <| .region <| .e (.loadW ag27 sz27 rfl .here rfl) rfl rfl ?_
  refine .on rfl <| .callP cal15 rfl rfl rfl (bCheck_ok hk0) <| .e (.assign rfl) rfl rfl <| .nil <| .go <| .seq <| .region ?_
  refine .e (.move rfl) rfl rfl <| .e (.neq rfl rfl) rfl rfl <| .nil <| .go ?_
  refine .split 13 rfl (fun h13 => ?_) (fun h13 => ?_)
  · skip
    first | replace h13 := of_decide_eq_false ((Bool.not_eq_true' _).mp h13) | replace h13 := of_decide_eq_false (by simpa using h13)
    refine .cond_true rfl <| .seq <| .region <| .e (.move rfl) rfl rfl <| .e (.assign rfl) rfl rfl <| .e (.assign rfl) rfl rfl ?_
    refine .nil <| .go <| .ret <| .ret <| .sc_ret ?_
    refine Post.rets rfl (.tmp rfl (.tmp rfl .nil)) rfl (Imm.le_refl _) (fun w h => (Sat.tail h)) ?_
    rw [show waitQ b = ([], 10) by unfold waitQ; rw [if_neg (by rw [(bookWhy_no h13).1]; simp)], (bookWhy_no h13).2]
    exact ⟨_, [], [], rfl, OwnS.nil, DR.nil, rfl⟩
  · skip
    first | replace h13 := of_decide_eq_true ((Bool.not_eq_false' _).mp h13) | replace h13 := of_decide_eq_true (by simpa using h13)
    have hok := BookOk.of (bookWhy_ok h13)
    have hbt := hok.tasks
    refine .cond_false rfl <| .skip <| .go <| .seq <| .region <| .e (.loadW ag27 sz27 rfl .here rfl) rfl rfl ?_
    refine .on rfl <| .call cal16 rfl rfl rfl (ownF hk0 (BkM.of hok)) fun v16 I16 O16 hI16 hK16 => ?_
    obtain ⟨rfl, cs16, rfl, hb16⟩ := hK16
    have hb160 := hb16
    obtain ⟨nv16, tv16, bv16, rfl, hn16, ht16, hx16⟩ := hb16.ex
    obtain ⟨_, _, rfl, -⟩ := hn16
    obtain ⟨_, _, rfl, htl16, -⟩ := ht16
    obtain ⟨_, _, rfl, -⟩ := hx16
    refine .on rfl <| .storeW sz27 rfl rfl rfl rfl rfl rfl .here <| .nil <| .go <| .seq <| .region ?_
    obtain ⟨nvQ, tvQ, bvQ, eQ, hn160, ht160, hx160⟩ := hb160.ex
    cases eQ
    refine .e (.fieldAddr fo27_1 rfl) rfl rfl <| .e (.load ag23 rfl .here rfl) rfl rfl <| .e (.len sl23 rfl rfl) rfl rfl <| .on rfl <| .makeChan Tryz.underlying77 by34 rfl rfl (by omega) (by omega) rfl fun c2 _ _ => .e (.assign rfl) rfl rfl <| .nil ?_
    refine .go <| .seq <| .seq <| .region <| .e (.fieldAddr fo27_1 rfl) rfl rfl <| .e (.load ag23 rfl (.there <| .here) rfl) rfl rfl ?_
    refine .e (.len sl23 rfl rfl) rfl rfl <| .e (.move rfl) rfl rfl <| .nil <| .go <| .block ?_
    refine .loopM [7, 24, 25, 26, 27, 28, 29, 30, 31, 32, 33, 34, 35] (fun s => b.tasks.length - s.1) (fun s => s.1 ≤ b.tasks.length ∧ ChT I16 s.2 (freeTo' b s.1)) (fun s => [(24, .int .i64 s.1)]) (fun _ => _) (fun s => (c2, .chan b.tasks.length ⟨s.2.map aggV⟩ false s.2.length 0 false) :: _) (((0, []) : Nat × List (List Value))) ⟨Nat.zero_le _, ChT.nil⟩ ⟨rfl, trivial⟩ rfl rfl ?_
    intro ⟨k, vs⟩ hk
    dsimp only at hk ⊢
    obtain ⟨hkk, hch⟩ := hk
    have hfl := freeTo'_len (b := b) (k := k)
    have hvl := hch.1
    refine .seq <| .region <| .e (.lss rfl rfl) rfl rfl <| .nil <| .go <| .seq ?_
    refine .split 25 rfl (fun h25 => ?_) (fun h25 => ?_)
    · skip
      replace h25 := of_decide_eq_true h25
      refine .cond_true rfl <| .skip <| .go <| .seq <| .block <| .seq ?_
      refine .region ?_
      obtain ⟨eb26, eo26, cs26, hd26, hat26, hr26⟩ := SlR.at_ ht160 (k := k) (by omega)
      cases hd26
      have ht26 := hr26
      obtain ⟨xw26, xb26, rfl, hxw26, hxb26⟩ := hr26.ex
      obtain ⟨xa26, xc26, rfl, -⟩ := hxw26
      obtain ⟨xd26, xe26, rfl, -⟩ := hxb26
      refine .e (.indexAddrL sl23 rfl rfl rfl (by omega)) rfl rfl <| .e (.loadIA ag34 sz34 rfl hat26 rfl) rfl rfl <| .on rfl <| .alloc zr34 rfl fun c3 _ _ => .on rfl <| .storeW sz34 rfl rfl rfl rfl rfl rfl .here <| .nil <| .go ?_
      refine .seq <| .region <| .e (.fieldAddr fo27_2 rfl) rfl rfl <| .e (.load ag24 rfl (.there <| .there <| .here) rfl) rfl rfl <| .e (.makeFunc rfl rfl) rfl rfl <| .on rfl <| .callP cal26 rfl rfl rfl (hasBnd_ok (p := fun x : Bnd => decide (x.task = b.tasks[k].name)) (us := [.pointer (some ⟨c3, 0, none⟩)]) hx160 cal27 (fun cs x _ hx => wait1_ok .here hx)) ?_
      refine .e (.not rfl) rfl rfl <| .nil <| .go ?_
      refine .split 32 rfl (fun h32 => ?_) (fun h32 => ?_)
      · skip
        refine .cond_true rfl <| .regionR <| .e (.move rfl) rfl rfl <| .e (.loadW ag34 sz34 rfl .here rfl) rfl rfl <| .send rfl rfl (.there <| .here) (by show (vs.map aggV).length < _; rw [List.length_map]; omega) <| .wl <| .nil ?_
        refine .blk_normal <| .go <| .region <| .e (.add rfl rfl (by first | exact wrap_succ (by omega) | exact IntWalk.i64_in _ (by omega) | exact rfl)) rfl rfl <| .e (.move rfl) rfl rfl <| .nil ?_
        refine .tail ?_
        have e5 := freeTo'_step (b := b) (k := k) (by omega)
        rw [if_neg (show ¬hasB b b.tasks[k].name = true from Bool.eq_false_iff.1 ((Bool.not_eq_true' _).mp h32))] at e5
        rw [ch_push]
        exact .mid ((k + 1, vs ++ [_])) ⟨by dsimp only; omega, by dsimp only; omega, by dsimp only; rw [e5]; exact hch.snoc ht26⟩ ⟨rfl, trivial⟩ rfl (by simp) (.pre 15 rfl (.app rfl .base))
      · skip
        refine .cond_false rfl <| .skip <| .blk_normal <| .go <| .region <| .e (.add rfl rfl (by first | exact wrap_succ (by omega) | exact IntWalk.i64_in _ (by omega) | exact rfl)) rfl rfl ?_
        refine .e (.move rfl) rfl rfl <| .nil ?_
        refine .tail ?_
        have e5 := freeTo'_step (b := b) (k := k) (by omega)
        rw [if_pos (show hasB b b.tasks[k].name = true from (Bool.not_eq_false' _).mp h32)] at e5
        exact .mid ((k + 1, vs)) ⟨by dsimp only; omega, by dsimp only; omega, by dsimp only; rw [e5]; exact hch⟩ ⟨rfl, trivial⟩ rfl rfl (.pre 13 rfl (.app rfl .base))
    · skip
      replace h25 := of_decide_eq_false h25
      refine .cond_false rfl <| .exit <| .exit <| .exit <| .blk_exit <| .go ?_
      refine .seq <| .region <| .e (.assign rfl) rfl rfl <| .nil <| .go <| .seq ?_
      refine .label <| .go <| .seq <| .block ?_
      have ek : k = b.tasks.length := by omega
      subst ek
      rw [freeTo'_end (Nat.le_refl _)] at hch
      refine .loopM [8, 9, 36, 37, 38, 39, 40, 41, 42, 43, 44] (fun s => (freeT b).length - s.1) (fun s => s.1 ≤ (freeT b).length ∧ OwnS 9 s.2.1 s.1 s.2.2.1 s.2.2.2 ∧ DR TskR 9 I16 s.2.2.1 ((freeT b).take s.1)) (fun s => [(8, s.2.1)]) (fun _ => _) (fun s => s.2.2.2 ++ ((c2, .chan b.tasks.length ⟨(vs.drop s.1).map aggV⟩ false vs.length s.1 false) :: _)) (((0, .slice none 0 0, [], []) : Nat × Value × List Value × Own)) ⟨Nat.zero_le _, OwnS.nil, by rw [List.take_zero]; exact DR.nil⟩ ⟨rfl, trivial⟩ rfl rfl ?_
      intro ⟨j, vL, wsL, obL⟩ hj
      dsimp only at hj ⊢
      obtain ⟨hjj, hoL, hdL⟩ := hj
      obtain ⟨adL, capL, rfl⟩ := hoL.form
      have hfl2 : (freeT b).length ≤ 32 := by rw [← (wait_pw hok).2.length_eq]; exact wait_few hok
      refine .block <| .seq <| .region <| .e (.move rfl) rfl rfl <| .nil <| .go ?_
      refine .seq ?_
      refine .selectRecv rfl rfl zv34 rfl (.app <| .here) (fun vr lr hr => ?_) (fun hr => ?_)
      · skip
        obtain ⟨hjl, c37, rfl, hcR⟩ := ch_cons hch hr
        have hcR0 := hcR
        obtain ⟨wvC, bvC, rfl, hwC, hbC⟩ := hcR.ex
        obtain ⟨_, _, rfl, -⟩ := hwC
        obtain ⟨_, _, rfl, -⟩ := hbC
        refine .e (.extract rfl rfl) rfl rfl <| .e (.eql rfl rfl) rfl rfl <| .nil <| .go <| .block <| .cond_true rfl ?_
        refine .seq <| .region <| .e (.extract rfl rfl) rfl rfl <| .on rfl <| .alloc zr34 rfl fun c4 _ _ => .on rfl <| .storeW sz34 rfl rfl rfl rfl rfl rfl .here <| .nil ?_
        refine .go <| .region <| .e (.move rfl) rfl rfl <| .e (.loadW ag34 sz34 rfl .here rfl) rfl rfl <| .on rfl <| .buildSlice Tryz.underlying23 sz34 (by decide) (by decide) zv34 rfl rfl rfl rfl rfl fun c5 _ _ => .on rfl <| .append Tryz.underlying23 Tryz.underlying23 sz34 by34 zv34 rfl rfl rfl (.there <| .there <| .front) hoL ((OwnS.made (k := 9) rfl (by decide)).src (I := _) .here) rfl rfl (by omega) (by omega) rfl fun v44 ob44 ho44 => ?_
        refine .e (.assign rfl) rfl rfl <| .nil <| .blk_normal <| .blk_normal ?_
        refine .front1 (.app <| .here) ?_
        refine .tail ?_
        refine .front1 (.app <| .here) ?_
        refine .tail ?_
        simp only [ch_tail]
        exact .mid ((j + 1, _, _, _)) ⟨by dsimp only; omega, by dsimp only; omega, ho44, (by rw [List.take_succ_eq_append_getElem hjl]; exact hdL.append (DR.single (TskR.len hcR) hcR))⟩ ⟨rfl, trivial⟩ rfl rfl (.pre 11 rfl (.app rfl .base))
      · skip
        refine .e (.extract rfl rfl) rfl rfl <| .e (.eql rfl rfl) rfl rfl <| .nil <| .go <| .block <| .cond_false rfl ?_
        refine .exit <| .blk_other rfl <| .blk_other rfl <| .exit <| .blk_exit <| .go ?_
        refine .seq <| .region <| .e (.move rfl) rfl rfl ?_
        have ej : j = (freeT b).length := by have := ch_nil hch hr; omega
        subst ej
        rw [List.take_length] at hdL
        refine .on rfl <| .call cal28 rfl rfl rfl (sortT_ok hok hoL hdL) fun v46 I46 O46 hI46 hK46 => ?_
        obtain ⟨hq46, rfl, ws46, ob46, ho46, hd46, rfl⟩ := hK46
        replace hq46 := hq46.symm
        subst hq46
        refine .nil <| .go <| .seq <| .region <| .e (.move rfl) rfl rfl <| .e (.assign rfl) rfl rfl ?_
        refine .e (.assign rfl) rfl rfl <| .nil <| .go <| .ret <| .sc_ret ?_
        refine Post.rets rfl (.tmp rfl (.tmp rfl .nil)) rfl hI16 (fun w h => (Sat.tail (Sat.rem (Sat.tail (Sat.rem h (Rem.app <| Rem.here))) (Rem.app <| Rem.here)))) ?_
        rw [show waitQ b = (waitR b, 0) by unfold waitQ; rw [if_pos (bookWhy_ok h13)]]
        exact ⟨_, _, ob46, rfl, ho46, hd46, rfl⟩

theorem lodMk {I : Imm} {nc : List Value} {n : Nod} {u : A3} (h : NodR I nc n) (hu : u.ok) : LodR I (nc ++ [.int .i64 u.a, .int .i64 u.b, .int .i64 u.c]) ⟨n, u⟩ := by
  obtain ⟨lv, tv, rfl, h1, h2⟩ := h.ex
  exact ⟨⟨_, _, rfl, h1, h2⟩, h.name, h.has, hu⟩
theorem used_i64 {b : Bk} (h : BookOk b) {n : Nod} (hn : n ∈ b.nodes) : (usedR b n.name).1.ok := by
  have := used_bd h hn
  unfold A3.ok I64; omega
theorem loads_at {b : Bk} {k : Nat} (hk : k < b.nodes.length) : (loadsR b).take (k + 1) = (loadsR b).take k ++ [loadOf b b.nodes[k]] := by
  rw [List.take_succ_eq_append_getElem (by rw [loads_len]; exact hk)]
  congr 2
  unfold loadsR; rw [List.getElem_map]
theorem loads_to {b : Bk} {k : Nat} (hk : k ≤ b.nodes.length) : ((loadsR b).take k).length = k := by rw [List.length_take, loads_len]; omega

set_option maxHeartbeats 16000000 in
set_option maxRecDepth 20000 in
theorem loads_ok {I : Imm} {O : Own} {kc : List Value} {b : Bk} (hk : BkR I kc b) :
    Go.Sy.Does Tryz.prog 11 [.agg ⟨kc⟩] I O (fun u I' O' => ∃ v ws ob, u = .tuple ⟨[v, .int .i64 (loadsQ b).2]⟩ ∧ OwnS 9 v (loadsQ b).1.length ws ob ∧ DR LodR 9 I' ws (loadsQ b).1 ∧ O' = ob ++ O) := by
  have hk0 := hk
  obtain ⟨nv, tv, bv, rfl, hnv, htv, hbv⟩ := hk.ex
  have hnv0 := hnv
  have htv0 := htv
  have hbv0 := hbv
  obtain ⟨na, ncap, rfl, hn1, hn2, -⟩ := hnv
  obtain ⟨ta, tcap, rfl, ht1, ht2, -⟩ := htv
  obtain ⟨ba, bcap, rfl, hb1, hb2, -⟩ := hbv
  refine Go.Sy.Does.enter Tryz.func11 rfl Tryz.ntmps11 rfl ?_
  refine .seq <| .region <| .on rfl <| .box rfl rfl rfl fun c1 _ _ => .e (.assign rfl) rfl rfl <| .e (.assign rfl) rfl rfl <| .nil ?_
  refine .go <| .seq <| .seq <| .region <| .e (.loadW ag27 sz27 rfl .here rfl) rfl rfl <| .on rfl <| .callP cal15 rfl rfl rfl (bCheck_ok hk0) ?_
  refine .e (.assign rfl) rfl rfl <| .nil <| .go <| .seq <| .region <| .e (.move rfl) rfl rfl ?_
  refine .e (.neq rfl rfl) rfl rfl <| .nil <| .go ?_
  refine .split 13 rfl (fun h13 => ?_) (fun h13 => ?_)
  · skip
    first | replace h13 := of_decide_eq_false ((Bool.not_eq_true' _).mp h13) | replace h13 := of_decide_eq_false (by simpa using h13)
    refine .cond_true rfl <| .seq <| .region <| .e (.move rfl) rfl rfl <| .e (.assign rfl) rfl rfl <| .e (.assign rfl) rfl rfl ?_
    refine .nil <| .go <| .ret <| .ret ?_
    refine Post.rets rfl (.tmp rfl (.tmp rfl .nil)) rfl (Imm.le_refl _) (fun w h => (Sat.tail h)) ?_
    rw [show loadsQ b = ([], 10) by unfold loadsQ; rw [if_neg (by rw [(bookWhy_no h13).1]; simp)], (bookWhy_no h13).2]
    exact ⟨_, [], [], rfl, OwnS.nil, DR.nil, rfl⟩
  · skip
    first | replace h13 := of_decide_eq_true ((Bool.not_eq_false' _).mp h13) | replace h13 := of_decide_eq_true (by simpa using h13)
    have hok := BookOk.of (bookWhy_ok h13)
    have hbn := hok.nodes
    refine .cond_false rfl <| .skip <| .go <| .seq <| .region <| .e (.assign rfl) rfl rfl ?_
    refine .nil <| .go <| .seq <| .seq <| .region <| .e (.loadW ag27 sz27 rfl .here rfl) rfl rfl ?_
    refine .on rfl <| .call cal16 rfl rfl rfl (ownF hk0 (BkM.of hok)) fun v16 I16 O16 hI16 hK16 => ?_
    obtain ⟨rfl, cs16, rfl, hb16⟩ := hK16
    have hb160 := hb16
    obtain ⟨nv16, tv16, bv16, rfl, hn16, ht16, hx16⟩ := hb16.ex
    obtain ⟨_, _, rfl, -⟩ := hn16
    obtain ⟨_, _, rfl, htl16, -⟩ := ht16
    obtain ⟨_, _, rfl, -⟩ := hx16
    obtain ⟨nvQ, tvQ, bvQ, eQ, hn160, ht160, hx160⟩ := hb160.ex
    cases eQ
    refine .e (.field ft27_0 ag22 rfl rfl) rfl rfl <| .e (.len sl22 rfl rfl) rfl rfl <| .e (.move rfl) rfl rfl <| .nil <| .go <| .block ?_
    refine .loopM [5, 7, 8, 9, 19, 20, 21, 22, 23, 24, 25, 26, 27, 28, 29, 30, 31, 32, 33, 34, 35, 36] (fun s => b.nodes.length - s.1) (fun s => s.1 ≤ b.nodes.length ∧ OwnS 9 s.2.1 s.1 s.2.2.1 s.2.2.2 ∧ DR LodR 9 I16 s.2.2.1 ((loadsR b).take s.1)) (fun s => [(19, .int .i64 s.1), (5, s.2.1)]) (fun _ => _) (fun s => s.2.2.2 ++ _) (((0, .slice none 0 0, [], []) : Nat × Value × List Value × Own)) ⟨Nat.zero_le _, OwnS.nil, by rw [List.take_zero]; exact DR.nil⟩ ⟨rfl, rfl, trivial⟩ rfl rfl ?_
    intro ⟨k, vL, wsL, obL⟩ hk
    dsimp only at hk ⊢
    obtain ⟨hkk, hoL, hdL⟩ := hk
    obtain ⟨adL, capL, rfl⟩ := hoL.form
    refine .seq <| .region <| .e (.lss rfl rfl) rfl rfl <| .nil <| .go <| .seq ?_
    refine .split 20 rfl (fun h20 => ?_) (fun h20 => ?_)
    · skip
      replace h20 := of_decide_eq_true h20
      refine .cond_true rfl <| .skip <| .go <| .seq <| .block <| .seq ?_
      refine .region ?_
      obtain ⟨eb21, eo21, cs21, hd21, hat21, hr21⟩ := SlR.at_ hn160 (k := k) (by omega)
      cases hd21
      have hn21 := hr21
      obtain ⟨xf21, xg21, rfl, hxf21, hxg21⟩ := hr21.ex
      obtain ⟨xh21, xi21, rfl, -⟩ := hxf21
      obtain ⟨xj21, xk21, rfl, -⟩ := hxg21
      refine .e (.indexAddrL sl22 rfl rfl rfl (by omega)) rfl rfl <| .e (.loadIA ag32 sz32 rfl hat21 rfl) rfl rfl <| .on rfl <| .alloc zr32 rfl fun c2 _ _ => .on rfl <| .storeW sz32 rfl rfl rfl rfl rfl rfl .here <| .nil <| .go ?_
      refine .seq <| .region <| .e (.loadW ag27 sz27 rfl (.there <| .app <| .here) rfl) rfl rfl <| .e (.fieldAddr fo32_0 rfl) rfl rfl <| .e (.load ag9 rfl .here rfl) rfl rfl <| .on rfl <| .callP cal30 rfl rfl rfl (bUsed_ok (hk0.mono hI16)) ?_
      refine .e (.move rfl) rfl rfl <| .e (.extract rfl rfl) rfl rfl <| .e (.extract rfl rfl) rfl rfl <| .on rfl <| .alloc zr29 rfl fun c3 _ _ => .on rfl <| .storeW sz29 rfl rfl rfl rfl rfl rfl .here <| .e (.assign rfl) rfl rfl ?_
      refine .nil <| .go <| .region <| .e (.move rfl) rfl rfl <| .e (.loadW ag32 sz32 rfl (.there <| .here) rfl) rfl rfl <| .e (.loadW ag29 sz29 rfl .here rfl) rfl rfl ?_
      refine .e (.build bs56 zv56 rfl rfl) rfl rfl <| .on rfl <| .buildSlice Tryz.underlying52 sz56 (by decide) (by decide) zv56 rfl rfl rfl rfl rfl fun c4 _ _ => .on rfl <| .append Tryz.underlying52 Tryz.underlying52 sz56 by56 zv56 rfl rfl rfl (.there <| .there <| .there <| .front) hoL ((OwnS.made (k := 9) rfl (by decide)).src (I := _) .here) rfl rfl (by omega) (by omega) rfl fun v35 ob35 ho35 => .e (.assign rfl) rfl rfl <| .nil <| .blk_normal ?_
      refine .go <| .region <| .e (.add rfl rfl (by first | exact wrap_succ (by omega) | exact IntWalk.i64_in _ (by omega) | exact rfl)) rfl rfl <| .e (.move rfl) rfl rfl <| .nil ?_
      refine .front1 (.app <| .here) ?_
      refine .tail ?_
      refine .front1 (.app <| .here) ?_
      refine .tail ?_
      refine .front1 (.app <| .here) ?_
      refine .tail ?_
      exact .mid ((k + 1, _, _, _)) ⟨by dsimp only; omega, by dsimp only; omega, ho35, (by dsimp only; rw [loads_at (show k < b.nodes.length by omega)]; exact hdL.append (DR.single rfl (lodMk hn21 (used_i64 hok (List.getElem_mem (show k < b.nodes.length by omega))))))⟩ ⟨rfl, rfl, trivial⟩ rfl rfl (.pre 23 rfl (.app rfl .base))
    · skip
      replace h20 := of_decide_eq_false h20
      refine .cond_false rfl <| .exit <| .exit <| .exit <| .blk_exit <| .go ?_
      refine .seq <| .region <| .e (.move rfl) rfl rfl <| .e (.assign rfl) rfl rfl <| .e (.assign rfl) rfl rfl <| .nil ?_
      refine .go <| .ret ?_
      refine Post.rets rfl (.tmp rfl (.tmp rfl .nil)) rfl hI16 (fun w h => (Sat.tail (Sat.rem h (Rem.app <| Rem.here)))) ?_
      have ek : k = b.nodes.length := by omega
      subst ek
      rw [List.take_of_length_le (by rw [loads_len]; exact Nat.le_refl _)] at hdL
      rw [show loadsQ b = (loadsR b, 0) by unfold loadsQ; rw [if_pos (bookWhy_ok h13)]]
      exact ⟨_, _, obL, rfl, by dsimp only; rw [loads_len]; exact hoL, hdL, rfl⟩

def StrR (_ : Imm) (cs : List Value) (s : ByteArray) : Prop := cs = [.string s] ∧ StrOk s
abbrev StrsR (I : Imm) (v : Value) (l : List ByteArray) : Prop := SlR StrR 1 I v l
theorem idx_lt {α : Type} {p : α → Bool} {l : List α} : decide (idxOf p l < 0) = !l.any p := by
  rw [← idxOf_ge (p := p) (l := l), ← decide_not]
  exact decide_eq_decide.2 (by omega)

set_option maxHeartbeats 1000000 in
set_option maxRecDepth 20000 in
theorem free1_ok {I : Imm} {O : Own} {cs : List Value} {x : Tsk} {s : ByteArray} {cb : Nat} (hc : Has O cb (.cells ⟨[.string s]⟩ 9 (0, 0))) (hx : TskR I cs x) :
    Pure Tryz.prog 66 [.agg ⟨cs⟩, .pointer (some ⟨cb, 0, none⟩)] I O (.bool (decide (x.name = s))) := by
  obtain ⟨xw, xb, rfl, -, -⟩ := hx.ex
  refine Go.Sy.Does.enter Tryz.func66 rfl Tryz.ntmps66 rfl ?_
  refine .seq <| .region <| .on rfl <| .box rfl rfl rfl fun c1 _ _ => .e (.assign rfl) rfl rfl <| .nil <| .go ?_
  refine .seq <| .region <| .e (.fieldAddr fo34_0 rfl) rfl rfl <| .e (.load ag9 rfl .here rfl) rfl rfl <| .e (.load ag9 rfl (.there <| hc) rfl) rfl rfl <| .e (.streq rfl rfl) rfl rfl ?_
  refine .e (.assign rfl) rfl rfl <| .nil <| .go <| .ret ?_
  refine .tail ?_
  refine Post.retE rfl rfl ?_
  rfl

set_option maxHeartbeats 1000000 in
set_option maxRecDepth 20000 in
theorem free2_ok {I : Imm} {O : Own} {cs : List Value} {x : Bnd} {s : ByteArray} {cb : Nat} (hc : Has O cb (.cells ⟨[.string s]⟩ 9 (0, 0))) (hx : BndR I cs x) :
    Pure Tryz.prog 67 [.agg ⟨cs⟩, .pointer (some ⟨cb, 0, none⟩)] I O (.bool (decide (x.task = s))) := by
  obtain ⟨rfl, hx1, hx2⟩ := hx
  refine Go.Sy.Does.enter Tryz.func67 rfl Tryz.ntmps67 rfl ?_
  refine .seq <| .region <| .on rfl <| .box rfl rfl rfl fun c1 _ _ => .e (.assign rfl) rfl rfl <| .nil <| .go ?_
  refine .seq <| .region <| .e (.fieldAddr fo47_0 rfl) rfl rfl <| .e (.load ag9 rfl .here rfl) rfl rfl <| .e (.load ag9 rfl (.there <| hc) rfl) rfl rfl <| .e (.streq rfl rfl) rfl rfl ?_
  refine .e (.assign rfl) rfl rfl <| .nil <| .go <| .ret ?_
  refine .tail ?_
  refine Post.retE rfl rfl ?_
  rfl

set_option maxHeartbeats 16000000 in
set_option maxRecDepth 20000 in
theorem free_ok {I : Imm} {O : Own} {kc : List Value} {b : Bk} (hk : BkR I kc b) {task : ByteArray} :
    Go.Sy.Does Tryz.prog 25 [.agg ⟨kc⟩, .string task] I O (fun u I' O' => ∃ v ws ob, u = .tuple ⟨[v, .int .i64 (freeQ b task).2]⟩ ∧ OwnS 1 v (freeQ b task).1.length ws ob ∧ DR StrR 1 I' ws (freeQ b task).1 ∧ O' = ob ++ O) := by
  have hk0 := hk
  obtain ⟨nv, tv, bv, rfl, hnv, htv, hbv⟩ := hk.ex
  have hnv0 := hnv
  have htv0 := htv
  have hbv0 := hbv
  obtain ⟨na, ncap, rfl, hn1, hn2, -⟩ := hnv
  obtain ⟨ta, tcap, rfl, ht1, ht2, -⟩ := htv
  obtain ⟨ba, bcap, rfl, hb1, hb2, -⟩ := hbv
  refine Go.Sy.Does.enter Tryz.func25 rfl Tryz.ntmps25 rfl ?_
  refine .seq <| .region <| .on rfl <| .box rfl rfl rfl fun c1 _ _ => .on rfl <| .box rfl rfl rfl fun c2 _ _ => .e (.assign rfl) rfl rfl <| .e (.assign rfl) rfl rfl ?_
  refine .nil <| .go <| .seq <| .seq <| .region <| .e (.loadW ag27 sz27 rfl (.there <| .here) rfl) rfl rfl ?_
  refine .on rfl <| .callP cal15 rfl rfl rfl (bCheck_ok hk0) <| .e (.assign rfl) rfl rfl <| .nil <| .go <| .seq <| .region ?_
  refine .e (.move rfl) rfl rfl <| .e (.neq rfl rfl) rfl rfl <| .nil <| .go ?_
  refine .split 14 rfl (fun h14 => ?_) (fun h14 => ?_)
  · skip
    first | replace h14 := of_decide_eq_false ((Bool.not_eq_true' _).mp h14) | replace h14 := of_decide_eq_false (by simpa using h14)
    refine .cond_true rfl <| .seq <| .region <| .e (.move rfl) rfl rfl <| .e (.assign rfl) rfl rfl <| .e (.assign rfl) rfl rfl ?_
    refine .nil <| .go <| .ret <| .ret ?_
    refine Post.rets rfl (.tmp rfl (.tmp rfl .nil)) rfl (Imm.le_refl _) (fun w h => (Sat.tail (Sat.tail h))) ?_
    rw [show freeQ b task = ([], 10) by unfold freeQ; rw [if_neg (by rw [(bookWhy_no h14).1]; simp)], (bookWhy_no h14).2]
    exact ⟨_, [], [], rfl, OwnS.nil, DR.nil, rfl⟩
  · skip
    first | replace h14 := of_decide_eq_true ((Bool.not_eq_false' _).mp h14) | replace h14 := of_decide_eq_true (by simpa using h14)
    have hok := BookOk.of (bookWhy_ok h14)
    have hbn := hok.nodes
    refine .cond_false rfl <| .skip <| .go <| .seq <| .region <| .e (.fieldAddr fo27_1 rfl) rfl rfl ?_
    refine .e (.load ag23 rfl (.there <| .here) rfl) rfl rfl <| .e (.makeFunc rfl rfl) rfl rfl <| .on rfl <| .callP cal65 rfl rfl rfl (idxTsk_ok (p := fun x : Tsk => decide (x.name = task)) (us := [.pointer (some ⟨c2, 0, none⟩)]) htv0 cal66 (fun cs x _ hx => free1_ok .here hx)) <| .e (.assign rfl) rfl rfl <| .nil <| .go ?_
    refine .seq <| .block <| .seq <| .region <| .e (.move rfl) rfl rfl <| .e ((EV.cast (.lss rfl rfl) (congrArg Value.bool idx_lt))) rfl rfl ?_
    refine .e (.assign rfl) rfl rfl <| .nil <| .go ?_
    refine .split 20 rfl (fun h20 => ?_) (fun h20 => ?_)
    · skip
      refine .cond_true rfl <| .seq <| .region <| .e (.assign rfl) rfl rfl <| .e (.assign rfl) rfl rfl <| .nil ?_
      refine .go <| .ret <| .blk_ret <| .ret ?_
      refine Post.rets rfl (.tmp rfl (.tmp rfl .nil)) rfl (Imm.le_refl _) (fun w h => (Sat.tail (Sat.tail h))) ?_
      rw [show freeQ b task = ([], 6) by unfold freeQ; rw [if_pos (bookWhy_ok h14), if_neg (show ¬hasT b task = true from Bool.eq_false_iff.1 ((Bool.not_eq_true' _).mp h20))]]
      exact ⟨_, [], [], rfl, OwnS.nil, DR.nil, rfl⟩
    · skip
      refine .cond_false rfl <| .seq <| .region <| .e (.fieldAddr fo27_2 rfl) rfl rfl <| .e (.load ag24 rfl (.there <| .here) rfl) rfl rfl <| .e (.makeFunc rfl rfl) rfl rfl ?_
      refine .on rfl <| .callP cal26 rfl rfl rfl (hasBnd_ok (p := fun x : Bnd => decide (x.task = task)) (us := [.pointer (some ⟨c2, 0, none⟩)]) hbv0 cal67 (fun cs x _ hx => free2_ok .here hx)) <| .e (.assign rfl) rfl rfl <| .nil <| .go ?_
      refine .split 23 rfl (fun h23 => ?_) (fun h23 => ?_)
      · skip
        refine .cond_true rfl <| .seq <| .region <| .e (.assign rfl) rfl rfl <| .e (.assign rfl) rfl rfl <| .nil ?_
        refine .go <| .ret <| .blk_ret <| .ret ?_
        refine Post.rets rfl (.tmp rfl (.tmp rfl .nil)) rfl (Imm.le_refl _) (fun w h => (Sat.tail (Sat.tail h))) ?_
        rw [show freeQ b task = ([], 7) by unfold freeQ; rw [if_pos (bookWhy_ok h14), if_pos (show hasT b task = true from (Bool.not_eq_false' _).mp h20), if_pos (show hasB b task = true from h23)]]
        exact ⟨_, [], [], rfl, OwnS.nil, DR.nil, rfl⟩
      · skip
        refine .cond_false rfl <| .skip <| .blk_normal <| .go <| .seq <| .region ?_
        refine .e (.assign rfl) rfl rfl <| .nil <| .go <| .seq <| .seq <| .region ?_
        refine .e (.fieldAddr fo27_0 rfl) rfl rfl <| .e (.load ag22 rfl (.there <| .here) rfl) rfl rfl <| .e (.len sl22 rfl rfl) rfl rfl <| .e (.move rfl) rfl rfl <| .nil <| .go ?_
        refine .block ?_
        refine .loopM [8, 10, 31, 32, 33, 34, 35, 36, 37, 38, 39, 40, 41, 42, 43, 44, 45, 46] (fun s => b.nodes.length - s.1) (fun s => s.1 ≤ b.nodes.length ∧ OwnS 1 s.2.1 (freeTo b task s.1).length s.2.2.1 s.2.2.2 ∧ DR StrR 1 I s.2.2.1 (freeTo b task s.1)) (fun s => [(31, .int .i64 s.1), (8, s.2.1)]) (fun _ => _) (fun s => s.2.2.2 ++ _) (((0, .slice none 0 0, [], []) : Nat × Value × List Value × Own)) ⟨Nat.zero_le _, OwnS.nil, DR.nil⟩ ⟨rfl, rfl, trivial⟩ rfl rfl ?_
        intro ⟨k, vL, wsL, obL⟩ hk
        dsimp only at hk ⊢
        obtain ⟨hkk, hoL, hdL⟩ := hk
        obtain ⟨adL, capL, rfl⟩ := hoL.form
        have hfl := freeTo_len (b := b) (task := task) (k := k)
        refine .seq <| .region <| .e (.lss rfl rfl) rfl rfl <| .nil <| .go <| .seq ?_
        refine .split 32 rfl (fun h32 => ?_) (fun h32 => ?_)
        · skip
          replace h32 := of_decide_eq_true h32
          refine .cond_true rfl <| .skip <| .go <| .seq <| .block <| .seq ?_
          refine .region ?_
          obtain ⟨eb33, eo33, cs33, hd33, hat33, hr33⟩ := SlR.at_ hnv0 (k := k) (by omega)
          cases hd33
          have hn33 := hr33
          obtain ⟨xf33, xg33, rfl, hxf33, hxg33⟩ := hr33.ex
          obtain ⟨xh33, xi33, rfl, -⟩ := hxf33
          obtain ⟨xj33, xk33, rfl, -⟩ := hxg33
          refine .e (.indexAddrL sl22 rfl rfl rfl (by omega)) rfl rfl <| .e (.loadIA ag32 sz32 rfl hat33 rfl) rfl rfl <| .on rfl <| .alloc zr32 rfl fun c3 _ _ => .on rfl <| .storeW sz32 rfl rfl rfl rfl rfl rfl .here <| .nil <| .go ?_
          refine .seq <| .region <| .e (.loadW ag27 sz27 rfl (.there <| .app <| .there <| .here) rfl) rfl rfl <| .e (.load ag9 rfl (.there <| .app <| .here) rfl) rfl rfl <| .e (.fieldAddr fo32_0 rfl) rfl rfl <| .e (.load ag9 rfl .here rfl) rfl rfl ?_
          refine .on rfl <| .callP cal68 rfl rfl rfl (bCan_ok hk0) <| .e (.eql rfl rfl) rfl rfl <| .nil <| .go ?_
          refine .split 40 rfl (fun h40 => ?_) (fun h40 => ?_)
          · skip
            replace h40 := of_decide_eq_true h40
            refine .cond_true rfl <| .region <| .e (.move rfl) rfl rfl <| .e (.fieldAddr fo32_0 rfl) rfl rfl <| .e (.load ag9 rfl .here rfl) rfl rfl <| .on rfl <| .buildSlice Tryz.underlying74 sz9 (by decide) (by decide) zv9 rfl rfl rfl rfl rfl fun c4 _ _ => ?_
            refine .on rfl <| .append Tryz.underlying74 Tryz.underlying74 sz9 by9 zv9 rfl rfl rfl (.there <| .there <| .front) hoL ((OwnS.made (k := 1) rfl (by decide)).src (I := _) .here) rfl rfl (by omega) (by omega) rfl fun v45 ob45 ho45 => .e (.assign rfl) rfl rfl <| .nil <| .blk_normal <| .go <| .region ?_
            refine .e (.add rfl rfl (by first | exact wrap_succ (by omega) | exact IntWalk.i64_in _ (by omega) | exact rfl)) rfl rfl <| .e (.move rfl) rfl rfl <| .nil ?_
            refine .front1 (.app <| .here) ?_
            refine .tail ?_
            refine .front1 (.app <| .here) ?_
            refine .tail ?_
            have e5 := freeTo_step (b := b) (task := task) (k := k) (by omega)
            rw [if_pos h40] at e5
            have e6 : (freeTo b task (k + 1)).length = (freeTo b task k).length + 1 := by rw [e5, List.length_append]; rfl
            exact .mid ((k + 1, _, _, _)) ⟨by dsimp only; omega, by dsimp only; omega, by dsimp only; rw [e6]; exact ho45, (by dsimp only; rw [e5]; exact hdL.append (DR.single rfl ⟨rfl, hn33.name⟩))⟩ ⟨rfl, rfl, trivial⟩ rfl rfl (.pre 20 rfl (.app rfl .base))
          · skip
            replace h40 := of_decide_eq_false h40
            refine .cond_false rfl <| .skip <| .blk_normal <| .go <| .region <| .e (.add rfl rfl (by first | exact wrap_succ (by omega) | exact IntWalk.i64_in _ (by omega) | exact rfl)) rfl rfl ?_
            refine .e (.move rfl) rfl rfl <| .nil ?_
            refine .tail ?_
            have e5 := freeTo_step (b := b) (task := task) (k := k) (by omega)
            rw [if_neg h40] at e5
            exact .mid ((k + 1, _, wsL, obL)) ⟨by dsimp only; omega, by dsimp only; omega, by dsimp only; rw [e5]; exact hoL, by dsimp only; rw [e5]; exact hdL⟩ ⟨rfl, rfl, trivial⟩ rfl rfl (.pre 14 rfl (.app rfl .base))
        · skip
          replace h32 := of_decide_eq_false h32
          refine .cond_false rfl <| .exit <| .exit <| .exit <| .blk_exit <| .go ?_
          refine .seq <| .region <| .e (.move rfl) rfl rfl <| .e (.assign rfl) rfl rfl <| .e (.assign rfl) rfl rfl <| .nil ?_
          refine .go <| .ret ?_
          refine Post.rets rfl (.tmp rfl (.tmp rfl .nil)) rfl (Imm.le_refl _) (fun w h => (Sat.tail (Sat.rem (Sat.tail (Sat.rem h (Rem.app <| Rem.here))) (Rem.app <| Rem.here)))) ?_
          have ek : k = b.nodes.length := by omega
          subst ek
          rw [freeTo_end (b := b) (task := task) (Nat.le_refl b.nodes.length)] at hdL hoL ⊢
          rw [show freeQ b task = (freeL b task, 0) by unfold freeQ; rw [if_pos (bookWhy_ok h14), if_pos (show hasT b task = true from (Bool.not_eq_false' _).mp h20), if_neg (show ¬hasB b task = true from Bool.eq_false_iff.1 h23)]]
          exact ⟨_, _, obL, rfl, hoL, hdL, rfl⟩

theorem frzL {α : Type} {R : Imm → List Value → α → Prop} {k : Nat} {l : List α} {e : Int} {P : Program} {f : FuncId} {vs : List Value} {I : Imm} {O : Own} (hR : ∀ {I J : Imm} {cs : List Value} {x : α}, I.le J → R I cs x → R J cs x) (h : Go.Sy.Does P f vs I O fun u I' O' => ∃ v ws ob, u = .tuple ⟨[v, .int .i64 e]⟩ ∧ OwnS k v l.length ws ob ∧ DR R k I' ws l ∧ O' = ob ++ O) :
    Go.Sy.Does P f vs I O fun u I' O' => O' = O ∧ ∃ v, u = .tuple ⟨[v, .int .i64 e]⟩ ∧ SlR R k I' v l := fun w hw => (h w hw).mono fun en w' ⟨u, I', O', he, hI, hs, v, ws, ob, hu, ho, hd, hO⟩ => by
  subst hO
  obtain ⟨J, hJ, r, s1⟩ := frzS ho hs
  exact ⟨u, J, O, he, Imm.le_trans hI hJ, s1, rfl, v, hu, r (R := R) (hd.mono fun _ _ h => hR hJ h) rfl⟩
section
variable {I : Imm} {O : Own} {kc : List Value} {b : Bk} (hk : BkR I kc b)
include hk
theorem waitF : Go.Sy.Does Tryz.prog 10 [.agg ⟨kc⟩] I O fun u I' O' => O' = O ∧ ∃ v, u = .tuple ⟨[v, .int .i64 (waitQ b).2]⟩ ∧ TsksR I' v (waitQ b).1 := frzL (R := TskR) (fun h x => x.mono h) (wait_ok hk)
theorem loadsF : Go.Sy.Does Tryz.prog 11 [.agg ⟨kc⟩] I O fun u I' O' => O' = O ∧ ∃ v, u = .tuple ⟨[v, .int .i64 (loadsQ b).2]⟩ ∧ LodsR I' v (loadsQ b).1 := frzL (R := LodR) (fun h x => x.mono h) (loads_ok hk)
theorem freeF {task : ByteArray} : Go.Sy.Does Tryz.prog 25 [.agg ⟨kc⟩, .string task] I O fun u I' O' => O' = O ∧ ∃ v, u = .tuple ⟨[v, .int .i64 (freeQ b task).2]⟩ ∧ StrsR I' v (freeQ b task).1 := frzL (R := StrR) (fun _ x => x) (free_ok hk)
end

end Go.Proofs.YtajpakifkinadaaGreatDoor
