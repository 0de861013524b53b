/- Who waits, and the loads, once more: the elements' inner rows are fresh. Printed by a program of the session. -/
import Derived.Test.YtajpakifkinadaaGreatDoorFa
import Derived.Test.YtajpakifkinadaaGreatDoorQb
namespace Go.Proofs.YtajpakifkinadaaGreatDoor
open Go.Sy
open Go
set_option linter.unusedSimpArgs false
set_option linter.unusedVariables false

variable {J0 : Imm}
theorem _root_.Go.Sy.FrK.slf {k : Nat} {I0 J : Imm} {v : Value} (h : FrK k I0 J v) : ∃ ad m, ∃ cap, v = .slice ad m cap := by
  rcases h with h | ⟨b, m, cap, _, _, h, _⟩
  · exact ⟨_, _, _, h⟩
  · exact ⟨_, _, _, h⟩
def FreshB (I0 J : Imm) (cs : List Value) (b : Bk) : Prop := ∀ nv tv bv, cs = b.cells nv tv bv → SlR (NodF I0) 6 J nv b.nodes ∧ SlR (TskF I0) 9 J tv b.tasks
theorem ownFF {I : Imm} {O : Own} {kc : List Value} {b : Bk} (hk : BkR I kc b) (hM : BkM b) : Go.Sy.Does Tryz.prog 16 [.agg ⟨kc⟩] I O fun u I' O' => O' = O ∧ ∃ cs, u = .agg ⟨cs⟩ ∧ BkR I' cs b ∧ FreshB I I' cs b := fun w hw => (bOwnF_ok hk hM w hw).mono fun e w' ⟨u, I', O', he, hI, hs, hK⟩ => by
  obtain ⟨nv, tv, bv, on, ot, ob, rfl, ⟨⟨w1, h1, d1⟩, ⟨w2, h2, d2⟩, ⟨w3, h3, d3⟩, hf⟩, rfl⟩ := hK
  obtain ⟨J, hJ, r1, s1⟩ := frzS h1 hs
  obtain ⟨K, hK, r2, s2⟩ := frzS h2 s1
  obtain ⟨L, hL, r3, s3⟩ := frzS h3 s2
  have hJL := Imm.le_trans hK hL
  have e1 := SlR.mono (R := NodF I) (I := J) (J := L) (fun _ _ h => h.mono hJL) hJL (r1 (R := NodF I) (d1.mono fun _ _ h => h.mono hJ) rfl)
  have e2 := SlR.mono (R := TskF I) (I := K) (J := L) (fun _ _ h => h.mono hL) hL (r2 (R := TskF I) (d2.mono fun _ _ h => h.mono (Imm.le_trans hJ hK)) rfl)
  refine ⟨_, L, O, he, Imm.le_trans hI (Imm.le_trans hJ hJL), s3, rfl, _, rfl, ⟨⟨_, _, _, rfl, NodsR.mono hJL (r1 (R := NodR) (d1.to fun _ _ h => h.nod.mono hJ) rfl), TsksR.mono hL (r2 (R := TskR) (d2.to fun _ _ h => h.tsk.mono (Imm.le_trans hJ hK)) rfl), r3 (R := BndR) (d3.mono fun _ _ h => h) rfl⟩, hf⟩, fun nv' tv' bv' e => ?_⟩
  cases e
  exact ⟨e1, e2⟩
def LodF (I0 J : Imm) (cs : List Value) (l : Lod) : Prop := LodR J cs l ∧ ∃ lv tv, cs = l.cells lv tv ∧ FrR I0 J lv
theorem LodF.mono {I0 J K : Imm} {cs : List Value} {l : Lod} (hJ : J.le K) (h : LodF I0 J cs l) : LodF I0 K cs l := by
  obtain ⟨h1, lv, tv, e, h2⟩ := h
  exact ⟨h1.mono hJ, lv, tv, e, h2.mono hJ⟩
theorem lodMkF {I : Imm} {nc : List Value} {n : Nod} {u : A3} (h : NodF J0 I nc n) (hu : u.ok) : LodF J0 I (nc ++ [.int .i64 u.a, .int .i64 u.b, .int .i64 u.c]) ⟨n, u⟩ := by
  refine ⟨lodMk h.nod hu, ?_⟩
  obtain ⟨lv, tv, e, _, h2, _⟩ := h
  subst e
  exact ⟨lv, tv, rfl, h2⟩
theorem RowY.lod {I0 J : Imm} {ws : List Value} {l : List Lod} (h : DR (LodF I0) 9 J ws l) : RowY 9 4 I0 J l.length ws := by
  refine ⟨h.1, fun k hk => ?_⟩
  obtain ⟨_, lv, tv, e, hf⟩ := h.2 k l[k] (List.getElem?_eq_getElem hk)
  have := congrArg (fun x : List Value => x[4]?) e
  simp only [List.getElem?_take, List.getElem?_drop, Lod.cells] at this
  exact ⟨lv, by simpa using this, hf⟩
theorem dr_splitF {I : Imm} : ∀ {l : List Tsk} {ws : List Value}, DR (TskF J0) 9 I ws l → ∃ D : List TC, ws = D.flatMap encT ∧ D.map (fun p => p.1.1) = l ∧ ∀ p ∈ D, (TskF J0) I (encT p) p.1.1
  | [], ws, h => ⟨[], by have := h.1; simpa using this, rfl, fun _ h => by cases h⟩
  | t :: l, ws, h => by
    have h1 := h.2 0 t rfl
    obtain ⟨wv, bv, e, hw, hb⟩ := id h1.tsk.ex
    have h2 := h.drop (l := 1) (by simp)
    obtain ⟨D, e1, e2, e3⟩ := dr_splitF h2
    rw [Nat.zero_mul, List.drop_zero] at e h1
    refine ⟨⟨(t, wv, bv), hw.isSl, hb.isSl⟩ :: D, ?_, ?_, ?_⟩
    · rw [List.flatMap_cons, ← e1]
      show ws = t.cells wv bv ++ _
      rw [← e, Nat.one_mul, List.take_append_drop]
    · rw [List.map_cons, e2]; rfl
    · intro p hp
      rcases List.mem_cons.1 hp with rfl | hp
      · show (TskF J0) I (t.cells wv bv) t
        rw [← e]; exact h1
      · exact e3 p hp
theorem dr_joinF {I : Imm} : ∀ {D : List TC}, (∀ p ∈ D, (TskF J0) I (encT p) p.1.1) → DR (TskF J0) 9 I (D.flatMap encT) (D.map fun p => p.1.1)
  | [], _ => DR.nil
  | p :: D, h => by
    rw [List.flatMap_cons, List.map_cons]
    exact (DR.single (encT_len p) (h p List.mem_cons_self)).append (dr_joinF fun q hq => h q (List.mem_cons_of_mem _ hq))
theorem sortTF_ok {I : Imm} {O : Own} {b : Bk} (hok : BookOk b) {ad : Option Addr} {cap : Nat} {ws : List Value} {ob : Own} (ho : OwnS 9 (.slice ad (freeT b).length cap) (freeT b).length ws ob) (hd : DR (TskF J0) 9 I ws (freeT b)) :
    Go.Sy.Does Tryz.prog 28 [.slice ad (freeT b).length cap, .func (.func 29) #[] #[]] I (ob ++ O) fun u I' O' => I' = I ∧ u = .tuple ⟨[]⟩ ∧ ∃ ws' ob', OwnS 9 (.slice ad (freeT b).length cap) (waitR b).length ws' ob' ∧ DR (TskF J0) 9 I ws' (waitR b) ∧ O' = ob' ++ O := by
  have hwl : (waitR b).length = (freeT b).length := (wait_pw hok).2.length_eq
  rcases ho with ⟨e, h0, hw, rfl⟩ | ⟨c, cap', cs, T, e, rfl, hmc, hcl, htk, hwsl, hcap⟩
  · rw [Value.slice.injEq] at e
    obtain ⟨rfl, -, rfl⟩ := e
    rw [h0] at hwl ⊢
    have hf : freeT b = [] := List.length_eq_zero_iff.1 h0
    refine (Pure.sortNone Tryz.sortTask (P := Tryz.prog)).mono ?_
    rintro u I' O' ⟨rfl, rfl, rfl⟩
    rw [free_nilW hf]
    exact ⟨rfl, rfl, [], [], .inl ⟨rfl, rfl, rfl, rfl⟩, DR.nil, rfl⟩
  · rw [Value.slice.injEq] at e
    obtain ⟨rfl, -, rfl⟩ := e
    obtain ⟨D, e1, e2, e3⟩ := dr_splitF hd
    have hlen : D.toArray.size = (freeT b).length := by rw [← e2]; simp
    have hfl : (freeT b).length ≤ 32 := by rw [← hwl]; exact wait_few hok
    have key := Does.sortFunc (P := Tryz.prog) (enc := encT) (k := 9) (I := I) (O := O) (b := c) (cap := cap) (cs := cs) (T := T) (d := D.toArray) Tryz.sortTask (fun w => Go.Sy.run_isAgg ag34) (fun w => Go.Sy.run_sizeOf sz34) encT_len encT_one cfT swoT (g := 29) (cb := []) (fun args w => Go.Sy.run_call cal29)
      (fun x y w => ahead' _ _ _ _ _ _ _ _ _ _ _ _ _ _ _ _ _ _ x.2.1 x.2.2 y.2.1 y.2.2 w) (by rw [hlen, htk]; exact e1) (by rw [hlen, hcl]; exact Nat.mul_le_mul_right 9 hmc) (by omega)
    rw [hlen] at key
    refine key.mono ?_
    rintro u I' O' ⟨rfl, rfl, d', hp, hs, rfl⟩
    have hdl : d'.size = (freeT b).length := by rw [← hlen]; simpa using hp.length_eq
    have hR : ∀ p ∈ d'.toList, (TskF J0) I' (encT p) p.1.1 := fun p hpm => e3 p (by have := hp.mem_iff.1 hpm; simpa using this)
    have hl : d'.toList.map (fun p => p.1.1) = waitR b := by
      refine sort_eq hok ?_ ?_
      · rw [← e2]; exact (hp.map _).trans (by simp)
      · intro i j hi hj hij
        rw [List.length_map] at hi hj
        have h1 := hs i j hij (by rw [← hdl]; simpa using hj)
        rw [ltT] at h1
        rw [getElem!_pos d' j (by simpa using hj), getElem!_pos d' i (by simpa using hi)] at h1
        simpa using h1
    have hJ := dr_joinF hR
    rw [hl] at hJ
    have hwl2 : (d'.toList.flatMap encT).length = (waitR b).length * 9 := hJ.1
    have hle : (d'.toList.flatMap encT).length ≤ cs.length := by rw [hwl2, hwl, hcl]; exact Nat.mul_le_mul_right 9 hmc
    refine ⟨rfl, rfl, d'.toList.flatMap encT, _, .inr ⟨c, cap, _, T, by rw [hwl], rfl, by omega, ?_, ?_, hwl2, hcap⟩, hJ, rfl⟩
    · rw [setL_length (by omega), hcl]
    · unfold setL
      rw [List.take_zero, List.nil_append, List.take_left' hwl2]

def ChTF (J0 : Imm) (I : Imm) (vs : List (List Value)) (l : List Tsk) : Prop := vs.length = l.length ∧ ∀ (i : Nat) (x : Tsk), l[i]? = some x → ∃ c, vs[i]? = some c ∧ TskF J0 I c x
theorem ChTF.nil {I : Imm} : ChTF J0 I [] [] := ⟨rfl, fun i x h => by simp at h⟩
theorem ChTF.snoc {I : Imm} {vs : List (List Value)} {l : List Tsk} {c : List Value} {t : Tsk} (h : ChTF J0 I vs l) (ht : TskF J0 I c t) : ChTF J0 I (vs ++ [c]) (l ++ [t]) := by
  refine ⟨by rw [List.length_append, List.length_append, h.1]; rfl, fun i x hx => ?_⟩
  by_cases hi : i < l.length
  · rw [List.getElem?_append_left hi] at hx
    obtain ⟨d, h1, h2⟩ := h.2 i x hx
    exact ⟨d, by rw [List.getElem?_append_left (by rw [h.1]; exact hi)]; exact h1, h2⟩
  · rw [List.getElem?_append_right (by omega)] at hx
    have h0 : i - l.length = 0 := by
      rcases Nat.eq_zero_or_pos (i - l.length) with h | h
      · exact h
      · rw [List.getElem?_eq_none (by simp; omega)] at hx; cases hx
    rw [h0] at hx
    cases hx
    exact ⟨c, by rw [List.getElem?_append_right (by rw [h.1]; omega), h.1, h0]; rfl, ht⟩
theorem ch_consF {I : Imm} {vs : List (List Value)} {l : List Tsk} {k : Nat} {v : Value} {r : List Value} (h : ChTF J0 I vs l) (hv : (vs.drop k).map aggV = v :: r) : ∃ (hk : k < l.length), ∃ c, v = .agg ⟨c⟩ ∧ TskF J0 I c l[k] := by
  have hk : k < vs.length := by
    rcases Nat.lt_or_ge k vs.length with h1 | h1
    · exact h1
    · rw [List.drop_eq_nil_iff.2 h1] at hv; cases hv
  have hkl : k < l.length := by rw [← h.1]; exact hk
  obtain ⟨c, h1, h2⟩ := h.2 k l[k] (List.getElem?_eq_getElem hkl)
  rw [List.drop_eq_getElem_cons hk, List.map_cons] at hv
  rw [List.getElem?_eq_getElem hk] at h1
  cases h1
  cases hv
  exact ⟨hkl, _, rfl, h2⟩
theorem ch_nilF {I : Imm} {vs : List (List Value)} {l : List Tsk} {k : Nat} (h : ChTF J0 I vs l) (hv : (vs.drop k).map aggV = []) : l.length ≤ k := by
  have := congrArg List.length hv
  rw [List.length_map, List.length_drop, h.1, List.length_nil] at this
  omega

set_option maxHeartbeats 16000000 in
set_option maxRecDepth 20000 in
theorem waitN_ok {I : Imm} {O : Own} {kc : List Value} {b : Bk} (hk : BkR I kc b) :
    Go.Sy.Does Tryz.prog 10 [.agg ⟨kc⟩] I O (fun u I' O' => ∃ v ws ob, u = .tuple ⟨[v, .int .i64 (waitQ b).2]⟩ ∧ OwnS 9 v (waitQ b).1.length ws ob ∧ DR (TskF I) 9 I' ws (waitQ b).1 ∧ O' = ob ++ O) := by
  have hk0 := hk
  obtain ⟨nv, tv, bv, rfl, hnv, htv, hbv⟩ := hk.ex
  have hnv0 := hnv
  have htv0 := htv
  have hbv0 := hbv
  obtain ⟨na, ncap, rfl, hn1, hn2, -⟩ := hnv
  obtain ⟨ta, tcap, rfl, ht1, ht2, -⟩ := htv
  obtain ⟨ba, bcap, rfl, hb1, hb2, -⟩ := hbv
  refine Go.Sy.Does.enter Tryz.func10 rfl Tryz.ntmps10 rfl ?_
  refine .seq <| .region <| .on rfl <| .box rfl rfl rfl fun c1 _ _ => .e (.assign rfl) rfl rfl <| .e (.assign rfl) rfl rfl <| .nil ?_
  refine .go <| .scope <| .seq <| .seq <| .region <| .e (.loadW ag27 sz27 rfl .here rfl) rfl rfl ?_
  refine .on rfl <| .callP cal15 rfl rfl rfl (bCheck_ok hk0) <| .e (.assign rfl) rfl rfl <| .nil <| .go <| .seq <| .region ?_
  refine .e (.move rfl) rfl rfl <| .e (.neq rfl rfl) rfl rfl <| .nil <| .go ?_
  refine .split 13 rfl (fun h13 => ?_) (fun h13 => ?_)
  · skip
    first | replace h13 := of_decide_eq_false ((Bool.not_eq_true' _).mp h13) | replace h13 := of_decide_eq_false (by simpa using h13)
    refine .cond_true rfl <| .seq <| .region <| .e (.move rfl) rfl rfl <| .e (.assign rfl) rfl rfl <| .e (.assign rfl) rfl rfl ?_
    refine .nil <| .go <| .ret <| .ret <| .sc_ret ?_
    refine Post.rets rfl (.tmp rfl (.tmp rfl .nil)) rfl (Imm.le_refl _) (fun w h => (Sat.tail h)) ?_
    rw [show waitQ b = ([], 10) by unfold waitQ; rw [if_neg (by rw [(bookWhy_no h13).1]; simp)], (bookWhy_no h13).2]
    exact ⟨_, [], [], rfl, OwnS.nil, DR.nil, rfl⟩
  · skip
    first | replace h13 := of_decide_eq_true ((Bool.not_eq_false' _).mp h13) | replace h13 := of_decide_eq_true (by simpa using h13)
    have hok := BookOk.of (bookWhy_ok h13)
    have hbt := hok.tasks
    refine .cond_false rfl <| .skip <| .go <| .seq <| .region <| .e (.loadW ag27 sz27 rfl .here rfl) rfl rfl ?_
    refine .on rfl <| .call cal16 rfl rfl rfl (ownFF hk0 (BkM.of hok)) fun v16 I16 O16 hI16 hK16 => ?_
    obtain ⟨rfl, cs16, rfl, hb16, hF16⟩ := hK16
    have hb160 := hb16
    obtain ⟨nv16, tv16, bv16, rfl, hn16, ht16, hx16⟩ := hb16.ex
    obtain ⟨_, _, rfl, -⟩ := hn16
    obtain ⟨_, _, rfl, htl16, -⟩ := ht16
    obtain ⟨_, _, rfl, -⟩ := hx16
    refine .on rfl <| .storeW sz27 rfl rfl rfl rfl rfl rfl .here <| .nil <| .go <| .seq <| .region ?_
    obtain ⟨nvQ, tvQ, bvQ, eQ, hn160, ht160, hx160⟩ := hb160.ex
    cases eQ
    obtain ⟨hfN, hfT⟩ := hF16 _ _ _ rfl
    refine .e (.fieldAddr fo27_1 rfl) rfl rfl <| .e (.load ag23 rfl .here rfl) rfl rfl <| .e (.len sl23 rfl rfl) rfl rfl <| .on rfl <| .makeChan Tryz.underlying77 by34 rfl rfl (by omega) (by omega) rfl fun c2 _ _ => .e (.assign rfl) rfl rfl <| .nil ?_
    refine .go <| .seq <| .seq <| .region <| .e (.fieldAddr fo27_1 rfl) rfl rfl <| .e (.load ag23 rfl (.there <| .here) rfl) rfl rfl ?_
    refine .e (.len sl23 rfl rfl) rfl rfl <| .e (.move rfl) rfl rfl <| .nil <| .go <| .block ?_
    refine .loopM [7, 24, 25, 26, 27, 28, 29, 30, 31, 32, 33, 34, 35] (fun s => b.tasks.length - s.1) (fun s => s.1 ≤ b.tasks.length ∧ ChTF I I16 s.2 (freeTo' b s.1)) (fun s => [(24, .int .i64 s.1)]) (fun _ => _) (fun s => (c2, .chan b.tasks.length ⟨s.2.map aggV⟩ false s.2.length 0 false) :: _) (((0, []) : Nat × List (List Value))) ⟨Nat.zero_le _, ChTF.nil⟩ ⟨rfl, trivial⟩ rfl rfl ?_
    intro ⟨k, vs⟩ hk
    dsimp only at hk ⊢
    obtain ⟨hkk, hch⟩ := hk
    have hfl := freeTo'_len (b := b) (k := k)
    have hvl := hch.1
    refine .seq <| .region <| .e (.lss rfl rfl) rfl rfl <| .nil <| .go <| .seq ?_
    refine .split 25 rfl (fun h25 => ?_) (fun h25 => ?_)
    · skip
      replace h25 := of_decide_eq_true h25
      refine .cond_true rfl <| .skip <| .go <| .seq <| .block <| .seq ?_
      refine .region ?_
      obtain ⟨eb26, eo26, cs26, hd26, hat26, hr26⟩ := SlR.at_ hfT (k := k) (by omega)
      cases hd26
      have hrF := hr26
      replace hr26 := hr26.tsk
      have ht26 := hr26
      obtain ⟨xw26, xb26, rfl, hxw26, hxb26⟩ := hr26.ex
      obtain ⟨xa26, xc26, rfl, -⟩ := hxw26
      obtain ⟨xd26, xe26, rfl, -⟩ := hxb26
      refine .e (.indexAddrL sl23 rfl rfl rfl (by omega)) rfl rfl <| .e (.loadIA ag34 sz34 rfl hat26 rfl) rfl rfl <| .on rfl <| .alloc zr34 rfl fun c3 _ _ => .on rfl <| .storeW sz34 rfl rfl rfl rfl rfl rfl .here <| .nil <| .go ?_
      refine .seq <| .region <| .e (.fieldAddr fo27_2 rfl) rfl rfl <| .e (.load ag24 rfl (.there <| .there <| .here) rfl) rfl rfl <| .e (.makeFunc rfl rfl) rfl rfl <| .on rfl <| .callP cal26 rfl rfl rfl (hasBnd_ok (p := fun x : Bnd => decide (x.task = b.tasks[k].name)) (us := [.pointer (some ⟨c3, 0, none⟩)]) hx160 cal27 (fun cs x _ hx => wait1_ok .here hx)) ?_
      refine .e (.not rfl) rfl rfl <| .nil <| .go ?_
      refine .split 32 rfl (fun h32 => ?_) (fun h32 => ?_)
      · skip
        refine .cond_true rfl <| .regionR <| .e (.move rfl) rfl rfl <| .e (.loadW ag34 sz34 rfl .here rfl) rfl rfl <| .send rfl rfl (.there <| .here) (by show (vs.map aggV).length < _; rw [List.length_map]; omega) <| .wl <| .nil ?_
        refine .blk_normal <| .go <| .region <| .e (.add rfl rfl (by first | exact wrap_succ (by omega) | exact IntWalk.i64_in _ (by omega) | exact rfl)) rfl rfl <| .e (.move rfl) rfl rfl <| .nil ?_
        refine .tail ?_
        have e5 := freeTo'_step (b := b) (k := k) (by omega)
        rw [if_neg (show ¬hasB b b.tasks[k].name = true from Bool.eq_false_iff.1 ((Bool.not_eq_true' _).mp h32))] at e5
        rw [ch_push]
        exact .mid ((k + 1, vs ++ [_])) ⟨by dsimp only; omega, by dsimp only; omega, by dsimp only; rw [e5]; exact hch.snoc hrF⟩ ⟨rfl, trivial⟩ rfl (by simp) (.pre 15 rfl (.app rfl .base))
      · skip
        refine .cond_false rfl <| .skip <| .blk_normal <| .go <| .region <| .e (.add rfl rfl (by first | exact wrap_succ (by omega) | exact IntWalk.i64_in _ (by omega) | exact rfl)) rfl rfl ?_
        refine .e (.move rfl) rfl rfl <| .nil ?_
        refine .tail ?_
        have e5 := freeTo'_step (b := b) (k := k) (by omega)
        rw [if_pos (show hasB b b.tasks[k].name = true from (Bool.not_eq_false' _).mp h32)] at e5
        exact .mid ((k + 1, vs)) ⟨by dsimp only; omega, by dsimp only; omega, by dsimp only; rw [e5]; exact hch⟩ ⟨rfl, trivial⟩ rfl rfl (.pre 13 rfl (.app rfl .base))
    · skip
      replace h25 := of_decide_eq_false h25
      refine .cond_false rfl <| .exit <| .exit <| .exit <| .blk_exit <| .go ?_
      refine .seq <| .region <| .e (.assign rfl) rfl rfl <| .nil <| .go <| .seq ?_
      refine .label <| .go <| .seq <| .block ?_
      have ek : k = b.tasks.length := by omega
      subst ek
      rw [freeTo'_end (Nat.le_refl _)] at hch
      refine .loopM [8, 9, 36, 37, 38, 39, 40, 41, 42, 43, 44] (fun s => (freeT b).length - s.1) (fun s => s.1 ≤ (freeT b).length ∧ OwnS 9 s.2.1 s.1 s.2.2.1 s.2.2.2 ∧ DR (TskF I) 9 I16 s.2.2.1 ((freeT b).take s.1)) (fun s => [(8, s.2.1)]) (fun _ => _) (fun s => s.2.2.2 ++ ((c2, .chan b.tasks.length ⟨(vs.drop s.1).map aggV⟩ false vs.length s.1 false) :: _)) (((0, .slice none 0 0, [], []) : Nat × Value × List Value × Own)) ⟨Nat.zero_le _, OwnS.nil, by rw [List.take_zero]; exact DR.nil⟩ ⟨rfl, trivial⟩ rfl rfl ?_
      intro ⟨j, vL, wsL, obL⟩ hj
      dsimp only at hj ⊢
      obtain ⟨hjj, hoL, hdL⟩ := hj
      obtain ⟨adL, capL, rfl⟩ := hoL.form
      have hfl2 : (freeT b).length ≤ 32 := by rw [← (wait_pw hok).2.length_eq]; exact wait_few hok
      refine .block <| .seq <| .region <| .e (.move rfl) rfl rfl <| .nil <| .go ?_
      refine .seq ?_
      refine .selectRecv rfl rfl zv34 rfl (.app <| .here) (fun vr lr hr => ?_) (fun hr => ?_)
      · skip
        obtain ⟨hjl, c37, rfl, hcR⟩ := ch_consF hch hr
        have hcR0 := hcR
        obtain ⟨wvC, bvC, rfl, hwC, hbC⟩ := hcR.tsk.ex
        obtain ⟨_, _, rfl, -⟩ := hwC
        obtain ⟨_, _, rfl, -⟩ := hbC
        refine .e (.extract rfl rfl) rfl rfl <| .e (.eql rfl rfl) rfl rfl <| .nil <| .go <| .block <| .cond_true rfl ?_
        refine .seq <| .region <| .e (.extract rfl rfl) rfl rfl <| .on rfl <| .alloc zr34 rfl fun c4 _ _ => .on rfl <| .storeW sz34 rfl rfl rfl rfl rfl rfl .here <| .nil ?_
        refine .go <| .region <| .e (.move rfl) rfl rfl <| .e (.loadW ag34 sz34 rfl .here rfl) rfl rfl <| .on rfl <| .buildSlice Tryz.underlying23 sz34 (by decide) (by decide) zv34 rfl rfl rfl rfl rfl fun c5 _ _ => .on rfl <| .append Tryz.underlying23 Tryz.underlying23 sz34 by34 zv34 rfl rfl rfl (.there <| .there <| .front) hoL ((OwnS.made (k := 9) rfl (by decide)).src (I := _) .here) rfl rfl (by omega) (by omega) rfl fun v44 ob44 ho44 => ?_
        refine .e (.assign rfl) rfl rfl <| .nil <| .blk_normal <| .blk_normal ?_
        refine .front1 (.app <| .here) ?_
        refine .tail ?_
        refine .front1 (.app <| .here) ?_
        refine .tail ?_
        simp only [ch_tail]
        exact .mid ((j + 1, _, _, _)) ⟨by dsimp only; omega, by dsimp only; omega, ho44, (by rw [List.take_succ_eq_append_getElem hjl]; exact hdL.append (DR.single (TskF.len hcR) hcR))⟩ ⟨rfl, trivial⟩ rfl rfl (.pre 11 rfl (.app rfl .base))
      · skip
        refine .e (.extract rfl rfl) rfl rfl <| .e (.eql rfl rfl) rfl rfl <| .nil <| .go <| .block <| .cond_false rfl ?_
        refine .exit <| .blk_other rfl <| .blk_other rfl <| .exit <| .blk_exit <| .go ?_
        refine .seq <| .region <| .e (.move rfl) rfl rfl ?_
        have ej : j = (freeT b).length := by have := ch_nilF hch hr; omega
        subst ej
        rw [List.take_length] at hdL
        refine .on rfl <| .call cal28 rfl rfl rfl (sortTF_ok hok hoL hdL) fun v46 I46 O46 hI46 hK46 => ?_
        obtain ⟨hq46, rfl, ws46, ob46, ho46, hd46, rfl⟩ := hK46
        replace hq46 := hq46.symm
        subst hq46
        refine .nil <| .go <| .seq <| .region <| .e (.move rfl) rfl rfl <| .e (.assign rfl) rfl rfl ?_
        refine .e (.assign rfl) rfl rfl <| .nil <| .go <| .ret <| .sc_ret ?_
        refine Post.rets rfl (.tmp rfl (.tmp rfl .nil)) rfl hI16 (fun w h => (Sat.tail (Sat.rem (Sat.tail (Sat.rem h (Rem.app <| Rem.here))) (Rem.app <| Rem.here)))) ?_
        rw [show waitQ b = (waitR b, 0) by unfold waitQ; rw [if_pos (bookWhy_ok h13)]]
        exact ⟨_, _, ob46, rfl, ho46, hd46, rfl⟩

set_option maxHeartbeats 16000000 in
set_option maxRecDepth 20000 in
theorem loadsN_ok {I : Imm} {O : Own} {kc : List Value} {b : Bk} (hk : BkR I kc b) :
    Go.Sy.Does Tryz.prog 11 [.agg ⟨kc⟩] I O (fun u I' O' => ∃ v ws ob, u = .tuple ⟨[v, .int .i64 (loadsQ b).2]⟩ ∧ OwnS 9 v (loadsQ b).1.length ws ob ∧ DR (LodF I) 9 I' ws (loadsQ b).1 ∧ O' = ob ++ O) := by
  have hk0 := hk
  obtain ⟨nv, tv, bv, rfl, hnv, htv, hbv⟩ := hk.ex
  have hnv0 := hnv
  have htv0 := htv
  have hbv0 := hbv
  obtain ⟨na, ncap, rfl, hn1, hn2, -⟩ := hnv
  obtain ⟨ta, tcap, rfl, ht1, ht2, -⟩ := htv
  obtain ⟨ba, bcap, rfl, hb1, hb2, -⟩ := hbv
  refine Go.Sy.Does.enter Tryz.func11 rfl Tryz.ntmps11 rfl ?_
  refine .seq <| .region <| .on rfl <| .box rfl rfl rfl fun c1 _ _ => .e (.assign rfl) rfl rfl <| .e (.assign rfl) rfl rfl <| .nil ?_
  refine .go <| .seq <| .seq <| .region <| .e (.loadW ag27 sz27 rfl .here rfl) rfl rfl <| .on rfl <| .callP cal15 rfl rfl rfl (bCheck_ok hk0) ?_
  refine .e (.assign rfl) rfl rfl <| .nil <| .go <| .seq <| .region <| .e (.move rfl) rfl rfl ?_
  refine .e (.neq rfl rfl) rfl rfl <| .nil <| .go ?_
  refine .split 13 rfl (fun h13 => ?_) (fun h13 => ?_)
  · skip
    first | replace h13 := of_decide_eq_false ((Bool.not_eq_true' _).mp h13) | replace h13 := of_decide_eq_false (by simpa using h13)
    refine .cond_true rfl <| .seq <| .region <| .e (.move rfl) rfl rfl <| .e (.assign rfl) rfl rfl <| .e (.assign rfl) rfl rfl ?_
    refine .nil <| .go <| .ret <| .ret ?_
    refine Post.rets rfl (.tmp rfl (.tmp rfl .nil)) rfl (Imm.le_refl _) (fun w h => (Sat.tail h)) ?_
    rw [show loadsQ b = ([], 10) by unfold loadsQ; rw [if_neg (by rw [(bookWhy_no h13).1]; simp)], (bookWhy_no h13).2]
    exact ⟨_, [], [], rfl, OwnS.nil, DR.nil, rfl⟩
  · skip
    first | replace h13 := of_decide_eq_true ((Bool.not_eq_false' _).mp h13) | replace h13 := of_decide_eq_true (by simpa using h13)
    have hok := BookOk.of (bookWhy_ok h13)
    have hbn := hok.nodes
    refine .cond_false rfl <| .skip <| .go <| .seq <| .region <| .e (.assign rfl) rfl rfl ?_
    refine .nil <| .go <| .seq <| .seq <| .region <| .e (.loadW ag27 sz27 rfl .here rfl) rfl rfl ?_
    refine .on rfl <| .call cal16 rfl rfl rfl (ownFF hk0 (BkM.of hok)) fun v16 I16 O16 hI16 hK16 => ?_
    obtain ⟨rfl, cs16, rfl, hb16, hF16⟩ := hK16
    have hb160 := hb16
    obtain ⟨nv16, tv16, bv16, rfl, hn16, ht16, hx16⟩ := hb16.ex
    obtain ⟨_, _, rfl, -⟩ := hn16
    obtain ⟨_, _, rfl, htl16, -⟩ := ht16
    obtain ⟨_, _, rfl, -⟩ := hx16
    obtain ⟨nvQ, tvQ, bvQ, eQ, hn160, ht160, hx160⟩ := hb160.ex
    cases eQ
    obtain ⟨hfN, hfT⟩ := hF16 _ _ _ rfl
    refine .e (.field ft27_0 ag22 rfl rfl) rfl rfl <| .e (.len sl22 rfl rfl) rfl rfl <| .e (.move rfl) rfl rfl <| .nil <| .go <| .block ?_
    refine .loopM [5, 7, 8, 9, 19, 20, 21, 22, 23, 24, 25, 26, 27, 28, 29, 30, 31, 32, 33, 34, 35, 36] (fun s => b.nodes.length - s.1) (fun s => s.1 ≤ b.nodes.length ∧ OwnS 9 s.2.1 s.1 s.2.2.1 s.2.2.2 ∧ DR (LodF I) 9 I16 s.2.2.1 ((loadsR b).take s.1)) (fun s => [(19, .int .i64 s.1), (5, s.2.1)]) (fun _ => _) (fun s => s.2.2.2 ++ _) (((0, .slice none 0 0, [], []) : Nat × Value × List Value × Own)) ⟨Nat.zero_le _, OwnS.nil, by rw [List.take_zero]; exact DR.nil⟩ ⟨rfl, rfl, trivial⟩ rfl rfl ?_
    intro ⟨k, vL, wsL, obL⟩ hk
    dsimp only at hk ⊢
    obtain ⟨hkk, hoL, hdL⟩ := hk
    obtain ⟨adL, capL, rfl⟩ := hoL.form
    refine .seq <| .region <| .e (.lss rfl rfl) rfl rfl <| .nil <| .go <| .seq ?_
    refine .split 20 rfl (fun h20 => ?_) (fun h20 => ?_)
    · skip
      replace h20 := of_decide_eq_true h20
      refine .cond_true rfl <| .skip <| .go <| .seq <| .block <| .seq ?_
      refine .region ?_
      obtain ⟨eb21, eo21, cs21, hd21, hat21, hr21⟩ := SlR.at_ hfN (k := k) (by omega)
      cases hd21
      have hrF := hr21
      replace hr21 := hr21.nod
      have hn21 := hr21
      obtain ⟨xf21, xg21, rfl, hxf21, hxg21⟩ := hr21.ex
      obtain ⟨xh21, xi21, rfl, -⟩ := hxf21
      obtain ⟨xj21, xk21, rfl, -⟩ := hxg21
      refine .e (.indexAddrL sl22 rfl rfl rfl (by omega)) rfl rfl <| .e (.loadIA ag32 sz32 rfl hat21 rfl) rfl rfl <| .on rfl <| .alloc zr32 rfl fun c2 _ _ => .on rfl <| .storeW sz32 rfl rfl rfl rfl rfl rfl .here <| .nil <| .go ?_
      refine .seq <| .region <| .e (.loadW ag27 sz27 rfl (.there <| .app <| .here) rfl) rfl rfl <| .e (.fieldAddr fo32_0 rfl) rfl rfl <| .e (.load ag9 rfl .here rfl) rfl rfl <| .on rfl <| .callP cal30 rfl rfl rfl (bUsed_ok (hk0.mono hI16)) ?_
      refine .e (.move rfl) rfl rfl <| .e (.extract rfl rfl) rfl rfl <| .e (.extract rfl rfl) rfl rfl <| .on rfl <| .alloc zr29 rfl fun c3 _ _ => .on rfl <| .storeW sz29 rfl rfl rfl rfl rfl rfl .here <| .e (.assign rfl) rfl rfl ?_
      refine .nil <| .go <| .region <| .e (.move rfl) rfl rfl <| .e (.loadW ag32 sz32 rfl (.there <| .here) rfl) rfl rfl <| .e (.loadW ag29 sz29 rfl .here rfl) rfl rfl ?_
      refine .e (.build bs56 zv56 rfl rfl) rfl rfl <| .on rfl <| .buildSlice Tryz.underlying52 sz56 (by decide) (by decide) zv56 rfl rfl rfl rfl rfl fun c4 _ _ => .on rfl <| .append Tryz.underlying52 Tryz.underlying52 sz56 by56 zv56 rfl rfl rfl (.there <| .there <| .there <| .front) hoL ((OwnS.made (k := 9) rfl (by decide)).src (I := _) .here) rfl rfl (by omega) (by omega) rfl fun v35 ob35 ho35 => .e (.assign rfl) rfl rfl <| .nil <| .blk_normal ?_
      refine .go <| .region <| .e (.add rfl rfl (by first | exact wrap_succ (by omega) | exact IntWalk.i64_in _ (by omega) | exact rfl)) rfl rfl <| .e (.move rfl) rfl rfl <| .nil ?_
      refine .front1 (.app <| .here) ?_
      refine .tail ?_
      refine .front1 (.app <| .here) ?_
      refine .tail ?_
      refine .front1 (.app <| .here) ?_
      refine .tail ?_
      exact .mid ((k + 1, _, _, _)) ⟨by dsimp only; omega, by dsimp only; omega, ho35, (by dsimp only; rw [loads_at (show k < b.nodes.length by omega)]; exact hdL.append (DR.single rfl (lodMkF hrF (used_i64 hok (List.getElem_mem (show k < b.nodes.length by omega))))))⟩ ⟨rfl, rfl, trivial⟩ rfl rfl (.pre 23 rfl (.app rfl .base))
    · skip
      replace h20 := of_decide_eq_false h20
      refine .cond_false rfl <| .exit <| .exit <| .exit <| .blk_exit <| .go ?_
      refine .seq <| .region <| .e (.move rfl) rfl rfl <| .e (.assign rfl) rfl rfl <| .e (.assign rfl) rfl rfl <| .nil ?_
      refine .go <| .ret ?_
      refine Post.rets rfl (.tmp rfl (.tmp rfl .nil)) rfl hI16 (fun w h => (Sat.tail (Sat.rem h (Rem.app <| Rem.here)))) ?_
      have ek : k = b.nodes.length := by omega
      subst ek
      rw [List.take_of_length_le (by rw [loads_len]; exact Nat.le_refl _)] at hdL
      rw [show loadsQ b = (loadsR b, 0) by unfold loadsQ; rw [if_pos (bookWhy_ok h13)]]
      exact ⟨_, _, obL, rfl, by dsimp only; rw [loads_len]; exact hoL, hdL, rfl⟩


end Go.Proofs.YtajpakifkinadaaGreatDoor
