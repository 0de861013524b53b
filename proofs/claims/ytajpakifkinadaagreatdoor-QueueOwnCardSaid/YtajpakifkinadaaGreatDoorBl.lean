/- Walks of functions over a symbolic memory, printed by a program of the session. -/
import Derived.Test.YtajpakifkinadaaGreatDoorBk
namespace Go.Proofs.YtajpakifkinadaaGreatDoor
open Go.Sy
set_option linter.unusedSimpArgs false
set_option linter.unusedVariables false

structure BkM (b : Bk) : Prop where
  n : b.nodes.length * 88 ≤ 140737488351232
  t : b.tasks.length * 128 ≤ 140737488351232
  x : b.binds.length * 32 ≤ 140737488351232
  nl : ∀ n ∈ b.nodes, n.labels.length * 32 ≤ 140737488351232 ∧ n.taints.length * 32 ≤ 140737488351232
  tl : ∀ t ∈ b.tasks, t.wants.length * 32 ≤ 140737488351232 ∧ t.bears.length * 32 ≤ 140737488351232
theorem nod_few {n : Nod} (h : nodWhy n = 0) : n.labels.length ≤ 4 ∧ n.taints.length ≤ 4 := by
  unfold nodWhy at h
  split at h
  · cases h
  · split at h
    · cases h
    · split at h
      · cases h
      · rename_i h3
        simp only [Bool.not_eq_false, Bool.and_eq_true, prsOk, decide_eq_true_eq] at h3
        exact ⟨h3.1.2, h3.2.2⟩
theorem tsk_few {t : Tsk} (h : tskWhy t = 0) : t.wants.length ≤ 4 ∧ t.bears.length ≤ 4 := by
  unfold tskWhy at h
  split at h
  · cases h
  · split at h
    · cases h
    · split at h
      · cases h
      · rename_i h3
        simp only [Bool.not_eq_false, Bool.and_eq_true, prsOk, decide_eq_true_eq] at h3
        exact ⟨h3.1.2, h3.2.1.2⟩
theorem BkM.of {b : Bk} (h : BookOk b) : BkM b := by
  have h1 := h.nodes; have h2 := h.tasks; have h3 := h.binds
  refine ⟨by omega, by omega, by omega, fun n hn => ?_, fun t ht => ?_⟩
  · have := nod_few (h.nod n hn); omega
  · have := tsk_few (h.tsk t ht); omega

set_option maxHeartbeats 8000000 in
set_option maxRecDepth 20000 in
theorem bOwn_ok {I : Imm} {O : Own} {kc : List Value} {b : Bk} (hk : BkR I kc b) (hM : BkM b) :
    Go.Sy.Does Tryz.prog 16 [.agg ⟨kc⟩] I O (fun u I' O' => ∃ nv tv bv on ot ob, u = .agg ⟨b.cells nv tv bv⟩ ∧ BkO I' b nv tv bv on ot ob ∧ O' = on ++ (ot ++ (ob ++ O))) := by
  have hk0 := hk
  obtain ⟨nv, tv, bv, rfl, hnv, htv, hbv⟩ := hk.ex
  have hnv0 := hnv
  have htv0 := htv
  have hbv0 := hbv
  obtain ⟨na, ncap, rfl, hn1, hn2, -⟩ := hnv
  obtain ⟨ta, tcap, rfl, ht1, ht2, -⟩ := htv
  obtain ⟨ba, bcap, rfl, hb1, hb2, -⟩ := hbv
  have hf := hk0.fence
  refine Go.Sy.Does.enter Tryz.func16 rfl Tryz.ntmps16 rfl ?_
  refine .seq <| .region <| .on rfl <| .box rfl rfl rfl fun c1 _ _ => .on rfl <| .alloc zr27 rfl fun c2 _ _ => .nil <| .go ?_
  refine .meetO (σ := BkG) [5, 6, 7, 8, 9, 10, 11, 12, 13, 14, 15, 16] (fun g => BkGR I b g) (fun _ => []) (fun _ => I) (fun _ g => g.on ++ (g.ot ++ (g.ob ++ ((c2, .cells ⟨[.slice none 0 0, .slice none 0 0, .slice none 0 0, .int .u64 0]⟩ 27 (0, 0)) :: (c1, .cells ⟨[g.nv, g.tv, g.bv, .int .u64 b.fence]⟩ 27 (0, 0)) :: O)))) ?_ ?_
  · skip
    refine .draw [] mixed .nil ?_
    refine .t 0 rfl (.fieldAddr fo27_0 rfl) rfl rfl (by kernel_rfl) <| .t 3 rfl (.fieldAddr fo27_1 rfl) rfl rfl (by kernel_rfl) <| .t 6 rfl (.fieldAddr fo27_2 rfl) rfl rfl (by kernel_rfl) ?_
    refine .all (rs := [1, 4, 7]) (by kernel_rfl) (by simp) ⟨⟨_, rfl, .inl ⟨rfl, ?_⟩⟩, ⟨⟨_, rfl, .inl ⟨rfl, ?_⟩⟩, ⟨⟨_, rfl, .inl ⟨rfl, ?_⟩⟩, trivial⟩⟩⟩
    · skip
      refine .ev (.load ag22 rfl (.there <| .here) rfl) rfl ⟨.nil, Imm.le_refl _, ?_⟩
      refine .all (rs := [2, 4, 7]) (by kernel_rfl) (by simp) ⟨⟨_, rfl, .inl ⟨rfl, ?_⟩⟩, ⟨⟨_, rfl, .inl ⟨rfl, ?_⟩⟩, ⟨⟨_, rfl, .inl ⟨rfl, ?_⟩⟩, trivial⟩⟩⟩
      · skip
        refine .call cal48 rfl rfl rfl (cloneNod_ok hnv0 hM.n) fun v7 I7 O7 hI7 hK7 => ?_
        obtain ⟨hq7, ws7, ob7, ho7, hd7, rfl⟩ := hK7
        replace hq7 := hq7.symm
        subst hq7
        obtain ⟨ad7, cap7, rfl⟩ := ho7.form
        refine ⟨.nil, Imm.le_refl _, ?_⟩
        refine .all (rs := [4, 7]) (by kernel_rfl) (by simp) ⟨⟨_, rfl, .inl ⟨rfl, ?_⟩⟩, ⟨⟨_, rfl, .inl ⟨rfl, ?_⟩⟩, trivial⟩⟩
        · skip
          refine .ev (.load ag23 rfl (.app <| .there <| .here) rfl) rfl ⟨.nil, Imm.le_refl _, ?_⟩
          refine .all (rs := [5, 7]) (by kernel_rfl) (by simp) ⟨⟨_, rfl, .inl ⟨rfl, ?_⟩⟩, ⟨⟨_, rfl, .inl ⟨rfl, ?_⟩⟩, trivial⟩⟩
          · skip
            refine .call cal49 rfl rfl rfl (cloneTsk_ok htv0 hM.t) fun v10 I10 O10 hI10 hK10 => ?_
            obtain ⟨hq10, ws10, ob10, ho10, hd10, rfl⟩ := hK10
            replace hq10 := hq10.symm
            subst hq10
            obtain ⟨ad10, cap10, rfl⟩ := ho10.form
            refine ⟨.nil, Imm.le_refl _, ?_⟩
            refine .one (i := 7) (by kernel_rfl) rfl rfl ?_
            refine .ev (.load ag24 rfl (.app <| .app <| .there <| .here) rfl) rfl ⟨.nil, Imm.le_refl _, ?_⟩
            refine .t 9 rfl (.fieldAddr fo27_0 rfl) rfl rfl (by kernel_rfl) <| .one (i := 8) (by kernel_rfl) rfl rfl <| .call cal50 rfl rfl rfl (cloneBnd_ok hbv0 hM.x) fun v13 I13 O13 hI13 hK13 => ?_
            obtain ⟨hq13, ws13, ob13, ho13, hd13, rfl⟩ := hK13
            replace hq13 := hq13.symm
            subst hq13
            obtain ⟨ad13, cap13, rfl⟩ := ho13.form
            refine ⟨.nil, Imm.le_refl _, ?_⟩
            refine .one (i := 10) (by kernel_rfl) rfl rfl <| .store sz22 rfl rfl rfl rfl rfl rfl (.app <| .app <| .app <| .there <| .here) ?_
            refine ⟨.nil, Imm.le_refl _, ?_⟩
            refine .t 11 rfl (.fieldAddr fo27_1 rfl) rfl rfl (by kernel_rfl) <| .one (i := 12) (by kernel_rfl) rfl rfl <| .store sz23 rfl rfl rfl rfl rfl rfl (.app <| .app <| .app <| .there <| .here) ?_
            refine ⟨.nil, Imm.le_refl _, ?_⟩
            refine .t 13 rfl (.fieldAddr fo27_2 rfl) rfl rfl (by kernel_rfl) <| .late (i := 14) (by kernel_rfl) (by kernel_rfl) (by kernel_rfl) rfl rfl <| .store sz24 rfl rfl rfl rfl rfl rfl (.app <| .app <| .app <| .there <| .here) ?_
            refine .front (.app <| .front) ?_
            refine .front (.app <| .app <| .front) ?_
            exact .mid (⟨_, _, _, ws7, ws10, ws13, ob7, ob10, ob13⟩) ⟨ho7, hd7, ho10, hd10, ho13, hd13⟩ trivial rfl rfl (.pre 12 rfl .self)
          · skip
            refine .ev (.load ag24 rfl (.app <| .there <| .here) rfl) rfl ⟨.nil, Imm.le_refl _, ?_⟩
            refine .t 9 rfl (.fieldAddr fo27_0 rfl) rfl rfl (by kernel_rfl) <| .one (i := 5) (by kernel_rfl) rfl rfl <| .call cal49 rfl rfl rfl (cloneTsk_ok htv0 hM.t) fun v10 I10 O10 hI10 hK10 => ?_
            obtain ⟨hq10, ws10, ob10, ho10, hd10, rfl⟩ := hK10
            replace hq10 := hq10.symm
            subst hq10
            obtain ⟨ad10, cap10, rfl⟩ := ho10.form
            refine ⟨.nil, Imm.le_refl _, ?_⟩
            refine .one (i := 8) (by kernel_rfl) rfl rfl <| .call cal50 rfl rfl rfl (cloneBnd_ok hbv0 hM.x) fun v13 I13 O13 hI13 hK13 => ?_
            obtain ⟨hq13, ws13, ob13, ho13, hd13, rfl⟩ := hK13
            replace hq13 := hq13.symm
            subst hq13
            obtain ⟨ad13, cap13, rfl⟩ := ho13.form
            refine ⟨.nil, Imm.le_refl _, ?_⟩
            refine .one (i := 10) (by kernel_rfl) rfl rfl <| .store sz22 rfl rfl rfl rfl rfl rfl (.app <| .app <| .app <| .there <| .here) ?_
            refine ⟨.nil, Imm.le_refl _, ?_⟩
            refine .t 11 rfl (.fieldAddr fo27_1 rfl) rfl rfl (by kernel_rfl) <| .one (i := 12) (by kernel_rfl) rfl rfl <| .store sz23 rfl rfl rfl rfl rfl rfl (.app <| .app <| .app <| .there <| .here) ?_
            refine ⟨.nil, Imm.le_refl _, ?_⟩
            refine .t 13 rfl (.fieldAddr fo27_2 rfl) rfl rfl (by kernel_rfl) <| .late (i := 14) (by kernel_rfl) (by kernel_rfl) (by kernel_rfl) rfl rfl <| .store sz24 rfl rfl rfl rfl rfl rfl (.app <| .app <| .app <| .there <| .here) ?_
            refine .front (.app <| .front) ?_
            refine .front (.app <| .app <| .front) ?_
            exact .mid (⟨_, _, _, ws7, ws10, ws13, ob7, ob10, ob13⟩) ⟨ho7, hd7, ho10, hd10, ho13, hd13⟩ trivial rfl rfl (.pre 12 rfl .self)
        · skip
          refine .ev (.load ag24 rfl (.app <| .there <| .here) rfl) rfl ⟨.nil, Imm.le_refl _, ?_⟩
          refine .one (i := 4) (by kernel_rfl) rfl rfl ?_
          refine .ev (.load ag23 rfl (.app <| .there <| .here) rfl) rfl ⟨.nil, Imm.le_refl _, ?_⟩
          refine .t 9 rfl (.fieldAddr fo27_0 rfl) rfl rfl (by kernel_rfl) <| .one (i := 5) (by kernel_rfl) rfl rfl <| .call cal49 rfl rfl rfl (cloneTsk_ok htv0 hM.t) fun v10 I10 O10 hI10 hK10 => ?_
          obtain ⟨hq10, ws10, ob10, ho10, hd10, rfl⟩ := hK10
          replace hq10 := hq10.symm
          subst hq10
          obtain ⟨ad10, cap10, rfl⟩ := ho10.form
          refine ⟨.nil, Imm.le_refl _, ?_⟩
          refine .one (i := 8) (by kernel_rfl) rfl rfl <| .call cal50 rfl rfl rfl (cloneBnd_ok hbv0 hM.x) fun v13 I13 O13 hI13 hK13 => ?_
          obtain ⟨hq13, ws13, ob13, ho13, hd13, rfl⟩ := hK13
          replace hq13 := hq13.symm
          subst hq13
          obtain ⟨ad13, cap13, rfl⟩ := ho13.form
          refine ⟨.nil, Imm.le_refl _, ?_⟩
          refine .one (i := 10) (by kernel_rfl) rfl rfl <| .store sz22 rfl rfl rfl rfl rfl rfl (.app <| .app <| .app <| .there <| .here) ?_
          refine ⟨.nil, Imm.le_refl _, ?_⟩
          refine .t 11 rfl (.fieldAddr fo27_1 rfl) rfl rfl (by kernel_rfl) <| .one (i := 12) (by kernel_rfl) rfl rfl <| .store sz23 rfl rfl rfl rfl rfl rfl (.app <| .app <| .app <| .there <| .here) ?_
          refine ⟨.nil, Imm.le_refl _, ?_⟩
          refine .t 13 rfl (.fieldAddr fo27_2 rfl) rfl rfl (by kernel_rfl) <| .late (i := 14) (by kernel_rfl) (by kernel_rfl) (by kernel_rfl) rfl rfl <| .store sz24 rfl rfl rfl rfl rfl rfl (.app <| .app <| .app <| .there <| .here) ?_
          refine .front (.app <| .front) ?_
          refine .front (.app <| .app <| .front) ?_
          exact .mid (⟨_, _, _, ws7, ws10, ws13, ob7, ob10, ob13⟩) ⟨ho7, hd7, ho10, hd10, ho13, hd13⟩ trivial rfl rfl (.pre 12 rfl .self)
      · skip
        refine .ev (.load ag23 rfl (.there <| .here) rfl) rfl ⟨.nil, Imm.le_refl _, ?_⟩
        refine .all (rs := [2, 7]) (by kernel_rfl) (by simp) ⟨⟨_, rfl, .inl ⟨rfl, ?_⟩⟩, ⟨⟨_, rfl, .inl ⟨rfl, ?_⟩⟩, trivial⟩⟩
        · skip
          refine .call cal48 rfl rfl rfl (cloneNod_ok hnv0 hM.n) fun v7 I7 O7 hI7 hK7 => ?_
          obtain ⟨hq7, ws7, ob7, ho7, hd7, rfl⟩ := hK7
          replace hq7 := hq7.symm
          subst hq7
          obtain ⟨ad7, cap7, rfl⟩ := ho7.form
          refine ⟨.nil, Imm.le_refl _, ?_⟩
          refine .all (rs := [5, 7]) (by kernel_rfl) (by simp) ⟨⟨_, rfl, .inl ⟨rfl, ?_⟩⟩, ⟨⟨_, rfl, .inl ⟨rfl, ?_⟩⟩, trivial⟩⟩
          · skip
            refine .call cal49 rfl rfl rfl (cloneTsk_ok htv0 hM.t) fun v10 I10 O10 hI10 hK10 => ?_
            obtain ⟨hq10, ws10, ob10, ho10, hd10, rfl⟩ := hK10
            replace hq10 := hq10.symm
            subst hq10
            obtain ⟨ad10, cap10, rfl⟩ := ho10.form
            refine ⟨.nil, Imm.le_refl _, ?_⟩
            refine .one (i := 7) (by kernel_rfl) rfl rfl ?_
            refine .ev (.load ag24 rfl (.app <| .app <| .there <| .here) rfl) rfl ⟨.nil, Imm.le_refl _, ?_⟩
            refine .t 9 rfl (.fieldAddr fo27_0 rfl) rfl rfl (by kernel_rfl) <| .one (i := 8) (by kernel_rfl) rfl rfl <| .call cal50 rfl rfl rfl (cloneBnd_ok hbv0 hM.x) fun v13 I13 O13 hI13 hK13 => ?_
            obtain ⟨hq13, ws13, ob13, ho13, hd13, rfl⟩ := hK13
            replace hq13 := hq13.symm
            subst hq13
            obtain ⟨ad13, cap13, rfl⟩ := ho13.form
            refine ⟨.nil, Imm.le_refl _, ?_⟩
            refine .one (i := 10) (by kernel_rfl) rfl rfl <| .store sz22 rfl rfl rfl rfl rfl rfl (.app <| .app <| .app <| .there <| .here) ?_
            refine ⟨.nil, Imm.le_refl _, ?_⟩
            refine .t 11 rfl (.fieldAddr fo27_1 rfl) rfl rfl (by kernel_rfl) <| .one (i := 12) (by kernel_rfl) rfl rfl <| .store sz23 rfl rfl rfl rfl rfl rfl (.app <| .app <| .app <| .there <| .here) ?_
            refine ⟨.nil, Imm.le_refl _, ?_⟩
            refine .t 13 rfl (.fieldAddr fo27_2 rfl) rfl rfl (by kernel_rfl) <| .late (i := 14) (by kernel_rfl) (by kernel_rfl) (by kernel_rfl) rfl rfl <| .store sz24 rfl rfl rfl rfl rfl rfl (.app <| .app <| .app <| .there <| .here) ?_
            refine .front (.app <| .front) ?_
            refine .front (.app <| .app <| .front) ?_
            exact .mid (⟨_, _, _, ws7, ws10, ws13, ob7, ob10, ob13⟩) ⟨ho7, hd7, ho10, hd10, ho13, hd13⟩ trivial rfl rfl (.pre 12 rfl .self)
          · skip
            refine .ev (.load ag24 rfl (.app <| .there <| .here) rfl) rfl ⟨.nil, Imm.le_refl _, ?_⟩
            refine .t 9 rfl (.fieldAddr fo27_0 rfl) rfl rfl (by kernel_rfl) <| .one (i := 5) (by kernel_rfl) rfl rfl <| .call cal49 rfl rfl rfl (cloneTsk_ok htv0 hM.t) fun v10 I10 O10 hI10 hK10 => ?_
            obtain ⟨hq10, ws10, ob10, ho10, hd10, rfl⟩ := hK10
            replace hq10 := hq10.symm
            subst hq10
            obtain ⟨ad10, cap10, rfl⟩ := ho10.form
            refine ⟨.nil, Imm.le_refl _, ?_⟩
            refine .one (i := 8) (by kernel_rfl) rfl rfl <| .call cal50 rfl rfl rfl (cloneBnd_ok hbv0 hM.x) fun v13 I13 O13 hI13 hK13 => ?_
            obtain ⟨hq13, ws13, ob13, ho13, hd13, rfl⟩ := hK13
            replace hq13 := hq13.symm
            subst hq13
            obtain ⟨ad13, cap13, rfl⟩ := ho13.form
            refine ⟨.nil, Imm.le_refl _, ?_⟩
            refine .one (i := 10) (by kernel_rfl) rfl rfl <| .store sz22 rfl rfl rfl rfl rfl rfl (.app <| .app <| .app <| .there <| .here) ?_
            refine ⟨.nil, Imm.le_refl _, ?_⟩
            refine .t 11 rfl (.fieldAddr fo27_1 rfl) rfl rfl (by kernel_rfl) <| .one (i := 12) (by kernel_rfl) rfl rfl <| .store sz23 rfl rfl rfl rfl rfl rfl (.app <| .app <| .app <| .there <| .here) ?_
            refine ⟨.nil, Imm.le_refl _, ?_⟩
            refine .t 13 rfl (.fieldAddr fo27_2 rfl) rfl rfl (by kernel_rfl) <| .late (i := 14) (by kernel_rfl) (by kernel_rfl) (by kernel_rfl) rfl rfl <| .store sz24 rfl rfl rfl rfl rfl rfl (.app <| .app <| .app <| .there <| .here) ?_
            refine .front (.app <| .front) ?_
            refine .front (.app <| .app <| .front) ?_
            exact .mid (⟨_, _, _, ws7, ws10, ws13, ob7, ob10, ob13⟩) ⟨ho7, hd7, ho10, hd10, ho13, hd13⟩ trivial rfl rfl (.pre 12 rfl .self)
        · skip
          refine .ev (.load ag24 rfl (.there <| .here) rfl) rfl ⟨.nil, Imm.le_refl _, ?_⟩
          refine .one (i := 2) (by kernel_rfl) rfl rfl <| .call cal48 rfl rfl rfl (cloneNod_ok hnv0 hM.n) fun v7 I7 O7 hI7 hK7 => ?_
          obtain ⟨hq7, ws7, ob7, ho7, hd7, rfl⟩ := hK7
          replace hq7 := hq7.symm
          subst hq7
          obtain ⟨ad7, cap7, rfl⟩ := ho7.form
          refine ⟨.nil, Imm.le_refl _, ?_⟩
          refine .t 9 rfl (.fieldAddr fo27_0 rfl) rfl rfl (by kernel_rfl) <| .one (i := 5) (by kernel_rfl) rfl rfl <| .call cal49 rfl rfl rfl (cloneTsk_ok htv0 hM.t) fun v10 I10 O10 hI10 hK10 => ?_
          obtain ⟨hq10, ws10, ob10, ho10, hd10, rfl⟩ := hK10
          replace hq10 := hq10.symm
          subst hq10
          obtain ⟨ad10, cap10, rfl⟩ := ho10.form
          refine ⟨.nil, Imm.le_refl _, ?_⟩
          refine .one (i := 8) (by kernel_rfl) rfl rfl <| .call cal50 rfl rfl rfl (cloneBnd_ok hbv0 hM.x) fun v13 I13 O13 hI13 hK13 => ?_
          obtain ⟨hq13, ws13, ob13, ho13, hd13, rfl⟩ := hK13
          replace hq13 := hq13.symm
          subst hq13
          obtain ⟨ad13, cap13, rfl⟩ := ho13.form
          refine ⟨.nil, Imm.le_refl _, ?_⟩
          refine .one (i := 10) (by kernel_rfl) rfl rfl <| .store sz22 rfl rfl rfl rfl rfl rfl (.app <| .app <| .app <| .there <| .here) ?_
          refine ⟨.nil, Imm.le_refl _, ?_⟩
          refine .t 11 rfl (.fieldAddr fo27_1 rfl) rfl rfl (by kernel_rfl) <| .one (i := 12) (by kernel_rfl) rfl rfl <| .store sz23 rfl rfl rfl rfl rfl rfl (.app <| .app <| .app <| .there <| .here) ?_
          refine ⟨.nil, Imm.le_refl _, ?_⟩
          refine .t 13 rfl (.fieldAddr fo27_2 rfl) rfl rfl (by kernel_rfl) <| .late (i := 14) (by kernel_rfl) (by kernel_rfl) (by kernel_rfl) rfl rfl <| .store sz24 rfl rfl rfl rfl rfl rfl (.app <| .app <| .app <| .there <| .here) ?_
          refine .front (.app <| .front) ?_
          refine .front (.app <| .app <| .front) ?_
          exact .mid (⟨_, _, _, ws7, ws10, ws13, ob7, ob10, ob13⟩) ⟨ho7, hd7, ho10, hd10, ho13, hd13⟩ trivial rfl rfl (.pre 12 rfl .self)
      · skip
        refine .ev (.load ag24 rfl (.there <| .here) rfl) rfl ⟨.nil, Imm.le_refl _, ?_⟩
        refine .all (rs := [2, 4]) (by kernel_rfl) (by simp) ⟨⟨_, rfl, .inl ⟨rfl, ?_⟩⟩, ⟨⟨_, rfl, .inl ⟨rfl, ?_⟩⟩, trivial⟩⟩
        · skip
          refine .call cal48 rfl rfl rfl (cloneNod_ok hnv0 hM.n) fun v7 I7 O7 hI7 hK7 => ?_
          obtain ⟨hq7, ws7, ob7, ho7, hd7, rfl⟩ := hK7
          replace hq7 := hq7.symm
          subst hq7
          obtain ⟨ad7, cap7, rfl⟩ := ho7.form
          refine ⟨.nil, Imm.le_refl _, ?_⟩
          refine .one (i := 4) (by kernel_rfl) rfl rfl ?_
          refine .ev (.load ag23 rfl (.app <| .there <| .here) rfl) rfl ⟨.nil, Imm.le_refl _, ?_⟩
          refine .t 9 rfl (.fieldAddr fo27_0 rfl) rfl rfl (by kernel_rfl) <| .one (i := 5) (by kernel_rfl) rfl rfl <| .call cal49 rfl rfl rfl (cloneTsk_ok htv0 hM.t) fun v10 I10 O10 hI10 hK10 => ?_
          obtain ⟨hq10, ws10, ob10, ho10, hd10, rfl⟩ := hK10
          replace hq10 := hq10.symm
          subst hq10
          obtain ⟨ad10, cap10, rfl⟩ := ho10.form
          refine ⟨.nil, Imm.le_refl _, ?_⟩
          refine .one (i := 8) (by kernel_rfl) rfl rfl <| .call cal50 rfl rfl rfl (cloneBnd_ok hbv0 hM.x) fun v13 I13 O13 hI13 hK13 => ?_
          obtain ⟨hq13, ws13, ob13, ho13, hd13, rfl⟩ := hK13
          replace hq13 := hq13.symm
          subst hq13
          obtain ⟨ad13, cap13, rfl⟩ := ho13.form
          refine ⟨.nil, Imm.le_refl _, ?_⟩
          refine .one (i := 10) (by kernel_rfl) rfl rfl <| .store sz22 rfl rfl rfl rfl rfl rfl (.app <| .app <| .app <| .there <| .here) ?_
          refine ⟨.nil, Imm.le_refl _, ?_⟩
          refine .t 11 rfl (.fieldAddr fo27_1 rfl) rfl rfl (by kernel_rfl) <| .one (i := 12) (by kernel_rfl) rfl rfl <| .store sz23 rfl rfl rfl rfl rfl rfl (.app <| .app <| .app <| .there <| .here) ?_
          refine ⟨.nil, Imm.le_refl _, ?_⟩
          refine .t 13 rfl (.fieldAddr fo27_2 rfl) rfl rfl (by kernel_rfl) <| .late (i := 14) (by kernel_rfl) (by kernel_rfl) (by kernel_rfl) rfl rfl <| .store sz24 rfl rfl rfl rfl rfl rfl (.app <| .app <| .app <| .there <| .here) ?_
          refine .front (.app <| .front) ?_
          refine .front (.app <| .app <| .front) ?_
          exact .mid (⟨_, _, _, ws7, ws10, ws13, ob7, ob10, ob13⟩) ⟨ho7, hd7, ho10, hd10, ho13, hd13⟩ trivial rfl rfl (.pre 12 rfl .self)
        · skip
          refine .ev (.load ag23 rfl (.there <| .here) rfl) rfl ⟨.nil, Imm.le_refl _, ?_⟩
          refine .one (i := 2) (by kernel_rfl) rfl rfl <| .call cal48 rfl rfl rfl (cloneNod_ok hnv0 hM.n) fun v7 I7 O7 hI7 hK7 => ?_
          obtain ⟨hq7, ws7, ob7, ho7, hd7, rfl⟩ := hK7
          replace hq7 := hq7.symm
          subst hq7
          obtain ⟨ad7, cap7, rfl⟩ := ho7.form
          refine ⟨.nil, Imm.le_refl _, ?_⟩
          refine .t 9 rfl (.fieldAddr fo27_0 rfl) rfl rfl (by kernel_rfl) <| .one (i := 5) (by kernel_rfl) rfl rfl <| .call cal49 rfl rfl rfl (cloneTsk_ok htv0 hM.t) fun v10 I10 O10 hI10 hK10 => ?_
          obtain ⟨hq10, ws10, ob10, ho10, hd10, rfl⟩ := hK10
          replace hq10 := hq10.symm
          subst hq10
          obtain ⟨ad10, cap10, rfl⟩ := ho10.form
          refine ⟨.nil, Imm.le_refl _, ?_⟩
          refine .one (i := 8) (by kernel_rfl) rfl rfl <| .call cal50 rfl rfl rfl (cloneBnd_ok hbv0 hM.x) fun v13 I13 O13 hI13 hK13 => ?_
          obtain ⟨hq13, ws13, ob13, ho13, hd13, rfl⟩ := hK13
          replace hq13 := hq13.symm
          subst hq13
          obtain ⟨ad13, cap13, rfl⟩ := ho13.form
          refine ⟨.nil, Imm.le_refl _, ?_⟩
          refine .one (i := 10) (by kernel_rfl) rfl rfl <| .store sz22 rfl rfl rfl rfl rfl rfl (.app <| .app <| .app <| .there <| .here) ?_
          refine ⟨.nil, Imm.le_refl _, ?_⟩
          refine .t 11 rfl (.fieldAddr fo27_1 rfl) rfl rfl (by kernel_rfl) <| .one (i := 12) (by kernel_rfl) rfl rfl <| .store sz23 rfl rfl rfl rfl rfl rfl (.app <| .app <| .app <| .there <| .here) ?_
          refine ⟨.nil, Imm.le_refl _, ?_⟩
          refine .t 13 rfl (.fieldAddr fo27_2 rfl) rfl rfl (by kernel_rfl) <| .late (i := 14) (by kernel_rfl) (by kernel_rfl) (by kernel_rfl) rfl rfl <| .store sz24 rfl rfl rfl rfl rfl rfl (.app <| .app <| .app <| .there <| .here) ?_
          refine .front (.app <| .front) ?_
          refine .front (.app <| .app <| .front) ?_
          exact .mid (⟨_, _, _, ws7, ws10, ws13, ob7, ob10, ob13⟩) ⟨ho7, hd7, ho10, hd10, ho13, hd13⟩ trivial rfl rfl (.pre 12 rfl .self)
    · skip
      refine .ev (.load ag23 rfl (.there <| .here) rfl) rfl ⟨.nil, Imm.le_refl _, ?_⟩
      refine .all (rs := [1, 7]) (by kernel_rfl) (by simp) ⟨⟨_, rfl, .inl ⟨rfl, ?_⟩⟩, ⟨⟨_, rfl, .inl ⟨rfl, ?_⟩⟩, trivial⟩⟩
      · skip
        refine .ev (.load ag22 rfl (.there <| .here) rfl) rfl ⟨.nil, Imm.le_refl _, ?_⟩
        refine .all (rs := [2, 7]) (by kernel_rfl) (by simp) ⟨⟨_, rfl, .inl ⟨rfl, ?_⟩⟩, ⟨⟨_, rfl, .inl ⟨rfl, ?_⟩⟩, trivial⟩⟩
        · skip
          refine .call cal48 rfl rfl rfl (cloneNod_ok hnv0 hM.n) fun v7 I7 O7 hI7 hK7 => ?_
          obtain ⟨hq7, ws7, ob7, ho7, hd7, rfl⟩ := hK7
          replace hq7 := hq7.symm
          subst hq7
          obtain ⟨ad7, cap7, rfl⟩ := ho7.form
          refine ⟨.nil, Imm.le_refl _, ?_⟩
          refine .all (rs := [5, 7]) (by kernel_rfl) (by simp) ⟨⟨_, rfl, .inl ⟨rfl, ?_⟩⟩, ⟨⟨_, rfl, .inl ⟨rfl, ?_⟩⟩, trivial⟩⟩
          · skip
            refine .call cal49 rfl rfl rfl (cloneTsk_ok htv0 hM.t) fun v10 I10 O10 hI10 hK10 => ?_
            obtain ⟨hq10, ws10, ob10, ho10, hd10, rfl⟩ := hK10
            replace hq10 := hq10.symm
            subst hq10
            obtain ⟨ad10, cap10, rfl⟩ := ho10.form
            refine ⟨.nil, Imm.le_refl _, ?_⟩
            refine .one (i := 7) (by kernel_rfl) rfl rfl ?_
            refine .ev (.load ag24 rfl (.app <| .app <| .there <| .here) rfl) rfl ⟨.nil, Imm.le_refl _, ?_⟩
            refine .t 9 rfl (.fieldAddr fo27_0 rfl) rfl rfl (by kernel_rfl) <| .one (i := 8) (by kernel_rfl) rfl rfl <| .call cal50 rfl rfl rfl (cloneBnd_ok hbv0 hM.x) fun v13 I13 O13 hI13 hK13 => ?_
            obtain ⟨hq13, ws13, ob13, ho13, hd13, rfl⟩ := hK13
            replace hq13 := hq13.symm
            subst hq13
            obtain ⟨ad13, cap13, rfl⟩ := ho13.form
            refine ⟨.nil, Imm.le_refl _, ?_⟩
            refine .one (i := 10) (by kernel_rfl) rfl rfl <| .store sz22 rfl rfl rfl rfl rfl rfl (.app <| .app <| .app <| .there <| .here) ?_
            refine ⟨.nil, Imm.le_refl _, ?_⟩
            refine .t 11 rfl (.fieldAddr fo27_1 rfl) rfl rfl (by kernel_rfl) <| .one (i := 12) (by kernel_rfl) rfl rfl <| .store sz23 rfl rfl rfl rfl rfl rfl (.app <| .app <| .app <| .there <| .here) ?_
            refine ⟨.nil, Imm.le_refl _, ?_⟩
            refine .t 13 rfl (.fieldAddr fo27_2 rfl) rfl rfl (by kernel_rfl) <| .late (i := 14) (by kernel_rfl) (by kernel_rfl) (by kernel_rfl) rfl rfl <| .store sz24 rfl rfl rfl rfl rfl rfl (.app <| .app <| .app <| .there <| .here) ?_
            refine .front (.app <| .front) ?_
            refine .front (.app <| .app <| .front) ?_
            exact .mid (⟨_, _, _, ws7, ws10, ws13, ob7, ob10, ob13⟩) ⟨ho7, hd7, ho10, hd10, ho13, hd13⟩ trivial rfl rfl (.pre 12 rfl .self)
          · skip
            refine .ev (.load ag24 rfl (.app <| .there <| .here) rfl) rfl ⟨.nil, Imm.le_refl _, ?_⟩
            refine .t 9 rfl (.fieldAddr fo27_0 rfl) rfl rfl (by kernel_rfl) <| .one (i := 5) (by kernel_rfl) rfl rfl <| .call cal49 rfl rfl rfl (cloneTsk_ok htv0 hM.t) fun v10 I10 O10 hI10 hK10 => ?_
            obtain ⟨hq10, ws10, ob10, ho10, hd10, rfl⟩ := hK10
            replace hq10 := hq10.symm
            subst hq10
            obtain ⟨ad10, cap10, rfl⟩ := ho10.form
            refine ⟨.nil, Imm.le_refl _, ?_⟩
            refine .one (i := 8) (by kernel_rfl) rfl rfl <| .call cal50 rfl rfl rfl (cloneBnd_ok hbv0 hM.x) fun v13 I13 O13 hI13 hK13 => ?_
            obtain ⟨hq13, ws13, ob13, ho13, hd13, rfl⟩ := hK13
            replace hq13 := hq13.symm
            subst hq13
            obtain ⟨ad13, cap13, rfl⟩ := ho13.form
            refine ⟨.nil, Imm.le_refl _, ?_⟩
            refine .one (i := 10) (by kernel_rfl) rfl rfl <| .store sz22 rfl rfl rfl rfl rfl rfl (.app <| .app <| .app <| .there <| .here) ?_
            refine ⟨.nil, Imm.le_refl _, ?_⟩
            refine .t 11 rfl (.fieldAddr fo27_1 rfl) rfl rfl (by kernel_rfl) <| .one (i := 12) (by kernel_rfl) rfl rfl <| .store sz23 rfl rfl rfl rfl rfl rfl (.app <| .app <| .app <| .there <| .here) ?_
            refine ⟨.nil, Imm.le_refl _, ?_⟩
            refine .t 13 rfl (.fieldAddr fo27_2 rfl) rfl rfl (by kernel_rfl) <| .late (i := 14) (by kernel_rfl) (by kernel_rfl) (by kernel_rfl) rfl rfl <| .store sz24 rfl rfl rfl rfl rfl rfl (.app <| .app <| .app <| .there <| .here) ?_
            refine .front (.app <| .front) ?_
            refine .front (.app <| .app <| .front) ?_
            exact .mid (⟨_, _, _, ws7, ws10, ws13, ob7, ob10, ob13⟩) ⟨ho7, hd7, ho10, hd10, ho13, hd13⟩ trivial rfl rfl (.pre 12 rfl .self)
        · skip
          refine .ev (.load ag24 rfl (.there <| .here) rfl) rfl ⟨.nil, Imm.le_refl _, ?_⟩
          refine .one (i := 2) (by kernel_rfl) rfl rfl <| .call cal48 rfl rfl rfl (cloneNod_ok hnv0 hM.n) fun v7 I7 O7 hI7 hK7 => ?_
          obtain ⟨hq7, ws7, ob7, ho7, hd7, rfl⟩ := hK7
          replace hq7 := hq7.symm
          subst hq7
          obtain ⟨ad7, cap7, rfl⟩ := ho7.form
          refine ⟨.nil, Imm.le_refl _, ?_⟩
          refine .t 9 rfl (.fieldAddr fo27_0 rfl) rfl rfl (by kernel_rfl) <| .one (i := 5) (by kernel_rfl) rfl rfl <| .call cal49 rfl rfl rfl (cloneTsk_ok htv0 hM.t) fun v10 I10 O10 hI10 hK10 => ?_
          obtain ⟨hq10, ws10, ob10, ho10, hd10, rfl⟩ := hK10
          replace hq10 := hq10.symm
          subst hq10
          obtain ⟨ad10, cap10, rfl⟩ := ho10.form
          refine ⟨.nil, Imm.le_refl _, ?_⟩
          refine .one (i := 8) (by kernel_rfl) rfl rfl <| .call cal50 rfl rfl rfl (cloneBnd_ok hbv0 hM.x) fun v13 I13 O13 hI13 hK13 => ?_
          obtain ⟨hq13, ws13, ob13, ho13, hd13, rfl⟩ := hK13
          replace hq13 := hq13.symm
          subst hq13
          obtain ⟨ad13, cap13, rfl⟩ := ho13.form
          refine ⟨.nil, Imm.le_refl _, ?_⟩
          refine .one (i := 10) (by kernel_rfl) rfl rfl <| .store sz22 rfl rfl rfl rfl rfl rfl (.app <| .app <| .app <| .there <| .here) ?_
          refine ⟨.nil, Imm.le_refl _, ?_⟩
          refine .t 11 rfl (.fieldAddr fo27_1 rfl) rfl rfl (by kernel_rfl) <| .one (i := 12) (by kernel_rfl) rfl rfl <| .store sz23 rfl rfl rfl rfl rfl rfl (.app <| .app <| .app <| .there <| .here) ?_
          refine ⟨.nil, Imm.le_refl _, ?_⟩
          refine .t 13 rfl (.fieldAddr fo27_2 rfl) rfl rfl (by kernel_rfl) <| .late (i := 14) (by kernel_rfl) (by kernel_rfl) (by kernel_rfl) rfl rfl <| .store sz24 rfl rfl rfl rfl rfl rfl (.app <| .app <| .app <| .there <| .here) ?_
          refine .front (.app <| .front) ?_
          refine .front (.app <| .app <| .front) ?_
          exact .mid (⟨_, _, _, ws7, ws10, ws13, ob7, ob10, ob13⟩) ⟨ho7, hd7, ho10, hd10, ho13, hd13⟩ trivial rfl rfl (.pre 12 rfl .self)
      · skip
        refine .ev (.load ag24 rfl (.there <| .here) rfl) rfl ⟨.nil, Imm.le_refl _, ?_⟩
        refine .one (i := 1) (by kernel_rfl) rfl rfl ?_
        refine .ev (.load ag22 rfl (.there <| .here) rfl) rfl ⟨.nil, Imm.le_refl _, ?_⟩
        refine .one (i := 2) (by kernel_rfl) rfl rfl <| .call cal48 rfl rfl rfl (cloneNod_ok hnv0 hM.n) fun v7 I7 O7 hI7 hK7 => ?_
        obtain ⟨hq7, ws7, ob7, ho7, hd7, rfl⟩ := hK7
        replace hq7 := hq7.symm
        subst hq7
        obtain ⟨ad7, cap7, rfl⟩ := ho7.form
        refine ⟨.nil, Imm.le_refl _, ?_⟩
        refine .t 9 rfl (.fieldAddr fo27_0 rfl) rfl rfl (by kernel_rfl) <| .one (i := 5) (by kernel_rfl) rfl rfl <| .call cal49 rfl rfl rfl (cloneTsk_ok htv0 hM.t) fun v10 I10 O10 hI10 hK10 => ?_
        obtain ⟨hq10, ws10, ob10, ho10, hd10, rfl⟩ := hK10
        replace hq10 := hq10.symm
        subst hq10
        obtain ⟨ad10, cap10, rfl⟩ := ho10.form
        refine ⟨.nil, Imm.le_refl _, ?_⟩
        refine .one (i := 8) (by kernel_rfl) rfl rfl <| .call cal50 rfl rfl rfl (cloneBnd_ok hbv0 hM.x) fun v13 I13 O13 hI13 hK13 => ?_
        obtain ⟨hq13, ws13, ob13, ho13, hd13, rfl⟩ := hK13
        replace hq13 := hq13.symm
        subst hq13
        obtain ⟨ad13, cap13, rfl⟩ := ho13.form
        refine ⟨.nil, Imm.le_refl _, ?_⟩
        refine .one (i := 10) (by kernel_rfl) rfl rfl <| .store sz22 rfl rfl rfl rfl rfl rfl (.app <| .app <| .app <| .there <| .here) ?_
        refine ⟨.nil, Imm.le_refl _, ?_⟩
        refine .t 11 rfl (.fieldAddr fo27_1 rfl) rfl rfl (by kernel_rfl) <| .one (i := 12) (by kernel_rfl) rfl rfl <| .store sz23 rfl rfl rfl rfl rfl rfl (.app <| .app <| .app <| .there <| .here) ?_
        refine ⟨.nil, Imm.le_refl _, ?_⟩
        refine .t 13 rfl (.fieldAddr fo27_2 rfl) rfl rfl (by kernel_rfl) <| .late (i := 14) (by kernel_rfl) (by kernel_rfl) (by kernel_rfl) rfl rfl <| .store sz24 rfl rfl rfl rfl rfl rfl (.app <| .app <| .app <| .there <| .here) ?_
        refine .front (.app <| .front) ?_
        refine .front (.app <| .app <| .front) ?_
        exact .mid (⟨_, _, _, ws7, ws10, ws13, ob7, ob10, ob13⟩) ⟨ho7, hd7, ho10, hd10, ho13, hd13⟩ trivial rfl rfl (.pre 12 rfl .self)
    · skip
      refine .ev (.load ag24 rfl (.there <| .here) rfl) rfl ⟨.nil, Imm.le_refl _, ?_⟩
      refine .all (rs := [1, 4]) (by kernel_rfl) (by simp) ⟨⟨_, rfl, .inl ⟨rfl, ?_⟩⟩, ⟨⟨_, rfl, .inl ⟨rfl, ?_⟩⟩, trivial⟩⟩
      · skip
        refine .ev (.load ag22 rfl (.there <| .here) rfl) rfl ⟨.nil, Imm.le_refl _, ?_⟩
        refine .all (rs := [2, 4]) (by kernel_rfl) (by simp) ⟨⟨_, rfl, .inl ⟨rfl, ?_⟩⟩, ⟨⟨_, rfl, .inl ⟨rfl, ?_⟩⟩, trivial⟩⟩
        · skip
          refine .call cal48 rfl rfl rfl (cloneNod_ok hnv0 hM.n) fun v7 I7 O7 hI7 hK7 => ?_
          obtain ⟨hq7, ws7, ob7, ho7, hd7, rfl⟩ := hK7
          replace hq7 := hq7.symm
          subst hq7
          obtain ⟨ad7, cap7, rfl⟩ := ho7.form
          refine ⟨.nil, Imm.le_refl _, ?_⟩
          refine .one (i := 4) (by kernel_rfl) rfl rfl ?_
          refine .ev (.load ag23 rfl (.app <| .there <| .here) rfl) rfl ⟨.nil, Imm.le_refl _, ?_⟩
          refine .t 9 rfl (.fieldAddr fo27_0 rfl) rfl rfl (by kernel_rfl) <| .one (i := 5) (by kernel_rfl) rfl rfl <| .call cal49 rfl rfl rfl (cloneTsk_ok htv0 hM.t) fun v10 I10 O10 hI10 hK10 => ?_
          obtain ⟨hq10, ws10, ob10, ho10, hd10, rfl⟩ := hK10
          replace hq10 := hq10.symm
          subst hq10
          obtain ⟨ad10, cap10, rfl⟩ := ho10.form
          refine ⟨.nil, Imm.le_refl _, ?_⟩
          refine .one (i := 8) (by kernel_rfl) rfl rfl <| .call cal50 rfl rfl rfl (cloneBnd_ok hbv0 hM.x) fun v13 I13 O13 hI13 hK13 => ?_
          obtain ⟨hq13, ws13, ob13, ho13, hd13, rfl⟩ := hK13
          replace hq13 := hq13.symm
          subst hq13
          obtain ⟨ad13, cap13, rfl⟩ := ho13.form
          refine ⟨.nil, Imm.le_refl _, ?_⟩
          refine .one (i := 10) (by kernel_rfl) rfl rfl <| .store sz22 rfl rfl rfl rfl rfl rfl (.app <| .app <| .app <| .there <| .here) ?_
          refine ⟨.nil, Imm.le_refl _, ?_⟩
          refine .t 11 rfl (.fieldAddr fo27_1 rfl) rfl rfl (by kernel_rfl) <| .one (i := 12) (by kernel_rfl) rfl rfl <| .store sz23 rfl rfl rfl rfl rfl rfl (.app <| .app <| .app <| .there <| .here) ?_
          refine ⟨.nil, Imm.le_refl _, ?_⟩
          refine .t 13 rfl (.fieldAddr fo27_2 rfl) rfl rfl (by kernel_rfl) <| .late (i := 14) (by kernel_rfl) (by kernel_rfl) (by kernel_rfl) rfl rfl <| .store sz24 rfl rfl rfl rfl rfl rfl (.app <| .app <| .app <| .there <| .here) ?_
          refine .front (.app <| .front) ?_
          refine .front (.app <| .app <| .front) ?_
          exact .mid (⟨_, _, _, ws7, ws10, ws13, ob7, ob10, ob13⟩) ⟨ho7, hd7, ho10, hd10, ho13, hd13⟩ trivial rfl rfl (.pre 12 rfl .self)
        · skip
          refine .ev (.load ag23 rfl (.there <| .here) rfl) rfl ⟨.nil, Imm.le_refl _, ?_⟩
          refine .one (i := 2) (by kernel_rfl) rfl rfl <| .call cal48 rfl rfl rfl (cloneNod_ok hnv0 hM.n) fun v7 I7 O7 hI7 hK7 => ?_
          obtain ⟨hq7, ws7, ob7, ho7, hd7, rfl⟩ := hK7
          replace hq7 := hq7.symm
          subst hq7
          obtain ⟨ad7, cap7, rfl⟩ := ho7.form
          refine ⟨.nil, Imm.le_refl _, ?_⟩
          refine .t 9 rfl (.fieldAddr fo27_0 rfl) rfl rfl (by kernel_rfl) <| .one (i := 5) (by kernel_rfl) rfl rfl <| .call cal49 rfl rfl rfl (cloneTsk_ok htv0 hM.t) fun v10 I10 O10 hI10 hK10 => ?_
          obtain ⟨hq10, ws10, ob10, ho10, hd10, rfl⟩ := hK10
          replace hq10 := hq10.symm
          subst hq10
          obtain ⟨ad10, cap10, rfl⟩ := ho10.form
          refine ⟨.nil, Imm.le_refl _, ?_⟩
          refine .one (i := 8) (by kernel_rfl) rfl rfl <| .call cal50 rfl rfl rfl (cloneBnd_ok hbv0 hM.x) fun v13 I13 O13 hI13 hK13 => ?_
          obtain ⟨hq13, ws13, ob13, ho13, hd13, rfl⟩ := hK13
          replace hq13 := hq13.symm
          subst hq13
          obtain ⟨ad13, cap13, rfl⟩ := ho13.form
          refine ⟨.nil, Imm.le_refl _, ?_⟩
          refine .one (i := 10) (by kernel_rfl) rfl rfl <| .store sz22 rfl rfl rfl rfl rfl rfl (.app <| .app <| .app <| .there <| .here) ?_
          refine ⟨.nil, Imm.le_refl _, ?_⟩
          refine .t 11 rfl (.fieldAddr fo27_1 rfl) rfl rfl (by kernel_rfl) <| .one (i := 12) (by kernel_rfl) rfl rfl <| .store sz23 rfl rfl rfl rfl rfl rfl (.app <| .app <| .app <| .there <| .here) ?_
          refine ⟨.nil, Imm.le_refl _, ?_⟩
          refine .t 13 rfl (.fieldAddr fo27_2 rfl) rfl rfl (by kernel_rfl) <| .late (i := 14) (by kernel_rfl) (by kernel_rfl) (by kernel_rfl) rfl rfl <| .store sz24 rfl rfl rfl rfl rfl rfl (.app <| .app <| .app <| .there <| .here) ?_
          refine .front (.app <| .front) ?_
          refine .front (.app <| .app <| .front) ?_
          exact .mid (⟨_, _, _, ws7, ws10, ws13, ob7, ob10, ob13⟩) ⟨ho7, hd7, ho10, hd10, ho13, hd13⟩ trivial rfl rfl (.pre 12 rfl .self)
      · skip
        refine .ev (.load ag23 rfl (.there <| .here) rfl) rfl ⟨.nil, Imm.le_refl _, ?_⟩
        refine .one (i := 1) (by kernel_rfl) rfl rfl ?_
        refine .ev (.load ag22 rfl (.there <| .here) rfl) rfl ⟨.nil, Imm.le_refl _, ?_⟩
        refine .one (i := 2) (by kernel_rfl) rfl rfl <| .call cal48 rfl rfl rfl (cloneNod_ok hnv0 hM.n) fun v7 I7 O7 hI7 hK7 => ?_
        obtain ⟨hq7, ws7, ob7, ho7, hd7, rfl⟩ := hK7
        replace hq7 := hq7.symm
        subst hq7
        obtain ⟨ad7, cap7, rfl⟩ := ho7.form
        refine ⟨.nil, Imm.le_refl _, ?_⟩
        refine .t 9 rfl (.fieldAddr fo27_0 rfl) rfl rfl (by kernel_rfl) <| .one (i := 5) (by kernel_rfl) rfl rfl <| .call cal49 rfl rfl rfl (cloneTsk_ok htv0 hM.t) fun v10 I10 O10 hI10 hK10 => ?_
        obtain ⟨hq10, ws10, ob10, ho10, hd10, rfl⟩ := hK10
        replace hq10 := hq10.symm
        subst hq10
        obtain ⟨ad10, cap10, rfl⟩ := ho10.form
        refine ⟨.nil, Imm.le_refl _, ?_⟩
        refine .one (i := 8) (by kernel_rfl) rfl rfl <| .call cal50 rfl rfl rfl (cloneBnd_ok hbv0 hM.x) fun v13 I13 O13 hI13 hK13 => ?_
        obtain ⟨hq13, ws13, ob13, ho13, hd13, rfl⟩ := hK13
        replace hq13 := hq13.symm
        subst hq13
        obtain ⟨ad13, cap13, rfl⟩ := ho13.form
        refine ⟨.nil, Imm.le_refl _, ?_⟩
        refine .one (i := 10) (by kernel_rfl) rfl rfl <| .store sz22 rfl rfl rfl rfl rfl rfl (.app <| .app <| .app <| .there <| .here) ?_
        refine ⟨.nil, Imm.le_refl _, ?_⟩
        refine .t 11 rfl (.fieldAddr fo27_1 rfl) rfl rfl (by kernel_rfl) <| .one (i := 12) (by kernel_rfl) rfl rfl <| .store sz23 rfl rfl rfl rfl rfl rfl (.app <| .app <| .app <| .there <| .here) ?_
        refine ⟨.nil, Imm.le_refl _, ?_⟩
        refine .t 13 rfl (.fieldAddr fo27_2 rfl) rfl rfl (by kernel_rfl) <| .late (i := 14) (by kernel_rfl) (by kernel_rfl) (by kernel_rfl) rfl rfl <| .store sz24 rfl rfl rfl rfl rfl rfl (.app <| .app <| .app <| .there <| .here) ?_
        refine .front (.app <| .front) ?_
        refine .front (.app <| .app <| .front) ?_
        exact .mid (⟨_, _, _, ws7, ws10, ws13, ob7, ob10, ob13⟩) ⟨ho7, hd7, ho10, hd10, ho13, hd13⟩ trivial rfl rfl (.pre 12 rfl .self)
  · intro ⟨nvG, tvG, bvG, wsN, wsT, wsB, obN, obT, obB⟩ hg
    obtain ⟨hoN, hdN, hoT, hdT, hoB, hdB⟩ := hg
    dsimp only at hoN hdN hoT hdT hoB hdB ⊢
    obtain ⟨adN, capN, rfl⟩ := hoN.form
    obtain ⟨adT, capT, rfl⟩ := hoT.form
    obtain ⟨adB, capB, rfl⟩ := hoB.form
    refine .seq <| .seq <| .region <| .e (.fieldAddr fo27_0 rfl) rfl rfl <| .e (.load ag22 rfl (.app <| .app <| .app <| .there <| .here) rfl) rfl rfl <| .e (.len sl22 rfl rfl) rfl rfl ?_
    refine .e (.move rfl) rfl rfl <| .nil <| .go <| .block ?_
    refine .loopM [3, 20, 21, 22, 23, 24, 25, 26, 27, 28, 29, 30, 31, 32, 33] (fun s => b.nodes.length - s.1) (fun s => s.1 ≤ b.nodes.length ∧ OwnS 6 (.slice adN b.nodes.length capN) b.nodes.length s.2.1 s.2.2.1 ∧ DR NodR 6 s.2.2.2 s.2.1 b.nodes ∧ Imm.le I s.2.2.2) (fun s => [(20, .int .i64 s.1)]) (fun s => s.2.2.2) (fun s => s.2.2.1 ++ _) (((0, wsN, obN, I) : Nat × List Value × Own × Imm)) ⟨Nat.zero_le _, hoN, hdN, Imm.le_refl _⟩ ⟨rfl, trivial⟩ rfl rfl ?_
    intro ⟨kn, wsnL, obnL, Jn⟩ hkn
    dsimp only at hkn ⊢
    obtain ⟨hkn, honL, hdnL, hJn⟩ := hkn
    refine .seq <| .region <| .e (.lss rfl rfl) rfl rfl <| .nil <| .go <| .seq ?_
    refine .split 21 rfl (fun h21 => ?_) (fun h21 => ?_)
    · skip
      replace h21 := of_decide_eq_true h21
      refine .cond_true rfl <| .skip <| .go <| .seq <| .block <| .seq ?_
      refine .region ?_
      have hden := hdnL.2 kn b.nodes[kn] (List.getElem?_eq_getElem (by omega))
      obtain ⟨lvn, tvn, hcen, hlvn, htvn⟩ := hden.ex
      rw [hcen] at hden
      obtain ⟨_, h0, _, _⟩ | ⟨bnL, capnL, csnL, TnL, hv5, rfl, hc1n, hc2n, hc3n, hc4n, hc5n⟩ := honL
      · omega
      cases hv5
      simp only [@List.singleton_append (Nat × Obj)]
      refine .e (.move rfl) rfl rfl <| .e (.assign rfl) rfl rfl <| .nil <| .go ?_
      refine .draw [(c1, _)] mixed (.cons (.there <| .app <| .app <| .there <| .here) .nil) ?_
      refine .t 0 rfl (.fieldAddr fo27_0 rfl) rfl rfl (by kernel_rfl) <| .t 1 rfl (.load ag22 rfl .here rfl) rfl rfl (by kernel_rfl) <| .t 2 rfl (.move rfl) rfl rfl (by kernel_rfl) <| .t 3 rfl (.fieldAddr fo27_0 rfl) rfl rfl (by kernel_rfl) <| .t 4 rfl (.load ag22 rfl .here rfl) rfl rfl (by kernel_rfl) <| .t 5 rfl (.move rfl) rfl rfl (by kernel_rfl) ?_
      refine .t 6 rfl (.indexAddrL sl22 rfl rfl rfl (by omega)) rfl rfl (by kernel_rfl) <| .one (i := 7) (by kernel_rfl) rfl rfl ?_
      refine .ev ((EV.cast (.loadP ag32 sz32 rfl .here (Nat.ble_eq_true_of_le (show 0 + kn * 6 + 6 ≤ csnL.length by omega))) (congrArg (fun x => Value.agg ⟨x⟩) (part_of hc3n (by omega) hcen)))) rfl ⟨(.cons (.there <| .app <| .app <| .there <| .here) .nil), Imm.le_refl _, ?_⟩
      refine .one (i := 8) (by kernel_rfl) rfl rfl <| .call cal51 rfl rfl rfl (ownNode_ok hden (hM.nl _ (List.getElem_mem (by omega))).1 (hM.nl _ (List.getElem_mem (by omega))).2) fun v31 I31 O31 hI31 hK31 => ?_
      obtain ⟨cs31, hq31, hR31, rfl⟩ := hK31
      replace hq31 := hq31.symm
      subst hq31
      have hR31' := hR31
      obtain ⟨lv31, tv31, rfl, hl31, ht31⟩ := hR31'.ex
      obtain ⟨_, _, rfl, -⟩ := hl31
      obtain ⟨_, _, rfl, -⟩ := ht31
      refine ⟨(.cons (.there <| .app <| .app <| .there <| .here) .nil), hI31, ?_⟩
      refine .t 9 rfl (.indexAddrL sl22 rfl rfl rfl (by omega)) rfl rfl (by kernel_rfl) <| .late (i := 10) (by kernel_rfl) (by kernel_rfl) (by kernel_rfl) rfl rfl <| .store sz32 rfl rfl rfl rfl rfl (Nat.ble_eq_true_of_le (show 0 + kn * 6 + 6 ≤ csnL.length by omega)) .here <| .blk_normal <| .go <| .region <| .e (.add rfl rfl (by first | exact wrap_succ (by omega) | exact IntWalk.i64_in _ (by omega) | exact rfl)) rfl rfl ?_
      refine .e (.move rfl) rfl rfl <| .nil ?_
      exact .mid ((kn + 1, _, _, I31)) ⟨by dsimp only; omega, by dsimp only; omega, own_setE hc3n (by omega) hc1n hc2n hc4n rfl hc5n, dr_setE hdnL (by omega) (fun _ _ h => h.mono hI31) rfl hR31, Imm.le_trans hJn hI31⟩ ⟨rfl, trivial⟩ rfl rfl (.pre 16 rfl (.app rfl .base))
    · skip
      replace h21 := of_decide_eq_false h21
      refine .cond_false rfl <| .exit <| .exit <| .exit <| .blk_exit <| .go ?_
      refine .seq <| .seq <| .region <| .e (.fieldAddr fo27_1 rfl) rfl rfl <| .e (.load ag23 rfl (.app <| .app <| .app <| .there <| .here) rfl) rfl rfl <| .e (.len sl23 rfl rfl) rfl rfl ?_
      refine .e (.move rfl) rfl rfl <| .nil <| .go <| .block ?_
      have hdT' := hdT.mono (fun _ _ h => TskR.mono hJn h)
      refine .front (.app <| .front) ?_
      refine .loopM [4, 37, 38, 39, 40, 41, 42, 43, 44, 45, 46, 47, 48, 49, 50] (fun s => b.tasks.length - s.1) (fun s => s.1 ≤ b.tasks.length ∧ OwnS 9 (.slice adT b.tasks.length capT) b.tasks.length s.2.1 s.2.2.1 ∧ DR TskR 9 s.2.2.2 s.2.1 b.tasks ∧ Imm.le Jn s.2.2.2) (fun s => [(37, .int .i64 s.1)]) (fun s => s.2.2.2) (fun s => s.2.2.1 ++ _) (((0, wsT, obT, Jn) : Nat × List Value × Own × Imm)) ⟨Nat.zero_le _, hoT, hdT', Imm.le_refl _⟩ ⟨rfl, trivial⟩ rfl rfl ?_
      intro ⟨kt, wstL, obtL, Jt⟩ hkt
      dsimp only at hkt ⊢
      obtain ⟨hkt, hotL, hdtL, hJt⟩ := hkt
      refine .seq <| .region <| .e (.lss rfl rfl) rfl rfl <| .nil <| .go <| .seq ?_
      refine .split 38 rfl (fun h38 => ?_) (fun h38 => ?_)
      · skip
        replace h38 := of_decide_eq_true h38
        refine .cond_true rfl <| .skip <| .go <| .seq <| .block <| .seq ?_
        refine .region ?_
        have hdet := hdtL.2 kt b.tasks[kt] (List.getElem?_eq_getElem (by omega))
        obtain ⟨lvt, tvt, hcet, hlvt, htvt⟩ := hdet.ex
        rw [hcet] at hdet
        obtain ⟨_, h0, _, _⟩ | ⟨btL, captL, cstL, TtL, hv5, rfl, hc1t, hc2t, hc3t, hc4t, hc5t⟩ := hotL
        · omega
        cases hv5
        simp only [@List.singleton_append (Nat × Obj)]
        refine .e (.move rfl) rfl rfl <| .e (.assign rfl) rfl rfl <| .nil <| .go ?_
        refine .draw [(c1, _)] mixed (.cons (.there <| .app <| .app <| .there <| .here) .nil) ?_
        refine .t 0 rfl (.fieldAddr fo27_1 rfl) rfl rfl (by kernel_rfl) <| .t 1 rfl (.load ag23 rfl .here rfl) rfl rfl (by kernel_rfl) <| .t 2 rfl (.move rfl) rfl rfl (by kernel_rfl) <| .t 3 rfl (.fieldAddr fo27_1 rfl) rfl rfl (by kernel_rfl) <| .t 4 rfl (.load ag23 rfl .here rfl) rfl rfl (by kernel_rfl) <| .t 5 rfl (.move rfl) rfl rfl (by kernel_rfl) ?_
        refine .t 6 rfl (.indexAddrL sl23 rfl rfl rfl (by omega)) rfl rfl (by kernel_rfl) <| .one (i := 7) (by kernel_rfl) rfl rfl ?_
        refine .ev ((EV.cast (.loadP ag34 sz34 rfl .here (Nat.ble_eq_true_of_le (show 0 + kt * 9 + 9 ≤ cstL.length by omega))) (congrArg (fun x => Value.agg ⟨x⟩) (part_of hc3t (by omega) hcet)))) rfl ⟨(.cons (.there <| .app <| .app <| .there <| .here) .nil), Imm.le_refl _, ?_⟩
        refine .one (i := 8) (by kernel_rfl) rfl rfl <| .call cal52 rfl rfl rfl (ownTask_ok hdet (hM.tl _ (List.getElem_mem (by omega))).1 (hM.tl _ (List.getElem_mem (by omega))).2) fun v48 I48 O48 hI48 hK48 => ?_
        obtain ⟨cs48, hq48, hR48, rfl⟩ := hK48
        replace hq48 := hq48.symm
        subst hq48
        have hR48' := hR48
        obtain ⟨lv48, tv48, rfl, hl48, ht48⟩ := hR48'.ex
        obtain ⟨_, _, rfl, -⟩ := hl48
        obtain ⟨_, _, rfl, -⟩ := ht48
        refine ⟨(.cons (.there <| .app <| .app <| .there <| .here) .nil), hI48, ?_⟩
        refine .t 9 rfl (.indexAddrL sl23 rfl rfl rfl (by omega)) rfl rfl (by kernel_rfl) <| .late (i := 10) (by kernel_rfl) (by kernel_rfl) (by kernel_rfl) rfl rfl <| .store sz34 rfl rfl rfl rfl rfl (Nat.ble_eq_true_of_le (show 0 + kt * 9 + 9 ≤ cstL.length by omega)) .here <| .blk_normal <| .go <| .region <| .e (.add rfl rfl (by first | exact wrap_succ (by omega) | exact IntWalk.i64_in _ (by omega) | exact rfl)) rfl rfl ?_
        refine .e (.move rfl) rfl rfl <| .nil ?_
        exact .mid ((kt + 1, _, _, I48)) ⟨by dsimp only; omega, by dsimp only; omega, own_setE hc3t (by omega) hc1t hc2t hc4t rfl hc5t, dr_setE hdtL (by omega) (fun _ _ h => h.mono hI48) rfl hR48, Imm.le_trans hJt hI48⟩ ⟨rfl, trivial⟩ rfl rfl (.pre 16 rfl (.app rfl .base))
      · skip
        replace h38 := of_decide_eq_false h38
        refine .cond_false rfl <| .exit <| .exit <| .exit <| .blk_exit <| .go ?_
        refine .seq <| .region <| .e (.loadW ag27 sz27 rfl (.app <| .app <| .app <| .there <| .here) rfl) rfl rfl <| .on rfl <| .storeW sz27 rfl rfl rfl rfl rfl rfl (.app <| .app <| .app <| .here) <| .nil <| .go ?_
        refine .ret ?_
        refine .front (.app <| .front) ?_
        refine Post.rets rfl (.agg rfl ag27 sz27 (.app <| .app <| .app <| .here) rfl .nil) rfl (Imm.le_trans hJn hJt) (fun w h => (Sat.tail (Sat.rem (Sat.tail (Sat.rem h (Rem.app <| Rem.app <| Rem.app <| Rem.here))) (Rem.app <| Rem.app <| Rem.app <| Rem.here)))) ?_
        exact ⟨_, _, _, obnL, obtL, obB, rfl, ⟨⟨_, honL, hdnL.mono fun _ _ h => h.mono hJt⟩, ⟨_, hotL, hdtL⟩, ⟨_, hoB, hdB.mono fun _ _ h => h⟩, hf⟩, rfl⟩

end Go.Proofs.YtajpakifkinadaaGreatDoor
