/- Walks of functions over a symbolic memory, printed by a program of the session. -/
import Derived.Test.YtajpakifkinadaaGreatDoorBp
import Derived.Test.YtajpakifkinadaaGreatDoorSyN
namespace Go.Proofs.YtajpakifkinadaaGreatDoor
open Go.Sy
set_option linter.unusedSimpArgs false
set_option linter.unusedVariables false

theorem _root_.Go.Sy.NodF.len {I0 J : Imm} {cs : List Value} {x : Nod} (h : NodF I0 J cs x) : cs.length = 6 := h.nod.len
theorem _root_.Go.Sy.TskF.len {I0 J : Imm} {cs : List Value} {x : Tsk} (h : TskF I0 J cs x) : cs.length = 9 := h.tsk.len

set_option maxHeartbeats 1000000 in
set_option maxRecDepth 20000 in
theorem ownNodeF_ok {I : Imm} {O : Own} {nc : List Value} {n : Nod} (hn : NodR I nc n) (hL1 : n.labels.length * 32 ≤ 140737488351232) (hL2 : n.taints.length * 32 ≤ 140737488351232) :
    Go.Sy.Does Tryz.prog 51 [.agg ⟨nc⟩] I O (fun u I' O' => ∃ cs, u = .agg ⟨cs⟩ ∧ NodF I I' cs n ∧ O' = O) := by
  have hn0 := hn
  obtain ⟨nl, nt, rfl, hnl, hnt⟩ := hn.ex
  have hnl0 := hnl
  obtain ⟨la, lcap, rfl, hl1, hl2, -⟩ := hnl
  have hnt0 := hnt
  obtain ⟨ta, tcap, rfl, ht1, ht2, -⟩ := hnt
  refine Go.Sy.Does.enter Tryz.func51 rfl Tryz.ntmps51 rfl ?_
  refine .seq <| .region <| .on rfl <| .box rfl rfl rfl fun c1 _ _ => .on rfl <| .alloc zr32 rfl fun c2 _ _ => .nil <| .go ?_
  refine .seq ?_
  refine .draw [] mixed .nil ?_
  refine .t 0 rfl (.fieldAddr fo32_2 rfl) rfl rfl (by kernel_rfl) <| .t 3 rfl (.fieldAddr fo32_3 rfl) rfl rfl (by kernel_rfl) ?_
  refine .all (rs := [1, 4]) (by kernel_rfl) (by simp) ⟨⟨_, rfl, .inl ⟨rfl, ?_⟩⟩, ⟨⟨_, rfl, .inl ⟨rfl, ?_⟩⟩, trivial⟩⟩
  · skip
    refine .ev (.load ag30 rfl (.there <| .here) rfl) rfl ⟨.nil, Imm.le_refl _, ?_⟩
    refine .all (rs := [2, 4]) (by kernel_rfl) (by simp) ⟨⟨_, rfl, .inl ⟨rfl, ?_⟩⟩, ⟨⟨_, rfl, .inl ⟨rfl, ?_⟩⟩, trivial⟩⟩
    · skip
      refine .call cal89 rfl rfl rfl (clonePr_ok hnl0 hL1) fun v5 I5 O5 hI5 hK5 => ?_
      obtain ⟨hq5, ws5, ob5, ho5, hd5, rfl⟩ := hK5
      replace hq5 := hq5.symm
      subst hq5
      obtain ⟨ad5, cap5, rfl⟩ := ho5.form
      refine ⟨.nil, Imm.le_refl _, ?_⟩
      refine .one (i := 4) (by kernel_rfl) rfl rfl ?_
      refine .ev (.load ag30 rfl (.app <| .there <| .here) rfl) rfl ⟨.nil, Imm.le_refl _, ?_⟩
      refine .t 6 rfl (.fieldAddr fo32_2 rfl) rfl rfl (by kernel_rfl) <| .one (i := 5) (by kernel_rfl) rfl rfl <| .call cal89 rfl rfl rfl (clonePr_ok hnt0 hL2) fun v8 I8 O8 hI8 hK8 => ?_
      obtain ⟨hq8, ws8, ob8, ho8, hd8, rfl⟩ := hK8
      replace hq8 := hq8.symm
      subst hq8
      obtain ⟨ad8, cap8, rfl⟩ := ho8.form
      refine ⟨.nil, Imm.le_refl _, ?_⟩
      refine .front (.app <| .front) ?_
      refine .freezeF ho5 fun K hK hKs hKf => ?_
      have hy5 : PrsR K _ n.labels := hKs (R := PrR) (hd5.mono fun _ _ h => h) rfl
      refine .freezeF ho8 fun M hM hMs hMf => ?_
      have hy8 : PrsR M _ n.taints := hMs (R := PrR) (hd8.mono fun _ _ h => h) rfl
      refine .one (i := 7) (by kernel_rfl) rfl rfl <| .store sz30 rfl rfl rfl rfl rfl rfl (.there <| .here) ?_
      refine ⟨.nil, (Imm.le_trans hK hM), ?_⟩
      refine .t 8 rfl (.fieldAddr fo32_3 rfl) rfl rfl (by kernel_rfl) <| .late (i := 9) (by kernel_rfl) (by kernel_rfl) (by kernel_rfl) rfl rfl <| .store sz30 rfl rfl rfl rfl rfl rfl (.there <| .here) <| .go <| .seq <| .region <| .e (.loadW ag32 sz32 rfl (.there <| .here) rfl) rfl rfl ?_
      refine .on rfl <| .storeW sz32 rfl rfl rfl rfl rfl rfl .here <| .nil <| .go <| .ret ?_
      refine Post.rets rfl (.agg rfl ag32 sz32 .here rfl .nil) rfl (Imm.le_trans hK hM) (fun w h => (Sat.tail (Sat.tail h))) ?_
      exact ⟨_, rfl, ⟨_, _, rfl, ⟨⟨_, _, rfl, hy5.mono hM, hy8⟩, hn0.name, hn0.has⟩, hKf.mono hM, hMf.back hK⟩, rfl⟩
    · skip
      refine .ev (.load ag30 rfl (.there <| .here) rfl) rfl ⟨.nil, Imm.le_refl _, ?_⟩
      refine .one (i := 2) (by kernel_rfl) rfl rfl <| .call cal89 rfl rfl rfl (clonePr_ok hnl0 hL1) fun v5 I5 O5 hI5 hK5 => ?_
      obtain ⟨hq5, ws5, ob5, ho5, hd5, rfl⟩ := hK5
      replace hq5 := hq5.symm
      subst hq5
      obtain ⟨ad5, cap5, rfl⟩ := ho5.form
      refine ⟨.nil, Imm.le_refl _, ?_⟩
      refine .t 6 rfl (.fieldAddr fo32_2 rfl) rfl rfl (by kernel_rfl) <| .one (i := 5) (by kernel_rfl) rfl rfl <| .call cal89 rfl rfl rfl (clonePr_ok hnt0 hL2) fun v8 I8 O8 hI8 hK8 => ?_
      obtain ⟨hq8, ws8, ob8, ho8, hd8, rfl⟩ := hK8
      replace hq8 := hq8.symm
      subst hq8
      obtain ⟨ad8, cap8, rfl⟩ := ho8.form
      refine ⟨.nil, Imm.le_refl _, ?_⟩
      refine .front (.app <| .front) ?_
      refine .freezeF ho5 fun K hK hKs hKf => ?_
      have hy5 : PrsR K _ n.labels := hKs (R := PrR) (hd5.mono fun _ _ h => h) rfl
      refine .freezeF ho8 fun M hM hMs hMf => ?_
      have hy8 : PrsR M _ n.taints := hMs (R := PrR) (hd8.mono fun _ _ h => h) rfl
      refine .one (i := 7) (by kernel_rfl) rfl rfl <| .store sz30 rfl rfl rfl rfl rfl rfl (.there <| .here) ?_
      refine ⟨.nil, (Imm.le_trans hK hM), ?_⟩
      refine .t 8 rfl (.fieldAddr fo32_3 rfl) rfl rfl (by kernel_rfl) <| .late (i := 9) (by kernel_rfl) (by kernel_rfl) (by kernel_rfl) rfl rfl <| .store sz30 rfl rfl rfl rfl rfl rfl (.there <| .here) <| .go <| .seq <| .region <| .e (.loadW ag32 sz32 rfl (.there <| .here) rfl) rfl rfl ?_
      refine .on rfl <| .storeW sz32 rfl rfl rfl rfl rfl rfl .here <| .nil <| .go <| .ret ?_
      refine Post.rets rfl (.agg rfl ag32 sz32 .here rfl .nil) rfl (Imm.le_trans hK hM) (fun w h => (Sat.tail (Sat.tail h))) ?_
      exact ⟨_, rfl, ⟨_, _, rfl, ⟨⟨_, _, rfl, hy5.mono hM, hy8⟩, hn0.name, hn0.has⟩, hKf.mono hM, hMf.back hK⟩, rfl⟩
  · skip
    refine .ev (.load ag30 rfl (.there <| .here) rfl) rfl ⟨.nil, Imm.le_refl _, ?_⟩
    refine .one (i := 1) (by kernel_rfl) rfl rfl ?_
    refine .ev (.load ag30 rfl (.there <| .here) rfl) rfl ⟨.nil, Imm.le_refl _, ?_⟩
    refine .one (i := 2) (by kernel_rfl) rfl rfl <| .call cal89 rfl rfl rfl (clonePr_ok hnl0 hL1) fun v5 I5 O5 hI5 hK5 => ?_
    obtain ⟨hq5, ws5, ob5, ho5, hd5, rfl⟩ := hK5
    replace hq5 := hq5.symm
    subst hq5
    obtain ⟨ad5, cap5, rfl⟩ := ho5.form
    refine ⟨.nil, Imm.le_refl _, ?_⟩
    refine .t 6 rfl (.fieldAddr fo32_2 rfl) rfl rfl (by kernel_rfl) <| .one (i := 5) (by kernel_rfl) rfl rfl <| .call cal89 rfl rfl rfl (clonePr_ok hnt0 hL2) fun v8 I8 O8 hI8 hK8 => ?_
    obtain ⟨hq8, ws8, ob8, ho8, hd8, rfl⟩ := hK8
    replace hq8 := hq8.symm
    subst hq8
    obtain ⟨ad8, cap8, rfl⟩ := ho8.form
    refine ⟨.nil, Imm.le_refl _, ?_⟩
    refine .front (.app <| .front) ?_
    refine .freezeF ho5 fun K hK hKs hKf => ?_
    have hy5 : PrsR K _ n.labels := hKs (R := PrR) (hd5.mono fun _ _ h => h) rfl
    refine .freezeF ho8 fun M hM hMs hMf => ?_
    have hy8 : PrsR M _ n.taints := hMs (R := PrR) (hd8.mono fun _ _ h => h) rfl
    refine .one (i := 7) (by kernel_rfl) rfl rfl <| .store sz30 rfl rfl rfl rfl rfl rfl (.there <| .here) ?_
    refine ⟨.nil, (Imm.le_trans hK hM), ?_⟩
    refine .t 8 rfl (.fieldAddr fo32_3 rfl) rfl rfl (by kernel_rfl) <| .late (i := 9) (by kernel_rfl) (by kernel_rfl) (by kernel_rfl) rfl rfl <| .store sz30 rfl rfl rfl rfl rfl rfl (.there <| .here) <| .go <| .seq <| .region <| .e (.loadW ag32 sz32 rfl (.there <| .here) rfl) rfl rfl ?_
    refine .on rfl <| .storeW sz32 rfl rfl rfl rfl rfl rfl .here <| .nil <| .go <| .ret ?_
    refine Post.rets rfl (.agg rfl ag32 sz32 .here rfl .nil) rfl (Imm.le_trans hK hM) (fun w h => (Sat.tail (Sat.tail h))) ?_
    exact ⟨_, rfl, ⟨_, _, rfl, ⟨⟨_, _, rfl, hy5.mono hM, hy8⟩, hn0.name, hn0.has⟩, hKf.mono hM, hMf.back hK⟩, rfl⟩

set_option maxHeartbeats 1000000 in
set_option maxRecDepth 20000 in
theorem ownTaskF_ok {I : Imm} {O : Own} {tc : List Value} {t : Tsk} (ht : TskR I tc t) (hL1 : t.wants.length * 32 ≤ 140737488351232) (hL2 : t.bears.length * 32 ≤ 140737488351232) :
    Go.Sy.Does Tryz.prog 52 [.agg ⟨tc⟩] I O (fun u I' O' => ∃ cs, u = .agg ⟨cs⟩ ∧ TskF I I' cs t ∧ O' = O) := by
  have ht0 := ht
  obtain ⟨tw, tb, rfl, htw, htb⟩ := ht.ex
  have htw0 := htw
  obtain ⟨wa, wcap, rfl, hw1, hw2, -⟩ := htw
  have htb0 := htb
  obtain ⟨ba, bcap, rfl, hb1, hb2, -⟩ := htb
  refine Go.Sy.Does.enter Tryz.func52 rfl Tryz.ntmps52 rfl ?_
  refine .seq <| .region <| .on rfl <| .box rfl rfl rfl fun c1 _ _ => .on rfl <| .alloc zr34 rfl fun c2 _ _ => .nil <| .go ?_
  refine .seq ?_
  refine .draw [] mixed .nil ?_
  refine .t 0 rfl (.fieldAddr fo34_2 rfl) rfl rfl (by kernel_rfl) <| .t 3 rfl (.fieldAddr fo34_3 rfl) rfl rfl (by kernel_rfl) ?_
  refine .all (rs := [1, 4]) (by kernel_rfl) (by simp) ⟨⟨_, rfl, .inl ⟨rfl, ?_⟩⟩, ⟨⟨_, rfl, .inl ⟨rfl, ?_⟩⟩, trivial⟩⟩
  · skip
    refine .ev (.load ag30 rfl (.there <| .here) rfl) rfl ⟨.nil, Imm.le_refl _, ?_⟩
    refine .all (rs := [2, 4]) (by kernel_rfl) (by simp) ⟨⟨_, rfl, .inl ⟨rfl, ?_⟩⟩, ⟨⟨_, rfl, .inl ⟨rfl, ?_⟩⟩, trivial⟩⟩
    · skip
      refine .call cal89 rfl rfl rfl (clonePr_ok htw0 hL1) fun v5 I5 O5 hI5 hK5 => ?_
      obtain ⟨hq5, ws5, ob5, ho5, hd5, rfl⟩ := hK5
      replace hq5 := hq5.symm
      subst hq5
      obtain ⟨ad5, cap5, rfl⟩ := ho5.form
      refine ⟨.nil, Imm.le_refl _, ?_⟩
      refine .one (i := 4) (by kernel_rfl) rfl rfl ?_
      refine .ev (.load ag30 rfl (.app <| .there <| .here) rfl) rfl ⟨.nil, Imm.le_refl _, ?_⟩
      refine .t 6 rfl (.fieldAddr fo34_2 rfl) rfl rfl (by kernel_rfl) <| .one (i := 5) (by kernel_rfl) rfl rfl <| .call cal89 rfl rfl rfl (clonePr_ok htb0 hL2) fun v8 I8 O8 hI8 hK8 => ?_
      obtain ⟨hq8, ws8, ob8, ho8, hd8, rfl⟩ := hK8
      replace hq8 := hq8.symm
      subst hq8
      obtain ⟨ad8, cap8, rfl⟩ := ho8.form
      refine ⟨.nil, Imm.le_refl _, ?_⟩
      refine .front (.app <| .front) ?_
      refine .freezeF ho5 fun K hK hKs hKf => ?_
      have hy5 : PrsR K _ t.wants := hKs (R := PrR) (hd5.mono fun _ _ h => h) rfl
      refine .freezeF ho8 fun M hM hMs hMf => ?_
      have hy8 : PrsR M _ t.bears := hMs (R := PrR) (hd8.mono fun _ _ h => h) rfl
      refine .one (i := 7) (by kernel_rfl) rfl rfl <| .store sz30 rfl rfl rfl rfl rfl rfl (.there <| .here) ?_
      refine ⟨.nil, (Imm.le_trans hK hM), ?_⟩
      refine .t 8 rfl (.fieldAddr fo34_3 rfl) rfl rfl (by kernel_rfl) <| .late (i := 9) (by kernel_rfl) (by kernel_rfl) (by kernel_rfl) rfl rfl <| .store sz30 rfl rfl rfl rfl rfl rfl (.there <| .here) <| .go <| .seq <| .region <| .e (.loadW ag34 sz34 rfl (.there <| .here) rfl) rfl rfl ?_
      refine .on rfl <| .storeW sz34 rfl rfl rfl rfl rfl rfl .here <| .nil <| .go <| .ret ?_
      refine Post.rets rfl (.agg rfl ag34 sz34 .here rfl .nil) rfl (Imm.le_trans hK hM) (fun w h => (Sat.tail (Sat.tail h))) ?_
      exact ⟨_, rfl, ⟨_, _, rfl, ⟨⟨_, _, rfl, hy5.mono hM, hy8⟩, ht0.name, ht0.needs, ht0.group, ht0.apart, ht0.rank⟩, hKf.mono hM, hMf.back hK⟩, rfl⟩
    · skip
      refine .ev (.load ag30 rfl (.there <| .here) rfl) rfl ⟨.nil, Imm.le_refl _, ?_⟩
      refine .one (i := 2) (by kernel_rfl) rfl rfl <| .call cal89 rfl rfl rfl (clonePr_ok htw0 hL1) fun v5 I5 O5 hI5 hK5 => ?_
      obtain ⟨hq5, ws5, ob5, ho5, hd5, rfl⟩ := hK5
      replace hq5 := hq5.symm
      subst hq5
      obtain ⟨ad5, cap5, rfl⟩ := ho5.form
      refine ⟨.nil, Imm.le_refl _, ?_⟩
      refine .t 6 rfl (.fieldAddr fo34_2 rfl) rfl rfl (by kernel_rfl) <| .one (i := 5) (by kernel_rfl) rfl rfl <| .call cal89 rfl rfl rfl (clonePr_ok htb0 hL2) fun v8 I8 O8 hI8 hK8 => ?_
      obtain ⟨hq8, ws8, ob8, ho8, hd8, rfl⟩ := hK8
      replace hq8 := hq8.symm
      subst hq8
      obtain ⟨ad8, cap8, rfl⟩ := ho8.form
      refine ⟨.nil, Imm.le_refl _, ?_⟩
      refine .front (.app <| .front) ?_
      refine .freezeF ho5 fun K hK hKs hKf => ?_
      have hy5 : PrsR K _ t.wants := hKs (R := PrR) (hd5.mono fun _ _ h => h) rfl
      refine .freezeF ho8 fun M hM hMs hMf => ?_
      have hy8 : PrsR M _ t.bears := hMs (R := PrR) (hd8.mono fun _ _ h => h) rfl
      refine .one (i := 7) (by kernel_rfl) rfl rfl <| .store sz30 rfl rfl rfl rfl rfl rfl (.there <| .here) ?_
      refine ⟨.nil, (Imm.le_trans hK hM), ?_⟩
      refine .t 8 rfl (.fieldAddr fo34_3 rfl) rfl rfl (by kernel_rfl) <| .late (i := 9) (by kernel_rfl) (by kernel_rfl) (by kernel_rfl) rfl rfl <| .store sz30 rfl rfl rfl rfl rfl rfl (.there <| .here) <| .go <| .seq <| .region <| .e (.loadW ag34 sz34 rfl (.there <| .here) rfl) rfl rfl ?_
      refine .on rfl <| .storeW sz34 rfl rfl rfl rfl rfl rfl .here <| .nil <| .go <| .ret ?_
      refine Post.rets rfl (.agg rfl ag34 sz34 .here rfl .nil) rfl (Imm.le_trans hK hM) (fun w h => (Sat.tail (Sat.tail h))) ?_
      exact ⟨_, rfl, ⟨_, _, rfl, ⟨⟨_, _, rfl, hy5.mono hM, hy8⟩, ht0.name, ht0.needs, ht0.group, ht0.apart, ht0.rank⟩, hKf.mono hM, hMf.back hK⟩, rfl⟩
  · skip
    refine .ev (.load ag30 rfl (.there <| .here) rfl) rfl ⟨.nil, Imm.le_refl _, ?_⟩
    refine .one (i := 1) (by kernel_rfl) rfl rfl ?_
    refine .ev (.load ag30 rfl (.there <| .here) rfl) rfl ⟨.nil, Imm.le_refl _, ?_⟩
    refine .one (i := 2) (by kernel_rfl) rfl rfl <| .call cal89 rfl rfl rfl (clonePr_ok htw0 hL1) fun v5 I5 O5 hI5 hK5 => ?_
    obtain ⟨hq5, ws5, ob5, ho5, hd5, rfl⟩ := hK5
    replace hq5 := hq5.symm
    subst hq5
    obtain ⟨ad5, cap5, rfl⟩ := ho5.form
    refine ⟨.nil, Imm.le_refl _, ?_⟩
    refine .t 6 rfl (.fieldAddr fo34_2 rfl) rfl rfl (by kernel_rfl) <| .one (i := 5) (by kernel_rfl) rfl rfl <| .call cal89 rfl rfl rfl (clonePr_ok htb0 hL2) fun v8 I8 O8 hI8 hK8 => ?_
    obtain ⟨hq8, ws8, ob8, ho8, hd8, rfl⟩ := hK8
    replace hq8 := hq8.symm
    subst hq8
    obtain ⟨ad8, cap8, rfl⟩ := ho8.form
    refine ⟨.nil, Imm.le_refl _, ?_⟩
    refine .front (.app <| .front) ?_
    refine .freezeF ho5 fun K hK hKs hKf => ?_
    have hy5 : PrsR K _ t.wants := hKs (R := PrR) (hd5.mono fun _ _ h => h) rfl
    refine .freezeF ho8 fun M hM hMs hMf => ?_
    have hy8 : PrsR M _ t.bears := hMs (R := PrR) (hd8.mono fun _ _ h => h) rfl
    refine .one (i := 7) (by kernel_rfl) rfl rfl <| .store sz30 rfl rfl rfl rfl rfl rfl (.there <| .here) ?_
    refine ⟨.nil, (Imm.le_trans hK hM), ?_⟩
    refine .t 8 rfl (.fieldAddr fo34_3 rfl) rfl rfl (by kernel_rfl) <| .late (i := 9) (by kernel_rfl) (by kernel_rfl) (by kernel_rfl) rfl rfl <| .store sz30 rfl rfl rfl rfl rfl rfl (.there <| .here) <| .go <| .seq <| .region <| .e (.loadW ag34 sz34 rfl (.there <| .here) rfl) rfl rfl ?_
    refine .on rfl <| .storeW sz34 rfl rfl rfl rfl rfl rfl .here <| .nil <| .go <| .ret ?_
    refine Post.rets rfl (.agg rfl ag34 sz34 .here rfl .nil) rfl (Imm.le_trans hK hM) (fun w h => (Sat.tail (Sat.tail h))) ?_
    exact ⟨_, rfl, ⟨_, _, rfl, ⟨⟨_, _, rfl, hy5.mono hM, hy8⟩, ht0.name, ht0.needs, ht0.group, ht0.apart, ht0.rank⟩, hKf.mono hM, hMf.back hK⟩, rfl⟩

abbrev MixN (I0 : Imm) := MixR NodR (NodF I0)
abbrev MixT (I0 : Imm) := MixR TskR (TskF I0)
/-- A book whose nodes' and tasks' inner rows were made since I0. -/
structure BkFO (I0 I : Imm) (b : Bk) (nv tv bv : Value) (on ot ob : Own) : Prop where
  n : ∃ ws, OwnS 6 nv b.nodes.length ws on ∧ DR (NodF I0) 6 I ws b.nodes
  t : ∃ ws, OwnS 9 tv b.tasks.length ws ot ∧ DR (TskF I0) 9 I ws b.tasks
  x : ∃ ws, OwnS 2 bv b.binds.length ws ob ∧ DR BndR 2 I ws b.binds
  fence : U64 b.fence

theorem _root_.Go.Sy.FrR.isSl {I0 J : Imm} {v : Value} (h : FrR I0 J v) : ∃ ad m, ∃ cap, v = .slice ad m cap := by
  rcases h with h | ⟨b, m, cap, _, _, h, _⟩
  · exact ⟨_, _, _, h⟩
  · exact ⟨_, _, _, h⟩

set_option maxHeartbeats 8000000 in
set_option maxRecDepth 20000 in
theorem bOwnF_ok {I : Imm} {O : Own} {kc : List Value} {b : Bk} (hk : BkR I kc b) (hM : BkM b) :
    Go.Sy.Does Tryz.prog 16 [.agg ⟨kc⟩] I O (fun u I' O' => ∃ nv tv bv on ot ob, u = .agg ⟨b.cells nv tv bv⟩ ∧ BkFO I I' b nv tv bv on ot ob ∧ O' = on ++ (ot ++ (ob ++ O))) := by
  have hk0 := hk
  obtain ⟨nv, tv, bv, rfl, hnv, htv, hbv⟩ := hk.ex
  have hnv0 := hnv
  have htv0 := htv
  have hbv0 := hbv
  obtain ⟨na, ncap, rfl, hn1, hn2, -⟩ := hnv
  obtain ⟨ta, tcap, rfl, ht1, ht2, -⟩ := htv
  obtain ⟨ba, bcap, rfl, hb1, hb2, -⟩ := hbv
  have hf := hk0.fence
  refine Go.Sy.Does.enter Tryz.func16 rfl Tryz.ntmps16 rfl ?_
  refine .seq <| .region <| .on rfl <| .box rfl rfl rfl fun c1 _ _ => .on rfl <| .alloc zr27 rfl fun c2 _ _ => .nil <| .go ?_
  refine .meetO (σ := BkG) [5, 6, 7, 8, 9, 10, 11, 12, 13, 14, 15, 16] (fun g => BkGR I b g) (fun _ => []) (fun _ => I) (fun _ g => g.on ++ (g.ot ++ (g.ob ++ ((c2, .cells ⟨[.slice none 0 0, .slice none 0 0, .slice none 0 0, .int .u64 0]⟩ 27 (0, 0)) :: (c1, .cells ⟨[g.nv, g.tv, g.bv, .int .u64 b.fence]⟩ 27 (0, 0)) :: O)))) ?_ ?_
  · skip
    refine .draw [] mixed .nil ?_
    refine .t 0 rfl (.fieldAddr fo27_0 rfl) rfl rfl (by kernel_rfl) <| .t 3 rfl (.fieldAddr fo27_1 rfl) rfl rfl (by kernel_rfl) <| .t 6 rfl (.fieldAddr fo27_2 rfl) rfl rfl (by kernel_rfl) ?_
    refine .all (rs := [1, 4, 7]) (by kernel_rfl) (by simp) ⟨⟨_, rfl, .inl ⟨rfl, ?_⟩⟩, ⟨⟨_, rfl, .inl ⟨rfl, ?_⟩⟩, ⟨⟨_, rfl, .inl ⟨rfl, ?_⟩⟩, trivial⟩⟩⟩
    · skip
      refine .ev (.load ag22 rfl (.there <| .here) rfl) rfl ⟨.nil, Imm.le_refl _, ?_⟩
      refine .all (rs := [2, 4, 7]) (by kernel_rfl) (by simp) ⟨⟨_, rfl, .inl ⟨rfl, ?_⟩⟩, ⟨⟨_, rfl, .inl ⟨rfl, ?_⟩⟩, ⟨⟨_, rfl, .inl ⟨rfl, ?_⟩⟩, trivial⟩⟩⟩
      · skip
        refine .call cal48 rfl rfl rfl (cloneNod_ok hnv0 hM.n) fun v7 I7 O7 hI7 hK7 => ?_
        obtain ⟨hq7, ws7, ob7, ho7, hd7, rfl⟩ := hK7
        replace hq7 := hq7.symm
        subst hq7
        obtain ⟨ad7, cap7, rfl⟩ := ho7.form
        refine ⟨.nil, Imm.le_refl _, ?_⟩
        refine .all (rs := [4, 7]) (by kernel_rfl) (by simp) ⟨⟨_, rfl, .inl ⟨rfl, ?_⟩⟩, ⟨⟨_, rfl, .inl ⟨rfl, ?_⟩⟩, trivial⟩⟩
        · skip
          refine .ev (.load ag23 rfl (.app <| .there <| .here) rfl) rfl ⟨.nil, Imm.le_refl _, ?_⟩
          refine .all (rs := [5, 7]) (by kernel_rfl) (by simp) ⟨⟨_, rfl, .inl ⟨rfl, ?_⟩⟩, ⟨⟨_, rfl, .inl ⟨rfl, ?_⟩⟩, trivial⟩⟩
          · skip
            refine .call cal49 rfl rfl rfl (cloneTsk_ok htv0 hM.t) fun v10 I10 O10 hI10 hK10 => ?_
            obtain ⟨hq10, ws10, ob10, ho10, hd10, rfl⟩ := hK10
            replace hq10 := hq10.symm
            subst hq10
            obtain ⟨ad10, cap10, rfl⟩ := ho10.form
            refine ⟨.nil, Imm.le_refl _, ?_⟩
            refine .one (i := 7) (by kernel_rfl) rfl rfl ?_
            refine .ev (.load ag24 rfl (.app <| .app <| .there <| .here) rfl) rfl ⟨.nil, Imm.le_refl _, ?_⟩
            refine .t 9 rfl (.fieldAddr fo27_0 rfl) rfl rfl (by kernel_rfl) <| .one (i := 8) (by kernel_rfl) rfl rfl <| .call cal50 rfl rfl rfl (cloneBnd_ok hbv0 hM.x) fun v13 I13 O13 hI13 hK13 => ?_
            obtain ⟨hq13, ws13, ob13, ho13, hd13, rfl⟩ := hK13
            replace hq13 := hq13.symm
            subst hq13
            obtain ⟨ad13, cap13, rfl⟩ := ho13.form
            refine ⟨.nil, Imm.le_refl _, ?_⟩
            refine .one (i := 10) (by kernel_rfl) rfl rfl <| .store sz22 rfl rfl rfl rfl rfl rfl (.app <| .app <| .app <| .there <| .here) ?_
            refine ⟨.nil, Imm.le_refl _, ?_⟩
            refine .t 11 rfl (.fieldAddr fo27_1 rfl) rfl rfl (by kernel_rfl) <| .one (i := 12) (by kernel_rfl) rfl rfl <| .store sz23 rfl rfl rfl rfl rfl rfl (.app <| .app <| .app <| .there <| .here) ?_
            refine ⟨.nil, Imm.le_refl _, ?_⟩
            refine .t 13 rfl (.fieldAddr fo27_2 rfl) rfl rfl (by kernel_rfl) <| .late (i := 14) (by kernel_rfl) (by kernel_rfl) (by kernel_rfl) rfl rfl <| .store sz24 rfl rfl rfl rfl rfl rfl (.app <| .app <| .app <| .there <| .here) ?_
            refine .front (.app <| .front) ?_
            refine .front (.app <| .app <| .front) ?_
            exact .mid (⟨_, _, _, ws7, ws10, ws13, ob7, ob10, ob13⟩) ⟨ho7, hd7, ho10, hd10, ho13, hd13⟩ trivial rfl rfl (.pre 12 rfl .self)
          · skip
            refine .ev (.load ag24 rfl (.app <| .there <| .here) rfl) rfl ⟨.nil, Imm.le_refl _, ?_⟩
            refine .t 9 rfl (.fieldAddr fo27_0 rfl) rfl rfl (by kernel_rfl) <| .one (i := 5) (by kernel_rfl) rfl rfl <| .call cal49 rfl rfl rfl (cloneTsk_ok htv0 hM.t) fun v10 I10 O10 hI10 hK10 => ?_
            obtain ⟨hq10, ws10, ob10, ho10, hd10, rfl⟩ := hK10
            replace hq10 := hq10.symm
            subst hq10
            obtain ⟨ad10, cap10, rfl⟩ := ho10.form
            refine ⟨.nil, Imm.le_refl _, ?_⟩
            refine .one (i := 8) (by kernel_rfl) rfl rfl <| .call cal50 rfl rfl rfl (cloneBnd_ok hbv0 hM.x) fun v13 I13 O13 hI13 hK13 => ?_
            obtain ⟨hq13, ws13, ob13, ho13, hd13, rfl⟩ := hK13
            replace hq13 := hq13.symm
            subst hq13
            obtain ⟨ad13, cap13, rfl⟩ := ho13.form
            refine ⟨.nil, Imm.le_refl _, ?_⟩
            refine .one (i := 10) (by kernel_rfl) rfl rfl <| .store sz22 rfl rfl rfl rfl rfl rfl (.app <| .app <| .app <| .there <| .here) ?_
            refine ⟨.nil, Imm.le_refl _, ?_⟩
            refine .t 11 rfl (.fieldAddr fo27_1 rfl) rfl rfl (by kernel_rfl) <| .one (i := 12) (by kernel_rfl) rfl rfl <| .store sz23 rfl rfl rfl rfl rfl rfl (.app <| .app <| .app <| .there <| .here) ?_
            refine ⟨.nil, Imm.le_refl _, ?_⟩
            refine .t 13 rfl (.fieldAddr fo27_2 rfl) rfl rfl (by kernel_rfl) <| .late (i := 14) (by kernel_rfl) (by kernel_rfl) (by kernel_rfl) rfl rfl <| .store sz24 rfl rfl rfl rfl rfl rfl (.app <| .app <| .app <| .there <| .here) ?_
            refine .front (.app <| .front) ?_
            refine .front (.app <| .app <| .front) ?_
            exact .mid (⟨_, _, _, ws7, ws10, ws13, ob7, ob10, ob13⟩) ⟨ho7, hd7, ho10, hd10, ho13, hd13⟩ trivial rfl rfl (.pre 12 rfl .self)
        · skip
          refine .ev (.load ag24 rfl (.app <| .there <| .here) rfl) rfl ⟨.nil, Imm.le_refl _, ?_⟩
          refine .one (i := 4) (by kernel_rfl) rfl rfl ?_
          refine .ev (.load ag23 rfl (.app <| .there <| .here) rfl) rfl ⟨.nil, Imm.le_refl _, ?_⟩
          refine .t 9 rfl (.fieldAddr fo27_0 rfl) rfl rfl (by kernel_rfl) <| .one (i := 5) (by kernel_rfl) rfl rfl <| .call cal49 rfl rfl rfl (cloneTsk_ok htv0 hM.t) fun v10 I10 O10 hI10 hK10 => ?_
          obtain ⟨hq10, ws10, ob10, ho10, hd10, rfl⟩ := hK10
          replace hq10 := hq10.symm
          subst hq10
          obtain ⟨ad10, cap10, rfl⟩ := ho10.form
          refine ⟨.nil, Imm.le_refl _, ?_⟩
          refine .one (i := 8) (by kernel_rfl) rfl rfl <| .call cal50 rfl rfl rfl (cloneBnd_ok hbv0 hM.x) fun v13 I13 O13 hI13 hK13 => ?_
          obtain ⟨hq13, ws13, ob13, ho13, hd13, rfl⟩ := hK13
          replace hq13 := hq13.symm
          subst hq13
          obtain ⟨ad13, cap13, rfl⟩ := ho13.form
          refine ⟨.nil, Imm.le_refl _, ?_⟩
          refine .one (i := 10) (by kernel_rfl) rfl rfl <| .store sz22 rfl rfl rfl rfl rfl rfl (.app <| .app <| .app <| .there <| .here) ?_
          refine ⟨.nil, Imm.le_refl _, ?_⟩
          refine .t 11 rfl (.fieldAddr fo27_1 rfl) rfl rfl (by kernel_rfl) <| .one (i := 12) (by kernel_rfl) rfl rfl <| .store sz23 rfl rfl rfl rfl rfl rfl (.app <| .app <| .app <| .there <| .here) ?_
          refine ⟨.nil, Imm.le_refl _, ?_⟩
          refine .t 13 rfl (.fieldAddr fo27_2 rfl) rfl rfl (by kernel_rfl) <| .late (i := 14) (by kernel_rfl) (by kernel_rfl) (by kernel_rfl) rfl rfl <| .store sz24 rfl rfl rfl rfl rfl rfl (.app <| .app <| .app <| .there <| .here) ?_
          refine .front (.app <| .front) ?_
          refine .front (.app <| .app <| .front) ?_
          exact .mid (⟨_, _, _, ws7, ws10, ws13, ob7, ob10, ob13⟩) ⟨ho7, hd7, ho10, hd10, ho13, hd13⟩ trivial rfl rfl (.pre 12 rfl .self)
      · skip
        refine .ev (.load ag23 rfl (.there <| .here) rfl) rfl ⟨.nil, Imm.le_refl _, ?_⟩
        refine .all (rs := [2, 7]) (by kernel_rfl) (by simp) ⟨⟨_, rfl, .inl ⟨rfl, ?_⟩⟩, ⟨⟨_, rfl, .inl ⟨rfl, ?_⟩⟩, trivial⟩⟩
        · skip
          refine .call cal48 rfl rfl rfl (cloneNod_ok hnv0 hM.n) fun v7 I7 O7 hI7 hK7 => ?_
          obtain ⟨hq7, ws7, ob7, ho7, hd7, rfl⟩ := hK7
          replace hq7 := hq7.symm
          subst hq7
          obtain ⟨ad7, cap7, rfl⟩ := ho7.form
          refine ⟨.nil, Imm.le_refl _, ?_⟩
          refine .all (rs := [5, 7]) (by kernel_rfl) (by simp) ⟨⟨_, rfl, .inl ⟨rfl, ?_⟩⟩, ⟨⟨_, rfl, .inl ⟨rfl, ?_⟩⟩, trivial⟩⟩
          · skip
            refine .call cal49 rfl rfl rfl (cloneTsk_ok htv0 hM.t) fun v10 I10 O10 hI10 hK10 => ?_
            obtain ⟨hq10, ws10, ob10, ho10, hd10, rfl⟩ := hK10
            replace hq10 := hq10.symm
            subst hq10
            obtain ⟨ad10, cap10, rfl⟩ := ho10.form
            refine ⟨.nil, Imm.le_refl _, ?_⟩
            refine .one (i := 7) (by kernel_rfl) rfl rfl ?_
            refine .ev (.load ag24 rfl (.app <| .app <| .there <| .here) rfl) rfl ⟨.nil, Imm.le_refl _, ?_⟩
            refine .t 9 rfl (.fieldAddr fo27_0 rfl) rfl rfl (by kernel_rfl) <| .one (i := 8) (by kernel_rfl) rfl rfl <| .call cal50 rfl rfl rfl (cloneBnd_ok hbv0 hM.x) fun v13 I13 O13 hI13 hK13 => ?_
            obtain ⟨hq13, ws13, ob13, ho13, hd13, rfl⟩ := hK13
            replace hq13 := hq13.symm
            subst hq13
            obtain ⟨ad13, cap13, rfl⟩ := ho13.form
            refine ⟨.nil, Imm.le_refl _, ?_⟩
            refine .one (i := 10) (by kernel_rfl) rfl rfl <| .store sz22 rfl rfl rfl rfl rfl rfl (.app <| .app <| .app <| .there <| .here) ?_
            refine ⟨.nil, Imm.le_refl _, ?_⟩
            refine .t 11 rfl (.fieldAddr fo27_1 rfl) rfl rfl (by kernel_rfl) <| .one (i := 12) (by kernel_rfl) rfl rfl <| .store sz23 rfl rfl rfl rfl rfl rfl (.app <| .app <| .app <| .there <| .here) ?_
            refine ⟨.nil, Imm.le_refl _, ?_⟩
            refine .t 13 rfl (.fieldAddr fo27_2 rfl) rfl rfl (by kernel_rfl) <| .late (i := 14) (by kernel_rfl) (by kernel_rfl) (by kernel_rfl) rfl rfl <| .store sz24 rfl rfl rfl rfl rfl rfl (.app <| .app <| .app <| .there <| .here) ?_
            refine .front (.app <| .front) ?_
            refine .front (.app <| .app <| .front) ?_
            exact .mid (⟨_, _, _, ws7, ws10, ws13, ob7, ob10, ob13⟩) ⟨ho7, hd7, ho10, hd10, ho13, hd13⟩ trivial rfl rfl (.pre 12 rfl .self)
          · skip
            refine .ev (.load ag24 rfl (.app <| .there <| .here) rfl) rfl ⟨.nil, Imm.le_refl _, ?_⟩
            refine .t 9 rfl (.fieldAddr fo27_0 rfl) rfl rfl (by kernel_rfl) <| .one (i := 5) (by kernel_rfl) rfl rfl <| .call cal49 rfl rfl rfl (cloneTsk_ok htv0 hM.t) fun v10 I10 O10 hI10 hK10 => ?_
            obtain ⟨hq10, ws10, ob10, ho10, hd10, rfl⟩ := hK10
            replace hq10 := hq10.symm
            subst hq10
            obtain ⟨ad10, cap10, rfl⟩ := ho10.form
            refine ⟨.nil, Imm.le_refl _, ?_⟩
            refine .one (i := 8) (by kernel_rfl) rfl rfl <| .call cal50 rfl rfl rfl (cloneBnd_ok hbv0 hM.x) fun v13 I13 O13 hI13 hK13 => ?_
            obtain ⟨hq13, ws13, ob13, ho13, hd13, rfl⟩ := hK13
            replace hq13 := hq13.symm
            subst hq13
            obtain ⟨ad13, cap13, rfl⟩ := ho13.form
            refine ⟨.nil, Imm.le_refl _, ?_⟩
            refine .one (i := 10) (by kernel_rfl) rfl rfl <| .store sz22 rfl rfl rfl rfl rfl rfl (.app <| .app <| .app <| .there <| .here) ?_
            refine ⟨.nil, Imm.le_refl _, ?_⟩
            refine .t 11 rfl (.fieldAddr fo27_1 rfl) rfl rfl (by kernel_rfl) <| .one (i := 12) (by kernel_rfl) rfl rfl <| .store sz23 rfl rfl rfl rfl rfl rfl (.app <| .app <| .app <| .there <| .here) ?_
            refine ⟨.nil, Imm.le_refl _, ?_⟩
            refine .t 13 rfl (.fieldAddr fo27_2 rfl) rfl rfl (by kernel_rfl) <| .late (i := 14) (by kernel_rfl) (by kernel_rfl) (by kernel_rfl) rfl rfl <| .store sz24 rfl rfl rfl rfl rfl rfl (.app <| .app <| .app <| .there <| .here) ?_
            refine .front (.app <| .front) ?_
            refine .front (.app <| .app <| .front) ?_
            exact .mid (⟨_, _, _, ws7, ws10, ws13, ob7, ob10, ob13⟩) ⟨ho7, hd7, ho10, hd10, ho13, hd13⟩ trivial rfl rfl (.pre 12 rfl .self)
        · skip
          refine .ev (.load ag24 rfl (.there <| .here) rfl) rfl ⟨.nil, Imm.le_refl _, ?_⟩
          refine .one (i := 2) (by kernel_rfl) rfl rfl <| .call cal48 rfl rfl rfl (cloneNod_ok hnv0 hM.n) fun v7 I7 O7 hI7 hK7 => ?_
          obtain ⟨hq7, ws7, ob7, ho7, hd7, rfl⟩ := hK7
          replace hq7 := hq7.symm
          subst hq7
          obtain ⟨ad7, cap7, rfl⟩ := ho7.form
          refine ⟨.nil, Imm.le_refl _, ?_⟩
          refine .t 9 rfl (.fieldAddr fo27_0 rfl) rfl rfl (by kernel_rfl) <| .one (i := 5) (by kernel_rfl) rfl rfl <| .call cal49 rfl rfl rfl (cloneTsk_ok htv0 hM.t) fun v10 I10 O10 hI10 hK10 => ?_
          obtain ⟨hq10, ws10, ob10, ho10, hd10, rfl⟩ := hK10
          replace hq10 := hq10.symm
          subst hq10
          obtain ⟨ad10, cap10, rfl⟩ := ho10.form
          refine ⟨.nil, Imm.le_refl _, ?_⟩
          refine .one (i := 8) (by kernel_rfl) rfl rfl <| .call cal50 rfl rfl rfl (cloneBnd_ok hbv0 hM.x) fun v13 I13 O13 hI13 hK13 => ?_
          obtain ⟨hq13, ws13, ob13, ho13, hd13, rfl⟩ := hK13
          replace hq13 := hq13.symm
          subst hq13
          obtain ⟨ad13, cap13, rfl⟩ := ho13.form
          refine ⟨.nil, Imm.le_refl _, ?_⟩
          refine .one (i := 10) (by kernel_rfl) rfl rfl <| .store sz22 rfl rfl rfl rfl rfl rfl (.app <| .app <| .app <| .there <| .here) ?_
          refine ⟨.nil, Imm.le_refl _, ?_⟩
          refine .t 11 rfl (.fieldAddr fo27_1 rfl) rfl rfl (by kernel_rfl) <| .one (i := 12) (by kernel_rfl) rfl rfl <| .store sz23 rfl rfl rfl rfl rfl rfl (.app <| .app <| .app <| .there <| .here) ?_
          refine ⟨.nil, Imm.le_refl _, ?_⟩
          refine .t 13 rfl (.fieldAddr fo27_2 rfl) rfl rfl (by kernel_rfl) <| .late (i := 14) (by kernel_rfl) (by kernel_rfl) (by kernel_rfl) rfl rfl <| .store sz24 rfl rfl rfl rfl rfl rfl (.app <| .app <| .app <| .there <| .here) ?_
          refine .front (.app <| .front) ?_
          refine .front (.app <| .app <| .front) ?_
          exact .mid (⟨_, _, _, ws7, ws10, ws13, ob7, ob10, ob13⟩) ⟨ho7, hd7, ho10, hd10, ho13, hd13⟩ trivial rfl rfl (.pre 12 rfl .self)
      · skip
        refine .ev (.load ag24 rfl (.there <| .here) rfl) rfl ⟨.nil, Imm.le_refl _, ?_⟩
        refine .all (rs := [2, 4]) (by kernel_rfl) (by simp) ⟨⟨_, rfl, .inl ⟨rfl, ?_⟩⟩, ⟨⟨_, rfl, .inl ⟨rfl, ?_⟩⟩, trivial⟩⟩
        · skip
          refine .call cal48 rfl rfl rfl (cloneNod_ok hnv0 hM.n) fun v7 I7 O7 hI7 hK7 => ?_
          obtain ⟨hq7, ws7, ob7, ho7, hd7, rfl⟩ := hK7
          replace hq7 := hq7.symm
          subst hq7
          obtain ⟨ad7, cap7, rfl⟩ := ho7.form
          refine ⟨.nil, Imm.le_refl _, ?_⟩
          refine .one (i := 4) (by kernel_rfl) rfl rfl ?_
          refine .ev (.load ag23 rfl (.app <| .there <| .here) rfl) rfl ⟨.nil, Imm.le_refl _, ?_⟩
          refine .t 9 rfl (.fieldAddr fo27_0 rfl) rfl rfl (by kernel_rfl) <| .one (i := 5) (by kernel_rfl) rfl rfl <| .call cal49 rfl rfl rfl (cloneTsk_ok htv0 hM.t) fun v10 I10 O10 hI10 hK10 => ?_
          obtain ⟨hq10, ws10, ob10, ho10, hd10, rfl⟩ := hK10
          replace hq10 := hq10.symm
          subst hq10
          obtain ⟨ad10, cap10, rfl⟩ := ho10.form
          refine ⟨.nil, Imm.le_refl _, ?_⟩
          refine .one (i := 8) (by kernel_rfl) rfl rfl <| .call cal50 rfl rfl rfl (cloneBnd_ok hbv0 hM.x) fun v13 I13 O13 hI13 hK13 => ?_
          obtain ⟨hq13, ws13, ob13, ho13, hd13, rfl⟩ := hK13
          replace hq13 := hq13.symm
          subst hq13
          obtain ⟨ad13, cap13, rfl⟩ := ho13.form
          refine ⟨.nil, Imm.le_refl _, ?_⟩
          refine .one (i := 10) (by kernel_rfl) rfl rfl <| .store sz22 rfl rfl rfl rfl rfl rfl (.app <| .app <| .app <| .there <| .here) ?_
          refine ⟨.nil, Imm.le_refl _, ?_⟩
          refine .t 11 rfl (.fieldAddr fo27_1 rfl) rfl rfl (by kernel_rfl) <| .one (i := 12) (by kernel_rfl) rfl rfl <| .store sz23 rfl rfl rfl rfl rfl rfl (.app <| .app <| .app <| .there <| .here) ?_
          refine ⟨.nil, Imm.le_refl _, ?_⟩
          refine .t 13 rfl (.fieldAddr fo27_2 rfl) rfl rfl (by kernel_rfl) <| .late (i := 14) (by kernel_rfl) (by kernel_rfl) (by kernel_rfl) rfl rfl <| .store sz24 rfl rfl rfl rfl rfl rfl (.app <| .app <| .app <| .there <| .here) ?_
          refine .front (.app <| .front) ?_
          refine .front (.app <| .app <| .front) ?_
          exact .mid (⟨_, _, _, ws7, ws10, ws13, ob7, ob10, ob13⟩) ⟨ho7, hd7, ho10, hd10, ho13, hd13⟩ trivial rfl rfl (.pre 12 rfl .self)
        · skip
          refine .ev (.load ag23 rfl (.there <| .here) rfl) rfl ⟨.nil, Imm.le_refl _, ?_⟩
          refine .one (i := 2) (by kernel_rfl) rfl rfl <| .call cal48 rfl rfl rfl (cloneNod_ok hnv0 hM.n) fun v7 I7 O7 hI7 hK7 => ?_
          obtain ⟨hq7, ws7, ob7, ho7, hd7, rfl⟩ := hK7
          replace hq7 := hq7.symm
          subst hq7
          obtain ⟨ad7, cap7, rfl⟩ := ho7.form
          refine ⟨.nil, Imm.le_refl _, ?_⟩
          refine .t 9 rfl (.fieldAddr fo27_0 rfl) rfl rfl (by kernel_rfl) <| .one (i := 5) (by kernel_rfl) rfl rfl <| .call cal49 rfl rfl rfl (cloneTsk_ok htv0 hM.t) fun v10 I10 O10 hI10 hK10 => ?_
          obtain ⟨hq10, ws10, ob10, ho10, hd10, rfl⟩ := hK10
          replace hq10 := hq10.symm
          subst hq10
          obtain ⟨ad10, cap10, rfl⟩ := ho10.form
          refine ⟨.nil, Imm.le_refl _, ?_⟩
          refine .one (i := 8) (by kernel_rfl) rfl rfl <| .call cal50 rfl rfl rfl (cloneBnd_ok hbv0 hM.x) fun v13 I13 O13 hI13 hK13 => ?_
          obtain ⟨hq13, ws13, ob13, ho13, hd13, rfl⟩ := hK13
          replace hq13 := hq13.symm
          subst hq13
          obtain ⟨ad13, cap13, rfl⟩ := ho13.form
          refine ⟨.nil, Imm.le_refl _, ?_⟩
          refine .one (i := 10) (by kernel_rfl) rfl rfl <| .store sz22 rfl rfl rfl rfl rfl rfl (.app <| .app <| .app <| .there <| .here) ?_
          refine ⟨.nil, Imm.le_refl _, ?_⟩
          refine .t 11 rfl (.fieldAddr fo27_1 rfl) rfl rfl (by kernel_rfl) <| .one (i := 12) (by kernel_rfl) rfl rfl <| .store sz23 rfl rfl rfl rfl rfl rfl (.app <| .app <| .app <| .there <| .here) ?_
          refine ⟨.nil, Imm.le_refl _, ?_⟩
          refine .t 13 rfl (.fieldAddr fo27_2 rfl) rfl rfl (by kernel_rfl) <| .late (i := 14) (by kernel_rfl) (by kernel_rfl) (by kernel_rfl) rfl rfl <| .store sz24 rfl rfl rfl rfl rfl rfl (.app <| .app <| .app <| .there <| .here) ?_
          refine .front (.app <| .front) ?_
          refine .front (.app <| .app <| .front) ?_
          exact .mid (⟨_, _, _, ws7, ws10, ws13, ob7, ob10, ob13⟩) ⟨ho7, hd7, ho10, hd10, ho13, hd13⟩ trivial rfl rfl (.pre 12 rfl .self)
    · skip
      refine .ev (.load ag23 rfl (.there <| .here) rfl) rfl ⟨.nil, Imm.le_refl _, ?_⟩
      refine .all (rs := [1, 7]) (by kernel_rfl) (by simp) ⟨⟨_, rfl, .inl ⟨rfl, ?_⟩⟩, ⟨⟨_, rfl, .inl ⟨rfl, ?_⟩⟩, trivial⟩⟩
      · skip
        refine .ev (.load ag22 rfl (.there <| .here) rfl) rfl ⟨.nil, Imm.le_refl _, ?_⟩
        refine .all (rs := [2, 7]) (by kernel_rfl) (by simp) ⟨⟨_, rfl, .inl ⟨rfl, ?_⟩⟩, ⟨⟨_, rfl, .inl ⟨rfl, ?_⟩⟩, trivial⟩⟩
        · skip
          refine .call cal48 rfl rfl rfl (cloneNod_ok hnv0 hM.n) fun v7 I7 O7 hI7 hK7 => ?_
          obtain ⟨hq7, ws7, ob7, ho7, hd7, rfl⟩ := hK7
          replace hq7 := hq7.symm
          subst hq7
          obtain ⟨ad7, cap7, rfl⟩ := ho7.form
          refine ⟨.nil, Imm.le_refl _, ?_⟩
          refine .all (rs := [5, 7]) (by kernel_rfl) (by simp) ⟨⟨_, rfl, .inl ⟨rfl, ?_⟩⟩, ⟨⟨_, rfl, .inl ⟨rfl, ?_⟩⟩, trivial⟩⟩
          · skip
            refine .call cal49 rfl rfl rfl (cloneTsk_ok htv0 hM.t) fun v10 I10 O10 hI10 hK10 => ?_
            obtain ⟨hq10, ws10, ob10, ho10, hd10, rfl⟩ := hK10
            replace hq10 := hq10.symm
            subst hq10
            obtain ⟨ad10, cap10, rfl⟩ := ho10.form
            refine ⟨.nil, Imm.le_refl _, ?_⟩
            refine .one (i := 7) (by kernel_rfl) rfl rfl ?_
            refine .ev (.load ag24 rfl (.app <| .app <| .there <| .here) rfl) rfl ⟨.nil, Imm.le_refl _, ?_⟩
            refine .t 9 rfl (.fieldAddr fo27_0 rfl) rfl rfl (by kernel_rfl) <| .one (i := 8) (by kernel_rfl) rfl rfl <| .call cal50 rfl rfl rfl (cloneBnd_ok hbv0 hM.x) fun v13 I13 O13 hI13 hK13 => ?_
            obtain ⟨hq13, ws13, ob13, ho13, hd13, rfl⟩ := hK13
            replace hq13 := hq13.symm
            subst hq13
            obtain ⟨ad13, cap13, rfl⟩ := ho13.form
            refine ⟨.nil, Imm.le_refl _, ?_⟩
            refine .one (i := 10) (by kernel_rfl) rfl rfl <| .store sz22 rfl rfl rfl rfl rfl rfl (.app <| .app <| .app <| .there <| .here) ?_
            refine ⟨.nil, Imm.le_refl _, ?_⟩
            refine .t 11 rfl (.fieldAddr fo27_1 rfl) rfl rfl (by kernel_rfl) <| .one (i := 12) (by kernel_rfl) rfl rfl <| .store sz23 rfl rfl rfl rfl rfl rfl (.app <| .app <| .app <| .there <| .here) ?_
            refine ⟨.nil, Imm.le_refl _, ?_⟩
            refine .t 13 rfl (.fieldAddr fo27_2 rfl) rfl rfl (by kernel_rfl) <| .late (i := 14) (by kernel_rfl) (by kernel_rfl) (by kernel_rfl) rfl rfl <| .store sz24 rfl rfl rfl rfl rfl rfl (.app <| .app <| .app <| .there <| .here) ?_
            refine .front (.app <| .front) ?_
            refine .front (.app <| .app <| .front) ?_
            exact .mid (⟨_, _, _, ws7, ws10, ws13, ob7, ob10, ob13⟩) ⟨ho7, hd7, ho10, hd10, ho13, hd13⟩ trivial rfl rfl (.pre 12 rfl .self)
          · skip
            refine .ev (.load ag24 rfl (.app <| .there <| .here) rfl) rfl ⟨.nil, Imm.le_refl _, ?_⟩
            refine .t 9 rfl (.fieldAddr fo27_0 rfl) rfl rfl (by kernel_rfl) <| .one (i := 5) (by kernel_rfl) rfl rfl <| .call cal49 rfl rfl rfl (cloneTsk_ok htv0 hM.t) fun v10 I10 O10 hI10 hK10 => ?_
            obtain ⟨hq10, ws10, ob10, ho10, hd10, rfl⟩ := hK10
            replace hq10 := hq10.symm
            subst hq10
            obtain ⟨ad10, cap10, rfl⟩ := ho10.form
            refine ⟨.nil, Imm.le_refl _, ?_⟩
            refine .one (i := 8) (by kernel_rfl) rfl rfl <| .call cal50 rfl rfl rfl (cloneBnd_ok hbv0 hM.x) fun v13 I13 O13 hI13 hK13 => ?_
            obtain ⟨hq13, ws13, ob13, ho13, hd13, rfl⟩ := hK13
            replace hq13 := hq13.symm
            subst hq13
            obtain ⟨ad13, cap13, rfl⟩ := ho13.form
            refine ⟨.nil, Imm.le_refl _, ?_⟩
            refine .one (i := 10) (by kernel_rfl) rfl rfl <| .store sz22 rfl rfl rfl rfl rfl rfl (.app <| .app <| .app <| .there <| .here) ?_
            refine ⟨.nil, Imm.le_refl _, ?_⟩
            refine .t 11 rfl (.fieldAddr fo27_1 rfl) rfl rfl (by kernel_rfl) <| .one (i := 12) (by kernel_rfl) rfl rfl <| .store sz23 rfl rfl rfl rfl rfl rfl (.app <| .app <| .app <| .there <| .here) ?_
            refine ⟨.nil, Imm.le_refl _, ?_⟩
            refine .t 13 rfl (.fieldAddr fo27_2 rfl) rfl rfl (by kernel_rfl) <| .late (i := 14) (by kernel_rfl) (by kernel_rfl) (by kernel_rfl) rfl rfl <| .store sz24 rfl rfl rfl rfl rfl rfl (.app <| .app <| .app <| .there <| .here) ?_
            refine .front (.app <| .front) ?_
            refine .front (.app <| .app <| .front) ?_
            exact .mid (⟨_, _, _, ws7, ws10, ws13, ob7, ob10, ob13⟩) ⟨ho7, hd7, ho10, hd10, ho13, hd13⟩ trivial rfl rfl (.pre 12 rfl .self)
        · skip
          refine .ev (.load ag24 rfl (.there <| .here) rfl) rfl ⟨.nil, Imm.le_refl _, ?_⟩
          refine .one (i := 2) (by kernel_rfl) rfl rfl <| .call cal48 rfl rfl rfl (cloneNod_ok hnv0 hM.n) fun v7 I7 O7 hI7 hK7 => ?_
          obtain ⟨hq7, ws7, ob7, ho7, hd7, rfl⟩ := hK7
          replace hq7 := hq7.symm
          subst hq7
          obtain ⟨ad7, cap7, rfl⟩ := ho7.form
          refine ⟨.nil, Imm.le_refl _, ?_⟩
          refine .t 9 rfl (.fieldAddr fo27_0 rfl) rfl rfl (by kernel_rfl) <| .one (i := 5) (by kernel_rfl) rfl rfl <| .call cal49 rfl rfl rfl (cloneTsk_ok htv0 hM.t) fun v10 I10 O10 hI10 hK10 => ?_
          obtain ⟨hq10, ws10, ob10, ho10, hd10, rfl⟩ := hK10
          replace hq10 := hq10.symm
          subst hq10
          obtain ⟨ad10, cap10, rfl⟩ := ho10.form
          refine ⟨.nil, Imm.le_refl _, ?_⟩
          refine .one (i := 8) (by kernel_rfl) rfl rfl <| .call cal50 rfl rfl rfl (cloneBnd_ok hbv0 hM.x) fun v13 I13 O13 hI13 hK13 => ?_
          obtain ⟨hq13, ws13, ob13, ho13, hd13, rfl⟩ := hK13
          replace hq13 := hq13.symm
          subst hq13
          obtain ⟨ad13, cap13, rfl⟩ := ho13.form
          refine ⟨.nil, Imm.le_refl _, ?_⟩
          refine .one (i := 10) (by kernel_rfl) rfl rfl <| .store sz22 rfl rfl rfl rfl rfl rfl (.app <| .app <| .app <| .there <| .here) ?_
          refine ⟨.nil, Imm.le_refl _, ?_⟩
          refine .t 11 rfl (.fieldAddr fo27_1 rfl) rfl rfl (by kernel_rfl) <| .one (i := 12) (by kernel_rfl) rfl rfl <| .store sz23 rfl rfl rfl rfl rfl rfl (.app <| .app <| .app <| .there <| .here) ?_
          refine ⟨.nil, Imm.le_refl _, ?_⟩
          refine .t 13 rfl (.fieldAddr fo27_2 rfl) rfl rfl (by kernel_rfl) <| .late (i := 14) (by kernel_rfl) (by kernel_rfl) (by kernel_rfl) rfl rfl <| .store sz24 rfl rfl rfl rfl rfl rfl (.app <| .app <| .app <| .there <| .here) ?_
          refine .front (.app <| .front) ?_
          refine .front (.app <| .app <| .front) ?_
          exact .mid (⟨_, _, _, ws7, ws10, ws13, ob7, ob10, ob13⟩) ⟨ho7, hd7, ho10, hd10, ho13, hd13⟩ trivial rfl rfl (.pre 12 rfl .self)
      · skip
        refine .ev (.load ag24 rfl (.there <| .here) rfl) rfl ⟨.nil, Imm.le_refl _, ?_⟩
        refine .one (i := 1) (by kernel_rfl) rfl rfl ?_
        refine .ev (.load ag22 rfl (.there <| .here) rfl) rfl ⟨.nil, Imm.le_refl _, ?_⟩
        refine .one (i := 2) (by kernel_rfl) rfl rfl <| .call cal48 rfl rfl rfl (cloneNod_ok hnv0 hM.n) fun v7 I7 O7 hI7 hK7 => ?_
        obtain ⟨hq7, ws7, ob7, ho7, hd7, rfl⟩ := hK7
        replace hq7 := hq7.symm
        subst hq7
        obtain ⟨ad7, cap7, rfl⟩ := ho7.form
        refine ⟨.nil, Imm.le_refl _, ?_⟩
        refine .t 9 rfl (.fieldAddr fo27_0 rfl) rfl rfl (by kernel_rfl) <| .one (i := 5) (by kernel_rfl) rfl rfl <| .call cal49 rfl rfl rfl (cloneTsk_ok htv0 hM.t) fun v10 I10 O10 hI10 hK10 => ?_
        obtain ⟨hq10, ws10, ob10, ho10, hd10, rfl⟩ := hK10
        replace hq10 := hq10.symm
        subst hq10
        obtain ⟨ad10, cap10, rfl⟩ := ho10.form
        refine ⟨.nil, Imm.le_refl _, ?_⟩
        refine .one (i := 8) (by kernel_rfl) rfl rfl <| .call cal50 rfl rfl rfl (cloneBnd_ok hbv0 hM.x) fun v13 I13 O13 hI13 hK13 => ?_
        obtain ⟨hq13, ws13, ob13, ho13, hd13, rfl⟩ := hK13
        replace hq13 := hq13.symm
        subst hq13
        obtain ⟨ad13, cap13, rfl⟩ := ho13.form
        refine ⟨.nil, Imm.le_refl _, ?_⟩
        refine .one (i := 10) (by kernel_rfl) rfl rfl <| .store sz22 rfl rfl rfl rfl rfl rfl (.app <| .app <| .app <| .there <| .here) ?_
        refine ⟨.nil, Imm.le_refl _, ?_⟩
        refine .t 11 rfl (.fieldAddr fo27_1 rfl) rfl rfl (by kernel_rfl) <| .one (i := 12) (by kernel_rfl) rfl rfl <| .store sz23 rfl rfl rfl rfl rfl rfl (.app <| .app <| .app <| .there <| .here) ?_
        refine ⟨.nil, Imm.le_refl _, ?_⟩
        refine .t 13 rfl (.fieldAddr fo27_2 rfl) rfl rfl (by kernel_rfl) <| .late (i := 14) (by kernel_rfl) (by kernel_rfl) (by kernel_rfl) rfl rfl <| .store sz24 rfl rfl rfl rfl rfl rfl (.app <| .app <| .app <| .there <| .here) ?_
        refine .front (.app <| .front) ?_
        refine .front (.app <| .app <| .front) ?_
        exact .mid (⟨_, _, _, ws7, ws10, ws13, ob7, ob10, ob13⟩) ⟨ho7, hd7, ho10, hd10, ho13, hd13⟩ trivial rfl rfl (.pre 12 rfl .self)
    · skip
      refine .ev (.load ag24 rfl (.there <| .here) rfl) rfl ⟨.nil, Imm.le_refl _, ?_⟩
      refine .all (rs := [1, 4]) (by kernel_rfl) (by simp) ⟨⟨_, rfl, .inl ⟨rfl, ?_⟩⟩, ⟨⟨_, rfl, .inl ⟨rfl, ?_⟩⟩, trivial⟩⟩
      · skip
        refine .ev (.load ag22 rfl (.there <| .here) rfl) rfl ⟨.nil, Imm.le_refl _, ?_⟩
        refine .all (rs := [2, 4]) (by kernel_rfl) (by simp) ⟨⟨_, rfl, .inl ⟨rfl, ?_⟩⟩, ⟨⟨_, rfl, .inl ⟨rfl, ?_⟩⟩, trivial⟩⟩
        · skip
          refine .call cal48 rfl rfl rfl (cloneNod_ok hnv0 hM.n) fun v7 I7 O7 hI7 hK7 => ?_
          obtain ⟨hq7, ws7, ob7, ho7, hd7, rfl⟩ := hK7
          replace hq7 := hq7.symm
          subst hq7
          obtain ⟨ad7, cap7, rfl⟩ := ho7.form
          refine ⟨.nil, Imm.le_refl _, ?_⟩
          refine .one (i := 4) (by kernel_rfl) rfl rfl ?_
          refine .ev (.load ag23 rfl (.app <| .there <| .here) rfl) rfl ⟨.nil, Imm.le_refl _, ?_⟩
          refine .t 9 rfl (.fieldAddr fo27_0 rfl) rfl rfl (by kernel_rfl) <| .one (i := 5) (by kernel_rfl) rfl rfl <| .call cal49 rfl rfl rfl (cloneTsk_ok htv0 hM.t) fun v10 I10 O10 hI10 hK10 => ?_
          obtain ⟨hq10, ws10, ob10, ho10, hd10, rfl⟩ := hK10
          replace hq10 := hq10.symm
          subst hq10
          obtain ⟨ad10, cap10, rfl⟩ := ho10.form
          refine ⟨.nil, Imm.le_refl _, ?_⟩
          refine .one (i := 8) (by kernel_rfl) rfl rfl <| .call cal50 rfl rfl rfl (cloneBnd_ok hbv0 hM.x) fun v13 I13 O13 hI13 hK13 => ?_
          obtain ⟨hq13, ws13, ob13, ho13, hd13, rfl⟩ := hK13
          replace hq13 := hq13.symm
          subst hq13
          obtain ⟨ad13, cap13, rfl⟩ := ho13.form
          refine ⟨.nil, Imm.le_refl _, ?_⟩
          refine .one (i := 10) (by kernel_rfl) rfl rfl <| .store sz22 rfl rfl rfl rfl rfl rfl (.app <| .app <| .app <| .there <| .here) ?_
          refine ⟨.nil, Imm.le_refl _, ?_⟩
          refine .t 11 rfl (.fieldAddr fo27_1 rfl) rfl rfl (by kernel_rfl) <| .one (i := 12) (by kernel_rfl) rfl rfl <| .store sz23 rfl rfl rfl rfl rfl rfl (.app <| .app <| .app <| .there <| .here) ?_
          refine ⟨.nil, Imm.le_refl _, ?_⟩
          refine .t 13 rfl (.fieldAddr fo27_2 rfl) rfl rfl (by kernel_rfl) <| .late (i := 14) (by kernel_rfl) (by kernel_rfl) (by kernel_rfl) rfl rfl <| .store sz24 rfl rfl rfl rfl rfl rfl (.app <| .app <| .app <| .there <| .here) ?_
          refine .front (.app <| .front) ?_
          refine .front (.app <| .app <| .front) ?_
          exact .mid (⟨_, _, _, ws7, ws10, ws13, ob7, ob10, ob13⟩) ⟨ho7, hd7, ho10, hd10, ho13, hd13⟩ trivial rfl rfl (.pre 12 rfl .self)
        · skip
          refine .ev (.load ag23 rfl (.there <| .here) rfl) rfl ⟨.nil, Imm.le_refl _, ?_⟩
          refine .one (i := 2) (by kernel_rfl) rfl rfl <| .call cal48 rfl rfl rfl (cloneNod_ok hnv0 hM.n) fun v7 I7 O7 hI7 hK7 => ?_
          obtain ⟨hq7, ws7, ob7, ho7, hd7, rfl⟩ := hK7
          replace hq7 := hq7.symm
          subst hq7
          obtain ⟨ad7, cap7, rfl⟩ := ho7.form
          refine ⟨.nil, Imm.le_refl _, ?_⟩
          refine .t 9 rfl (.fieldAddr fo27_0 rfl) rfl rfl (by kernel_rfl) <| .one (i := 5) (by kernel_rfl) rfl rfl <| .call cal49 rfl rfl rfl (cloneTsk_ok htv0 hM.t) fun v10 I10 O10 hI10 hK10 => ?_
          obtain ⟨hq10, ws10, ob10, ho10, hd10, rfl⟩ := hK10
          replace hq10 := hq10.symm
          subst hq10
          obtain ⟨ad10, cap10, rfl⟩ := ho10.form
          refine ⟨.nil, Imm.le_refl _, ?_⟩
          refine .one (i := 8) (by kernel_rfl) rfl rfl <| .call cal50 rfl rfl rfl (cloneBnd_ok hbv0 hM.x) fun v13 I13 O13 hI13 hK13 => ?_
          obtain ⟨hq13, ws13, ob13, ho13, hd13, rfl⟩ := hK13
          replace hq13 := hq13.symm
          subst hq13
          obtain ⟨ad13, cap13, rfl⟩ := ho13.form
          refine ⟨.nil, Imm.le_refl _, ?_⟩
          refine .one (i := 10) (by kernel_rfl) rfl rfl <| .store sz22 rfl rfl rfl rfl rfl rfl (.app <| .app <| .app <| .there <| .here) ?_
          refine ⟨.nil, Imm.le_refl _, ?_⟩
          refine .t 11 rfl (.fieldAddr fo27_1 rfl) rfl rfl (by kernel_rfl) <| .one (i := 12) (by kernel_rfl) rfl rfl <| .store sz23 rfl rfl rfl rfl rfl rfl (.app <| .app <| .app <| .there <| .here) ?_
          refine ⟨.nil, Imm.le_refl _, ?_⟩
          refine .t 13 rfl (.fieldAddr fo27_2 rfl) rfl rfl (by kernel_rfl) <| .late (i := 14) (by kernel_rfl) (by kernel_rfl) (by kernel_rfl) rfl rfl <| .store sz24 rfl rfl rfl rfl rfl rfl (.app <| .app <| .app <| .there <| .here) ?_
          refine .front (.app <| .front) ?_
          refine .front (.app <| .app <| .front) ?_
          exact .mid (⟨_, _, _, ws7, ws10, ws13, ob7, ob10, ob13⟩) ⟨ho7, hd7, ho10, hd10, ho13, hd13⟩ trivial rfl rfl (.pre 12 rfl .self)
      · skip
        refine .ev (.load ag23 rfl (.there <| .here) rfl) rfl ⟨.nil, Imm.le_refl _, ?_⟩
        refine .one (i := 1) (by kernel_rfl) rfl rfl ?_
        refine .ev (.load ag22 rfl (.there <| .here) rfl) rfl ⟨.nil, Imm.le_refl _, ?_⟩
        refine .one (i := 2) (by kernel_rfl) rfl rfl <| .call cal48 rfl rfl rfl (cloneNod_ok hnv0 hM.n) fun v7 I7 O7 hI7 hK7 => ?_
        obtain ⟨hq7, ws7, ob7, ho7, hd7, rfl⟩ := hK7
        replace hq7 := hq7.symm
        subst hq7
        obtain ⟨ad7, cap7, rfl⟩ := ho7.form
        refine ⟨.nil, Imm.le_refl _, ?_⟩
        refine .t 9 rfl (.fieldAddr fo27_0 rfl) rfl rfl (by kernel_rfl) <| .one (i := 5) (by kernel_rfl) rfl rfl <| .call cal49 rfl rfl rfl (cloneTsk_ok htv0 hM.t) fun v10 I10 O10 hI10 hK10 => ?_
        obtain ⟨hq10, ws10, ob10, ho10, hd10, rfl⟩ := hK10
        replace hq10 := hq10.symm
        subst hq10
        obtain ⟨ad10, cap10, rfl⟩ := ho10.form
        refine ⟨.nil, Imm.le_refl _, ?_⟩
        refine .one (i := 8) (by kernel_rfl) rfl rfl <| .call cal50 rfl rfl rfl (cloneBnd_ok hbv0 hM.x) fun v13 I13 O13 hI13 hK13 => ?_
        obtain ⟨hq13, ws13, ob13, ho13, hd13, rfl⟩ := hK13
        replace hq13 := hq13.symm
        subst hq13
        obtain ⟨ad13, cap13, rfl⟩ := ho13.form
        refine ⟨.nil, Imm.le_refl _, ?_⟩
        refine .one (i := 10) (by kernel_rfl) rfl rfl <| .store sz22 rfl rfl rfl rfl rfl rfl (.app <| .app <| .app <| .there <| .here) ?_
        refine ⟨.nil, Imm.le_refl _, ?_⟩
        refine .t 11 rfl (.fieldAddr fo27_1 rfl) rfl rfl (by kernel_rfl) <| .one (i := 12) (by kernel_rfl) rfl rfl <| .store sz23 rfl rfl rfl rfl rfl rfl (.app <| .app <| .app <| .there <| .here) ?_
        refine ⟨.nil, Imm.le_refl _, ?_⟩
        refine .t 13 rfl (.fieldAddr fo27_2 rfl) rfl rfl (by kernel_rfl) <| .late (i := 14) (by kernel_rfl) (by kernel_rfl) (by kernel_rfl) rfl rfl <| .store sz24 rfl rfl rfl rfl rfl rfl (.app <| .app <| .app <| .there <| .here) ?_
        refine .front (.app <| .front) ?_
        refine .front (.app <| .app <| .front) ?_
        exact .mid (⟨_, _, _, ws7, ws10, ws13, ob7, ob10, ob13⟩) ⟨ho7, hd7, ho10, hd10, ho13, hd13⟩ trivial rfl rfl (.pre 12 rfl .self)
  · intro ⟨nvG, tvG, bvG, wsN, wsT, wsB, obN, obT, obB⟩ hg
    obtain ⟨hoN, hdN, hoT, hdT, hoB, hdB⟩ := hg
    dsimp only at hoN hdN hoT hdT hoB hdB ⊢
    obtain ⟨adN, capN, rfl⟩ := hoN.form
    obtain ⟨adT, capT, rfl⟩ := hoT.form
    obtain ⟨adB, capB, rfl⟩ := hoB.form
    refine .seq <| .seq <| .region <| .e (.fieldAddr fo27_0 rfl) rfl rfl <| .e (.load ag22 rfl (.app <| .app <| .app <| .there <| .here) rfl) rfl rfl <| .e (.len sl22 rfl rfl) rfl rfl ?_
    refine .e (.move rfl) rfl rfl <| .nil <| .go <| .block ?_
    refine .loopM [3, 20, 21, 22, 23, 24, 25, 26, 27, 28, 29, 30, 31, 32, 33] (fun s => b.nodes.length - s.1) (fun s => s.1 ≤ b.nodes.length ∧ OwnS 6 (.slice adN b.nodes.length capN) b.nodes.length s.2.1 s.2.2.1 ∧ DR (MixN I) 6 s.2.2.2 s.2.1 (mixTo b.nodes s.1) ∧ I.le s.2.2.2 ∧ Imm.le I s.2.2.2) (fun s => [(20, .int .i64 s.1)]) (fun s => s.2.2.2) (fun s => s.2.2.1 ++ _) (((0, wsN, obN, I) : Nat × List Value × Own × Imm)) ⟨Nat.zero_le _, hoN, mix_start hdN, Imm.le_refl _, Imm.le_refl _⟩ ⟨rfl, trivial⟩ rfl rfl ?_
    intro ⟨kn, wsnL, obnL, Jn⟩ hkn
    dsimp only at hkn ⊢
    obtain ⟨hkn, honL, hdnL, hJn, hJn2⟩ := hkn
    refine .seq <| .region <| .e (.lss rfl rfl) rfl rfl <| .nil <| .go <| .seq ?_
    refine .split 21 rfl (fun h21 => ?_) (fun h21 => ?_)
    · skip
      replace h21 := of_decide_eq_true h21
      refine .cond_true rfl <| .skip <| .go <| .seq <| .block <| .seq ?_
      refine .region ?_
      have hden := (hdnL.2 kn (b.nodes[kn], false) (mixTo_at (by omega))).1
      dsimp only at hden
      obtain ⟨lvn, tvn, hcen, hlvn, htvn⟩ := hden.ex
      rw [hcen] at hden
      obtain ⟨_, h0, _, _⟩ | ⟨bnL, capnL, csnL, TnL, hv5, rfl, hc1n, hc2n, hc3n, hc4n, hc5n⟩ := honL
      · omega
      cases hv5
      simp only [@List.singleton_append (Nat × Obj)]
      refine .e (.move rfl) rfl rfl <| .e (.assign rfl) rfl rfl <| .nil <| .go ?_
      refine .draw [(c1, _)] mixed (.cons (.there <| .app <| .app <| .there <| .here) .nil) ?_
      refine .t 0 rfl (.fieldAddr fo27_0 rfl) rfl rfl (by kernel_rfl) <| .t 1 rfl (.load ag22 rfl .here rfl) rfl rfl (by kernel_rfl) <| .t 2 rfl (.move rfl) rfl rfl (by kernel_rfl) <| .t 3 rfl (.fieldAddr fo27_0 rfl) rfl rfl (by kernel_rfl) <| .t 4 rfl (.load ag22 rfl .here rfl) rfl rfl (by kernel_rfl) <| .t 5 rfl (.move rfl) rfl rfl (by kernel_rfl) ?_
      refine .t 6 rfl (.indexAddrL sl22 rfl rfl rfl (by omega)) rfl rfl (by kernel_rfl) <| .one (i := 7) (by kernel_rfl) rfl rfl ?_
      refine .ev ((EV.cast (.loadP ag32 sz32 rfl .here (Nat.ble_eq_true_of_le (show 0 + kn * 6 + 6 ≤ csnL.length by omega))) (congrArg (fun x => Value.agg ⟨x⟩) (part_of hc3n (by omega) hcen)))) rfl ⟨(.cons (.there <| .app <| .app <| .there <| .here) .nil), Imm.le_refl _, ?_⟩
      refine .one (i := 8) (by kernel_rfl) rfl rfl <| .call cal51 rfl rfl rfl (ownNodeF_ok hden (hM.nl _ (List.getElem_mem (by omega))).1 (hM.nl _ (List.getElem_mem (by omega))).2) fun v31 I31 O31 hI31 hK31 => ?_
      obtain ⟨cs31, hq31, hF31, rfl⟩ := hK31
      replace hq31 := hq31.symm
      subst hq31
      obtain ⟨lv31, tv31, rfl, hR31, hf131, hf231⟩ := hF31
      have hG31 : NodF I I31 _ _ := ⟨_, _, rfl, hR31, hf131.back hJn, hf231.back hJn⟩
      obtain ⟨_, _, _, rfl⟩ := hf131.isSl
      obtain ⟨_, _, _, rfl⟩ := hf231.isSl
      refine ⟨(.cons (.there <| .app <| .app <| .there <| .here) .nil), hI31, ?_⟩
      refine .t 9 rfl (.indexAddrL sl22 rfl rfl rfl (by omega)) rfl rfl (by kernel_rfl) <| .late (i := 10) (by kernel_rfl) (by kernel_rfl) (by kernel_rfl) rfl rfl <| .store sz32 rfl rfl rfl rfl rfl (Nat.ble_eq_true_of_le (show 0 + kn * 6 + 6 ≤ csnL.length by omega)) .here <| .blk_normal <| .go <| .region <| .e (.add rfl rfl (by first | exact wrap_succ (by omega) | exact IntWalk.i64_in _ (by omega) | exact rfl)) rfl rfl ?_
      refine .e (.move rfl) rfl rfl <| .nil ?_
      exact .mid ((kn + 1, _, _, I31)) ⟨by dsimp only; omega, by dsimp only; omega, own_setE hc3n (by omega) hc1n hc2n hc4n rfl hc5n, mix_turn hdnL (by omega) (fun _ _ h => h.mono hI31) (fun _ _ h => h.mono hI31) rfl hR31 hG31, Imm.le_trans hJn hI31, Imm.le_trans hJn2 hI31⟩ ⟨rfl, trivial⟩ rfl rfl (.pre 16 rfl (.app rfl .base))
    · skip
      replace h21 := of_decide_eq_false h21
      refine .cond_false rfl <| .exit <| .exit <| .exit <| .blk_exit <| .go ?_
      refine .seq <| .seq <| .region <| .e (.fieldAddr fo27_1 rfl) rfl rfl <| .e (.load ag23 rfl (.app <| .app <| .app <| .there <| .here) rfl) rfl rfl <| .e (.len sl23 rfl rfl) rfl rfl ?_
      refine .e (.move rfl) rfl rfl <| .nil <| .go <| .block ?_
      have hdT' := hdT.mono (fun _ _ h => TskR.mono hJn h)
      refine .front (.app <| .front) ?_
      refine .loopM [4, 37, 38, 39, 40, 41, 42, 43, 44, 45, 46, 47, 48, 49, 50] (fun s => b.tasks.length - s.1) (fun s => s.1 ≤ b.tasks.length ∧ OwnS 9 (.slice adT b.tasks.length capT) b.tasks.length s.2.1 s.2.2.1 ∧ DR (MixT I) 9 s.2.2.2 s.2.1 (mixTo b.tasks s.1) ∧ I.le s.2.2.2 ∧ Imm.le Jn s.2.2.2) (fun s => [(37, .int .i64 s.1)]) (fun s => s.2.2.2) (fun s => s.2.2.1 ++ _) (((0, wsT, obT, Jn) : Nat × List Value × Own × Imm)) ⟨Nat.zero_le _, hoT, mix_start hdT', hJn, Imm.le_refl _⟩ ⟨rfl, trivial⟩ rfl rfl ?_
      intro ⟨kt, wstL, obtL, Jt⟩ hkt
      dsimp only at hkt ⊢
      obtain ⟨hkt, hotL, hdtL, hJt, hJt2⟩ := hkt
      refine .seq <| .region <| .e (.lss rfl rfl) rfl rfl <| .nil <| .go <| .seq ?_
      refine .split 38 rfl (fun h38 => ?_) (fun h38 => ?_)
      · skip
        replace h38 := of_decide_eq_true h38
        refine .cond_true rfl <| .skip <| .go <| .seq <| .block <| .seq ?_
        refine .region ?_
        have hdet := (hdtL.2 kt (b.tasks[kt], false) (mixTo_at (by omega))).1
        dsimp only at hdet
        obtain ⟨lvt, tvt, hcet, hlvt, htvt⟩ := hdet.ex
        rw [hcet] at hdet
        obtain ⟨_, h0, _, _⟩ | ⟨btL, captL, cstL, TtL, hv5, rfl, hc1t, hc2t, hc3t, hc4t, hc5t⟩ := hotL
        · omega
        cases hv5
        simp only [@List.singleton_append (Nat × Obj)]
        refine .e (.move rfl) rfl rfl <| .e (.assign rfl) rfl rfl <| .nil <| .go ?_
        refine .draw [(c1, _)] mixed (.cons (.there <| .app <| .app <| .there <| .here) .nil) ?_
        refine .t 0 rfl (.fieldAddr fo27_1 rfl) rfl rfl (by kernel_rfl) <| .t 1 rfl (.load ag23 rfl .here rfl) rfl rfl (by kernel_rfl) <| .t 2 rfl (.move rfl) rfl rfl (by kernel_rfl) <| .t 3 rfl (.fieldAddr fo27_1 rfl) rfl rfl (by kernel_rfl) <| .t 4 rfl (.load ag23 rfl .here rfl) rfl rfl (by kernel_rfl) <| .t 5 rfl (.move rfl) rfl rfl (by kernel_rfl) ?_
        refine .t 6 rfl (.indexAddrL sl23 rfl rfl rfl (by omega)) rfl rfl (by kernel_rfl) <| .one (i := 7) (by kernel_rfl) rfl rfl ?_
        refine .ev ((EV.cast (.loadP ag34 sz34 rfl .here (Nat.ble_eq_true_of_le (show 0 + kt * 9 + 9 ≤ cstL.length by omega))) (congrArg (fun x => Value.agg ⟨x⟩) (part_of hc3t (by omega) hcet)))) rfl ⟨(.cons (.there <| .app <| .app <| .there <| .here) .nil), Imm.le_refl _, ?_⟩
        refine .one (i := 8) (by kernel_rfl) rfl rfl <| .call cal52 rfl rfl rfl (ownTaskF_ok hdet (hM.tl _ (List.getElem_mem (by omega))).1 (hM.tl _ (List.getElem_mem (by omega))).2) fun v48 I48 O48 hI48 hK48 => ?_
        obtain ⟨cs48, hq48, hF48, rfl⟩ := hK48
        replace hq48 := hq48.symm
        subst hq48
        obtain ⟨lv48, tv48, rfl, hR48, hf148, hf248⟩ := hF48
        have hG48 : TskF I I48 _ _ := ⟨_, _, rfl, hR48, hf148.back hJt, hf248.back hJt⟩
        obtain ⟨_, _, _, rfl⟩ := hf148.isSl
        obtain ⟨_, _, _, rfl⟩ := hf248.isSl
        refine ⟨(.cons (.there <| .app <| .app <| .there <| .here) .nil), hI48, ?_⟩
        refine .t 9 rfl (.indexAddrL sl23 rfl rfl rfl (by omega)) rfl rfl (by kernel_rfl) <| .late (i := 10) (by kernel_rfl) (by kernel_rfl) (by kernel_rfl) rfl rfl <| .store sz34 rfl rfl rfl rfl rfl (Nat.ble_eq_true_of_le (show 0 + kt * 9 + 9 ≤ cstL.length by omega)) .here <| .blk_normal <| .go <| .region <| .e (.add rfl rfl (by first | exact wrap_succ (by omega) | exact IntWalk.i64_in _ (by omega) | exact rfl)) rfl rfl ?_
        refine .e (.move rfl) rfl rfl <| .nil ?_
        exact .mid ((kt + 1, _, _, I48)) ⟨by dsimp only; omega, by dsimp only; omega, own_setE hc3t (by omega) hc1t hc2t hc4t rfl hc5t, mix_turn hdtL (by omega) (fun _ _ h => h.mono hI48) (fun _ _ h => h.mono hI48) rfl hR48 hG48, Imm.le_trans hJt hI48, Imm.le_trans hJt2 hI48⟩ ⟨rfl, trivial⟩ rfl rfl (.pre 16 rfl (.app rfl .base))
      · skip
        replace h38 := of_decide_eq_false h38
        refine .cond_false rfl <| .exit <| .exit <| .exit <| .blk_exit <| .go ?_
        refine .seq <| .region <| .e (.loadW ag27 sz27 rfl (.app <| .app <| .app <| .there <| .here) rfl) rfl rfl <| .on rfl <| .storeW sz27 rfl rfl rfl rfl rfl rfl (.app <| .app <| .app <| .here) <| .nil <| .go ?_
        refine .ret ?_
        refine .front (.app <| .front) ?_
        refine Post.rets rfl (.agg rfl ag27 sz27 (.app <| .app <| .app <| .here) rfl .nil) rfl hJt (fun w h => (Sat.tail (Sat.rem (Sat.tail (Sat.rem h (Rem.app <| Rem.app <| Rem.app <| Rem.here))) (Rem.app <| Rem.app <| Rem.app <| Rem.here)))) ?_
        exact ⟨_, _, _, obnL, obtL, obB, rfl, ⟨⟨_, honL, (mix_end hdnL (by omega)).mono fun _ _ h => h.mono hJt2⟩, ⟨_, hotL, mix_end hdtL (by omega)⟩, ⟨_, hoB, hdB.mono fun _ _ h => h⟩, hf⟩, rfl⟩

variable {J0 : Imm}
theorem nodF_len {I : Imm} {cs : List Value} {x : Nod} (h : NodF J0 I cs x) : cs.length = 6 := h.nod.len
theorem nodF_ones {I : Imm} {cs : List Value} {x : Nod} (h : NodF J0 I cs x) : Go.Sy.ones cs = true := h.nod.ones
theorem _root_.Go.Sy.NodF.back {I0 I1 J : Imm} {cs : List Value} {x : Nod} (hI : I1.le I0) (h : NodF I0 J cs x) : NodF I1 J cs x := by
  obtain ⟨lv, tv, e, h1, h2, h3⟩ := h
  exact ⟨lv, tv, e, h1, h2.back hI, h3.back hI⟩
theorem _root_.Go.Sy.TskF.back {I0 I1 J : Imm} {cs : List Value} {x : Tsk} (hI : I1.le I0) (h : TskF I0 J cs x) : TskF I1 J cs x := by
  obtain ⟨lv, tv, e, h1, h2, h3⟩ := h
  exact ⟨lv, tv, e, h1, h2.back hI, h3.back hI⟩

set_option maxHeartbeats 1000000 in
set_option maxRecDepth 20000 in
theorem insNodF_ok {I : Imm} {O : Own} {ad : Option Addr} {cap : Nat} {l : List Nod} {ws : List Value} {ob : Own} (ho : OwnS 6 (.slice ad l.length cap) l.length ws ob) (hd : DR (NodF J0) 6 I ws l) {i c : Nat} {cs : List Value} {tx : TypeId} {x : Nod} (hx : (NodF J0) I cs x) (hi : i ≤ l.length) (hL : l.length ≤ 1024) :
    Go.Sy.Does Tryz.prog 55 [.slice ad l.length cap, .int .i64 (i : Nat), .slice (some ⟨c, 0, none⟩) 1 1] I (ob ++ ((c, .cells ⟨cs⟩ tx (0, 0)) :: O)) (fun u I' O' => I' = I ∧ ∃ ws' ob', OwnS 6 u (l.length + 1) ws' ob' ∧ DR (NodF J0) 6 I ws' (l.take i ++ (x :: l.drop i)) ∧ O' = ob' ++ O) := by
  have hx0 := hx
  have hcl : cs.length = 6 := (fun h => nodF_len h) hx
  have hco := (fun h => nodF_ones h) hx
  have hcap := ho.capLe
  refine Go.Sy.Does.enter Tryz.func55 rfl Tryz.ntmps55 rfl ?_
  refine .seq <| .region <| .e (.assign rfl) rfl rfl <| .nil <| .go <| .seq ?_
  refine .region <| .e (.move rfl) rfl rfl <| .e (.move rfl) rfl rfl <| .e (.sliceL sl22 rfl rfl rfl hi) rfl rfl <| .nil <| .go ?_
  refine .seq <| .region <| .e (.move rfl) rfl rfl <| .e (.len sl22 rfl rfl) rfl rfl <| .e (.assign rfl) rfl rfl <| .nil ?_
  refine .go <| .seq <| .seq <| .region <| .e (.move rfl) rfl rfl <| .e (.eql rfl rfl) rfl rfl ?_
  refine .nil <| .go <| .cond_false rfl <| .skip <| .go <| .seq ?_
  refine .region <| .e (.move rfl) rfl rfl <| .e (.len sl22 rfl rfl) rfl rfl <| .e (.assign rfl) rfl rfl <| .nil <| .go ?_
  refine .seq <| .seq <| .region <| .e (.move rfl) rfl rfl <| .e (.move rfl) rfl rfl <| .e (.eql rfl rfl) rfl rfl ?_
  refine .nil <| .go ?_
  refine .split 22 rfl (fun h22 => ?_) (fun h22 => ?_)
  · skip
    replace h22 := of_decide_eq_true h22
    refine .cond_true rfl <| .seq <| .region <| .e (.move rfl) rfl rfl <| .e (.move rfl) rfl rfl <| .on rfl <| .append Tryz.underlying22 Tryz.underlying22 sz32 by32 zv32 rfl rfl rfl .front ho ((OwnS.made (k := 6) (len := 1) (b := c) (T := tx) (by rw [hcl]) (by decide)).src (I := _) (.app <| .here)) (by rw [hcl, Nat.one_mul]) hco (by omega) (by omega) rfl fun v25 ob25 ho25 => ?_
    refine .e (.assign rfl) rfl rfl <| .nil <| .go <| .ret <| .ret ?_
    refine Post.rets rfl (.tmp rfl .nil) rfl (Imm.le_refl _) (fun w h => (Sat.tail (Sat.rem h (Rem.app <| Rem.here)))) ?_
    have hwl := hd.1
    have hal : (ws.take (i * 6)).length = i * 6 := by rw [List.length_take, hwl]; have := Nat.mul_le_mul_right 6 hi; omega
    have hbl : (ws.drop (i * 6)).length = (l.length - i) * 6 := by rw [List.length_drop, hwl, Nat.sub_mul]
    have hdr : DR (NodF J0) 6 I (ws.take (i * 6) ++ (cs ++ ws.drop (i * 6))) (l.take i ++ (x :: l.drop i)) := (hd.take hi).append ((DR.single hcl hx0).append (hd.drop hi))
    have en : i = l.length := by omega
    subst en
    rw [List.take_length, List.drop_length]
    exact ⟨rfl, _, ob25, ho25, hd.append (DR.single hcl hx0), rfl⟩
  · skip
    replace h22 := of_decide_eq_false h22
    refine .cond_false rfl <| .skip <| .go <| .seq <| .seq <| .region ?_
    refine .e (.move rfl) rfl rfl <| .e (.move rfl) rfl rfl <| .e (.add rfl rfl (wrap_succ (by omega))) rfl rfl <| .e (.move rfl) rfl rfl <| .e (.cap sl22 rfl rfl) rfl rfl <| .e (.gtr rfl rfl) rfl rfl ?_
    refine .nil <| .go ?_
    refine .split 31 rfl (fun h31 => ?_) (fun h31 => ?_)
    · skip
      replace h31 := of_decide_eq_true h31
      refine .cond_true rfl <| .seq <| .region <| .e (.move rfl) rfl rfl <| .e (.move rfl) rfl rfl <| .e (.sliceHn sl22 rfl rfl rfl (by omega)) rfl rfl ?_
      refine .e (.move rfl) rfl rfl <| .e (.move rfl) rfl rfl <| .e (.add rfl rfl (wrap_succ (by omega))) rfl rfl <| .e (.move rfl) rfl rfl <| .e (.sub rfl rfl (IntWalk.i64_in _ (by omega))) rfl rfl <| .on rfl <| .appendMake (q := l.length + 1 - i) Tryz.underlying22 Tryz.underlying3 sz32 by32 zv32 rfl (by decide) rfl rfl (by omega) (by omega) .front (ho.takeN (h := i) (by omega)) (by omega) (by omega) (by omega) rfl fun v40 ob40 ho40 => ?_
      obtain ⟨ad40, cap40, rfl⟩ := ho40.form
      have eq40 : i + (l.length + 1 - i) = l.length + 1 := by omega
      rw [eq40] at ho40
      rw [eq40]
      refine .e (.assign rfl) rfl rfl <| .nil <| .go <| .seq <| .region <| .e (.move rfl) rfl rfl ?_
      refine .e (.move rfl) rfl rfl <| .e (.sliceL sl22 rfl rfl rfl (by omega)) rfl rfl <| .e (.move rfl) rfl rfl <| .on rfl <| .copyAt (lo := i) Tryz.underlying22 sz32 rfl rfl .front ho40 ((OwnS.made (k := 6) (len := 1) (b := c) (T := tx) (by rw [hcl]) (by decide)).src (I := _) (.app <| .app <| .here)) (by rw [hcl, Nat.one_mul]) (ones_take _ _ hco) (by omega) rfl fun ob45 ho45 => .nil <| .go ?_
      refine .seq ?_
      refine .draw [] mixed .nil ?_
      refine .t 0 rfl (.move rfl) rfl rfl (by kernel_rfl) <| .t 1 rfl (.move rfl) rfl rfl (by kernel_rfl) <| .t 2 rfl (.move rfl) rfl rfl (by kernel_rfl) <| .t 3 rfl (.add rfl rfl (wrap_succ (by omega))) rfl rfl (by kernel_rfl) <| .t 4 rfl (.sliceL (l := i + 1) sl22 rfl rfl rfl (by omega)) rfl rfl (by kernel_rfl) <| .t 5 rfl (.move rfl) rfl rfl (by kernel_rfl) ?_
      refine .t 6 rfl (.move rfl) rfl rfl (by kernel_rfl) <| .t 7 rfl (.sliceL sl22 rfl rfl rfl (by omega)) rfl rfl (by kernel_rfl) <| .one (i := 8) (by kernel_rfl) rfl rfl <| .copyAt (lo := i + 1) Tryz.underlying22 sz32 rfl rfl .front ho45 (ho.srcFrom (l := i) (.app <| .front) (by omega)) (by rw [List.length_drop, hd.1, Nat.sub_mul]) (ones_take _ _ ((hd.drop (l := i) (by omega)).ones (by decide) (fun _ _ h => nodF_ones h))) (by omega) rfl fun ob54 ho54 => ?_
      refine ⟨.nil, Imm.le_refl _, ?_⟩
      refine .done (by kernel_rfl) <| .go <| .seq <| .region <| .e (.move rfl) rfl rfl <| .e (.assign rfl) rfl rfl ?_
      refine .nil <| .go <| .ret <| .ret ?_
      refine Post.rets rfl (.tmp rfl .nil) rfl (Imm.le_refl _) (fun w h => (Sat.tail (Sat.rem (Sat.drop (Sat.rem h (Rem.app <| Rem.front))) (Rem.app <| Rem.here)))) ?_
      have hwl := hd.1
      have hal : (ws.take (i * 6)).length = i * 6 := by rw [List.length_take, hwl]; have := Nat.mul_le_mul_right 6 hi; omega
      have hbl : (ws.drop (i * 6)).length = (l.length - i) * 6 := by rw [List.length_drop, hwl, Nat.sub_mul]
      have hdr : DR (NodF J0) 6 I (ws.take (i * 6) ++ (cs ++ ws.drop (i * 6))) (l.take i ++ (x :: l.drop i)) := (hd.take hi).append ((DR.single hcl hx0).append (hd.drop hi))
      have e1 : min 1 (l.length + 1 - i) * 6 = cs.length := by rw [hcl, Nat.min_eq_left (by omega), Nat.one_mul]
      have e2 : min (l.length - i) (l.length + 1 - (i + 1)) * 6 = (ws.drop (i * 6)).length := by rw [hbl, Nat.min_eq_left (by omega)]
      rw [e1, List.take_length, e2, List.take_length, ins_cells1 (n := l.length) (a := ws.take (i * 6)) hi ho40.wsLen (by rw [List.take_append_of_le_length (by omega), List.take_of_length_le (by omega)]) hcl hbl] at ho54
      exact ⟨rfl, _, ob54, ho54, hdr, rfl⟩
    · skip
      replace h31 := of_decide_eq_false h31
      obtain ⟨b, csb, Tb, z, rfl, rfl, hcs0, hzl, hox⟩ := ho.extend (by omega) (by decide)
      have hwl := hd.1
      refine .cond_false rfl <| .skip <| .go <| .seq <| .region <| .e (.move rfl) rfl rfl ?_
      refine .e (.move rfl) rfl rfl <| .e (.move rfl) rfl rfl <| .e (.add rfl rfl (wrap_succ (by omega))) rfl rfl <| .e (.sliceHn sl22 rfl rfl rfl (by omega)) rfl rfl <| .e (.assign rfl) rfl rfl <| .nil ?_
      refine .go <| .seq <| .seq <| .region <| .e (.move rfl) rfl rfl <| .e (.move rfl) rfl rfl ?_
      refine .e (.move rfl) rfl rfl <| .e (.move rfl) rfl rfl <| .e (.add rfl rfl (wrap_succ (by omega))) rfl rfl <| .e (.sliceLs (l := i + 1) sl22 rfl rfl rfl (by omega) (by omega)) rfl rfl ?_
      refine .ne (ob := [(b, .cells ⟨csb⟩ Tb (0, 0))]) (b := b) List.mem_cons_self fun hbc => ?_
      refine .on rfl <| .overlapsNo (tS := 22) (tR := 4) Tryz.func90 (by kernel_rfl) (by kernel_rfl) (by kernel_rfl) (by kernel_rfl) Tryz.underlying22 sz32 rfl rfl rfl (.app <| .here) (List.mem_append_left _ (List.mem_singleton.2 rfl)) (Ne.symm hbc) (by simpa using hcs0) rfl <| .e (.not rfl) rfl rfl <| .nil <| .go <| .cond_true rfl <| .seq ?_
      refine .draw [] mixed .nil ?_
      refine .t 0 rfl (.move rfl) rfl rfl (by kernel_rfl) <| .t 1 rfl (.move rfl) rfl rfl (by kernel_rfl) <| .t 2 rfl (.move rfl) rfl rfl (by kernel_rfl) <| .t 3 rfl (.add rfl rfl (wrap_succ (by omega))) rfl rfl (by kernel_rfl) <| .t 4 rfl (.sliceL (l := i + 1) sl22 rfl rfl rfl (by omega)) rfl rfl (by kernel_rfl) <| .t 5 rfl (.move rfl) rfl rfl (by kernel_rfl) ?_
      refine .t 6 rfl (.move rfl) rfl rfl (by kernel_rfl) <| .t 7 rfl (.sliceL sl22 rfl rfl rfl (by omega)) rfl rfl (by kernel_rfl) <| .one (i := 8) (by kernel_rfl) rfl rfl <| .copyAt (lo := i + 1) Tryz.underlying22 sz32 rfl rfl .front hox (hox.srcFrom (l := i) .front (by omega)) (by rw [List.length_drop, hox.wsLen, Nat.sub_mul]) (by rw [Nat.min_eq_right (by omega), show l.length + 1 - (i + 1) = l.length - i by omega, List.drop_append_of_le_length (by have := Nat.mul_le_mul_right 6 hi; omega), List.take_append_of_le_length (by rw [List.length_drop, hwl, Nat.sub_mul]; exact Nat.le_refl _)]; exact ones_take _ _ ((hd.drop (l := i) (by omega)).ones (by decide) (fun _ _ h => nodF_ones h))) (by omega) rfl fun ob77 ho77 => ?_
      refine ⟨.nil, Imm.le_refl _, ?_⟩
      refine .done (by kernel_rfl) <| .go <| .seq <| .region <| .e (.move rfl) rfl rfl <| .e (.move rfl) rfl rfl ?_
      refine .e (.sliceL sl22 rfl rfl rfl (by omega)) rfl rfl <| .e (.move rfl) rfl rfl <| .on rfl <| .copyAt (lo := i) Tryz.underlying22 sz32 rfl rfl .front ho77 ((OwnS.made (k := 6) (len := 1) (b := c) (T := tx) (by rw [hcl]) (by decide)).src (I := _) (.app <| .here)) (by rw [hcl, Nat.one_mul]) (ones_take _ _ hco) (by omega) rfl fun ob82 ho82 => .nil <| .go <| .seq ?_
      refine .region <| .e (.move rfl) rfl rfl <| .e (.assign rfl) rfl rfl <| .nil <| .go <| .ret ?_
      refine .ret ?_
      refine Post.rets rfl (.tmp rfl .nil) rfl (Imm.le_refl _) (fun w h => (Sat.tail (Sat.rem h (Rem.app <| Rem.here)))) ?_
      have hwl := hd.1
      have hal : (ws.take (i * 6)).length = i * 6 := by rw [List.length_take, hwl]; have := Nat.mul_le_mul_right 6 hi; omega
      have hbl : (ws.drop (i * 6)).length = (l.length - i) * 6 := by rw [List.length_drop, hwl, Nat.sub_mul]
      have hdr : DR (NodF J0) 6 I (ws.take (i * 6) ++ (cs ++ ws.drop (i * 6))) (l.take i ++ (x :: l.drop i)) := (hd.take hi).append ((DR.single hcl hx0).append (hd.drop hi))
      have e1 : min 1 (l.length + 1 - i) * 6 = cs.length := by rw [hcl, Nat.min_eq_left (by omega), Nat.one_mul]
      have e2 : ((ws ++ z).drop (i * 6)).take (min (l.length + 1 - i) (l.length + 1 - (i + 1)) * 6) = ws.drop (i * 6) := by rw [Nat.min_eq_right (by omega), show l.length + 1 - (i + 1) = l.length - i by omega, List.drop_append_of_le_length (by have := Nat.mul_le_mul_right 6 hi; omega), List.take_append_of_le_length (by omega), List.take_of_length_le (by omega)]
      rw [e1, List.take_length, e2, ins_cells2 (n := l.length) (a := ws.take (i * 6)) hi hox.wsLen (by rw [List.take_append_of_le_length (by have := Nat.mul_le_mul_right 6 hi; omega)]) hcl hbl] at ho82
      exact ⟨rfl, _, ob82, ho82, hdr, rfl⟩

set_option maxHeartbeats 1000000 in
set_option maxRecDepth 20000 in
theorem delNodF_ok {I : Imm} {O : Own} {ad : Option Addr} {cap : Nat} {l : List Nod} {ws : List Value} {ob : Own} (ho : OwnS 6 (.slice ad l.length cap) l.length ws ob) (hd : DR (NodF J0) 6 I ws l) {i j : Nat} (hij : i < j) (hj : j ≤ l.length) {a b : Int} (ha : a = (i : Int)) (hb : b = (j : Int)) :
    Go.Sy.Does Tryz.prog 58 [.slice ad l.length cap, .int .i64 a, .int .i64 b] I (ob ++ O) (fun u I' O' => I' = I ∧ ∃ ws' ob', OwnS 6 u (l.take i ++ l.drop j).length ws' ob' ∧ DR (NodF J0) 6 I ws' (l.take i ++ l.drop j) ∧ O' = ob' ++ O) := by
  have hcap := ho.capLe
  refine Go.Sy.Does.enter Tryz.func58 rfl Tryz.ntmps58 rfl ?_
  refine .seq <| .region <| .e (.assign rfl) rfl rfl <| .nil <| .go <| .seq ?_
  refine .region <| .e (.move rfl) rfl rfl <| .e (.move rfl) rfl rfl <| .e (.move rfl) rfl rfl <| .e (.move rfl) rfl rfl <| .e (.len sl22 rfl rfl) rfl rfl ?_
  refine .e (.slice3L sl22 rfl rfl rfl rfl ha hb rfl (by omega) hj hcap) rfl rfl <| .nil <| .go <| .seq <| .seq <| .region ?_
  refine .e (.move rfl) rfl rfl <| .e (.move rfl) rfl rfl <| .e (.eql rfl rfl) rfl rfl <| .nil <| .go ?_
  refine .split 16 rfl (fun h16 => ?_) (fun h16 => ?_)
  · skip
    replace h16 := of_decide_eq_true h16
    exact absurd h16 (by omega)
  · skip
    replace h16 := of_decide_eq_false h16
    refine .cond_false rfl <| .skip <| .go <| .seq <| .region <| .e (.move rfl) rfl rfl ?_
    refine .e (.len sl22 rfl rfl) rfl rfl <| .e (.assign rfl) rfl rfl <| .nil <| .go <| .seq ?_
    refine .draw [] mixed .nil ?_
    refine .t 0 rfl (.move rfl) rfl rfl (by kernel_rfl) <| .t 1 rfl (.move rfl) rfl rfl (by kernel_rfl) <| .t 2 rfl (.sliceHn sl22 rfl rfl ha (by omega)) rfl rfl (by kernel_rfl) <| .t 3 rfl (.move rfl) rfl rfl (by kernel_rfl) <| .t 4 rfl (.move rfl) rfl rfl (by kernel_rfl) <| .t 5 rfl (.sliceL sl22 rfl rfl hb hj) rfl rfl (by kernel_rfl) ?_
    refine .one (i := 6) (by kernel_rfl) rfl rfl ?_
    have hoT := ho.takeN (h := i) (by omega)
    refine .appendIn Tryz.underlying22 Tryz.underlying22 sz32 rfl rfl .front hoT (ho.srcFrom .front hj) (by rw [(hd.drop hj).1, List.length_drop]) ((hd.drop (l := j) (by omega)).ones (by decide) (fun _ _ h => nodF_ones h)) (by omega) rfl fun ob26 ho26 => ?_
    refine ⟨.nil, Imm.le_refl _, ?_⟩
    refine .t 7 rfl (.assign rfl) rfl rfl (by kernel_rfl) <| .done (by kernel_rfl) <| .go <| .seq <| .region <| .e (.move rfl) rfl rfl ?_
    refine .e (.move rfl) rfl rfl <| .e (.len sl22 rfl rfl) rfl rfl <| .e (.move rfl) rfl rfl <| .e (.sliceLH sl22 rfl rfl rfl rfl rfl (by omega) (by omega)) rfl rfl <| .on rfl <| .clear Tryz.underlying22 zv32 rfl rfl rfl rfl .front ho26 (Nat.le_refl _) (by omega) (by omega) rfl fun ob33 ho33 => .nil ?_
    refine .go <| .seq <| .region <| .e (.move rfl) rfl rfl <| .e (.assign rfl) rfl rfl <| .nil ?_
    refine .go <| .ret ?_
    refine Post.rets rfl (.tmp rfl .nil) rfl (Imm.le_refl _) (fun w h => h) ?_
    have hlen : (l.take i ++ l.drop j).length = i + (l.length - j) := by rw [List.length_append, List.length_take, List.length_drop]; omega
    exact ⟨rfl, _, ob33, by rw [hlen]; exact ho33, (hd.take (by omega)).append (hd.drop hj), rfl⟩

/-- A keeper's book: its nodes' inner rows were made since J0. -/
structure BkN (J0 I : Imm) (b : Bk) (nv tv bv : Value) (on ot ob : Own) : Prop where
  n : ∃ ws, OwnS 6 nv b.nodes.length ws on ∧ DR (NodF J0) 6 I ws b.nodes
  t : ∃ ws, OwnS 9 tv b.tasks.length ws ot ∧ DR TskR 9 I ws b.tasks
  x : ∃ ws, OwnS 2 bv b.binds.length ws ob ∧ DR BndR 2 I ws b.binds
  fence : U64 b.fence
theorem BkN.of {J0 I : Imm} {b : Bk} {nv tv bv : Value} {on ot ob : Own} (h : BkFO J0 I b nv tv bv on ot ob) : BkN J0 I b nv tv bv on ot ob := by
  obtain ⟨h1, ⟨w2, h3, h4⟩, h5, hf⟩ := h
  exact ⟨h1, ⟨w2, h3, h4.to fun _ _ h => h.tsk⟩, h5, hf⟩
theorem bk0N {J0 I : Imm} : BkN J0 I bk0 (.slice none 0 0) (.slice none 0 0) (.slice none 0 0) [] [] [] := ⟨⟨[], OwnS.nil, DR.nil⟩, ⟨[], OwnS.nil, DR.nil⟩, ⟨[], OwnS.nil, DR.nil⟩, by unfold U64 bk0; decide⟩
def KeepN (J0 : Imm) (kb : Nat) (b : Bk) (I : Imm) (O O' : Own) : Prop := ∃ nv tv bv on ot ob, BkN J0 I b nv tv bv on ot ob ∧ O' = (kb, .cells ⟨b.cells nv tv bv⟩ 66 (0, 0)) :: (on ++ (ot ++ (ob ++ O)))

theorem _root_.Go.Sy.FrK.at_ {k q m cap : Nat} {I0 J : Imm} {ad : Option Addr} (h : FrK k I0 J (.slice ad m cap)) (hq : q < m) : ∃ b cs T, ad = some ⟨b, 0, none⟩ ∧ I0 b = none ∧ J b = some (.cells ⟨cs⟩ T (0, 0)) ∧ m * k ≤ cs.length ∧ m ≤ 9223372036854775807 := by
  rcases h with h | ⟨b, m', cap', cs, T, h, h1, h2, h3, h4, h5⟩
  · cases h; omega
  · cases h
    exact ⟨b, cs, T, rfl, h1, h2, h3, Nat.le_trans h4 h5⟩
/-- Each element's cell p is a row made since I0. -/
def RowY (m p : Nat) (I0 J : Imm) (n : Nat) (ws : List Value) : Prop := ws.length = n * m ∧ ∀ k, k < n → ∃ mv : Value, ws[k * m + p]? = some mv ∧ FrR I0 J mv
theorem RowY.turn {m p n : Nat} {I0 J K : Imm} {ws : List Value} (hT : Turned I0 J K) (h : RowY m p I0 J n ws) : RowY m p I0 K n ws := by
  refine ⟨h.1, fun k hk => ?_⟩
  obtain ⟨mv, h1, h2⟩ := h.2 k hk
  exact ⟨mv, h1, h2.turn hT⟩
theorem row_ne {m p q k j : Nat} (hp : p < m) (hq : q < m) (h : p ≠ q) : k * m + q ≠ j * m + p := fun e => by
  have h1 := congrArg (fun x => x % m) e
  simp only [Nat.mul_comm _ m, Nat.mul_add_mod, Nat.mod_eq_of_lt hp, Nat.mod_eq_of_lt hq] at h1
  exact h h1.symm
theorem RowY.set_ {m p q n k : Nat} {I0 J : Imm} {ws : List Value} (v : Value) (hp : p < m) (hq : q < m) (hpq : p ≠ q) (h : RowY m p I0 J n ws) : RowY m p I0 J n (ws.set (k * m + q) v) := by
  refine ⟨by rw [List.length_set]; exact h.1, fun j hj => ?_⟩
  obtain ⟨mv, h1, h2⟩ := h.2 j hj
  exact ⟨mv, by rw [List.getElem?_set_ne (row_ne hp hq hpq)]; exact h1, h2⟩
theorem RowY.nod {I0 J : Imm} {ws : List Value} {l : List Nod} (h : DR (NodF I0) 6 J ws l) : RowY 6 4 I0 J l.length ws := by
  refine ⟨h.1, fun k hk => ?_⟩
  obtain ⟨lv, tv, e, _, hf, _⟩ := h.2 k l[k] (List.getElem?_eq_getElem hk)
  have := congrArg (fun x : List Value => x[4]?) e
  simp only [List.getElem?_take, List.getElem?_drop, Nod.cells] at this
  exact ⟨lv, by simpa using this, hf⟩
theorem RowY.tsk {I0 J : Imm} {ws : List Value} {l : List Tsk} (h : DR (TskF I0) 9 J ws l) : RowY 9 4 I0 J l.length ws := by
  refine ⟨h.1, fun k hk => ?_⟩
  obtain ⟨lv, tv, e, _, hf, _⟩ := h.2 k l[k] (List.getElem?_eq_getElem hk)
  have := congrArg (fun x : List Value => x[4]?) e
  simp only [List.getElem?_take, List.getElem?_drop, Tsk.cells] at this
  exact ⟨lv, by simpa using this, hf⟩
/-- Each task's rank is a number. -/
def RowZ (n : Nat) (ws : List Value) : Prop := ws.length = n * 9 ∧ ∀ k, k < n → ∃ z : Int, ws[k * 9 + 8]? = some (.int .i64 z)
theorem RowZ.of {J : Imm} {ws : List Value} {l : List Tsk} (h : DR TskR 9 J ws l) : RowZ l.length ws := by
  refine ⟨h.1, fun k hk => ?_⟩
  obtain ⟨wv, bv, e, _, _⟩ := (h.2 k l[k] (List.getElem?_eq_getElem hk)).ex
  have := congrArg (fun x : List Value => x[8]?) e
  simp only [List.getElem?_take, List.getElem?_drop, Tsk.cells] at this
  exact ⟨l[k].rank, by simpa using this⟩
theorem RowZ.set_ {n k : Nat} {ws : List Value} (h : RowZ n ws) (z : Int) : RowZ n (ws.set (k * 9 + 8) (.int .i64 z)) := by
  refine ⟨by rw [List.length_set]; exact h.1, fun j hj => ?_⟩
  obtain ⟨y, h1⟩ := h.2 j hj
  by_cases e : j = k
  · subst e
    have : j * 9 + 8 < ws.length := (List.getElem?_eq_some_iff.1 h1).1
    exact ⟨z, List.getElem?_set_self this⟩
  · exact ⟨y, by rw [List.getElem?_set_ne (by omega)]; exact h1⟩
theorem cellY {cs ws : List Value} {n k p m : Nat} {v : Value} (hw : cs.take (n * m) = ws) (h : ws[k * m + p]? = some v) : cs[0 + k * m + p]? = some v := by
  subst hw
  rw [List.getElem?_take] at h
  split at h
  · rw [Nat.zero_add]; exact h
  · cases h
theorem own_setY {cs ws : List Value} {n k q m cap b : Nat} {T : TypeId} (v : Value) (hw : cs.take (n * m) = ws) (hk : k < n) (hq : q < m) (hn : n ≤ cap) (hc : cs.length = cap * m) (hl : ws.length = n * m) (hm : cap ≤ 9223372036854775807) :
    OwnS m (.slice (some ⟨b, 0, none⟩) n cap) n (ws.set (k * m + q) v) [(b, .cells ⟨setL cs (0 + k * m + q) [v]⟩ T (0, 0))] := by
  have h1 : k * m + m ≤ n * m := by rw [← Nat.succ_mul]; exact Nat.mul_le_mul_right m hk
  have h2 : n * m ≤ cap * m := Nat.mul_le_mul_right m hn
  rw [setL_one (by omega), Nat.zero_add]
  exact .inr ⟨b, cap, _, T, rfl, rfl, hn, by simpa using hc, by rw [List.take_set, hw], by simpa using hl, hm⟩
theorem cell_setY {cs : List Value} {k p q m : Nat} {v mv : Value} (hp : p < m) (hq : q < m) (hpq : p ≠ q) (hb : k * m + q < cs.length) (h : cs[0 + k * m + p]? = some mv) : (setL cs (0 + k * m + q) [v])[0 + k * m + p]? = some mv := by
  simp only [Nat.zero_add] at h ⊢
  rw [setL_one (by omega), List.getElem?_set_ne (row_ne hp hq hpq)]
  exact h

end Go.Proofs.YtajpakifkinadaaGreatDoor
