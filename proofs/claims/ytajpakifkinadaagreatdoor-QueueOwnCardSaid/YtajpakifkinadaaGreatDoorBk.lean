/- Walks of functions over a symbolic memory, printed by a program of the session. -/
import Derived.Test.YtajpakifkinadaaGreatDoorBj
namespace Go.Proofs.YtajpakifkinadaaGreatDoor
open Go.Sy
set_option linter.unusedSimpArgs false
set_option linter.unusedVariables false

set_option maxHeartbeats 1000000 in
set_option maxRecDepth 20000 in
theorem delNod_ok {I : Imm} {O : Own} {ad : Option Addr} {cap : Nat} {l : List Nod} {ws : List Value} {ob : Own} (ho : OwnS 6 (.slice ad l.length cap) l.length ws ob) (hd : DR NodR 6 I ws l) {i j : Nat} (hij : i < j) (hj : j ≤ l.length) {a b : Int} (ha : a = (i : Int)) (hb : b = (j : Int)) :
    Go.Sy.Does Tryz.prog 58 [.slice ad l.length cap, .int .i64 a, .int .i64 b] I (ob ++ O) (fun u I' O' => I' = I ∧ ∃ ws' ob', OwnS 6 u (l.take i ++ l.drop j).length ws' ob' ∧ DR NodR 6 I ws' (l.take i ++ l.drop j) ∧ O' = ob' ++ O) := by
  have hcap := ho.capLe
  refine Go.Sy.Does.enter Tryz.func58 rfl Tryz.ntmps58 rfl ?_
  refine .seq <| .region <| .e (.assign rfl) rfl rfl <| .nil <| .go <| .seq ?_
  refine .region <| .e (.move rfl) rfl rfl <| .e (.move rfl) rfl rfl <| .e (.move rfl) rfl rfl <| .e (.move rfl) rfl rfl <| .e (.len sl22 rfl rfl) rfl rfl ?_
  refine .e (.slice3L sl22 rfl rfl rfl rfl ha hb rfl (by omega) hj hcap) rfl rfl <| .nil <| .go <| .seq <| .seq <| .region ?_
  refine .e (.move rfl) rfl rfl <| .e (.move rfl) rfl rfl <| .e (.eql rfl rfl) rfl rfl <| .nil <| .go ?_
  refine .split 16 rfl (fun h16 => ?_) (fun h16 => ?_)
  · skip
    replace h16 := of_decide_eq_true h16
    exact absurd h16 (by omega)
  · skip
    replace h16 := of_decide_eq_false h16
    refine .cond_false rfl <| .skip <| .go <| .seq <| .region <| .e (.move rfl) rfl rfl ?_
    refine .e (.len sl22 rfl rfl) rfl rfl <| .e (.assign rfl) rfl rfl <| .nil <| .go <| .seq ?_
    refine .draw [] mixed .nil ?_
    refine .t 0 rfl (.move rfl) rfl rfl (by kernel_rfl) <| .t 1 rfl (.move rfl) rfl rfl (by kernel_rfl) <| .t 2 rfl (.sliceHn sl22 rfl rfl ha (by omega)) rfl rfl (by kernel_rfl) <| .t 3 rfl (.move rfl) rfl rfl (by kernel_rfl) <| .t 4 rfl (.move rfl) rfl rfl (by kernel_rfl) <| .t 5 rfl (.sliceL sl22 rfl rfl hb hj) rfl rfl (by kernel_rfl) ?_
    refine .one (i := 6) (by kernel_rfl) rfl rfl ?_
    have hoT := ho.takeN (h := i) (by omega)
    refine .appendIn Tryz.underlying22 Tryz.underlying22 sz32 rfl rfl .front hoT (ho.srcFrom .front hj) (by rw [(hd.drop hj).1, List.length_drop]) ((hd.drop (l := j) (by omega)).ones (by decide) (fun _ _ h => NodR.ones h)) (by omega) rfl fun ob26 ho26 => ?_
    refine ⟨.nil, Imm.le_refl _, ?_⟩
    refine .t 7 rfl (.assign rfl) rfl rfl (by kernel_rfl) <| .done (by kernel_rfl) <| .go <| .seq <| .region <| .e (.move rfl) rfl rfl ?_
    refine .e (.move rfl) rfl rfl <| .e (.len sl22 rfl rfl) rfl rfl <| .e (.move rfl) rfl rfl <| .e (.sliceLH sl22 rfl rfl rfl rfl rfl (by omega) (by omega)) rfl rfl <| .on rfl <| .clear Tryz.underlying22 zv32 rfl rfl rfl rfl .front ho26 (Nat.le_refl _) (by omega) (by omega) rfl fun ob33 ho33 => .nil ?_
    refine .go <| .seq <| .region <| .e (.move rfl) rfl rfl <| .e (.assign rfl) rfl rfl <| .nil ?_
    refine .go <| .ret ?_
    refine Post.rets rfl (.tmp rfl .nil) rfl (Imm.le_refl _) (fun w h => h) ?_
    have hlen : (l.take i ++ l.drop j).length = i + (l.length - j) := by rw [List.length_append, List.length_take, List.length_drop]; omega
    exact ⟨rfl, _, ob33, by rw [hlen]; exact ho33, (hd.take (by omega)).append (hd.drop hj), rfl⟩

set_option maxHeartbeats 1000000 in
set_option maxRecDepth 20000 in
theorem delTsk_ok {I : Imm} {O : Own} {ad : Option Addr} {cap : Nat} {l : List Tsk} {ws : List Value} {ob : Own} (ho : OwnS 9 (.slice ad l.length cap) l.length ws ob) (hd : DR TskR 9 I ws l) {i j : Nat} (hij : i < j) (hj : j ≤ l.length) {a b : Int} (ha : a = (i : Int)) (hb : b = (j : Int)) :
    Go.Sy.Does Tryz.prog 63 [.slice ad l.length cap, .int .i64 a, .int .i64 b] I (ob ++ O) (fun u I' O' => I' = I ∧ ∃ ws' ob', OwnS 9 u (l.take i ++ l.drop j).length ws' ob' ∧ DR TskR 9 I ws' (l.take i ++ l.drop j) ∧ O' = ob' ++ O) := by
  have hcap := ho.capLe
  refine Go.Sy.Does.enter Tryz.func63 rfl Tryz.ntmps63 rfl ?_
  refine .seq <| .region <| .e (.assign rfl) rfl rfl <| .nil <| .go <| .seq ?_
  refine .region <| .e (.move rfl) rfl rfl <| .e (.move rfl) rfl rfl <| .e (.move rfl) rfl rfl <| .e (.move rfl) rfl rfl <| .e (.len sl23 rfl rfl) rfl rfl ?_
  refine .e (.slice3L sl23 rfl rfl rfl rfl ha hb rfl (by omega) hj hcap) rfl rfl <| .nil <| .go <| .seq <| .seq <| .region ?_
  refine .e (.move rfl) rfl rfl <| .e (.move rfl) rfl rfl <| .e (.eql rfl rfl) rfl rfl <| .nil <| .go ?_
  refine .split 16 rfl (fun h16 => ?_) (fun h16 => ?_)
  · skip
    replace h16 := of_decide_eq_true h16
    exact absurd h16 (by omega)
  · skip
    replace h16 := of_decide_eq_false h16
    refine .cond_false rfl <| .skip <| .go <| .seq <| .region <| .e (.move rfl) rfl rfl ?_
    refine .e (.len sl23 rfl rfl) rfl rfl <| .e (.assign rfl) rfl rfl <| .nil <| .go <| .seq ?_
    refine .draw [] mixed .nil ?_
    refine .t 0 rfl (.move rfl) rfl rfl (by kernel_rfl) <| .t 1 rfl (.move rfl) rfl rfl (by kernel_rfl) <| .t 2 rfl (.sliceHn sl23 rfl rfl ha (by omega)) rfl rfl (by kernel_rfl) <| .t 3 rfl (.move rfl) rfl rfl (by kernel_rfl) <| .t 4 rfl (.move rfl) rfl rfl (by kernel_rfl) <| .t 5 rfl (.sliceL sl23 rfl rfl hb hj) rfl rfl (by kernel_rfl) ?_
    refine .one (i := 6) (by kernel_rfl) rfl rfl ?_
    have hoT := ho.takeN (h := i) (by omega)
    refine .appendIn Tryz.underlying23 Tryz.underlying23 sz34 rfl rfl .front hoT (ho.srcFrom .front hj) (by rw [(hd.drop hj).1, List.length_drop]) ((hd.drop (l := j) (by omega)).ones (by decide) (fun _ _ h => TskR.ones h)) (by omega) rfl fun ob26 ho26 => ?_
    refine ⟨.nil, Imm.le_refl _, ?_⟩
    refine .t 7 rfl (.assign rfl) rfl rfl (by kernel_rfl) <| .done (by kernel_rfl) <| .go <| .seq <| .region <| .e (.move rfl) rfl rfl ?_
    refine .e (.move rfl) rfl rfl <| .e (.len sl23 rfl rfl) rfl rfl <| .e (.move rfl) rfl rfl <| .e (.sliceLH sl23 rfl rfl rfl rfl rfl (by omega) (by omega)) rfl rfl <| .on rfl <| .clear Tryz.underlying23 zv34 rfl rfl rfl rfl .front ho26 (Nat.le_refl _) (by omega) (by omega) rfl fun ob33 ho33 => .nil ?_
    refine .go <| .seq <| .region <| .e (.move rfl) rfl rfl <| .e (.assign rfl) rfl rfl <| .nil ?_
    refine .go <| .ret ?_
    refine Post.rets rfl (.tmp rfl .nil) rfl (Imm.le_refl _) (fun w h => h) ?_
    have hlen : (l.take i ++ l.drop j).length = i + (l.length - j) := by rw [List.length_append, List.length_take, List.length_drop]; omega
    exact ⟨rfl, _, ob33, by rw [hlen]; exact ho33, (hd.take (by omega)).append (hd.drop hj), rfl⟩

set_option maxHeartbeats 1000000 in
set_option maxRecDepth 20000 in
theorem delBnd_ok {I : Imm} {O : Own} {ad : Option Addr} {cap : Nat} {l : List Bnd} {ws : List Value} {ob : Own} (ho : OwnS 2 (.slice ad l.length cap) l.length ws ob) (hd : DR BndR 2 I ws l) {i j : Nat} (hij : i < j) (hj : j ≤ l.length) {a b : Int} (ha : a = (i : Int)) (hb : b = (j : Int)) :
    Go.Sy.Does Tryz.prog 98 [.slice ad l.length cap, .int .i64 a, .int .i64 b] I (ob ++ O) (fun u I' O' => I' = I ∧ ∃ ws' ob', OwnS 2 u (l.take i ++ l.drop j).length ws' ob' ∧ DR BndR 2 I ws' (l.take i ++ l.drop j) ∧ O' = ob' ++ O) := by
  have hcap := ho.capLe
  refine Go.Sy.Does.enter Tryz.func98 rfl Tryz.ntmps98 rfl ?_
  refine .seq <| .region <| .e (.assign rfl) rfl rfl <| .nil <| .go <| .seq ?_
  refine .region <| .e (.move rfl) rfl rfl <| .e (.move rfl) rfl rfl <| .e (.move rfl) rfl rfl <| .e (.move rfl) rfl rfl <| .e (.len sl24 rfl rfl) rfl rfl ?_
  refine .e (.slice3L sl24 rfl rfl rfl rfl ha hb rfl (by omega) hj hcap) rfl rfl <| .nil <| .go <| .seq <| .seq <| .region ?_
  refine .e (.move rfl) rfl rfl <| .e (.move rfl) rfl rfl <| .e (.eql rfl rfl) rfl rfl <| .nil <| .go ?_
  refine .split 16 rfl (fun h16 => ?_) (fun h16 => ?_)
  · skip
    replace h16 := of_decide_eq_true h16
    exact absurd h16 (by omega)
  · skip
    replace h16 := of_decide_eq_false h16
    refine .cond_false rfl <| .skip <| .go <| .seq <| .region <| .e (.move rfl) rfl rfl ?_
    refine .e (.len sl24 rfl rfl) rfl rfl <| .e (.assign rfl) rfl rfl <| .nil <| .go <| .seq ?_
    refine .draw [] mixed .nil ?_
    refine .t 0 rfl (.move rfl) rfl rfl (by kernel_rfl) <| .t 1 rfl (.move rfl) rfl rfl (by kernel_rfl) <| .t 2 rfl (.sliceHn sl24 rfl rfl ha (by omega)) rfl rfl (by kernel_rfl) <| .t 3 rfl (.move rfl) rfl rfl (by kernel_rfl) <| .t 4 rfl (.move rfl) rfl rfl (by kernel_rfl) <| .t 5 rfl (.sliceL sl24 rfl rfl hb hj) rfl rfl (by kernel_rfl) ?_
    refine .one (i := 6) (by kernel_rfl) rfl rfl ?_
    have hoT := ho.takeN (h := i) (by omega)
    refine .appendIn Tryz.underlying24 Tryz.underlying24 sz47 rfl rfl .front hoT (ho.srcFrom .front hj) (by rw [(hd.drop hj).1, List.length_drop]) ((hd.drop (l := j) (by omega)).ones (by decide) (fun _ _ h => BndR.ones h)) (by omega) rfl fun ob26 ho26 => ?_
    refine ⟨.nil, Imm.le_refl _, ?_⟩
    refine .t 7 rfl (.assign rfl) rfl rfl (by kernel_rfl) <| .done (by kernel_rfl) <| .go <| .seq <| .region <| .e (.move rfl) rfl rfl ?_
    refine .e (.move rfl) rfl rfl <| .e (.len sl24 rfl rfl) rfl rfl <| .e (.move rfl) rfl rfl <| .e (.sliceLH sl24 rfl rfl rfl rfl rfl (by omega) (by omega)) rfl rfl <| .on rfl <| .clear Tryz.underlying24 zv47 rfl rfl rfl rfl .front ho26 (Nat.le_refl _) (by omega) (by omega) rfl fun ob33 ho33 => .nil ?_
    refine .go <| .seq <| .region <| .e (.move rfl) rfl rfl <| .e (.assign rfl) rfl rfl <| .nil ?_
    refine .go <| .ret ?_
    refine Post.rets rfl (.tmp rfl .nil) rfl (Imm.le_refl _) (fun w h => h) ?_
    have hlen : (l.take i ++ l.drop j).length = i + (l.length - j) := by rw [List.length_append, List.length_take, List.length_drop]; omega
    exact ⟨rfl, _, ob33, by rw [hlen]; exact ho33, (hd.take (by omega)).append (hd.drop hj), rfl⟩

structure BkO (I : Imm) (b : Bk) (nv tv bv : Value) (on ot ob : Own) : Prop where
  n : ∃ ws, OwnS 6 nv b.nodes.length ws on ∧ DR NodR 6 I ws b.nodes
  t : ∃ ws, OwnS 9 tv b.tasks.length ws ot ∧ DR TskR 9 I ws b.tasks
  x : ∃ ws, OwnS 2 bv b.binds.length ws ob ∧ DR BndR 2 I ws b.binds
  fence : U64 b.fence
theorem BkO.mono {I J : Imm} {b : Bk} {nv tv bv : Value} {on ot ob : Own} (hI : I.le J) (h : BkO I b nv tv bv on ot ob) : BkO J b nv tv bv on ot ob := by
  obtain ⟨⟨w1, h1, h2⟩, ⟨w2, h3, h4⟩, ⟨w3, h5, h6⟩, hf⟩ := h
  exact ⟨⟨w1, h1, h2.mono fun _ _ h => h.mono hI⟩, ⟨w2, h3, h4.mono fun _ _ h => h.mono hI⟩, ⟨w3, h5, h6.mono fun _ _ h => h⟩, hf⟩
structure BkG where
  nv : Value
  tv : Value
  bv : Value
  wn : List Value
  wt : List Value
  wb : List Value
  on : Own
  ot : Own
  ob : Own
structure BkGR (I : Imm) (b : Bk) (g : BkG) : Prop where
  n : OwnS 6 g.nv b.nodes.length g.wn g.on
  dn : DR NodR 6 I g.wn b.nodes
  t : OwnS 9 g.tv b.tasks.length g.wt g.ot
  dt : DR TskR 9 I g.wt b.tasks
  x : OwnS 2 g.bv b.binds.length g.wb g.ob
  db : DR BndR 2 I g.wb b.binds

set_option maxHeartbeats 1000000 in
set_option maxRecDepth 20000 in
theorem ownNode_ok {I : Imm} {O : Own} {nc : List Value} {n : Nod} (hn : NodR I nc n) (hL1 : n.labels.length * 32 ≤ 140737488351232) (hL2 : n.taints.length * 32 ≤ 140737488351232) :
    Go.Sy.Does Tryz.prog 51 [.agg ⟨nc⟩] I O (fun u I' O' => ∃ cs, u = .agg ⟨cs⟩ ∧ NodR I' cs n ∧ O' = O) := by
  have hn0 := hn
  obtain ⟨nl, nt, rfl, hnl, hnt⟩ := hn.ex
  have hnl0 := hnl
  obtain ⟨la, lcap, rfl, hl1, hl2, -⟩ := hnl
  have hnt0 := hnt
  obtain ⟨ta, tcap, rfl, ht1, ht2, -⟩ := hnt
  refine Go.Sy.Does.enter Tryz.func51 rfl Tryz.ntmps51 rfl ?_
  refine .seq <| .region <| .on rfl <| .box rfl rfl rfl fun c1 _ _ => .on rfl <| .alloc zr32 rfl fun c2 _ _ => .nil <| .go ?_
  refine .seq ?_
  refine .draw [] mixed .nil ?_
  refine .t 0 rfl (.fieldAddr fo32_2 rfl) rfl rfl (by kernel_rfl) <| .t 3 rfl (.fieldAddr fo32_3 rfl) rfl rfl (by kernel_rfl) ?_
  refine .all (rs := [1, 4]) (by kernel_rfl) (by simp) ⟨⟨_, rfl, .inl ⟨rfl, ?_⟩⟩, ⟨⟨_, rfl, .inl ⟨rfl, ?_⟩⟩, trivial⟩⟩
  · skip
    refine .ev (.load ag30 rfl (.there <| .here) rfl) rfl ⟨.nil, Imm.le_refl _, ?_⟩
    refine .all (rs := [2, 4]) (by kernel_rfl) (by simp) ⟨⟨_, rfl, .inl ⟨rfl, ?_⟩⟩, ⟨⟨_, rfl, .inl ⟨rfl, ?_⟩⟩, trivial⟩⟩
    · skip
      refine .call cal89 rfl rfl rfl (clonePr_ok hnl0 hL1) fun v5 I5 O5 hI5 hK5 => ?_
      obtain ⟨hq5, ws5, ob5, ho5, hd5, rfl⟩ := hK5
      replace hq5 := hq5.symm
      subst hq5
      obtain ⟨ad5, cap5, rfl⟩ := ho5.form
      refine ⟨.nil, Imm.le_refl _, ?_⟩
      refine .one (i := 4) (by kernel_rfl) rfl rfl ?_
      refine .ev (.load ag30 rfl (.app <| .there <| .here) rfl) rfl ⟨.nil, Imm.le_refl _, ?_⟩
      refine .t 6 rfl (.fieldAddr fo32_2 rfl) rfl rfl (by kernel_rfl) <| .one (i := 5) (by kernel_rfl) rfl rfl <| .call cal89 rfl rfl rfl (clonePr_ok hnt0 hL2) fun v8 I8 O8 hI8 hK8 => ?_
      obtain ⟨hq8, ws8, ob8, ho8, hd8, rfl⟩ := hK8
      replace hq8 := hq8.symm
      subst hq8
      obtain ⟨ad8, cap8, rfl⟩ := ho8.form
      refine ⟨.nil, Imm.le_refl _, ?_⟩
      refine .front (.app <| .front) ?_
      refine .freezeS ho5 fun K hK hKs => ?_
      have hy5 : PrsR K _ n.labels := hKs (R := PrR) (hd5.mono fun _ _ h => h) rfl
      refine .freezeS ho8 fun M hM hMs => ?_
      have hy8 : PrsR M _ n.taints := hMs (R := PrR) (hd8.mono fun _ _ h => h) rfl
      refine .one (i := 7) (by kernel_rfl) rfl rfl <| .store sz30 rfl rfl rfl rfl rfl rfl (.there <| .here) ?_
      refine ⟨.nil, (Imm.le_trans hK hM), ?_⟩
      refine .t 8 rfl (.fieldAddr fo32_3 rfl) rfl rfl (by kernel_rfl) <| .late (i := 9) (by kernel_rfl) (by kernel_rfl) (by kernel_rfl) rfl rfl <| .store sz30 rfl rfl rfl rfl rfl rfl (.there <| .here) <| .go <| .seq <| .region <| .e (.loadW ag32 sz32 rfl (.there <| .here) rfl) rfl rfl ?_
      refine .on rfl <| .storeW sz32 rfl rfl rfl rfl rfl rfl .here <| .nil <| .go <| .ret ?_
      refine Post.rets rfl (.agg rfl ag32 sz32 .here rfl .nil) rfl (Imm.le_trans hK hM) (fun w h => (Sat.tail (Sat.tail h))) ?_
      exact ⟨_, rfl, ⟨⟨_, _, rfl, hy5.mono hM, hy8⟩, hn0.name, hn0.has⟩, rfl⟩
    · skip
      refine .ev (.load ag30 rfl (.there <| .here) rfl) rfl ⟨.nil, Imm.le_refl _, ?_⟩
      refine .one (i := 2) (by kernel_rfl) rfl rfl <| .call cal89 rfl rfl rfl (clonePr_ok hnl0 hL1) fun v5 I5 O5 hI5 hK5 => ?_
      obtain ⟨hq5, ws5, ob5, ho5, hd5, rfl⟩ := hK5
      replace hq5 := hq5.symm
      subst hq5
      obtain ⟨ad5, cap5, rfl⟩ := ho5.form
      refine ⟨.nil, Imm.le_refl _, ?_⟩
      refine .t 6 rfl (.fieldAddr fo32_2 rfl) rfl rfl (by kernel_rfl) <| .one (i := 5) (by kernel_rfl) rfl rfl <| .call cal89 rfl rfl rfl (clonePr_ok hnt0 hL2) fun v8 I8 O8 hI8 hK8 => ?_
      obtain ⟨hq8, ws8, ob8, ho8, hd8, rfl⟩ := hK8
      replace hq8 := hq8.symm
      subst hq8
      obtain ⟨ad8, cap8, rfl⟩ := ho8.form
      refine ⟨.nil, Imm.le_refl _, ?_⟩
      refine .front (.app <| .front) ?_
      refine .freezeS ho5 fun K hK hKs => ?_
      have hy5 : PrsR K _ n.labels := hKs (R := PrR) (hd5.mono fun _ _ h => h) rfl
      refine .freezeS ho8 fun M hM hMs => ?_
      have hy8 : PrsR M _ n.taints := hMs (R := PrR) (hd8.mono fun _ _ h => h) rfl
      refine .one (i := 7) (by kernel_rfl) rfl rfl <| .store sz30 rfl rfl rfl rfl rfl rfl (.there <| .here) ?_
      refine ⟨.nil, (Imm.le_trans hK hM), ?_⟩
      refine .t 8 rfl (.fieldAddr fo32_3 rfl) rfl rfl (by kernel_rfl) <| .late (i := 9) (by kernel_rfl) (by kernel_rfl) (by kernel_rfl) rfl rfl <| .store sz30 rfl rfl rfl rfl rfl rfl (.there <| .here) <| .go <| .seq <| .region <| .e (.loadW ag32 sz32 rfl (.there <| .here) rfl) rfl rfl ?_
      refine .on rfl <| .storeW sz32 rfl rfl rfl rfl rfl rfl .here <| .nil <| .go <| .ret ?_
      refine Post.rets rfl (.agg rfl ag32 sz32 .here rfl .nil) rfl (Imm.le_trans hK hM) (fun w h => (Sat.tail (Sat.tail h))) ?_
      exact ⟨_, rfl, ⟨⟨_, _, rfl, hy5.mono hM, hy8⟩, hn0.name, hn0.has⟩, rfl⟩
  · skip
    refine .ev (.load ag30 rfl (.there <| .here) rfl) rfl ⟨.nil, Imm.le_refl _, ?_⟩
    refine .one (i := 1) (by kernel_rfl) rfl rfl ?_
    refine .ev (.load ag30 rfl (.there <| .here) rfl) rfl ⟨.nil, Imm.le_refl _, ?_⟩
    refine .one (i := 2) (by kernel_rfl) rfl rfl <| .call cal89 rfl rfl rfl (clonePr_ok hnl0 hL1) fun v5 I5 O5 hI5 hK5 => ?_
    obtain ⟨hq5, ws5, ob5, ho5, hd5, rfl⟩ := hK5
    replace hq5 := hq5.symm
    subst hq5
    obtain ⟨ad5, cap5, rfl⟩ := ho5.form
    refine ⟨.nil, Imm.le_refl _, ?_⟩
    refine .t 6 rfl (.fieldAddr fo32_2 rfl) rfl rfl (by kernel_rfl) <| .one (i := 5) (by kernel_rfl) rfl rfl <| .call cal89 rfl rfl rfl (clonePr_ok hnt0 hL2) fun v8 I8 O8 hI8 hK8 => ?_
    obtain ⟨hq8, ws8, ob8, ho8, hd8, rfl⟩ := hK8
    replace hq8 := hq8.symm
    subst hq8
    obtain ⟨ad8, cap8, rfl⟩ := ho8.form
    refine ⟨.nil, Imm.le_refl _, ?_⟩
    refine .front (.app <| .front) ?_
    refine .freezeS ho5 fun K hK hKs => ?_
    have hy5 : PrsR K _ n.labels := hKs (R := PrR) (hd5.mono fun _ _ h => h) rfl
    refine .freezeS ho8 fun M hM hMs => ?_
    have hy8 : PrsR M _ n.taints := hMs (R := PrR) (hd8.mono fun _ _ h => h) rfl
    refine .one (i := 7) (by kernel_rfl) rfl rfl <| .store sz30 rfl rfl rfl rfl rfl rfl (.there <| .here) ?_
    refine ⟨.nil, (Imm.le_trans hK hM), ?_⟩
    refine .t 8 rfl (.fieldAddr fo32_3 rfl) rfl rfl (by kernel_rfl) <| .late (i := 9) (by kernel_rfl) (by kernel_rfl) (by kernel_rfl) rfl rfl <| .store sz30 rfl rfl rfl rfl rfl rfl (.there <| .here) <| .go <| .seq <| .region <| .e (.loadW ag32 sz32 rfl (.there <| .here) rfl) rfl rfl ?_
    refine .on rfl <| .storeW sz32 rfl rfl rfl rfl rfl rfl .here <| .nil <| .go <| .ret ?_
    refine Post.rets rfl (.agg rfl ag32 sz32 .here rfl .nil) rfl (Imm.le_trans hK hM) (fun w h => (Sat.tail (Sat.tail h))) ?_
    exact ⟨_, rfl, ⟨⟨_, _, rfl, hy5.mono hM, hy8⟩, hn0.name, hn0.has⟩, rfl⟩

set_option maxHeartbeats 1000000 in
set_option maxRecDepth 20000 in
theorem ownTask_ok {I : Imm} {O : Own} {tc : List Value} {t : Tsk} (ht : TskR I tc t) (hL1 : t.wants.length * 32 ≤ 140737488351232) (hL2 : t.bears.length * 32 ≤ 140737488351232) :
    Go.Sy.Does Tryz.prog 52 [.agg ⟨tc⟩] I O (fun u I' O' => ∃ cs, u = .agg ⟨cs⟩ ∧ TskR I' cs t ∧ O' = O) := by
  have ht0 := ht
  obtain ⟨tw, tb, rfl, htw, htb⟩ := ht.ex
  have htw0 := htw
  obtain ⟨wa, wcap, rfl, hw1, hw2, -⟩ := htw
  have htb0 := htb
  obtain ⟨ba, bcap, rfl, hb1, hb2, -⟩ := htb
  refine Go.Sy.Does.enter Tryz.func52 rfl Tryz.ntmps52 rfl ?_
  refine .seq <| .region <| .on rfl <| .box rfl rfl rfl fun c1 _ _ => .on rfl <| .alloc zr34 rfl fun c2 _ _ => .nil <| .go ?_
  refine .seq ?_
  refine .draw [] mixed .nil ?_
  refine .t 0 rfl (.fieldAddr fo34_2 rfl) rfl rfl (by kernel_rfl) <| .t 3 rfl (.fieldAddr fo34_3 rfl) rfl rfl (by kernel_rfl) ?_
  refine .all (rs := [1, 4]) (by kernel_rfl) (by simp) ⟨⟨_, rfl, .inl ⟨rfl, ?_⟩⟩, ⟨⟨_, rfl, .inl ⟨rfl, ?_⟩⟩, trivial⟩⟩
  · skip
    refine .ev (.load ag30 rfl (.there <| .here) rfl) rfl ⟨.nil, Imm.le_refl _, ?_⟩
    refine .all (rs := [2, 4]) (by kernel_rfl) (by simp) ⟨⟨_, rfl, .inl ⟨rfl, ?_⟩⟩, ⟨⟨_, rfl, .inl ⟨rfl, ?_⟩⟩, trivial⟩⟩
    · skip
      refine .call cal89 rfl rfl rfl (clonePr_ok htw0 hL1) fun v5 I5 O5 hI5 hK5 => ?_
      obtain ⟨hq5, ws5, ob5, ho5, hd5, rfl⟩ := hK5
      replace hq5 := hq5.symm
      subst hq5
      obtain ⟨ad5, cap5, rfl⟩ := ho5.form
      refine ⟨.nil, Imm.le_refl _, ?_⟩
      refine .one (i := 4) (by kernel_rfl) rfl rfl ?_
      refine .ev (.load ag30 rfl (.app <| .there <| .here) rfl) rfl ⟨.nil, Imm.le_refl _, ?_⟩
      refine .t 6 rfl (.fieldAddr fo34_2 rfl) rfl rfl (by kernel_rfl) <| .one (i := 5) (by kernel_rfl) rfl rfl <| .call cal89 rfl rfl rfl (clonePr_ok htb0 hL2) fun v8 I8 O8 hI8 hK8 => ?_
      obtain ⟨hq8, ws8, ob8, ho8, hd8, rfl⟩ := hK8
      replace hq8 := hq8.symm
      subst hq8
      obtain ⟨ad8, cap8, rfl⟩ := ho8.form
      refine ⟨.nil, Imm.le_refl _, ?_⟩
      refine .front (.app <| .front) ?_
      refine .freezeS ho5 fun K hK hKs => ?_
      have hy5 : PrsR K _ t.wants := hKs (R := PrR) (hd5.mono fun _ _ h => h) rfl
      refine .freezeS ho8 fun M hM hMs => ?_
      have hy8 : PrsR M _ t.bears := hMs (R := PrR) (hd8.mono fun _ _ h => h) rfl
      refine .one (i := 7) (by kernel_rfl) rfl rfl <| .store sz30 rfl rfl rfl rfl rfl rfl (.there <| .here) ?_
      refine ⟨.nil, (Imm.le_trans hK hM), ?_⟩
      refine .t 8 rfl (.fieldAddr fo34_3 rfl) rfl rfl (by kernel_rfl) <| .late (i := 9) (by kernel_rfl) (by kernel_rfl) (by kernel_rfl) rfl rfl <| .store sz30 rfl rfl rfl rfl rfl rfl (.there <| .here) <| .go <| .seq <| .region <| .e (.loadW ag34 sz34 rfl (.there <| .here) rfl) rfl rfl ?_
      refine .on rfl <| .storeW sz34 rfl rfl rfl rfl rfl rfl .here <| .nil <| .go <| .ret ?_
      refine Post.rets rfl (.agg rfl ag34 sz34 .here rfl .nil) rfl (Imm.le_trans hK hM) (fun w h => (Sat.tail (Sat.tail h))) ?_
      exact ⟨_, rfl, ⟨⟨_, _, rfl, hy5.mono hM, hy8⟩, ht0.name, ht0.needs, ht0.group, ht0.apart, ht0.rank⟩, rfl⟩
    · skip
      refine .ev (.load ag30 rfl (.there <| .here) rfl) rfl ⟨.nil, Imm.le_refl _, ?_⟩
      refine .one (i := 2) (by kernel_rfl) rfl rfl <| .call cal89 rfl rfl rfl (clonePr_ok htw0 hL1) fun v5 I5 O5 hI5 hK5 => ?_
      obtain ⟨hq5, ws5, ob5, ho5, hd5, rfl⟩ := hK5
      replace hq5 := hq5.symm
      subst hq5
      obtain ⟨ad5, cap5, rfl⟩ := ho5.form
      refine ⟨.nil, Imm.le_refl _, ?_⟩
      refine .t 6 rfl (.fieldAddr fo34_2 rfl) rfl rfl (by kernel_rfl) <| .one (i := 5) (by kernel_rfl) rfl rfl <| .call cal89 rfl rfl rfl (clonePr_ok htb0 hL2) fun v8 I8 O8 hI8 hK8 => ?_
      obtain ⟨hq8, ws8, ob8, ho8, hd8, rfl⟩ := hK8
      replace hq8 := hq8.symm
      subst hq8
      obtain ⟨ad8, cap8, rfl⟩ := ho8.form
      refine ⟨.nil, Imm.le_refl _, ?_⟩
      refine .front (.app <| .front) ?_
      refine .freezeS ho5 fun K hK hKs => ?_
      have hy5 : PrsR K _ t.wants := hKs (R := PrR) (hd5.mono fun _ _ h => h) rfl
      refine .freezeS ho8 fun M hM hMs => ?_
      have hy8 : PrsR M _ t.bears := hMs (R := PrR) (hd8.mono fun _ _ h => h) rfl
      refine .one (i := 7) (by kernel_rfl) rfl rfl <| .store sz30 rfl rfl rfl rfl rfl rfl (.there <| .here) ?_
      refine ⟨.nil, (Imm.le_trans hK hM), ?_⟩
      refine .t 8 rfl (.fieldAddr fo34_3 rfl) rfl rfl (by kernel_rfl) <| .late (i := 9) (by kernel_rfl) (by kernel_rfl) (by kernel_rfl) rfl rfl <| .store sz30 rfl rfl rfl rfl rfl rfl (.there <| .here) <| .go <| .seq <| .region <| .e (.loadW ag34 sz34 rfl (.there <| .here) rfl) rfl rfl ?_
      refine .on rfl <| .storeW sz34 rfl rfl rfl rfl rfl rfl .here <| .nil <| .go <| .ret ?_
      refine Post.rets rfl (.agg rfl ag34 sz34 .here rfl .nil) rfl (Imm.le_trans hK hM) (fun w h => (Sat.tail (Sat.tail h))) ?_
      exact ⟨_, rfl, ⟨⟨_, _, rfl, hy5.mono hM, hy8⟩, ht0.name, ht0.needs, ht0.group, ht0.apart, ht0.rank⟩, rfl⟩
  · skip
    refine .ev (.load ag30 rfl (.there <| .here) rfl) rfl ⟨.nil, Imm.le_refl _, ?_⟩
    refine .one (i := 1) (by kernel_rfl) rfl rfl ?_
    refine .ev (.load ag30 rfl (.there <| .here) rfl) rfl ⟨.nil, Imm.le_refl _, ?_⟩
    refine .one (i := 2) (by kernel_rfl) rfl rfl <| .call cal89 rfl rfl rfl (clonePr_ok htw0 hL1) fun v5 I5 O5 hI5 hK5 => ?_
    obtain ⟨hq5, ws5, ob5, ho5, hd5, rfl⟩ := hK5
    replace hq5 := hq5.symm
    subst hq5
    obtain ⟨ad5, cap5, rfl⟩ := ho5.form
    refine ⟨.nil, Imm.le_refl _, ?_⟩
    refine .t 6 rfl (.fieldAddr fo34_2 rfl) rfl rfl (by kernel_rfl) <| .one (i := 5) (by kernel_rfl) rfl rfl <| .call cal89 rfl rfl rfl (clonePr_ok htb0 hL2) fun v8 I8 O8 hI8 hK8 => ?_
    obtain ⟨hq8, ws8, ob8, ho8, hd8, rfl⟩ := hK8
    replace hq8 := hq8.symm
    subst hq8
    obtain ⟨ad8, cap8, rfl⟩ := ho8.form
    refine ⟨.nil, Imm.le_refl _, ?_⟩
    refine .front (.app <| .front) ?_
    refine .freezeS ho5 fun K hK hKs => ?_
    have hy5 : PrsR K _ t.wants := hKs (R := PrR) (hd5.mono fun _ _ h => h) rfl
    refine .freezeS ho8 fun M hM hMs => ?_
    have hy8 : PrsR M _ t.bears := hMs (R := PrR) (hd8.mono fun _ _ h => h) rfl
    refine .one (i := 7) (by kernel_rfl) rfl rfl <| .store sz30 rfl rfl rfl rfl rfl rfl (.there <| .here) ?_
    refine ⟨.nil, (Imm.le_trans hK hM), ?_⟩
    refine .t 8 rfl (.fieldAddr fo34_3 rfl) rfl rfl (by kernel_rfl) <| .late (i := 9) (by kernel_rfl) (by kernel_rfl) (by kernel_rfl) rfl rfl <| .store sz30 rfl rfl rfl rfl rfl rfl (.there <| .here) <| .go <| .seq <| .region <| .e (.loadW ag34 sz34 rfl (.there <| .here) rfl) rfl rfl ?_
    refine .on rfl <| .storeW sz34 rfl rfl rfl rfl rfl rfl .here <| .nil <| .go <| .ret ?_
    refine Post.rets rfl (.agg rfl ag34 sz34 .here rfl .nil) rfl (Imm.le_trans hK hM) (fun w h => (Sat.tail (Sat.tail h))) ?_
    exact ⟨_, rfl, ⟨⟨_, _, rfl, hy5.mono hM, hy8⟩, ht0.name, ht0.needs, ht0.group, ht0.apart, ht0.rank⟩, rfl⟩

end Go.Proofs.YtajpakifkinadaaGreatDoor
