/- Walks of functions over a symbolic memory, printed by a program of the session. -/
import Derived.Test.YtajpakifkinadaaGreatDoorVq
import Derived.Test.YtajpakifkinadaaGreatDoorQe
import Derived.Test.YtajpakifkinadaaGreatDoorOpe2
namespace Go.Proofs.YtajpakifkinadaaGreatDoor
open Go.Sy
set_option linter.unusedSimpArgs false
set_option linter.unusedVariables false

set_option maxHeartbeats 1000000 in
set_option maxRecDepth 20000 in
theorem rCopyNode_ok {I : Imm} {O : Own} {nc : List Value} {n : Nod} (hn : NodR I nc n) (hL1 : n.labels.length * 32 ≤ 140737488351232) (hL2 : n.taints.length * 32 ≤ 140737488351232) :
    Go.Sy.Does Tryz.prog 13 [.agg ⟨nc⟩] I O (fun u I' O' => ∃ cs, u = .agg ⟨cs⟩ ∧ NodR I' cs n ∧ O' = O) := by
  have hn0 := hn
  obtain ⟨nl, nt, rfl, hnl, hnt⟩ := hn.ex
  have hnl0 := hnl
  obtain ⟨la, lcap, rfl, hl1, hl2, -⟩ := hnl
  have hnt0 := hnt
  obtain ⟨ta, tcap, rfl, ht1, ht2, -⟩ := hnt
  obtain ⟨wsA, hsA, hdA⟩ := SlR.src (B := []) (fun _ _ h => prLen h) hnl0
  refine Go.Sy.Does.enter Tryz.func13 rfl Tryz.ntmps13 rfl ?_
  refine .seq <| .region <| .on rfl <| .box rfl rfl rfl fun c1 _ _ => .on rfl <| .alloc zr32 rfl fun c2 _ _ => .nil <| .go ?_
  refine .seq <| .region <| .on rfl <| .buildSlice Tryz.underlying30 sz45 (by decide) (by decide) zv45 rfl rfl rfl rfl rfl fun c3 _ _ => .e (.fieldAddr fo32_2 rfl) rfl rfl <| .e (.load ag30 rfl (.there <| .there <| .here) rfl) rfl rfl <| .on rfl <| .append Tryz.underlying30 Tryz.underlying30 sz45 by45 zv45 rfl rfl rfl .here (OwnS.made rfl (by decide)) hsA.any hdA.1 (hdA.ones (by decide) fun _ _ h => PrR.ones h) (by omega) (by omega) rfl fun v6 ob6 ho6 => ?_
  refine .freezeS ho6 fun K hK hKs => ?_
  have hy5 : PrsR K _ n.labels := hKs (R := PrR) (hdA.mono fun _ _ h => h) (by omega)
  have hy50 := hy5
  obtain ⟨ya5, yc5, rfl, -⟩ := hy5
  obtain ⟨wsB, hsB, hdB⟩ := SlR.src (B := []) (fun _ _ h => prLen h) (PrsR.mono hK hnt0)
  refine .e (.fieldAddr fo32_2 rfl) rfl rfl <| .on rfl <| .store sz30 rfl rfl rfl rfl rfl rfl (.there <| .here) <| .nil <| .go <| .seq <| .region ?_
  refine .on rfl <| .buildSlice Tryz.underlying30 sz45 (by decide) (by decide) zv45 rfl rfl rfl rfl rfl fun c4 _ _ => .e (.fieldAddr fo32_3 rfl) rfl rfl <| .e (.load ag30 rfl (.there <| .there <| .here) rfl) rfl rfl <| .on rfl <| .append Tryz.underlying30 Tryz.underlying30 sz45 by45 zv45 rfl rfl rfl .here (OwnS.made rfl (by decide)) hsB.any hdB.1 (hdB.ones (by decide) fun _ _ h => PrR.ones h) (by omega) (by omega) rfl fun v11 ob11 ho11 => ?_
  refine .freezeS ho11 fun M hM hMs => ?_
  have hy8 : PrsR M _ n.taints := hMs (R := PrR) (hdB.mono fun _ _ h => h) (by omega)
  have hy80 := hy8
  obtain ⟨ya8, yc8, rfl, -⟩ := hy8
  refine .e (.fieldAddr fo32_3 rfl) rfl rfl <| .on rfl <| .store sz30 rfl rfl rfl rfl rfl rfl (.there <| .here) <| .nil <| .go <| .seq <| .region ?_
  refine .e (.loadW ag32 sz32 rfl (.there <| .here) rfl) rfl rfl <| .on rfl <| .storeW sz32 rfl rfl rfl rfl rfl rfl .here <| .nil <| .go <| .ret ?_
  refine Post.rets rfl (.agg rfl ag32 sz32 .here rfl .nil) rfl (Imm.le_trans hK hM) (fun w h => (Sat.tail (Sat.tail h))) ?_
  exact ⟨_, rfl, ⟨⟨_, _, rfl, hy50.mono hM, hy80⟩, hn0.name, hn0.has⟩, rfl⟩

set_option maxHeartbeats 1000000 in
set_option maxRecDepth 20000 in
theorem rCopyTask_ok {I : Imm} {O : Own} {tc : List Value} {t : Tsk} (ht : TskR I tc t) (hL1 : t.wants.length * 32 ≤ 140737488351232) (hL2 : t.bears.length * 32 ≤ 140737488351232) :
    Go.Sy.Does Tryz.prog 14 [.agg ⟨tc⟩] I O (fun u I' O' => ∃ cs, u = .agg ⟨cs⟩ ∧ TskR I' cs t ∧ O' = O) := by
  have ht0 := ht
  obtain ⟨tw, tb, rfl, htw, htb⟩ := ht.ex
  have htw0 := htw
  obtain ⟨wa, wcap, rfl, hw1, hw2, -⟩ := htw
  have htb0 := htb
  obtain ⟨ba, bcap, rfl, hb1, hb2, -⟩ := htb
  obtain ⟨wsA, hsA, hdA⟩ := SlR.src (B := []) (fun _ _ h => prLen h) htw0
  refine Go.Sy.Does.enter Tryz.func14 rfl Tryz.ntmps14 rfl ?_
  refine .seq <| .region <| .on rfl <| .box rfl rfl rfl fun c1 _ _ => .on rfl <| .alloc zr34 rfl fun c2 _ _ => .nil <| .go ?_
  refine .seq <| .region <| .on rfl <| .buildSlice Tryz.underlying30 sz45 (by decide) (by decide) zv45 rfl rfl rfl rfl rfl fun c3 _ _ => .e (.fieldAddr fo34_2 rfl) rfl rfl <| .e (.load ag30 rfl (.there <| .there <| .here) rfl) rfl rfl <| .on rfl <| .append Tryz.underlying30 Tryz.underlying30 sz45 by45 zv45 rfl rfl rfl .here (OwnS.made rfl (by decide)) hsA.any hdA.1 (hdA.ones (by decide) fun _ _ h => PrR.ones h) (by omega) (by omega) rfl fun v6 ob6 ho6 => ?_
  refine .freezeS ho6 fun K hK hKs => ?_
  have hy5 : PrsR K _ t.wants := hKs (R := PrR) (hdA.mono fun _ _ h => h) (by omega)
  have hy50 := hy5
  obtain ⟨ya5, yc5, rfl, -⟩ := hy5
  obtain ⟨wsB, hsB, hdB⟩ := SlR.src (B := []) (fun _ _ h => prLen h) (PrsR.mono hK htb0)
  refine .e (.fieldAddr fo34_2 rfl) rfl rfl <| .on rfl <| .store sz30 rfl rfl rfl rfl rfl rfl (.there <| .here) <| .nil <| .go <| .seq <| .region ?_
  refine .on rfl <| .buildSlice Tryz.underlying30 sz45 (by decide) (by decide) zv45 rfl rfl rfl rfl rfl fun c4 _ _ => .e (.fieldAddr fo34_3 rfl) rfl rfl <| .e (.load ag30 rfl (.there <| .there <| .here) rfl) rfl rfl <| .on rfl <| .append Tryz.underlying30 Tryz.underlying30 sz45 by45 zv45 rfl rfl rfl .here (OwnS.made rfl (by decide)) hsB.any hdB.1 (hdB.ones (by decide) fun _ _ h => PrR.ones h) (by omega) (by omega) rfl fun v11 ob11 ho11 => ?_
  refine .freezeS ho11 fun M hM hMs => ?_
  have hy8 : PrsR M _ t.bears := hMs (R := PrR) (hdB.mono fun _ _ h => h) (by omega)
  have hy80 := hy8
  obtain ⟨ya8, yc8, rfl, -⟩ := hy8
  refine .e (.fieldAddr fo34_3 rfl) rfl rfl <| .on rfl <| .store sz30 rfl rfl rfl rfl rfl rfl (.there <| .here) <| .nil <| .go <| .seq <| .region ?_
  refine .e (.loadW ag34 sz34 rfl (.there <| .here) rfl) rfl rfl <| .on rfl <| .storeW sz34 rfl rfl rfl rfl rfl rfl .here <| .nil <| .go <| .ret ?_
  refine Post.rets rfl (.agg rfl ag34 sz34 .here rfl .nil) rfl (Imm.le_trans hK hM) (fun w h => (Sat.tail (Sat.tail h))) ?_
  exact ⟨_, rfl, ⟨⟨_, _, rfl, hy50.mono hM, hy80⟩, ht0.name, ht0.needs, ht0.group, ht0.apart, ht0.rank⟩, rfl⟩

set_option maxHeartbeats 16000000 in
set_option maxRecDepth 20000 in
theorem rbCopy_ok {I : Imm} {O : Own} {kc : List Value} {b : Bk} (hk : BkR I kc b) (hM : BkM b) :
    Go.Sy.Does Tryz.prog 6 [.agg ⟨kc⟩] I O (fun u I' O' => ∃ nv tv bv on ot ob, u = .agg ⟨b.cells nv tv bv⟩ ∧ BkO I' b nv tv bv on ot ob ∧ O' = on ++ (ot ++ (ob ++ O))) := by
  have hk0 := hk
  obtain ⟨nv, tv, bv, rfl, hnv, htv, hbv⟩ := hk.ex
  have hnv0 := hnv
  have htv0 := htv
  have hbv0 := hbv
  obtain ⟨na, ncap, rfl, hn1, hn2, -⟩ := hnv
  obtain ⟨ta, tcap, rfl, ht1, ht2, -⟩ := htv
  obtain ⟨ba, bcap, rfl, hb1, hb2, -⟩ := hbv
  have hf := hk0.fence
  have hM1 := hM.n
  have hM2 := hM.t
  have hM3 := hM.x
  refine Go.Sy.Does.enter Tryz.func6 rfl Tryz.ntmps6 rfl ?_
  refine .seq <| .region <| .on rfl <| .box rfl rfl rfl fun c1 _ _ => .on rfl <| .alloc zr27 rfl fun c2 _ _ => .nil <| .go ?_
  refine .seq <| .region <| .e (.fieldAddr fo27_3 rfl) rfl rfl <| .e (.load ag25 rfl (.there <| .here) rfl) rfl rfl <| .e (.build bs27 zv27 rfl rfl) rfl rfl <| .on rfl <| .alloc zr27 rfl fun c3 _ _ => ?_
  refine .on rfl <| .storeW sz27 rfl rfl rfl rfl rfl rfl .here <| .nil <| .go <| .seq <| .seq <| .region ?_
  refine .e (.fieldAddr fo27_0 rfl) rfl rfl <| .e (.load ag22 rfl (.there <| .there <| .here) rfl) rfl rfl <| .e (.len sl22 rfl rfl) rfl rfl <| .e (.move rfl) rfl rfl <| .nil <| .go ?_
  refine .block ?_
  refine .loopM [5, 14, 15, 16, 17, 18, 19, 20, 21, 22, 23, 24, 25] (fun s => b.nodes.length - s.1) (fun s => s.1 ≤ b.nodes.length ∧ OwnS 6 s.2.1 s.1 s.2.2.1 s.2.2.2.1 ∧ DR NodR 6 s.2.2.2.2 s.2.2.1 (b.nodes.take s.1) ∧ Imm.le I s.2.2.2.2) (fun s => [(14, .int .i64 s.1)]) (fun s => s.2.2.2.2) (fun s => s.2.2.2.1 ++ ((c3, .cells ⟨[s.2.1, .slice none 0 0, .slice none 0 0, .int .u64 b.fence]⟩ 27 (0, 0)) :: _)) (((0, .slice none 0 0, [], [], I) : Nat × Value × List Value × Own × Imm)) ⟨Nat.zero_le _, OwnS.nil, DR.nil, Imm.le_refl _⟩ ⟨rfl, trivial⟩ rfl rfl ?_
  intro ⟨kn, vnL, wsnL, obnL, Jn⟩ hkn
  dsimp only at hkn ⊢
  obtain ⟨hkn, honL, hdnL, hJn⟩ := hkn
  obtain ⟨adnL, capnL, rfl⟩ := honL.form
  refine .seq <| .region <| .e (.lss rfl rfl) rfl rfl <| .nil <| .go <| .seq ?_
  refine .split 15 rfl (fun h15 => ?_) (fun h15 => ?_)
  · skip
    replace h15 := of_decide_eq_true h15
    refine .cond_true rfl <| .skip <| .go <| .seq <| .block <| .seq ?_
    refine .region ?_
    obtain ⟨eb16, eo16, cs16, hd16, hat16, hr16⟩ := SlR.at_ (NodsR.mono hJn hnv0) (k := kn) (by omega)
    cases hd16
    have hn16 := hr16
    obtain ⟨xf16, xg16, rfl, hxf16, hxg16⟩ := hr16.ex
    obtain ⟨xh16, xi16, rfl, -⟩ := hxf16
    obtain ⟨xj16, xk16, rfl, -⟩ := hxg16
    refine .e (.indexAddrL sl22 rfl rfl rfl (by omega)) rfl rfl <| .e (.loadIA ag32 sz32 rfl hat16 rfl) rfl rfl <| .on rfl <| .alloc zr32 rfl fun c4 _ _ => .on rfl <| .storeW sz32 rfl rfl rfl rfl rfl rfl .here <| .nil <| .go ?_
    refine .draw [(c3, _), (c4, _)] mixed (.cons (.there <| .app <| .here) (.cons .here .nil)) ?_
    refine .t 0 rfl (.fieldAddr fo27_0 rfl) rfl rfl (by kernel_rfl) <| .t 1 rfl (.load ag22 rfl .here rfl) rfl rfl (by kernel_rfl) <| .t 2 rfl (.loadW ag32 sz32 rfl (.there <| .here) rfl) rfl rfl (by kernel_rfl) <| .one (i := 3) (by kernel_rfl) rfl rfl <| .call cal13 rfl rfl rfl (rCopyNode_ok hn16 (hM.nl _ (List.getElem_mem (by omega))).1 (hM.nl _ (List.getElem_mem (by omega))).2) fun v21 I21 O21 hI21 hK21 => ?_
    obtain ⟨cs21, hq21, hR21, rfl⟩ := hK21
    replace hq21 := hq21.symm
    subst hq21
    have hR21' := hR21
    obtain ⟨lv21, tv21, rfl, hl21, ht21⟩ := hR21'.ex
    obtain ⟨_, _, rfl, -⟩ := hl21
    obtain ⟨_, _, rfl, -⟩ := ht21
    refine ⟨(.cons (.there <| .app <| .here) (.cons .here .nil)), hI21, ?_⟩
    refine .one (i := 4) (by kernel_rfl) rfl rfl <| .buildSlice Tryz.underlying22 sz32 (by decide) (by decide) zv32 rfl rfl rfl rfl rfl fun c5 _ _ => ?_
    refine ⟨(.cons (.there <| .there <| .app <| .here) (.cons (.there <| .here) .nil)), hI21, ?_⟩
    refine .one (i := 5) (by kernel_rfl) rfl rfl <| .append Tryz.underlying22 Tryz.underlying22 sz32 by32 zv32 rfl rfl rfl (.there <| .there <| .front) honL ((OwnS.made (k := 6) rfl (by decide)).src (I := _) .here) rfl rfl (by omega) (by omega) rfl fun v23 ob23 ho23 => ?_
    refine ⟨(.cons (.app <| .there <| .there <| .here) (.cons (.app <| .there <| .here) .nil)), hI21, ?_⟩
    refine .t 6 rfl (.fieldAddr fo27_0 rfl) rfl rfl (by kernel_rfl) ?_
    obtain ⟨ad23, cap23, rfl⟩ := ho23.form
    refine .late (i := 7) (by kernel_rfl) (by kernel_rfl) (by kernel_rfl) rfl rfl <| .store sz22 rfl rfl rfl rfl rfl rfl (.app <| .there <| .there <| .here) <| .blk_normal <| .go <| .region <| .e (.add rfl rfl (by first | exact wrap_succ (by omega) | exact IntWalk.i64_in _ (by omega) | exact rfl)) rfl rfl <| .e (.move rfl) rfl rfl ?_
    refine .nil ?_
    refine .front1 (.app <| .here) ?_
    refine .tail ?_
    refine .front1 (.app <| .here) ?_
    refine .tail ?_
    exact .mid ((kn + 1, _, _, _, I21)) ⟨by dsimp only; omega, by dsimp only; omega, ho23, (by rw [List.take_succ_eq_append_getElem (show kn < b.nodes.length by omega)]; exact (hdnL.mono fun _ _ h => NodR.mono hI21 h).append (DR.single rfl hR21)), Imm.le_trans hJn hI21⟩ ⟨rfl, trivial⟩ rfl rfl (.pre 14 rfl (.app rfl .base))
  · skip
    replace h15 := of_decide_eq_false h15
    refine .cond_false rfl <| .exit <| .exit <| .exit <| .blk_exit <| .go ?_
    refine .seq <| .seq <| .region <| .e (.fieldAddr fo27_1 rfl) rfl rfl <| .e (.load ag23 rfl (.app <| .there <| .there <| .here) rfl) rfl rfl <| .e (.len sl23 rfl rfl) rfl rfl ?_
    refine .e (.move rfl) rfl rfl <| .nil <| .go <| .block ?_
    have ekn : kn = b.nodes.length := by omega
    subst ekn
    rw [List.take_length] at hdnL
    refine .loopM [7, 29, 30, 31, 32, 33, 34, 35, 36, 37, 38, 39, 40] (fun s => b.tasks.length - s.1) (fun s => s.1 ≤ b.tasks.length ∧ OwnS 9 s.2.1 s.1 s.2.2.1 s.2.2.2.1 ∧ DR TskR 9 s.2.2.2.2 s.2.2.1 (b.tasks.take s.1) ∧ Imm.le Jn s.2.2.2.2) (fun s => [(29, .int .i64 s.1)]) (fun s => s.2.2.2.2) (fun s => s.2.2.2.1 ++ (obnL ++ ((c3, .cells ⟨[.slice adnL b.nodes.length capnL, s.2.1, .slice none 0 0, .int .u64 b.fence]⟩ 27 (0, 0)) :: _))) (((0, .slice none 0 0, [], [], Jn) : Nat × Value × List Value × Own × Imm)) ⟨Nat.zero_le _, OwnS.nil, DR.nil, Imm.le_refl _⟩ ⟨rfl, trivial⟩ rfl rfl ?_
    intro ⟨kt, vtL, wstL, obtL, Jt⟩ hkt
    dsimp only at hkt ⊢
    obtain ⟨hkt, hotL, hdtL, hJt⟩ := hkt
    obtain ⟨adtL, captL, rfl⟩ := hotL.form
    refine .seq <| .region <| .e (.lss rfl rfl) rfl rfl <| .nil <| .go <| .seq ?_
    refine .split 30 rfl (fun h30 => ?_) (fun h30 => ?_)
    · skip
      replace h30 := of_decide_eq_true h30
      refine .cond_true rfl <| .skip <| .go <| .seq <| .block <| .seq ?_
      refine .region ?_
      obtain ⟨eb31, eo31, cs31, hd31, hat31, hr31⟩ := SlR.at_ (TsksR.mono (Imm.le_trans hJn hJt) htv0) (k := kt) (by omega)
      cases hd31
      have ht31 := hr31
      obtain ⟨xw31, xb31, rfl, hxw31, hxb31⟩ := hr31.ex
      obtain ⟨xa31, xc31, rfl, -⟩ := hxw31
      obtain ⟨xd31, xe31, rfl, -⟩ := hxb31
      refine .e (.indexAddrL sl23 rfl rfl rfl (by omega)) rfl rfl <| .e (.loadIA ag34 sz34 rfl hat31 rfl) rfl rfl <| .on rfl <| .alloc zr34 rfl fun c6 _ _ => .on rfl <| .storeW sz34 rfl rfl rfl rfl rfl rfl .here <| .nil <| .go ?_
      refine .draw [(c3, _), (c6, _)] mixed (.cons (.there <| .app <| .app <| .here) (.cons .here .nil)) ?_
      refine .t 0 rfl (.fieldAddr fo27_1 rfl) rfl rfl (by kernel_rfl) <| .t 1 rfl (.load ag23 rfl .here rfl) rfl rfl (by kernel_rfl) <| .t 2 rfl (.loadW ag34 sz34 rfl (.there <| .here) rfl) rfl rfl (by kernel_rfl) <| .one (i := 3) (by kernel_rfl) rfl rfl <| .call cal14 rfl rfl rfl (rCopyTask_ok ht31 (hM.tl _ (List.getElem_mem (by omega))).1 (hM.tl _ (List.getElem_mem (by omega))).2) fun v36 I36 O36 hI36 hK36 => ?_
      obtain ⟨cs36, hq36, hR36, rfl⟩ := hK36
      replace hq36 := hq36.symm
      subst hq36
      have hR36' := hR36
      obtain ⟨lv36, tv36, rfl, hl36, ht36⟩ := hR36'.ex
      obtain ⟨_, _, rfl, -⟩ := hl36
      obtain ⟨_, _, rfl, -⟩ := ht36
      refine ⟨(.cons (.there <| .app <| .app <| .here) (.cons .here .nil)), hI36, ?_⟩
      refine .one (i := 4) (by kernel_rfl) rfl rfl <| .buildSlice Tryz.underlying23 sz34 (by decide) (by decide) zv34 rfl rfl rfl rfl rfl fun c7 _ _ => ?_
      refine ⟨(.cons (.there <| .there <| .app <| .app <| .here) (.cons (.there <| .here) .nil)), hI36, ?_⟩
      refine .one (i := 5) (by kernel_rfl) rfl rfl <| .append Tryz.underlying23 Tryz.underlying23 sz34 by34 zv34 rfl rfl rfl (.there <| .there <| .front) hotL ((OwnS.made (k := 9) rfl (by decide)).src (I := _) .here) rfl rfl (by omega) (by omega) rfl fun v38 ob38 ho38 => ?_
      refine ⟨(.cons (.app <| .there <| .there <| .app <| .here) (.cons (.app <| .there <| .here) .nil)), hI36, ?_⟩
      refine .t 6 rfl (.fieldAddr fo27_1 rfl) rfl rfl (by kernel_rfl) ?_
      obtain ⟨ad38, cap38, rfl⟩ := ho38.form
      refine .late (i := 7) (by kernel_rfl) (by kernel_rfl) (by kernel_rfl) rfl rfl <| .store sz23 rfl rfl rfl rfl rfl rfl (.app <| .there <| .there <| .app <| .here) <| .blk_normal <| .go <| .region <| .e (.add rfl rfl (by first | exact wrap_succ (by omega) | exact IntWalk.i64_in _ (by omega) | exact rfl)) rfl rfl <| .e (.move rfl) rfl rfl ?_
      refine .nil ?_
      refine .front1 (.app <| .here) ?_
      refine .tail ?_
      refine .front1 (.app <| .here) ?_
      refine .tail ?_
      exact .mid ((kt + 1, _, _, _, I36)) ⟨by dsimp only; omega, by dsimp only; omega, ho38, (by rw [List.take_succ_eq_append_getElem (show kt < b.tasks.length by omega)]; exact (hdtL.mono fun _ _ h => TskR.mono hI36 h).append (DR.single rfl hR36)), Imm.le_trans hJt hI36⟩ ⟨rfl, trivial⟩ rfl rfl (.pre 14 rfl (.app rfl .base))
    · skip
      replace h30 := of_decide_eq_false h30
      refine .cond_false rfl <| .exit <| .exit <| .exit <| .blk_exit <| .go ?_
      refine .seq <| .region <| .e (.fieldAddr fo27_2 rfl) rfl rfl <| .e (.load ag24 rfl (.app <| .app <| .here) rfl) rfl rfl <| .e (.fieldAddr fo27_2 rfl) rfl rfl <| .e (.load ag24 rfl (.app <| .app <| .there <| .there <| .here) rfl) rfl rfl ?_
      have ekt : kt = b.tasks.length := by omega
      subst ekt
      obtain ⟨wsX, hsX, hdX⟩ := SlR.src (B := []) (fun _ _ h => BndR.len h) (BndsR.mono (Imm.le_trans hJn hJt) hbv0)
      refine .on rfl <| .append Tryz.underlying24 Tryz.underlying24 sz47 by47 zv47 rfl rfl rfl .nil OwnS.nil hsX.any hdX.1 (hdX.ones (by decide) fun _ _ h => BndR.ones h) (by omega) (by omega) rfl fun v45 ob45 ho45 => ?_
      rw [Nat.zero_add] at ho45
      obtain ⟨ad45, cap45, rfl⟩ := ho45.form
      refine .e (.fieldAddr fo27_2 rfl) rfl rfl <| .on rfl <| .store sz24 rfl rfl rfl rfl rfl rfl (.app <| .app <| .app <| .here) <| .nil <| .go <| .seq <| .region ?_
      refine .e (.loadW ag27 sz27 rfl (.app <| .app <| .app <| .here) rfl) rfl rfl <| .on rfl <| .storeW sz27 rfl rfl rfl rfl rfl rfl (.app <| .app <| .app <| .there <| .here) <| .nil <| .go <| .ret ?_
      refine .front (.app <| .front) ?_
      refine .front (.app <| .app <| .front) ?_
      refine Post.rets rfl (.agg rfl ag27 sz27 (.app <| .app <| .app <| .there <| .here) rfl .nil) rfl (Imm.le_trans hJn hJt) (fun w h => (Sat.tail (Sat.rem (Sat.tail (Sat.rem (Sat.tail (Sat.rem h (Rem.app <| Rem.app <| Rem.app <| Rem.here))) (Rem.app <| Rem.app <| Rem.app <| Rem.here))) (Rem.app <| Rem.app <| Rem.app <| Rem.here)))) ?_
      rw [List.take_length] at hdtL
      exact ⟨_, _, _, obnL, obtL, ob45, rfl, ⟨⟨_, honL, hdnL.mono fun _ _ h => h.mono hJt⟩, ⟨_, hotL, hdtL⟩, ⟨_, ho45, hdX⟩, hf⟩, rfl⟩

theorem bkM_of {b : Bk} (h : BkZ (fun b n => n * b ≤ reachBytes) (fun n => n ≤ reachBytes) b) : BkM b := by
  have hr : reachBytes ≤ 140737488351232 := by decide
  refine ⟨Nat.le_trans h.nodes.1 hr, Nat.le_trans h.tasks.1 hr, Nat.le_trans h.binds.1 hr, fun n hn => ⟨Nat.le_trans (h.nodes.2 n hn).labels.1 hr, Nat.le_trans (h.nodes.2 n hn).taints.1 hr⟩, fun t ht => ⟨Nat.le_trans (h.tasks.2 t ht).wants.1 hr, Nat.le_trans (h.tasks.2 t ht).bears.1 hr⟩⟩

theorem rcopyF {I : Imm} {O : Own} {kc : List Value} {b : Bk} (hk : BkR I kc b) (hM : BkM b) : Go.Sy.Does Tryz.prog 6 [.agg ⟨kc⟩] I O (FB (fun cs => .agg ⟨cs⟩) b O) := frzBk (U := fun cs => .agg ⟨cs⟩) (rbCopy_ok hk hM)

set_option maxHeartbeats 16000000 in
set_option maxRecDepth 20000 in
theorem QueueOwn_ok {I : Imm} {O : Own} {kc : List Value} {b : Bk} (hk : BkR I kc b) (hM : BkM b) :
    Pure Tryz.prog 4 [.agg ⟨kc⟩] I O (.bool true) := by
  have hk0 := hk
  obtain ⟨nv, tv, bv, rfl, hnv, htv, hbv⟩ := hk.ex
  have hnv0 := hnv
  have htv0 := htv
  have hbv0 := hbv
  obtain ⟨na, ncap, rfl, hn1, hn2, -⟩ := hnv
  obtain ⟨ta, tcap, rfl, ht1, ht2, -⟩ := htv
  obtain ⟨ba, bcap, rfl, hb1, hb2, -⟩ := hbv
  refine Go.Sy.Does.enter Tryz.func4 rfl Tryz.ntmps4 rfl ?_
  refine .seq <| .region <| .on rfl <| .box rfl rfl rfl fun c1 _ _ => .e (.assign rfl) rfl rfl <| .nil <| .go ?_
  refine .seq <| .seq <| .region <| .on rfl <| .callP cal9 rfl rfl rfl (qlives_ok) <| .e (.not rfl) rfl rfl <| .nil ?_
  refine .go <| .cond_false rfl <| .skip <| .go <| .seq <| .region ?_
  refine .e (.loadW ag27 sz27 rfl .here rfl) rfl rfl <| .on rfl <| .call cal6 rfl rfl rfl (rcopyF hk0 hM) fun v15 K O15 hI15 hK15 => ?_
  obtain ⟨rfl, cs15, rfl, hb15⟩ := hK15
  have hb150 := hb15
  obtain ⟨nv15, tv15, bv15, rfl, hn15, ht15, hx15⟩ := hb15.ex
  obtain ⟨_, _, rfl, -⟩ := hn15
  obtain ⟨_, _, rfl, htl15, -⟩ := ht15
  obtain ⟨_, _, rfl, -⟩ := hx15
  have hIK := hI15
  refine .on rfl <| .alloc zr27 rfl fun c2 _ _ => .on rfl <| .storeW sz27 rfl rfl rfl rfl rfl rfl .here <| .nil <| .go <| .seq <| .region ?_
  refine .e (.loadW ag27 sz27 rfl (.there <| .here) rfl) rfl rfl <| .on rfl <| .call cal10 rfl rfl rfl (waitN_ok (hk0.mono hIK)) fun v18 I18 O18 hI18 hK18 => ?_
  generalize waitQ b = RX at hK18
  obtain ⟨v18, wsX, obX, rfl, hoX, hdX, rfl⟩ := hK18
  obtain ⟨adX, capX, rfl⟩ := hoX.form
  have hxX := RowY.tsk hdX
  obtain ⟨nX, hnX⟩ : ∃ n, RX.1.length = n := ⟨_, rfl⟩
  rw [hnX] at hoX hxX ⊢
  have hzX := hoX.lenLe
  refine .e (.move rfl) rfl rfl <| .e (.extract rfl rfl) rfl rfl <| .e (.extract rfl rfl) rfl rfl <| .e (.assign rfl) rfl rfl <| .e (.assign rfl) rfl rfl <| .nil ?_
  refine .go <| .seq <| .seq <| .region <| .e (.move rfl) rfl rfl <| .e (.len sl23 rfl rfl) rfl rfl ?_
  refine .e (.move rfl) rfl rfl <| .nil <| .go <| .block ?_
  refine .loopM [6, 7, 23, 24, 25, 26, 27, 28, 29, 30, 31, 32, 33, 34, 35, 36, 37, 38, 39, 40, 41, 42, 43, 44, 45, 46, 47, 48] (fun s => nX - s.1) (fun s => s.1 ≤ nX ∧ OwnS 9 (.slice adX nX capX) nX s.2.1 s.2.2.1 ∧ RowY 9 4 K s.2.2.2 nX s.2.1 ∧ K.le s.2.2.2 ∧ I.le s.2.2.2) (fun s => [(23, .int .i64 s.1)]) (fun s => s.2.2.2) (fun s => s.2.2.1 ++ _) (((0, wsX, obX, I18) : Nat × List Value × Own × Imm)) ⟨Nat.zero_le _, hoX, hxX, hI18, (Imm.le_trans hIK hI18)⟩ ⟨rfl, trivial⟩ rfl rfl ?_
  intro ⟨k, wsA, obA, J1⟩ hk
  dsimp only at hk ⊢
  obtain ⟨hk, hoA, hxA, hKJ1, hJ1⟩ := hk
  refine .seq <| .region <| .e (.lss rfl rfl) rfl rfl <| .nil <| .go <| .seq ?_
  refine .split 24 rfl (fun h24 => ?_) (fun h24 => ?_)
  · skip
    replace h24 := of_decide_eq_true h24
    refine .cond_true rfl <| .skip <| .go <| .seq <| .block <| .seq ?_
    refine .region ?_
    obtain ⟨_, h0, _, _⟩ | ⟨bA, cpA, csA, TA, hv5, rfl, hc1, hc2, hc3, hc4, hc5⟩ := hoA
    · omega
    cases hv5
    simp only [@List.singleton_append (Nat × Obj)]
    have hclA : k * 9 + 9 ≤ csA.length := by have := Nat.mul_le_mul_right 9 hc1; omega
    obtain ⟨mvA, hceA, hfrA⟩ := hxA.2 k (by omega)
    obtain ⟨madA, mmA, mcapA, rfl⟩ := hfrA.isSl
    have hm4A := cellY hc3 hceA
    refine .e (.move rfl) rfl rfl <| .e (.assign rfl) rfl rfl <| .nil <| .go <| .seq <| .region ?_
    refine .e (.move rfl) rfl rfl <| .e (.move rfl) rfl rfl <| .e (.indexAddrL sl23 rfl rfl rfl (by omega)) rfl rfl <| .e (.fieldAddr fo34_0 rfl) rfl rfl <| .on rfl <| .store sz9 rfl rfl rfl rfl rfl (Nat.ble_eq_true_of_le (by simp; omega)) .here <| .nil ?_
    refine .go <| .seq <| .region ?_
    have hoAN := own_setY (T := TA) (b := bA) (q := 0) (.string ⟨#[115, 112, 111, 105, 108, 116]⟩) hc3 (show k < nX by omega) (by decide) hc1 hc2 hc4 hc5
    have hm4N := cell_setY (v := .string ⟨#[115, 112, 111, 105, 108, 116]⟩) (m := 9) (p := 4) (q := 0) (by decide) (by decide) (by decide) (show k * 9 + 0 < csA.length by omega) hm4A
    refine .e (.move rfl) rfl rfl <| .e (.move rfl) rfl rfl <| .e (.indexAddrL sl23 rfl rfl rfl (by omega)) rfl rfl <| .e (.fieldAddr fo34_2 rfl) rfl rfl <| .e (.load ag30 rfl .here ((List.getElem?_toArray).trans hm4N)) rfl rfl <| .e (.len sl30 rfl rfl) rfl rfl ?_
    refine .e (.move rfl) rfl rfl <| .nil <| .go <| .block ?_
    refine .loopM [7, 36, 37, 38, 39, 40, 41, 42, 43, 44, 45, 46, 47] (fun s => mmA - s.1) (fun s => s.1 ≤ mmA ∧ K.le s.2 ∧ I.le s.2 ∧ Turned K J1 s.2) (fun s => [(36, .int .i64 s.1)]) (fun s => s.2) (fun _ => _) (((0, J1) : Nat × Imm)) ⟨Nat.zero_le _, hKJ1, hJ1, Turned.le (Imm.le_refl _)⟩ ⟨rfl, trivial⟩ rfl rfl ?_
    intro ⟨q, J2⟩ hq
    dsimp only at hq ⊢
    obtain ⟨hq, hKJ2, hJ2, hTJ2⟩ := hq
    refine .seq <| .region <| .e (.lss rfl rfl) rfl rfl <| .nil <| .go <| .seq ?_
    refine .split 37 rfl (fun h37 => ?_) (fun h37 => ?_)
    · skip
      replace h37 := of_decide_eq_true h37
      refine .cond_true rfl <| .skip <| .go <| .seq <| .block <| .seq ?_
      refine .region <| .e (.move rfl) rfl rfl <| .e (.assign rfl) rfl rfl <| .nil <| .go <| .region ?_
      refine .e (.move rfl) rfl rfl ?_
      obtain ⟨mb, mcs, mT, hmd, hmI, hmJ, hml, hm63⟩ := FrK.at_ (q := q) (hfrA.turn hTJ2) (by omega)
      have hmN : I mb = none := by
        cases e : I mb with
        | none => rfl
        | some o => rw [hIK.row _ _ e] at hmI; cases hmI
      subst hmd
      refine .e (.move rfl) rfl rfl <| .e (.indexAddrL sl23 rfl rfl rfl (by omega)) rfl rfl <| .e (.fieldAddr fo34_2 rfl) rfl rfl <| .e (.load ag30 rfl .here ((List.getElem?_toArray).trans hm4N)) rfl rfl <| .e (.move rfl) rfl rfl <| .e (.indexAddrL sl30 rfl rfl rfl (by omega)) rfl rfl ?_
      refine .e (.fieldAddr fo45_0 rfl) rfl rfl ?_
      refine .melt hmJ ?_
      refine .on rfl <| .store sz9 rfl rfl rfl rfl rfl (Nat.ble_eq_true_of_le (by simp; omega)) .here <| .nil <| .blk_normal <| .go <| .region <| .e (.add rfl rfl (by first | exact wrap_succ (by omega) | exact IntWalk.i64_in _ (by omega) | exact rfl)) rfl rfl ?_
      refine .e (.move rfl) rfl rfl <| .nil ?_
      refine .freeze fun G hG hGb => ?_
      exact .mid ((q + 1, G)) ⟨by dsimp only; omega, by dsimp only; omega, Imm.le_trans (Imm.le_erase hKJ2 hmI) hG, Imm.le_trans (Imm.le_erase hJ2 hmN) hG, hTJ2.trans (Turned.one hmJ (by rw [setL_length (by simp; omega)]) hG hGb)⟩ ⟨rfl, trivial⟩ rfl rfl (.pre 14 rfl (.app rfl .base))
    · skip
      replace h37 := of_decide_eq_false h37
      refine .cond_false rfl <| .exit <| .exit <| .exit <| .blk_exit <| .blk_normal ?_
      refine .go <| .region <| .e (.add rfl rfl (by first | exact wrap_succ (by omega) | exact IntWalk.i64_in _ (by omega) | exact rfl)) rfl rfl <| .e (.move rfl) rfl rfl <| .nil ?_
      exact .mid ((k + 1, _, _, J2)) ⟨by dsimp only; omega, by dsimp only; omega, hoAN, (hxA.set_ _ (by decide) (by decide) (by decide)).turn hTJ2, hKJ2, hJ2⟩ ⟨rfl, trivial⟩ rfl rfl (.pre 4 rfl (.app rfl (.del rfl (.pre 15 rfl (.app rfl .base)))))
  · skip
    replace h24 := of_decide_eq_false h24
    refine .cond_false rfl <| .exit <| .exit <| .exit <| .blk_exit <| .go ?_
    refine .seq <| .region <| .e (.loadW ag27 sz27 rfl (.app <| .there <| .here) rfl) rfl rfl <| .on rfl <| .call cal11 rfl rfl rfl (loadsN_ok (hk0.mono hJ1)) fun v51 I51 O51 hI51 hK51 => ?_
    generalize loadsQ b = RZ at hK51
    obtain ⟨v51, wsZ, obZ, rfl, hoZ, hdZ, rfl⟩ := hK51
    obtain ⟨adZ, capZ, rfl⟩ := hoZ.form
    have hxZ := RowY.lod (hdZ.to (S := LodF K) fun _ _ h => ⟨h.1, by obtain ⟨lv, tv, e, hf⟩ := h.2; exact ⟨lv, tv, e, hf.back hKJ1⟩⟩)
    obtain ⟨nZ, hnZ⟩ : ∃ n, RZ.1.length = n := ⟨_, rfl⟩
    rw [hnZ] at hoZ hxZ ⊢
    have hzZ := hoZ.lenLe
    refine .e (.move rfl) rfl rfl <| .e (.extract rfl rfl) rfl rfl <| .e (.extract rfl rfl) rfl rfl <| .e (.assign rfl) rfl rfl <| .e (.assign rfl) rfl rfl <| .nil ?_
    refine .go <| .seq <| .seq <| .region <| .e (.move rfl) rfl rfl <| .e (.len sl52 rfl rfl) rfl rfl ?_
    refine .e (.move rfl) rfl rfl <| .nil <| .go <| .block ?_
    refine .loopM [10, 11, 56, 57, 58, 59, 60, 61, 62, 63, 64, 65, 66, 67, 68, 69, 70, 71, 72, 73, 74, 75, 76, 77, 78, 79] (fun s => nZ - s.1) (fun s => s.1 ≤ nZ ∧ OwnS 9 (.slice adZ nZ capZ) nZ s.2.1 s.2.2.1 ∧ RowY 9 4 K s.2.2.2 nZ s.2.1 ∧ K.le s.2.2.2 ∧ I.le s.2.2.2) (fun s => [(56, .int .i64 s.1)]) (fun s => s.2.2.2) (fun s => s.2.2.1 ++ _) (((0, wsZ, obZ, I51) : Nat × List Value × Own × Imm)) ⟨Nat.zero_le _, hoZ, hxZ, (Imm.le_trans hKJ1 hI51), (Imm.le_trans hJ1 hI51)⟩ ⟨rfl, trivial⟩ rfl rfl ?_
    intro ⟨k, wsB, obB, J3⟩ hk
    dsimp only at hk ⊢
    obtain ⟨hk, hoB, hxB, hKJ3, hJ3⟩ := hk
    refine .seq <| .region <| .e (.lss rfl rfl) rfl rfl <| .nil <| .go <| .seq ?_
    refine .split 57 rfl (fun h57 => ?_) (fun h57 => ?_)
    · skip
      replace h57 := of_decide_eq_true h57
      refine .cond_true rfl <| .skip <| .go <| .seq <| .block <| .seq ?_
      refine .region ?_
      obtain ⟨_, h0, _, _⟩ | ⟨bB, cpB, csB, TB, hv5, rfl, hc1, hc2, hc3, hc4, hc5⟩ := hoB
      · omega
      cases hv5
      simp only [@List.singleton_append (Nat × Obj)]
      have hclB : k * 9 + 9 ≤ csB.length := by have := Nat.mul_le_mul_right 9 hc1; omega
      obtain ⟨mvB, hceB, hfrB⟩ := hxB.2 k (by omega)
      obtain ⟨madB, mmB, mcapB, rfl⟩ := hfrB.isSl
      have hm4B := cellY hc3 hceB
      refine .e (.move rfl) rfl rfl <| .e (.assign rfl) rfl rfl <| .nil <| .go <| .seq <| .region ?_
      have hoBN : OwnS 9 (.slice (some ⟨bB, 0, none⟩) nZ capZ) nZ wsB [(bB, .cells ⟨csB⟩ TB (0, 0))] := .inr ⟨bB, capZ, csB, TB, rfl, rfl, hc1, hc2, hc3, hc4, hc5⟩
      refine .e (.move rfl) rfl rfl <| .e (.move rfl) rfl rfl <| .e (.indexAddrL sl52 rfl rfl rfl (by omega)) rfl rfl <| .e (.fieldAddr fo56_0 rfl) rfl rfl <| .e (.fieldAddr fo32_2 rfl) rfl rfl <| .e (.load ag30 rfl .here ((List.getElem?_toArray).trans hm4B)) rfl rfl ?_
      refine .e (.len sl30 rfl rfl) rfl rfl <| .e (.move rfl) rfl rfl <| .nil <| .go <| .block ?_
      refine .loopM [11, 66, 67, 68, 69, 70, 71, 72, 73, 74, 75, 76, 77, 78] (fun s => mmB - s.1) (fun s => s.1 ≤ mmB ∧ K.le s.2 ∧ I.le s.2 ∧ Turned K J3 s.2) (fun s => [(66, .int .i64 s.1)]) (fun s => s.2) (fun _ => _) (((0, J3) : Nat × Imm)) ⟨Nat.zero_le _, hKJ3, hJ3, Turned.le (Imm.le_refl _)⟩ ⟨rfl, trivial⟩ rfl rfl ?_
      intro ⟨q, J4⟩ hq
      dsimp only at hq ⊢
      obtain ⟨hq, hKJ4, hJ4, hTJ4⟩ := hq
      refine .seq <| .region <| .e (.lss rfl rfl) rfl rfl <| .nil <| .go <| .seq ?_
      refine .split 67 rfl (fun h67 => ?_) (fun h67 => ?_)
      · skip
        replace h67 := of_decide_eq_true h67
        refine .cond_true rfl <| .skip <| .go <| .seq <| .block <| .seq ?_
        refine .region <| .e (.move rfl) rfl rfl <| .e (.assign rfl) rfl rfl <| .nil <| .go <| .region ?_
        refine .e (.move rfl) rfl rfl ?_
        obtain ⟨mb, mcs, mT, hmd, hmI, hmJ, hml, hm63⟩ := FrK.at_ (q := q) (hfrB.turn hTJ4) (by omega)
        have hmN : I mb = none := by
          cases e : I mb with
          | none => rfl
          | some o => rw [hIK.row _ _ e] at hmI; cases hmI
        subst hmd
        refine .e (.move rfl) rfl rfl <| .e (.indexAddrL sl52 rfl rfl rfl (by omega)) rfl rfl <| .e (.fieldAddr fo56_0 rfl) rfl rfl <| .e (.fieldAddr fo32_2 rfl) rfl rfl <| .e (.load ag30 rfl .here ((List.getElem?_toArray).trans hm4B)) rfl rfl <| .e (.move rfl) rfl rfl ?_
        refine .e (.indexAddrL sl30 rfl rfl rfl (by omega)) rfl rfl <| .e (.fieldAddr fo45_0 rfl) rfl rfl ?_
        refine .melt hmJ ?_
        refine .on rfl <| .store sz9 rfl rfl rfl rfl rfl (Nat.ble_eq_true_of_le (by simp; omega)) .here <| .nil <| .blk_normal <| .go <| .region <| .e (.add rfl rfl (by first | exact wrap_succ (by omega) | exact IntWalk.i64_in _ (by omega) | exact rfl)) rfl rfl ?_
        refine .e (.move rfl) rfl rfl <| .nil ?_
        refine .freeze fun G hG hGb => ?_
        exact .mid ((q + 1, G)) ⟨by dsimp only; omega, by dsimp only; omega, Imm.le_trans (Imm.le_erase hKJ4 hmI) hG, Imm.le_trans (Imm.le_erase hJ4 hmN) hG, hTJ4.trans (Turned.one hmJ (by rw [setL_length (by simp; omega)]) hG hGb)⟩ ⟨rfl, trivial⟩ rfl rfl (.pre 15 rfl (.app rfl .base))
      · skip
        replace h67 := of_decide_eq_false h67
        refine .cond_false rfl <| .exit <| .exit <| .exit <| .blk_exit <| .blk_normal ?_
        refine .go <| .region <| .e (.add rfl rfl (by first | exact wrap_succ (by omega) | exact IntWalk.i64_in _ (by omega) | exact rfl)) rfl rfl <| .e (.move rfl) rfl rfl <| .nil ?_
        exact .mid ((k + 1, _, _, J4)) ⟨by dsimp only; omega, by dsimp only; omega, hoBN, hxB.turn hTJ4, hKJ4, hJ4⟩ ⟨rfl, trivial⟩ rfl rfl (.pre 4 rfl (.app rfl (.del rfl (.pre 12 rfl (.app rfl .base)))))
    · skip
      replace h57 := of_decide_eq_false h57
      refine .cond_false rfl <| .exit <| .exit <| .exit <| .blk_exit <| .go ?_
      refine .seq <| .region <| .e (.loadW ag27 sz27 rfl (.app <| .app <| .there <| .here) rfl) rfl rfl <| .e (.loadW ag27 sz27 rfl (.app <| .app <| .here) rfl) rfl rfl <| .on rfl <| .callP cal8 rfl rfl rfl ((sameBk_ok (hk0.mono hJ3) (hb150.mono hKJ3)).cast (congrArg Value.bool (decide_eq_true (rfl)))) <| .e (.assign rfl) rfl rfl ?_
      refine .nil <| .go <| .ret ?_
      refine .drop <| .drop <| .tail <| .tail ?_
      refine .back hJ3 ?_
      refine Post.retE rfl rfl ?_
      rfl

end Go.Proofs.YtajpakifkinadaaGreatDoor
