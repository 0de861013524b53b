/- Walks of functions over a symbolic memory, printed by a program of the session. -/
import Derived.Test.YtcojkkndmholaaaGreatDoorBw
namespace Go.Proofs.YtcojkkndmholaaaGreatDoor
open Go.Sy
set_option linter.unusedSimpArgs false
set_option linter.unusedVariables false

set_option maxHeartbeats 1000000 in
set_option maxRecDepth 20000 in
theorem rCopyNode_ok {I : Imm} {O : Own} {nc : List Value} {n : Nod} (hn : NodR I nc n) (hL1 : n.labels.length * 32 ≤ 140737488351232) (hL2 : n.taints.length * 32 ≤ 140737488351232) :
    Go.Sy.Does Tryz.prog 26 [.agg ⟨nc⟩] I O (fun u I' O' => ∃ cs, u = .agg ⟨cs⟩ ∧ NodR I' cs n ∧ O' = O) := by
  have hn0 := hn
  obtain ⟨nl, nt, rfl, hnl, hnt⟩ := hn.ex
  have hnl0 := hnl
  obtain ⟨la, lcap, rfl, hl1, hl2, -⟩ := hnl
  have hnt0 := hnt
  obtain ⟨ta, tcap, rfl, ht1, ht2, -⟩ := hnt
  obtain ⟨wsA, hsA, hdA⟩ := SlR.src (B := []) (fun _ _ h => prLen h) hnl0
  refine Go.Sy.Does.enter Tryz.func26 rfl Tryz.ntmps26 rfl ?_
  refine .seq <| .region <| .on rfl <| .box rfl rfl rfl fun c1 _ _ => .on rfl <| .alloc zr32 rfl fun c2 _ _ => .nil <| .go ?_
  refine .seq <| .region <| .on rfl <| .buildSlice Tryz.underlying30 sz54 (by decide) (by decide) zv54 rfl rfl rfl rfl rfl fun c3 _ _ => .e (.fieldAddr fo32_2 rfl) rfl rfl <| .e (.load ag30 rfl (.there <| .there <| .here) rfl) rfl rfl <| .on rfl <| .append Tryz.underlying30 Tryz.underlying30 sz54 by54 zv54 rfl rfl rfl .here (OwnS.made rfl (by decide)) hsA.any hdA.1 (hdA.ones (by decide) fun _ _ h => PrR.ones h) (by omega) (by omega) rfl fun v6 ob6 ho6 => ?_
  refine .freezeS ho6 fun K hK hKs => ?_
  have hy5 : PrsR K _ n.labels := hKs (R := PrR) (hdA.mono fun _ _ h => h) (by omega)
  have hy50 := hy5
  obtain ⟨ya5, yc5, rfl, -⟩ := hy5
  obtain ⟨wsB, hsB, hdB⟩ := SlR.src (B := []) (fun _ _ h => prLen h) (PrsR.mono hK hnt0)
  refine .e (.fieldAddr fo32_2 rfl) rfl rfl <| .on rfl <| .store sz30 rfl rfl rfl rfl rfl rfl (.there <| .here) <| .nil <| .go <| .seq <| .region ?_
  refine .on rfl <| .buildSlice Tryz.underlying30 sz54 (by decide) (by decide) zv54 rfl rfl rfl rfl rfl fun c4 _ _ => .e (.fieldAddr fo32_3 rfl) rfl rfl <| .e (.load ag30 rfl (.there <| .there <| .here) rfl) rfl rfl <| .on rfl <| .append Tryz.underlying30 Tryz.underlying30 sz54 by54 zv54 rfl rfl rfl .here (OwnS.made rfl (by decide)) hsB.any hdB.1 (hdB.ones (by decide) fun _ _ h => PrR.ones h) (by omega) (by omega) rfl fun v11 ob11 ho11 => ?_
  refine .freezeS ho11 fun M hM hMs => ?_
  have hy8 : PrsR M _ n.taints := hMs (R := PrR) (hdB.mono fun _ _ h => h) (by omega)
  have hy80 := hy8
  obtain ⟨ya8, yc8, rfl, -⟩ := hy8
  refine .e (.fieldAddr fo32_3 rfl) rfl rfl <| .on rfl <| .store sz30 rfl rfl rfl rfl rfl rfl (.there <| .here) <| .nil <| .go <| .seq <| .region ?_
  refine .e (.loadW ag32 sz32 rfl (.there <| .here) rfl) rfl rfl <| .on rfl <| .storeW sz32 rfl rfl rfl rfl rfl rfl .here <| .nil <| .go <| .ret ?_
  refine Post.rets rfl (.agg rfl ag32 sz32 .here rfl .nil) rfl (Imm.le_trans hK hM) (fun w h => (Sat.tail (Sat.tail h))) ?_
  exact ⟨_, rfl, ⟨⟨_, _, rfl, hy50.mono hM, hy80⟩, hn0.name, hn0.has⟩, rfl⟩

set_option maxHeartbeats 1000000 in
set_option maxRecDepth 20000 in
theorem rCopyTask_ok {I : Imm} {O : Own} {tc : List Value} {t : Tsk} (ht : TskR I tc t) (hL1 : t.wants.length * 32 ≤ 140737488351232) (hL2 : t.bears.length * 32 ≤ 140737488351232) :
    Go.Sy.Does Tryz.prog 27 [.agg ⟨tc⟩] I O (fun u I' O' => ∃ cs, u = .agg ⟨cs⟩ ∧ TskR I' cs t ∧ O' = O) := by
  have ht0 := ht
  obtain ⟨tw, tb, rfl, htw, htb⟩ := ht.ex
  have htw0 := htw
  obtain ⟨wa, wcap, rfl, hw1, hw2, -⟩ := htw
  have htb0 := htb
  obtain ⟨ba, bcap, rfl, hb1, hb2, -⟩ := htb
  obtain ⟨wsA, hsA, hdA⟩ := SlR.src (B := []) (fun _ _ h => prLen h) htw0
  refine Go.Sy.Does.enter Tryz.func27 rfl Tryz.ntmps27 rfl ?_
  refine .seq <| .region <| .on rfl <| .box rfl rfl rfl fun c1 _ _ => .on rfl <| .alloc zr34 rfl fun c2 _ _ => .nil <| .go ?_
  refine .seq <| .region <| .on rfl <| .buildSlice Tryz.underlying30 sz54 (by decide) (by decide) zv54 rfl rfl rfl rfl rfl fun c3 _ _ => .e (.fieldAddr fo34_2 rfl) rfl rfl <| .e (.load ag30 rfl (.there <| .there <| .here) rfl) rfl rfl <| .on rfl <| .append Tryz.underlying30 Tryz.underlying30 sz54 by54 zv54 rfl rfl rfl .here (OwnS.made rfl (by decide)) hsA.any hdA.1 (hdA.ones (by decide) fun _ _ h => PrR.ones h) (by omega) (by omega) rfl fun v6 ob6 ho6 => ?_
  refine .freezeS ho6 fun K hK hKs => ?_
  have hy5 : PrsR K _ t.wants := hKs (R := PrR) (hdA.mono fun _ _ h => h) (by omega)
  have hy50 := hy5
  obtain ⟨ya5, yc5, rfl, -⟩ := hy5
  obtain ⟨wsB, hsB, hdB⟩ := SlR.src (B := []) (fun _ _ h => prLen h) (PrsR.mono hK htb0)
  refine .e (.fieldAddr fo34_2 rfl) rfl rfl <| .on rfl <| .store sz30 rfl rfl rfl rfl rfl rfl (.there <| .here) <| .nil <| .go <| .seq <| .region ?_
  refine .on rfl <| .buildSlice Tryz.underlying30 sz54 (by decide) (by decide) zv54 rfl rfl rfl rfl rfl fun c4 _ _ => .e (.fieldAddr fo34_3 rfl) rfl rfl <| .e (.load ag30 rfl (.there <| .there <| .here) rfl) rfl rfl <| .on rfl <| .append Tryz.underlying30 Tryz.underlying30 sz54 by54 zv54 rfl rfl rfl .here (OwnS.made rfl (by decide)) hsB.any hdB.1 (hdB.ones (by decide) fun _ _ h => PrR.ones h) (by omega) (by omega) rfl fun v11 ob11 ho11 => ?_
  refine .freezeS ho11 fun M hM hMs => ?_
  have hy8 : PrsR M _ t.bears := hMs (R := PrR) (hdB.mono fun _ _ h => h) (by omega)
  have hy80 := hy8
  obtain ⟨ya8, yc8, rfl, -⟩ := hy8
  refine .e (.fieldAddr fo34_3 rfl) rfl rfl <| .on rfl <| .store sz30 rfl rfl rfl rfl rfl rfl (.there <| .here) <| .nil <| .go <| .seq <| .region ?_
  refine .e (.loadW ag34 sz34 rfl (.there <| .here) rfl) rfl rfl <| .on rfl <| .storeW sz34 rfl rfl rfl rfl rfl rfl .here <| .nil <| .go <| .ret ?_
  refine Post.rets rfl (.agg rfl ag34 sz34 .here rfl .nil) rfl (Imm.le_trans hK hM) (fun w h => (Sat.tail (Sat.tail h))) ?_
  exact ⟨_, rfl, ⟨⟨_, _, rfl, hy50.mono hM, hy80⟩, ht0.name, ht0.needs, ht0.group, ht0.apart, ht0.rank⟩, rfl⟩

set_option maxHeartbeats 16000000 in
set_option maxRecDepth 20000 in
theorem rbCopy_ok {I : Imm} {O : Own} {kc : List Value} {b : Bk} (hk : BkR I kc b) (hM : BkM b) :
    Go.Sy.Does Tryz.prog 11 [.agg ⟨kc⟩] I O (fun u I' O' => ∃ nv tv bv on ot ob, u = .agg ⟨b.cells nv tv bv⟩ ∧ BkO I' b nv tv bv on ot ob ∧ O' = on ++ (ot ++ (ob ++ O))) := by
  have hk0 := hk
  obtain ⟨nv, tv, bv, rfl, hnv, htv, hbv⟩ := hk.ex
  have hnv0 := hnv
  have htv0 := htv
  have hbv0 := hbv
  obtain ⟨na, ncap, rfl, hn1, hn2, -⟩ := hnv
  obtain ⟨ta, tcap, rfl, ht1, ht2, -⟩ := htv
  obtain ⟨ba, bcap, rfl, hb1, hb2, -⟩ := hbv
  have hf := hk0.fence
  have hM1 := hM.n
  have hM2 := hM.t
  have hM3 := hM.x
  refine Go.Sy.Does.enter Tryz.func11 rfl Tryz.ntmps11 rfl ?_
  refine .seq <| .region <| .on rfl <| .box rfl rfl rfl fun c1 _ _ => .on rfl <| .alloc zr27 rfl fun c2 _ _ => .nil <| .go ?_
  refine .seq <| .region <| .e (.fieldAddr fo27_3 rfl) rfl rfl <| .e (.load ag25 rfl (.there <| .here) rfl) rfl rfl <| .e (.build bs27 zv27 rfl rfl) rfl rfl <| .on rfl <| .alloc zr27 rfl fun c3 _ _ => ?_
  refine .on rfl <| .storeW sz27 rfl rfl rfl rfl rfl rfl .here <| .nil <| .go <| .seq <| .seq <| .region ?_
  refine .e (.fieldAddr fo27_0 rfl) rfl rfl <| .e (.load ag22 rfl (.there <| .there <| .here) rfl) rfl rfl <| .e (.len sl22 rfl rfl) rfl rfl <| .e (.move rfl) rfl rfl <| .nil <| .go ?_
  refine .block ?_
  refine .loopM [5, 14, 15, 16, 17, 18, 19, 20, 21, 22, 23, 24, 25] (fun s => b.nodes.length - s.1) (fun s => s.1 ≤ b.nodes.length ∧ OwnS 6 s.2.1 s.1 s.2.2.1 s.2.2.2.1 ∧ DR NodR 6 s.2.2.2.2 s.2.2.1 (b.nodes.take s.1) ∧ Imm.le I s.2.2.2.2) (fun s => [(14, .int .i64 s.1)]) (fun s => s.2.2.2.2) (fun s => s.2.2.2.1 ++ ((c3, .cells ⟨[s.2.1, .slice none 0 0, .slice none 0 0, .int .u64 b.fence]⟩ 27 (0, 0)) :: _)) (((0, .slice none 0 0, [], [], I) : Nat × Value × List Value × Own × Imm)) ⟨Nat.zero_le _, OwnS.nil, DR.nil, Imm.le_refl _⟩ ⟨rfl, trivial⟩ rfl rfl ?_
  intro ⟨kn, vnL, wsnL, obnL, Jn⟩ hkn
  dsimp only at hkn ⊢
  obtain ⟨hkn, honL, hdnL, hJn⟩ := hkn
  obtain ⟨adnL, capnL, rfl⟩ := honL.form
  refine .seq <| .region <| .e (.lss rfl rfl) rfl rfl <| .nil <| .go <| .seq ?_
  refine .split 15 rfl (fun h15 => ?_) (fun h15 => ?_)
  · skip
    replace h15 := of_decide_eq_true h15
    refine .cond_true rfl <| .skip <| .go <| .seq <| .block <| .seq ?_
    refine .region ?_
    obtain ⟨eb16, eo16, cs16, hd16, hat16, hr16⟩ := SlR.at_ (NodsR.mono hJn hnv0) (k := kn) (by omega)
    cases hd16
    have hn16 := hr16
    obtain ⟨xf16, xg16, rfl, hxf16, hxg16⟩ := hr16.ex
    obtain ⟨xh16, xi16, rfl, -⟩ := hxf16
    obtain ⟨xj16, xk16, rfl, -⟩ := hxg16
    refine .e (.indexAddrL sl22 rfl rfl rfl (by omega)) rfl rfl <| .e (.loadIA ag32 sz32 rfl hat16 rfl) rfl rfl <| .on rfl <| .alloc zr32 rfl fun c4 _ _ => .on rfl <| .storeW sz32 rfl rfl rfl rfl rfl rfl .here <| .nil <| .go ?_
    refine .draw [(c3, _), (c4, _)] mixed (.cons (.there <| .app <| .here) (.cons .here .nil)) ?_
    refine .t 0 rfl (.fieldAddr fo27_0 rfl) rfl rfl (by kernel_rfl) <| .t 1 rfl (.load ag22 rfl .here rfl) rfl rfl (by kernel_rfl) <| .t 2 rfl (.loadW ag32 sz32 rfl (.there <| .here) rfl) rfl rfl (by kernel_rfl) <| .one (i := 3) (by kernel_rfl) rfl rfl <| .call cal26 rfl rfl rfl (rCopyNode_ok hn16 (hM.nl _ (List.getElem_mem (by omega))).1 (hM.nl _ (List.getElem_mem (by omega))).2) fun v21 I21 O21 hI21 hK21 => ?_
    obtain ⟨cs21, hq21, hR21, rfl⟩ := hK21
    replace hq21 := hq21.symm
    subst hq21
    have hR21' := hR21
    obtain ⟨lv21, tv21, rfl, hl21, ht21⟩ := hR21'.ex
    obtain ⟨_, _, rfl, -⟩ := hl21
    obtain ⟨_, _, rfl, -⟩ := ht21
    refine ⟨(.cons (.there <| .app <| .here) (.cons .here .nil)), hI21, ?_⟩
    refine .one (i := 4) (by kernel_rfl) rfl rfl <| .buildSlice Tryz.underlying22 sz32 (by decide) (by decide) zv32 rfl rfl rfl rfl rfl fun c5 _ _ => ?_
    refine ⟨(.cons (.there <| .there <| .app <| .here) (.cons (.there <| .here) .nil)), hI21, ?_⟩
    refine .one (i := 5) (by kernel_rfl) rfl rfl <| .append Tryz.underlying22 Tryz.underlying22 sz32 by32 zv32 rfl rfl rfl (.there <| .there <| .front) honL ((OwnS.made (k := 6) rfl (by decide)).src (I := _) .here) rfl rfl (by omega) (by omega) rfl fun v23 ob23 ho23 => ?_
    refine ⟨(.cons (.app <| .there <| .there <| .here) (.cons (.app <| .there <| .here) .nil)), hI21, ?_⟩
    refine .t 6 rfl (.fieldAddr fo27_0 rfl) rfl rfl (by kernel_rfl) ?_
    obtain ⟨ad23, cap23, rfl⟩ := ho23.form
    refine .late (i := 7) (by kernel_rfl) (by kernel_rfl) (by kernel_rfl) rfl rfl <| .store sz22 rfl rfl rfl rfl rfl rfl (.app <| .there <| .there <| .here) <| .blk_normal <| .go <| .region <| .e (.add rfl rfl (by first | exact wrap_succ (by omega) | exact IntWalk.i64_in _ (by omega) | exact rfl)) rfl rfl <| .e (.move rfl) rfl rfl ?_
    refine .nil ?_
    refine .front1 (.app <| .here) ?_
    refine .tail ?_
    refine .front1 (.app <| .here) ?_
    refine .tail ?_
    exact .mid ((kn + 1, _, _, _, I21)) ⟨by dsimp only; omega, by dsimp only; omega, ho23, (by rw [List.take_succ_eq_append_getElem (show kn < b.nodes.length by omega)]; exact (hdnL.mono fun _ _ h => NodR.mono hI21 h).append (DR.single rfl hR21)), Imm.le_trans hJn hI21⟩ ⟨rfl, trivial⟩ rfl rfl (.pre 14 rfl (.app rfl .base))
  · skip
    replace h15 := of_decide_eq_false h15
    refine .cond_false rfl <| .exit <| .exit <| .exit <| .blk_exit <| .go ?_
    refine .seq <| .seq <| .region <| .e (.fieldAddr fo27_1 rfl) rfl rfl <| .e (.load ag23 rfl (.app <| .there <| .there <| .here) rfl) rfl rfl <| .e (.len sl23 rfl rfl) rfl rfl ?_
    refine .e (.move rfl) rfl rfl <| .nil <| .go <| .block ?_
    have ekn : kn = b.nodes.length := by omega
    subst ekn
    rw [List.take_length] at hdnL
    refine .loopM [7, 29, 30, 31, 32, 33, 34, 35, 36, 37, 38, 39, 40] (fun s => b.tasks.length - s.1) (fun s => s.1 ≤ b.tasks.length ∧ OwnS 9 s.2.1 s.1 s.2.2.1 s.2.2.2.1 ∧ DR TskR 9 s.2.2.2.2 s.2.2.1 (b.tasks.take s.1) ∧ Imm.le Jn s.2.2.2.2) (fun s => [(29, .int .i64 s.1)]) (fun s => s.2.2.2.2) (fun s => s.2.2.2.1 ++ (obnL ++ ((c3, .cells ⟨[.slice adnL b.nodes.length capnL, s.2.1, .slice none 0 0, .int .u64 b.fence]⟩ 27 (0, 0)) :: _))) (((0, .slice none 0 0, [], [], Jn) : Nat × Value × List Value × Own × Imm)) ⟨Nat.zero_le _, OwnS.nil, DR.nil, Imm.le_refl _⟩ ⟨rfl, trivial⟩ rfl rfl ?_
    intro ⟨kt, vtL, wstL, obtL, Jt⟩ hkt
    dsimp only at hkt ⊢
    obtain ⟨hkt, hotL, hdtL, hJt⟩ := hkt
    obtain ⟨adtL, captL, rfl⟩ := hotL.form
    refine .seq <| .region <| .e (.lss rfl rfl) rfl rfl <| .nil <| .go <| .seq ?_
    refine .split 30 rfl (fun h30 => ?_) (fun h30 => ?_)
    · skip
      replace h30 := of_decide_eq_true h30
      refine .cond_true rfl <| .skip <| .go <| .seq <| .block <| .seq ?_
      refine .region ?_
      obtain ⟨eb31, eo31, cs31, hd31, hat31, hr31⟩ := SlR.at_ (TsksR.mono (Imm.le_trans hJn hJt) htv0) (k := kt) (by omega)
      cases hd31
      have ht31 := hr31
      obtain ⟨xw31, xb31, rfl, hxw31, hxb31⟩ := hr31.ex
      obtain ⟨xa31, xc31, rfl, -⟩ := hxw31
      obtain ⟨xd31, xe31, rfl, -⟩ := hxb31
      refine .e (.indexAddrL sl23 rfl rfl rfl (by omega)) rfl rfl <| .e (.loadIA ag34 sz34 rfl hat31 rfl) rfl rfl <| .on rfl <| .alloc zr34 rfl fun c6 _ _ => .on rfl <| .storeW sz34 rfl rfl rfl rfl rfl rfl .here <| .nil <| .go ?_
      refine .draw [(c3, _), (c6, _)] mixed (.cons (.there <| .app <| .app <| .here) (.cons .here .nil)) ?_
      refine .t 0 rfl (.fieldAddr fo27_1 rfl) rfl rfl (by kernel_rfl) <| .t 1 rfl (.load ag23 rfl .here rfl) rfl rfl (by kernel_rfl) <| .t 2 rfl (.loadW ag34 sz34 rfl (.there <| .here) rfl) rfl rfl (by kernel_rfl) <| .one (i := 3) (by kernel_rfl) rfl rfl <| .call cal27 rfl rfl rfl (rCopyTask_ok ht31 (hM.tl _ (List.getElem_mem (by omega))).1 (hM.tl _ (List.getElem_mem (by omega))).2) fun v36 I36 O36 hI36 hK36 => ?_
      obtain ⟨cs36, hq36, hR36, rfl⟩ := hK36
      replace hq36 := hq36.symm
      subst hq36
      have hR36' := hR36
      obtain ⟨lv36, tv36, rfl, hl36, ht36⟩ := hR36'.ex
      obtain ⟨_, _, rfl, -⟩ := hl36
      obtain ⟨_, _, rfl, -⟩ := ht36
      refine ⟨(.cons (.there <| .app <| .app <| .here) (.cons .here .nil)), hI36, ?_⟩
      refine .one (i := 4) (by kernel_rfl) rfl rfl <| .buildSlice Tryz.underlying23 sz34 (by decide) (by decide) zv34 rfl rfl rfl rfl rfl fun c7 _ _ => ?_
      refine ⟨(.cons (.there <| .there <| .app <| .app <| .here) (.cons (.there <| .here) .nil)), hI36, ?_⟩
      refine .one (i := 5) (by kernel_rfl) rfl rfl <| .append Tryz.underlying23 Tryz.underlying23 sz34 by34 zv34 rfl rfl rfl (.there <| .there <| .front) hotL ((OwnS.made (k := 9) rfl (by decide)).src (I := _) .here) rfl rfl (by omega) (by omega) rfl fun v38 ob38 ho38 => ?_
      refine ⟨(.cons (.app <| .there <| .there <| .app <| .here) (.cons (.app <| .there <| .here) .nil)), hI36, ?_⟩
      refine .t 6 rfl (.fieldAddr fo27_1 rfl) rfl rfl (by kernel_rfl) ?_
      obtain ⟨ad38, cap38, rfl⟩ := ho38.form
      refine .late (i := 7) (by kernel_rfl) (by kernel_rfl) (by kernel_rfl) rfl rfl <| .store sz23 rfl rfl rfl rfl rfl rfl (.app <| .there <| .there <| .app <| .here) <| .blk_normal <| .go <| .region <| .e (.add rfl rfl (by first | exact wrap_succ (by omega) | exact IntWalk.i64_in _ (by omega) | exact rfl)) rfl rfl <| .e (.move rfl) rfl rfl ?_
      refine .nil ?_
      refine .front1 (.app <| .here) ?_
      refine .tail ?_
      refine .front1 (.app <| .here) ?_
      refine .tail ?_
      exact .mid ((kt + 1, _, _, _, I36)) ⟨by dsimp only; omega, by dsimp only; omega, ho38, (by rw [List.take_succ_eq_append_getElem (show kt < b.tasks.length by omega)]; exact (hdtL.mono fun _ _ h => TskR.mono hI36 h).append (DR.single rfl hR36)), Imm.le_trans hJt hI36⟩ ⟨rfl, trivial⟩ rfl rfl (.pre 14 rfl (.app rfl .base))
    · skip
      replace h30 := of_decide_eq_false h30
      refine .cond_false rfl <| .exit <| .exit <| .exit <| .blk_exit <| .go ?_
      refine .seq <| .region <| .e (.fieldAddr fo27_2 rfl) rfl rfl <| .e (.load ag24 rfl (.app <| .app <| .here) rfl) rfl rfl <| .e (.fieldAddr fo27_2 rfl) rfl rfl <| .e (.load ag24 rfl (.app <| .app <| .there <| .there <| .here) rfl) rfl rfl ?_
      have ekt : kt = b.tasks.length := by omega
      subst ekt
      obtain ⟨wsX, hsX, hdX⟩ := SlR.src (B := []) (fun _ _ h => BndR.len h) (BndsR.mono (Imm.le_trans hJn hJt) hbv0)
      refine .on rfl <| .append Tryz.underlying24 Tryz.underlying24 sz56 by56 zv56 rfl rfl rfl .nil OwnS.nil hsX.any hdX.1 (hdX.ones (by decide) fun _ _ h => BndR.ones h) (by omega) (by omega) rfl fun v45 ob45 ho45 => ?_
      rw [Nat.zero_add] at ho45
      obtain ⟨ad45, cap45, rfl⟩ := ho45.form
      refine .e (.fieldAddr fo27_2 rfl) rfl rfl <| .on rfl <| .store sz24 rfl rfl rfl rfl rfl rfl (.app <| .app <| .app <| .here) <| .nil <| .go <| .seq <| .region ?_
      refine .e (.loadW ag27 sz27 rfl (.app <| .app <| .app <| .here) rfl) rfl rfl <| .on rfl <| .storeW sz27 rfl rfl rfl rfl rfl rfl (.app <| .app <| .app <| .there <| .here) <| .nil <| .go <| .ret ?_
      refine .front (.app <| .front) ?_
      refine .front (.app <| .app <| .front) ?_
      refine Post.rets rfl (.agg rfl ag27 sz27 (.app <| .app <| .app <| .there <| .here) rfl .nil) rfl (Imm.le_trans hJn hJt) (fun w h => (Sat.tail (Sat.rem (Sat.tail (Sat.rem (Sat.tail (Sat.rem h (Rem.app <| Rem.app <| Rem.app <| Rem.here))) (Rem.app <| Rem.app <| Rem.app <| Rem.here))) (Rem.app <| Rem.app <| Rem.app <| Rem.here)))) ?_
      rw [List.take_length] at hdtL
      exact ⟨_, _, _, obnL, obtL, ob45, rfl, ⟨⟨_, honL, hdnL.mono fun _ _ h => h.mono hJt⟩, ⟨_, hotL, hdtL⟩, ⟨_, ho45, hdX⟩, hf⟩, rfl⟩

end Go.Proofs.YtcojkkndmholaaaGreatDoor
