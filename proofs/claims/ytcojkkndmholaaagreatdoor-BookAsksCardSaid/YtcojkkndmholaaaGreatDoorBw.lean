/- Walks of functions over a symbolic memory, printed by a program of the session. -/
import Derived.Test.YtcojkkndmholaaaGreatDoorBv
namespace Go.Proofs.YtcojkkndmholaaaGreatDoor
open Go.Sy
set_option linter.unusedSimpArgs false
set_option linter.unusedVariables false

set_option maxHeartbeats 1000000 in
set_option maxRecDepth 20000 in
theorem rbCheck_ok {I : Imm} {O : Own} {kc : List Value} {b : Bk} (hk : BkR I kc b) :
    Pure Tryz.prog 25 [.agg ⟨kc⟩] I O (.int .i64 (bookWhy b)) := by
  have hk0 := hk
  obtain ⟨nv, tv, bv, rfl, hnv, htv, hbv⟩ := hk.ex
  have hnv0 := hnv
  have htv0 := htv
  have hbv0 := hbv
  obtain ⟨na, ncap, rfl, hn1, hn2, -⟩ := hnv
  obtain ⟨ta, tcap, rfl, ht1, ht2, -⟩ := htv
  obtain ⟨ba, bcap, rfl, hb1, hb2, -⟩ := hbv
  refine Go.Sy.Does.enter Tryz.func25 rfl Tryz.ntmps25 rfl ?_
  refine .seq <| .region <| .on rfl <| .box rfl rfl rfl fun c1 _ _ => .e (.assign rfl) rfl rfl <| .nil <| .go ?_
  refine .seq <| .seq <| .region <| .e (.loadW ag27 sz27 rfl .here rfl) rfl rfl <| .on rfl <| .callP cal69 rfl rfl rfl (listed_okR hk0) <| .e (.not rfl) rfl rfl ?_
  refine .nil <| .go ?_
  refine .split 7 rfl (fun h7 => ?_) (fun h7 => ?_)
  · skip
    refine .cond_true rfl <| .seq <| .region <| .e (.assign rfl) rfl rfl <| .nil <| .go ?_
    refine .ret <| .ret ?_
    refine .tail ?_
    refine Post.retE rfl rfl ?_
    refine congrArg (Value.int .i64) ?_
    unfold bookWhy
    rw [listed_ok]
    rw [(Bool.not_eq_true' _).mp h7]
    rfl
  · skip
    have hlB := (Bool.not_eq_false' _).mp h7
    have hT := Listed.of hlB
    refine .cond_false rfl <| .skip <| .go <| .seq <| .seq <| .region ?_
    refine .e (.fieldAddr fo27_0 rfl) rfl rfl <| .e (.load ag22 rfl .here rfl) rfl rfl <| .e (.len sl22 rfl rfl) rfl rfl <| .e (.move rfl) rfl rfl <| .nil <| .go ?_
    refine .block ?_
    refine .loopM [2, 4, 11, 12, 13, 14, 15, 16, 17, 18, 19] (fun k => b.nodes.length - k) (fun k => k ≤ b.nodes.length ∧ (b.nodes.take k).any (fun n => !wellR b n) = false) (fun k => [(11, .int .i64 k)]) (fun _ => _) (fun _ => _) (0) ⟨Nat.zero_le _, rfl⟩ ⟨rfl, trivial⟩ rfl rfl ?_
    intro k hk
    obtain ⟨hkk, hw⟩ := hk
    refine .seq <| .region <| .e (.lss rfl rfl) rfl rfl <| .nil <| .go <| .seq ?_
    refine .split 12 rfl (fun h12 => ?_) (fun h12 => ?_)
    · skip
      replace h12 := of_decide_eq_true h12
      refine .cond_true rfl <| .skip <| .go <| .seq <| .block <| .seq ?_
      refine .region ?_
      obtain ⟨eb13, eo13, cs13, hd13, hat13, hr13⟩ := SlR.at_ hnv0 (k := k) (by omega)
      cases hd13
      have hn13 := hr13
      obtain ⟨xf13, xg13, rfl, hxf13, hxg13⟩ := hr13.ex
      obtain ⟨xh13, xi13, rfl, -⟩ := hxf13
      obtain ⟨xj13, xk13, rfl, -⟩ := hxg13
      refine .e (.indexAddrL sl22 rfl rfl rfl (by omega)) rfl rfl <| .e (.loadIA ag32 sz32 rfl hat13 rfl) rfl rfl <| .on rfl <| .alloc zr32 rfl fun c2 _ _ => .on rfl <| .storeW sz32 rfl rfl rfl rfl rfl rfl .here <| .nil <| .go ?_
      refine .seq <| .region <| .e (.loadW ag27 sz27 rfl (.there <| .here) rfl) rfl rfl <| .e (.loadW ag32 sz32 rfl .here rfl) rfl rfl <| .on rfl <| .callP cal70 rfl rfl rfl (rnode_ok hk0 hn13 hT (hT.nod _ (List.getElem_mem (by omega)))) <| .e (.not rfl) rfl rfl ?_
      refine .nil <| .go ?_
      refine .split 18 rfl (fun h18 => ?_) (fun h18 => ?_)
      · skip
        refine .cond_true rfl <| .seq <| .region <| .e (.assign rfl) rfl rfl <| .nil <| .go ?_
        refine .ret <| .blk_ret <| .ret <| .ret <| .blk_ret <| .ret ?_
        refine .tail <| .tail ?_
        refine Post.retE rfl rfl ?_
        refine congrArg (Value.int .i64) ?_
        unfold bookWhy
        rw [listed_ok]
        rw [hlB, List.any_eq_true.2 ⟨_, List.getElem_mem (show k < b.nodes.length by omega), h18⟩]
        rfl
      · skip
        refine .cond_false rfl <| .skip <| .blk_normal <| .go <| .region <| .e (.add rfl rfl (by first | exact wrap_succ (by omega) | exact IntWalk.i64_in _ (by omega) | exact rfl)) rfl rfl ?_
        refine .e (.move rfl) rfl rfl <| .nil ?_
        refine .tail ?_
        exact .mid (k + 1) ⟨by omega, by omega, any_take_step (by omega) hw h18⟩ ⟨rfl, trivial⟩ rfl rfl (.pre 12 rfl (.app rfl .base))
    · skip
      replace h12 := of_decide_eq_false h12
      refine .cond_false rfl <| .exit <| .exit <| .exit <| .blk_exit <| .go ?_
      refine .seq <| .region <| .e (.assign rfl) rfl rfl <| .nil <| .go <| .ret ?_
      refine .tail ?_
      refine Post.retE rfl rfl ?_
      refine congrArg (Value.int .i64) ?_
      unfold bookWhy
      rw [listed_ok]
      rw [hlB, any_take_all (k := k) (by omega) hw]
      rfl

set_option maxHeartbeats 1000000 in
set_option maxRecDepth 20000 in
theorem noPairs_ok {I : Imm} {O : Own} {v : Value} {l : List Pr} (hl : PrsR I v l) :
    Pure Tryz.prog 93 [v] I O (.bool (decide (l.length = 0))) := by
  have hl0 := hl
  obtain ⟨la, lcap, rfl, hl1, hl2, -⟩ := hl
  refine Go.Sy.Does.enter Tryz.func93 rfl Tryz.ntmps93 rfl ?_
  refine .seq <| .region <| .e (.assign rfl) rfl rfl <| .nil <| .go <| .seq ?_
  refine .region <| .e (.move rfl) rfl rfl <| .e (.len sl30 rfl rfl) rfl rfl <| .e ((EV.cast (.eql rfl rfl) (congrArg Value.bool (show decide ((l.length : Int) = 0) = decide (l.length = 0) from decide_eq_decide.2 (by omega))))) rfl rfl <| .e (.assign rfl) rfl rfl <| .nil ?_
  refine .go <| .ret ?_
  refine Post.retE rfl rfl ?_
  rfl

set_option maxHeartbeats 1000000 in
set_option maxRecDepth 20000 in
theorem rnoNode_ok {I : Imm} {O : Own} {nc : List Value} {n : Nod} (hn : NodR I nc n) :
    Pure Tryz.prog 44 [.agg ⟨nc⟩] I O (.bool (emptyN n)) := by
  have hn0 := hn
  obtain ⟨nl, nt, rfl, hnl, hnt⟩ := hn.ex
  have hnl0 := hnl
  obtain ⟨la, lcap, rfl, hl1, hl2, -⟩ := hnl
  have hnt0 := hnt
  obtain ⟨ta, tcap, rfl, ht1, ht2, -⟩ := hnt
  refine Go.Sy.Does.enter Tryz.func44 rfl Tryz.ntmps44 rfl ?_
  refine .seq <| .region <| .on rfl <| .box rfl rfl rfl fun c1 _ _ => .e (.assign rfl) rfl rfl <| .nil <| .go ?_
  refine .seq <| .region <| .e (.fieldAddr fo32_0 rfl) rfl rfl <| .e (.load ag9 rfl .here rfl) rfl rfl <| .e (.streq rfl rfl) rfl rfl <| .e (.move rfl) rfl rfl ?_
  refine .split 6 rfl (fun h6 => ?_) (fun h6 => ?_)
  · skip
    replace h6 := of_decide_eq_true h6
    refine .e (.fieldAddr fo32_1 rfl) rfl rfl <| .e (.loadP ag29 sz29 rfl .here rfl) rfl rfl <| .e (.buildA ar29 zv29 rfl rfl) rfl rfl <| .e (.eqv (eqA3 (x := n.has) (y := ⟨0, 0, 0⟩)) rfl rfl) rfl rfl <| .e (.pickT rfl rfl) rfl rfl <| .e (.move rfl) rfl rfl ?_
    refine .split 12 rfl (fun h12 => ?_) (fun h12 => ?_)
    · skip
      refine .e (.fieldAddr fo32_2 rfl) rfl rfl <| .e (.load ag30 rfl .here rfl) rfl rfl <| .on rfl <| .callP cal93 rfl rfl rfl (noPairs_ok hnl0) <| .e (.pickT rfl rfl) rfl rfl <| .e (.move rfl) rfl rfl ?_
      refine .split 17 rfl (fun h17 => ?_) (fun h17 => ?_)
      · skip
        refine .e (.fieldAddr fo32_3 rfl) rfl rfl <| .e (.load ag30 rfl .here rfl) rfl rfl <| .on rfl <| .callP cal93 rfl rfl rfl (noPairs_ok hnt0) <| .e (.pickT rfl rfl) rfl rfl <| .e (.assign rfl) rfl rfl <| .nil ?_
        refine .go <| .ret ?_
        refine .tail ?_
        refine Post.retE rfl rfl ?_
        refine congrArg Value.bool ?_
        unfold emptyN
        simp_all
      · skip
        refine .off rfl rfl <| .off rfl rfl <| .off rfl rfl <| .e (.pickF rfl rfl) rfl rfl <| .e (.assign rfl) rfl rfl <| .nil ?_
        refine .go <| .ret ?_
        refine .tail ?_
        refine Post.retE rfl rfl ?_
        refine congrArg Value.bool ?_
        unfold emptyN
        simp_all
    · skip
      refine .off rfl rfl <| .off rfl rfl <| .off rfl rfl <| .e (.pickF rfl rfl) rfl rfl <| .e (.move rfl) rfl rfl <| .off rfl rfl ?_
      refine .off rfl rfl <| .off rfl rfl <| .e (.pickF rfl rfl) rfl rfl <| .e (.assign rfl) rfl rfl <| .nil <| .go ?_
      refine .ret ?_
      refine .tail ?_
      refine Post.retE rfl rfl ?_
      refine congrArg Value.bool ?_
      unfold emptyN
      simp_all
  · skip
    replace h6 := of_decide_eq_false h6
    refine .off rfl rfl <| .off rfl rfl <| .off rfl rfl <| .off rfl rfl <| .e (.pickF rfl rfl) rfl rfl <| .e (.move rfl) rfl rfl ?_
    refine .off rfl rfl <| .off rfl rfl <| .off rfl rfl <| .e (.pickF rfl rfl) rfl rfl <| .e (.move rfl) rfl rfl <| .off rfl rfl ?_
    refine .off rfl rfl <| .off rfl rfl <| .e (.pickF rfl rfl) rfl rfl <| .e (.assign rfl) rfl rfl <| .nil <| .go ?_
    refine .ret ?_
    refine .tail ?_
    refine Post.retE rfl rfl ?_
    refine congrArg Value.bool ?_
    unfold emptyN
    simp_all

set_option maxHeartbeats 1000000 in
set_option maxRecDepth 20000 in
theorem rnoTask_ok {I : Imm} {O : Own} {tc : List Value} {t : Tsk} (ht : TskR I tc t) :
    Pure Tryz.prog 45 [.agg ⟨tc⟩] I O (.bool (emptyT t)) := by
  have ht0 := ht
  obtain ⟨tw, tb, rfl, htw, htb⟩ := ht.ex
  have htw0 := htw
  obtain ⟨wa, wcap, rfl, hw1, hw2, -⟩ := htw
  have htb0 := htb
  obtain ⟨ba, bcap, rfl, hb1, hb2, -⟩ := htb
  refine Go.Sy.Does.enter Tryz.func45 rfl Tryz.ntmps45 rfl ?_
  refine .seq <| .region <| .on rfl <| .box rfl rfl rfl fun c1 _ _ => .e (.assign rfl) rfl rfl <| .nil <| .go ?_
  refine .seq <| .region <| .e (.fieldAddr fo34_0 rfl) rfl rfl <| .e (.load ag9 rfl .here rfl) rfl rfl <| .e (.streq rfl rfl) rfl rfl <| .e (.move rfl) rfl rfl ?_
  refine .split 6 rfl (fun h6 => ?_) (fun h6 => ?_)
  · skip
    replace h6 := of_decide_eq_true h6
    refine .e (.fieldAddr fo34_1 rfl) rfl rfl <| .e (.loadP ag29 sz29 rfl .here rfl) rfl rfl <| .e (.buildA ar29 zv29 rfl rfl) rfl rfl <| .e (.eqv (eqA3 (x := t.needs) (y := ⟨0, 0, 0⟩)) rfl rfl) rfl rfl <| .e (.pickT rfl rfl) rfl rfl <| .e (.move rfl) rfl rfl ?_
    refine .split 12 rfl (fun h12 => ?_) (fun h12 => ?_)
    · skip
      refine .e (.fieldAddr fo34_2 rfl) rfl rfl <| .e (.load ag30 rfl .here rfl) rfl rfl <| .on rfl <| .callP cal93 rfl rfl rfl (noPairs_ok htw0) <| .e (.pickT rfl rfl) rfl rfl <| .e (.move rfl) rfl rfl ?_
      refine .split 17 rfl (fun h17 => ?_) (fun h17 => ?_)
      · skip
        refine .e (.fieldAddr fo34_3 rfl) rfl rfl <| .e (.load ag30 rfl .here rfl) rfl rfl <| .on rfl <| .callP cal93 rfl rfl rfl (noPairs_ok htb0) <| .e (.pickT rfl rfl) rfl rfl <| .e (.move rfl) rfl rfl ?_
        refine .split 22 rfl (fun h22 => ?_) (fun h22 => ?_)
        · skip
          refine .e (.fieldAddr fo34_4 rfl) rfl rfl <| .e (.load ag9 rfl .here rfl) rfl rfl <| .e (.streq rfl rfl) rfl rfl <| .e (.pickT rfl rfl) rfl rfl <| .e (.move rfl) rfl rfl ?_
          refine .split 27 rfl (fun h27 => ?_) (fun h27 => ?_)
          · skip
            replace h27 := of_decide_eq_true h27
            refine .e (.fieldAddr fo34_5 rfl) rfl rfl <| .e (.load ag9 rfl .here rfl) rfl rfl <| .e (.streq rfl rfl) rfl rfl <| .e (.pickT rfl rfl) rfl rfl <| .e (.move rfl) rfl rfl ?_
            refine .split 32 rfl (fun h32 => ?_) (fun h32 => ?_)
            · skip
              replace h32 := of_decide_eq_true h32
              refine .e (.fieldAddr fo34_6 rfl) rfl rfl <| .e (.load ag3 rfl .here rfl) rfl rfl <| .e (.eql rfl rfl) rfl rfl <| .e (.pickT rfl rfl) rfl rfl <| .e (.assign rfl) rfl rfl <| .nil ?_
              refine .go <| .ret ?_
              refine .tail ?_
              refine Post.retE rfl rfl ?_
              refine congrArg Value.bool ?_
              unfold emptyT
              simp_all
            · skip
              replace h32 := of_decide_eq_false h32
              refine .off rfl rfl <| .off rfl rfl <| .off rfl rfl <| .e (.pickF rfl rfl) rfl rfl <| .e (.assign rfl) rfl rfl <| .nil ?_
              refine .go <| .ret ?_
              refine .tail ?_
              refine Post.retE rfl rfl ?_
              refine congrArg Value.bool ?_
              unfold emptyT
              simp_all
          · skip
            replace h27 := of_decide_eq_false h27
            refine .off rfl rfl <| .off rfl rfl <| .off rfl rfl <| .e (.pickF rfl rfl) rfl rfl <| .e (.move rfl) rfl rfl <| .off rfl rfl ?_
            refine .off rfl rfl <| .off rfl rfl <| .e (.pickF rfl rfl) rfl rfl <| .e (.assign rfl) rfl rfl <| .nil <| .go ?_
            refine .ret ?_
            refine .tail ?_
            refine Post.retE rfl rfl ?_
            refine congrArg Value.bool ?_
            unfold emptyT
            simp_all
        · skip
          refine .off rfl rfl <| .off rfl rfl <| .off rfl rfl <| .e (.pickF rfl rfl) rfl rfl <| .e (.move rfl) rfl rfl <| .off rfl rfl ?_
          refine .off rfl rfl <| .off rfl rfl <| .e (.pickF rfl rfl) rfl rfl <| .e (.move rfl) rfl rfl <| .off rfl rfl <| .off rfl rfl ?_
          refine .off rfl rfl <| .e (.pickF rfl rfl) rfl rfl <| .e (.assign rfl) rfl rfl <| .nil <| .go <| .ret ?_
          refine .tail ?_
          refine Post.retE rfl rfl ?_
          refine congrArg Value.bool ?_
          unfold emptyT
          simp_all
      · skip
        refine .off rfl rfl <| .off rfl rfl <| .off rfl rfl <| .e (.pickF rfl rfl) rfl rfl <| .e (.move rfl) rfl rfl <| .off rfl rfl ?_
        refine .off rfl rfl <| .off rfl rfl <| .e (.pickF rfl rfl) rfl rfl <| .e (.move rfl) rfl rfl <| .off rfl rfl <| .off rfl rfl ?_
        refine .off rfl rfl <| .e (.pickF rfl rfl) rfl rfl <| .e (.move rfl) rfl rfl <| .off rfl rfl <| .off rfl rfl <| .off rfl rfl ?_
        refine .e (.pickF rfl rfl) rfl rfl <| .e (.assign rfl) rfl rfl <| .nil <| .go <| .ret ?_
        refine .tail ?_
        refine Post.retE rfl rfl ?_
        refine congrArg Value.bool ?_
        unfold emptyT
        simp_all
    · skip
      refine .off rfl rfl <| .off rfl rfl <| .off rfl rfl <| .e (.pickF rfl rfl) rfl rfl <| .e (.move rfl) rfl rfl <| .off rfl rfl ?_
      refine .off rfl rfl <| .off rfl rfl <| .e (.pickF rfl rfl) rfl rfl <| .e (.move rfl) rfl rfl <| .off rfl rfl <| .off rfl rfl ?_
      refine .off rfl rfl <| .e (.pickF rfl rfl) rfl rfl <| .e (.move rfl) rfl rfl <| .off rfl rfl <| .off rfl rfl <| .off rfl rfl ?_
      refine .e (.pickF rfl rfl) rfl rfl <| .e (.move rfl) rfl rfl <| .off rfl rfl <| .off rfl rfl <| .off rfl rfl <| .e (.pickF rfl rfl) rfl rfl ?_
      refine .e (.assign rfl) rfl rfl <| .nil <| .go <| .ret ?_
      refine .tail ?_
      refine Post.retE rfl rfl ?_
      refine congrArg Value.bool ?_
      unfold emptyT
      simp_all
  · skip
    replace h6 := of_decide_eq_false h6
    refine .off rfl rfl <| .off rfl rfl <| .off rfl rfl <| .off rfl rfl <| .e (.pickF rfl rfl) rfl rfl <| .e (.move rfl) rfl rfl ?_
    refine .off rfl rfl <| .off rfl rfl <| .off rfl rfl <| .e (.pickF rfl rfl) rfl rfl <| .e (.move rfl) rfl rfl <| .off rfl rfl ?_
    refine .off rfl rfl <| .off rfl rfl <| .e (.pickF rfl rfl) rfl rfl <| .e (.move rfl) rfl rfl <| .off rfl rfl <| .off rfl rfl ?_
    refine .off rfl rfl <| .e (.pickF rfl rfl) rfl rfl <| .e (.move rfl) rfl rfl <| .off rfl rfl <| .off rfl rfl <| .off rfl rfl ?_
    refine .e (.pickF rfl rfl) rfl rfl <| .e (.move rfl) rfl rfl <| .off rfl rfl <| .off rfl rfl <| .off rfl rfl <| .e (.pickF rfl rfl) rfl rfl ?_
    refine .e (.assign rfl) rfl rfl <| .nil <| .go <| .ret ?_
    refine .tail ?_
    refine Post.retE rfl rfl ?_
    refine congrArg Value.bool ?_
    unfold emptyT
    simp_all

theorem kind_cases {k : Int} (h : U8 k) : k = 1 ∨ k = 2 ∨ k = 3 ∨ k = 4 ∨ k = 5 ∨ k = 6 ∨ k = 7 ∨ k = 0 ∨ 8 ≤ k := by unfold U8 at h; omega

set_option maxHeartbeats 16000000 in
set_option maxRecDepth 20000 in
theorem rCheckOrder_ok {I : Imm} {O : Own} {oc : List Value} {o : Ordr} (ho : OrdrR I oc o) :
    Pure Tryz.prog 17 [.agg ⟨oc⟩] I O (.int .i64 (orderWhy o)) := by
  obtain ⟨okk, ond, otk, onm, oon, ofe⟩ := o
  have ho0 := ho
  obtain ⟨lv, tv, wv, bv, rfl, hon, holv, hotv, hot, howv, hobv⟩ := ho.ex
  have hkd := ho0.kind
  obtain ⟨olva, olvc, rfl, -⟩ := holv
  obtain ⟨otva, otvc, rfl, -⟩ := hotv
  obtain ⟨owva, owvc, rfl, -⟩ := howv
  obtain ⟨obva, obvc, rfl, -⟩ := hobv
  dsimp only at hkd hon hot
  refine Go.Sy.Does.enter Tryz.func17 rfl Tryz.ntmps17 rfl ?_
  refine .seq <| .region <| .on rfl <| .box rfl rfl rfl fun c1 _ _ => .e (.assign rfl) rfl rfl <| .nil <| .go ?_
  refine .seq <| .region <| .e (.fieldAddr fo36_0 rfl) rfl rfl ?_
  rcases kind_cases hkd with rfl | rfl | rfl | rfl | rfl | rfl | rfl | rfl | hbig
  · skip
    refine .e (.load ag28 rfl .here rfl) rfl rfl <| .e (.assign rfl) rfl rfl <| .nil <| .go <| .seq <| .region ?_
    refine .e (.move rfl) rfl rfl <| .e (.neq rfl rfl) rfl rfl <| .e (.move rfl) rfl rfl <| .off rfl rfl <| .off rfl rfl <| .e (.pickF rfl rfl) rfl rfl ?_
    refine .e (.assign rfl) rfl rfl <| .nil <| .go <| .seq <| .region <| .e (.move rfl) rfl rfl ?_
    refine .e (.gtr rfl rfl) rfl rfl <| .e (.move rfl) rfl rfl <| .e (.move rfl) rfl rfl <| .e (.lss rfl rfl) rfl rfl <| .e (.pickT rfl rfl) rfl rfl <| .e (.move rfl) rfl rfl ?_
    refine .e (.move rfl) rfl rfl <| .e (.eql rfl rfl) rfl rfl <| .e (.move rfl) rfl rfl <| .off rfl rfl <| .off rfl rfl <| .off rfl rfl ?_
    refine .e (.pickT rfl rfl) rfl rfl <| .e (.pickT rfl rfl) rfl rfl <| .e (.move rfl) rfl rfl <| .e (.move rfl) rfl rfl <| .e (.eql rfl rfl) rfl rfl <| .e (.move rfl) rfl rfl ?_
    refine .e (.fieldAddr fo36_2 rfl) rfl rfl <| .e (.loadP ag34 sz34 rfl .here rfl) rfl rfl <| .on rfl <| .callP cal45 rfl rfl rfl (rnoTask_ok hot) <| .e (.pickF rfl rfl) rfl rfl <| .e (.pickT rfl rfl) rfl rfl <| .e (.move rfl) rfl rfl ?_
    refine .split 38 rfl (fun h38 => ?_) (fun h38 => ?_)
    · skip
      refine .e (.move rfl) rfl rfl <| .e (.move rfl) rfl rfl <| .e (.fieldAddr fo36_3 rfl) rfl rfl <| .e (.load ag9 rfl .here rfl) rfl rfl <| .e (.streq rfl rfl) rfl rfl <| .e (.pickF rfl rfl) rfl rfl ?_
      refine .e (.pickT rfl rfl) rfl rfl <| .e (.move rfl) rfl rfl ?_
      refine .split 46 rfl (fun h46 => ?_) (fun h46 => ?_)
      · skip
        replace h46 := of_decide_eq_true h46
        refine .e (.move rfl) rfl rfl <| .e (.eql rfl rfl) rfl rfl <| .e (.move rfl) rfl rfl <| .e (.fieldAddr fo36_4 rfl) rfl rfl <| .e (.load ag9 rfl .here rfl) rfl rfl <| .e (.streq rfl rfl) rfl rfl ?_
        refine .e (.move rfl) rfl rfl ?_
        refine .split 53 rfl (fun h53 => ?_) (fun h53 => ?_)
        · skip
          replace h53 := of_decide_eq_true h53
          refine .e (.fieldAddr fo36_5 rfl) rfl rfl <| .e (.load ag25 rfl .here rfl) rfl rfl <| .e (.eql rfl rfl) rfl rfl <| .e (.pickT rfl rfl) rfl rfl <| .e (.pickF rfl rfl) rfl rfl <| .e (.pickT rfl rfl) rfl rfl ?_
          refine .e (.assign rfl) rfl rfl <| .nil <| .go <| .seq <| .seq <| .region ?_
          refine .e (.move rfl) rfl rfl <| .e (.not rfl) rfl rfl <| .nil <| .go ?_
          refine .split 61 rfl (fun h61 => ?_) (fun h61 => ?_)
          · skip
            first | replace h61 := of_decide_eq_false ((Bool.not_eq_true' _).mp h61) | replace h61 := of_decide_eq_false (by simpa using h61)
            refine .cond_true rfl <| .seq <| .region <| .e (.assign rfl) rfl rfl <| .nil <| .go ?_
            refine .ret <| .ret ?_
            refine .tail ?_
            refine Post.retE rfl rfl ?_
            refine congrArg (Value.int .i64) ?_
            unfold orderWhy orderOk noName plainO
            simp_all
          · skip
            first | replace h61 := of_decide_eq_true ((Bool.not_eq_false' _).mp h61) | replace h61 := of_decide_eq_true (by simpa using h61)
            refine .cond_false rfl <| .skip <| .go <| .seq <| .region <| .e (.assign rfl) rfl rfl ?_
            refine .nil <| .go <| .ret ?_
            refine .tail ?_
            refine Post.retE rfl rfl ?_
            refine congrArg (Value.int .i64) ?_
            unfold orderWhy orderOk noName plainO
            simp_all
        · skip
          replace h53 := of_decide_eq_false h53
          refine .off rfl rfl <| .off rfl rfl <| .off rfl rfl <| .e (.pickF rfl rfl) rfl rfl <| .e (.pickF rfl rfl) rfl rfl <| .e (.pickT rfl rfl) rfl rfl ?_
          refine .e (.assign rfl) rfl rfl <| .nil <| .go <| .seq <| .seq <| .region ?_
          refine .e (.move rfl) rfl rfl <| .e (.not rfl) rfl rfl <| .nil <| .go <| .cond_true rfl <| .seq ?_
          refine .region <| .e (.assign rfl) rfl rfl <| .nil <| .go <| .ret <| .ret ?_
          refine .tail ?_
          refine Post.retE rfl rfl ?_
          refine congrArg (Value.int .i64) ?_
          unfold orderWhy orderOk noName plainO
          simp_all
      · skip
        replace h46 := of_decide_eq_false h46
        refine .off rfl rfl <| .off rfl rfl <| .off rfl rfl <| .off rfl rfl <| .off rfl rfl <| .off rfl rfl ?_
        refine .off rfl rfl <| .off rfl rfl <| .off rfl rfl <| .off rfl rfl <| .off rfl rfl <| .off rfl rfl ?_
        refine .e (.pickF rfl rfl) rfl rfl <| .e (.assign rfl) rfl rfl <| .nil <| .go <| .seq <| .seq ?_
        refine .region <| .e (.move rfl) rfl rfl <| .e (.not rfl) rfl rfl <| .nil <| .go <| .cond_true rfl ?_
        refine .seq <| .region <| .e (.assign rfl) rfl rfl <| .nil <| .go <| .ret ?_
        refine .ret ?_
        refine .tail ?_
        refine Post.retE rfl rfl ?_
        refine congrArg (Value.int .i64) ?_
        unfold orderWhy orderOk noName plainO
        simp_all
    · skip
      refine .off rfl rfl <| .off rfl rfl <| .off rfl rfl <| .off rfl rfl <| .off rfl rfl <| .off rfl rfl ?_
      refine .e (.pickF rfl rfl) rfl rfl <| .e (.move rfl) rfl rfl <| .off rfl rfl <| .off rfl rfl <| .off rfl rfl <| .off rfl rfl ?_
      refine .off rfl rfl <| .off rfl rfl <| .off rfl rfl <| .off rfl rfl <| .off rfl rfl <| .off rfl rfl ?_
      refine .off rfl rfl <| .off rfl rfl <| .e (.pickF rfl rfl) rfl rfl <| .e (.assign rfl) rfl rfl <| .nil <| .go ?_
      refine .seq <| .seq <| .region <| .e (.move rfl) rfl rfl <| .e (.not rfl) rfl rfl <| .nil ?_
      refine .go <| .cond_true rfl <| .seq <| .region <| .e (.assign rfl) rfl rfl <| .nil ?_
      refine .go <| .ret <| .ret ?_
      refine .tail ?_
      refine Post.retE rfl rfl ?_
      refine congrArg (Value.int .i64) ?_
      unfold orderWhy orderOk noName plainO
      simp_all
  · skip
    refine .e (.load ag28 rfl .here rfl) rfl rfl <| .e (.assign rfl) rfl rfl <| .nil <| .go <| .seq <| .region ?_
    refine .e (.move rfl) rfl rfl <| .e (.neq rfl rfl) rfl rfl <| .e (.move rfl) rfl rfl <| .e (.move rfl) rfl rfl <| .e (.neq rfl rfl) rfl rfl <| .e (.pickT rfl rfl) rfl rfl ?_
    refine .e (.assign rfl) rfl rfl <| .nil <| .go <| .seq <| .region <| .e (.move rfl) rfl rfl ?_
    refine .e (.gtr rfl rfl) rfl rfl <| .e (.move rfl) rfl rfl <| .e (.move rfl) rfl rfl <| .e (.lss rfl rfl) rfl rfl <| .e (.pickT rfl rfl) rfl rfl <| .e (.move rfl) rfl rfl ?_
    refine .e (.move rfl) rfl rfl <| .e (.eql rfl rfl) rfl rfl <| .e (.move rfl) rfl rfl <| .e (.fieldAddr fo36_1 rfl) rfl rfl <| .e (.loadP ag32 sz32 rfl .here rfl) rfl rfl <| .on rfl <| .callP cal44 rfl rfl rfl (rnoNode_ok hon) ?_
    refine .e (.pickF rfl rfl) rfl rfl <| .e (.pickT rfl rfl) rfl rfl <| .e (.move rfl) rfl rfl ?_
    refine .split 29 rfl (fun h29 => ?_) (fun h29 => ?_)
    · skip
      refine .e (.move rfl) rfl rfl <| .e (.eql rfl rfl) rfl rfl <| .e (.move rfl) rfl rfl <| .e (.fieldAddr fo36_2 rfl) rfl rfl <| .e (.loadP ag34 sz34 rfl .here rfl) rfl rfl <| .on rfl <| .callP cal45 rfl rfl rfl (rnoTask_ok hot) ?_
      refine .e (.pickF rfl rfl) rfl rfl <| .e (.pickT rfl rfl) rfl rfl <| .e (.move rfl) rfl rfl ?_
      refine .split 38 rfl (fun h38 => ?_) (fun h38 => ?_)
      · skip
        refine .e (.move rfl) rfl rfl <| .e (.move rfl) rfl rfl <| .off rfl rfl <| .off rfl rfl <| .off rfl rfl <| .e (.pickT rfl rfl) rfl rfl ?_
        refine .e (.pickT rfl rfl) rfl rfl <| .e (.move rfl) rfl rfl <| .e (.move rfl) rfl rfl <| .e (.eql rfl rfl) rfl rfl <| .e (.move rfl) rfl rfl <| .e (.fieldAddr fo36_4 rfl) rfl rfl ?_
        refine .e (.load ag9 rfl .here rfl) rfl rfl <| .e (.streq rfl rfl) rfl rfl <| .e (.move rfl) rfl rfl ?_
        refine .split 53 rfl (fun h53 => ?_) (fun h53 => ?_)
        · skip
          replace h53 := of_decide_eq_true h53
          refine .e (.fieldAddr fo36_5 rfl) rfl rfl <| .e (.load ag25 rfl .here rfl) rfl rfl <| .e (.eql rfl rfl) rfl rfl <| .e (.pickT rfl rfl) rfl rfl <| .e (.pickF rfl rfl) rfl rfl <| .e (.pickT rfl rfl) rfl rfl ?_
          refine .e (.assign rfl) rfl rfl <| .nil <| .go <| .seq <| .seq <| .region ?_
          refine .e (.move rfl) rfl rfl <| .e (.not rfl) rfl rfl <| .nil <| .go ?_
          refine .split 61 rfl (fun h61 => ?_) (fun h61 => ?_)
          · skip
            first | replace h61 := of_decide_eq_false ((Bool.not_eq_true' _).mp h61) | replace h61 := of_decide_eq_false (by simpa using h61)
            refine .cond_true rfl <| .seq <| .region <| .e (.assign rfl) rfl rfl <| .nil <| .go ?_
            refine .ret <| .ret ?_
            refine .tail ?_
            refine Post.retE rfl rfl ?_
            refine congrArg (Value.int .i64) ?_
            unfold orderWhy orderOk noName plainO
            simp_all
          · skip
            first | replace h61 := of_decide_eq_true ((Bool.not_eq_false' _).mp h61) | replace h61 := of_decide_eq_true (by simpa using h61)
            refine .cond_false rfl <| .skip <| .go <| .seq <| .region <| .e (.assign rfl) rfl rfl ?_
            refine .nil <| .go <| .ret ?_
            refine .tail ?_
            refine Post.retE rfl rfl ?_
            refine congrArg (Value.int .i64) ?_
            unfold orderWhy orderOk noName plainO
            simp_all
        · skip
          replace h53 := of_decide_eq_false h53
          refine .off rfl rfl <| .off rfl rfl <| .off rfl rfl <| .e (.pickF rfl rfl) rfl rfl <| .e (.pickF rfl rfl) rfl rfl <| .e (.pickT rfl rfl) rfl rfl ?_
          refine .e (.assign rfl) rfl rfl <| .nil <| .go <| .seq <| .seq <| .region ?_
          refine .e (.move rfl) rfl rfl <| .e (.not rfl) rfl rfl <| .nil <| .go <| .cond_true rfl <| .seq ?_
          refine .region <| .e (.assign rfl) rfl rfl <| .nil <| .go <| .ret <| .ret ?_
          refine .tail ?_
          refine Post.retE rfl rfl ?_
          refine congrArg (Value.int .i64) ?_
          unfold orderWhy orderOk noName plainO
          simp_all
      · skip
        refine .off rfl rfl <| .off rfl rfl <| .off rfl rfl <| .off rfl rfl <| .off rfl rfl <| .off rfl rfl ?_
        refine .e (.pickF rfl rfl) rfl rfl <| .e (.move rfl) rfl rfl <| .off rfl rfl <| .off rfl rfl <| .off rfl rfl <| .off rfl rfl ?_
        refine .off rfl rfl <| .off rfl rfl <| .off rfl rfl <| .off rfl rfl <| .off rfl rfl <| .off rfl rfl ?_
        refine .off rfl rfl <| .off rfl rfl <| .e (.pickF rfl rfl) rfl rfl <| .e (.assign rfl) rfl rfl <| .nil <| .go ?_
        refine .seq <| .seq <| .region <| .e (.move rfl) rfl rfl <| .e (.not rfl) rfl rfl <| .nil ?_
        refine .go <| .cond_true rfl <| .seq <| .region <| .e (.assign rfl) rfl rfl <| .nil ?_
        refine .go <| .ret <| .ret ?_
        refine .tail ?_
        refine Post.retE rfl rfl ?_
        refine congrArg (Value.int .i64) ?_
        unfold orderWhy orderOk noName plainO
        simp_all
    · skip
      refine .off rfl rfl <| .off rfl rfl <| .off rfl rfl <| .off rfl rfl <| .off rfl rfl <| .off rfl rfl ?_
      refine .off rfl rfl <| .e (.pickF rfl rfl) rfl rfl <| .e (.move rfl) rfl rfl <| .off rfl rfl <| .off rfl rfl <| .off rfl rfl ?_
      refine .off rfl rfl <| .off rfl rfl <| .off rfl rfl <| .e (.pickF rfl rfl) rfl rfl <| .e (.move rfl) rfl rfl <| .off rfl rfl ?_
      refine .off rfl rfl <| .off rfl rfl <| .off rfl rfl <| .off rfl rfl <| .off rfl rfl <| .off rfl rfl ?_
      refine .off rfl rfl <| .off rfl rfl <| .off rfl rfl <| .off rfl rfl <| .off rfl rfl <| .e (.pickF rfl rfl) rfl rfl ?_
      refine .e (.assign rfl) rfl rfl <| .nil <| .go <| .seq <| .seq <| .region ?_
      refine .e (.move rfl) rfl rfl <| .e (.not rfl) rfl rfl <| .nil <| .go <| .cond_true rfl <| .seq ?_
      refine .region <| .e (.assign rfl) rfl rfl <| .nil <| .go <| .ret <| .ret ?_
      refine .tail ?_
      refine Post.retE rfl rfl ?_
      refine congrArg (Value.int .i64) ?_
      unfold orderWhy orderOk noName plainO
      simp_all
  · skip
    refine .e (.load ag28 rfl .here rfl) rfl rfl <| .e (.assign rfl) rfl rfl <| .nil <| .go <| .seq <| .region ?_
    refine .e (.move rfl) rfl rfl <| .e (.neq rfl rfl) rfl rfl <| .e (.move rfl) rfl rfl <| .e (.move rfl) rfl rfl <| .e (.neq rfl rfl) rfl rfl <| .e (.pickT rfl rfl) rfl rfl ?_
    refine .e (.assign rfl) rfl rfl <| .nil <| .go <| .seq <| .region <| .e (.move rfl) rfl rfl ?_
    refine .e (.gtr rfl rfl) rfl rfl <| .e (.move rfl) rfl rfl <| .e (.move rfl) rfl rfl <| .e (.lss rfl rfl) rfl rfl <| .e (.pickT rfl rfl) rfl rfl <| .e (.move rfl) rfl rfl ?_
    refine .e (.move rfl) rfl rfl <| .e (.eql rfl rfl) rfl rfl <| .e (.move rfl) rfl rfl <| .e (.fieldAddr fo36_1 rfl) rfl rfl <| .e (.loadP ag32 sz32 rfl .here rfl) rfl rfl <| .on rfl <| .callP cal44 rfl rfl rfl (rnoNode_ok hon) ?_
    refine .e (.pickF rfl rfl) rfl rfl <| .e (.pickT rfl rfl) rfl rfl <| .e (.move rfl) rfl rfl ?_
    refine .split 29 rfl (fun h29 => ?_) (fun h29 => ?_)
    · skip
      refine .e (.move rfl) rfl rfl <| .e (.eql rfl rfl) rfl rfl <| .e (.move rfl) rfl rfl <| .off rfl rfl <| .off rfl rfl <| .off rfl rfl ?_
      refine .e (.pickT rfl rfl) rfl rfl <| .e (.pickT rfl rfl) rfl rfl <| .e (.move rfl) rfl rfl <| .e (.move rfl) rfl rfl <| .e (.move rfl) rfl rfl <| .e (.fieldAddr fo36_3 rfl) rfl rfl ?_
      refine .e (.load ag9 rfl .here rfl) rfl rfl <| .e (.streq rfl rfl) rfl rfl <| .e (.pickF rfl rfl) rfl rfl <| .e (.pickT rfl rfl) rfl rfl <| .e (.move rfl) rfl rfl ?_
      refine .split 46 rfl (fun h46 => ?_) (fun h46 => ?_)
      · skip
        replace h46 := of_decide_eq_true h46
        refine .e (.move rfl) rfl rfl <| .e (.eql rfl rfl) rfl rfl <| .e (.move rfl) rfl rfl <| .e (.fieldAddr fo36_4 rfl) rfl rfl <| .e (.load ag9 rfl .here rfl) rfl rfl <| .e (.streq rfl rfl) rfl rfl ?_
        refine .e (.move rfl) rfl rfl ?_
        refine .split 53 rfl (fun h53 => ?_) (fun h53 => ?_)
        · skip
          replace h53 := of_decide_eq_true h53
          refine .e (.fieldAddr fo36_5 rfl) rfl rfl <| .e (.load ag25 rfl .here rfl) rfl rfl <| .e (.eql rfl rfl) rfl rfl <| .e (.pickT rfl rfl) rfl rfl <| .e (.pickF rfl rfl) rfl rfl <| .e (.pickT rfl rfl) rfl rfl ?_
          refine .e (.assign rfl) rfl rfl <| .nil <| .go <| .seq <| .seq <| .region ?_
          refine .e (.move rfl) rfl rfl <| .e (.not rfl) rfl rfl <| .nil <| .go ?_
          refine .split 61 rfl (fun h61 => ?_) (fun h61 => ?_)
          · skip
            first | replace h61 := of_decide_eq_false ((Bool.not_eq_true' _).mp h61) | replace h61 := of_decide_eq_false (by simpa using h61)
            refine .cond_true rfl <| .seq <| .region <| .e (.assign rfl) rfl rfl <| .nil <| .go ?_
            refine .ret <| .ret ?_
            refine .tail ?_
            refine Post.retE rfl rfl ?_
            refine congrArg (Value.int .i64) ?_
            unfold orderWhy orderOk noName plainO
            simp_all
          · skip
            first | replace h61 := of_decide_eq_true ((Bool.not_eq_false' _).mp h61) | replace h61 := of_decide_eq_true (by simpa using h61)
            refine .cond_false rfl <| .skip <| .go <| .seq <| .region <| .e (.assign rfl) rfl rfl ?_
            refine .nil <| .go <| .ret ?_
            refine .tail ?_
            refine Post.retE rfl rfl ?_
            refine congrArg (Value.int .i64) ?_
            unfold orderWhy orderOk noName plainO
            simp_all
        · skip
          replace h53 := of_decide_eq_false h53
          refine .off rfl rfl <| .off rfl rfl <| .off rfl rfl <| .e (.pickF rfl rfl) rfl rfl <| .e (.pickF rfl rfl) rfl rfl <| .e (.pickT rfl rfl) rfl rfl ?_
          refine .e (.assign rfl) rfl rfl <| .nil <| .go <| .seq <| .seq <| .region ?_
          refine .e (.move rfl) rfl rfl <| .e (.not rfl) rfl rfl <| .nil <| .go <| .cond_true rfl <| .seq ?_
          refine .region <| .e (.assign rfl) rfl rfl <| .nil <| .go <| .ret <| .ret ?_
          refine .tail ?_
          refine Post.retE rfl rfl ?_
          refine congrArg (Value.int .i64) ?_
          unfold orderWhy orderOk noName plainO
          simp_all
      · skip
        replace h46 := of_decide_eq_false h46
        refine .off rfl rfl <| .off rfl rfl <| .off rfl rfl <| .off rfl rfl <| .off rfl rfl <| .off rfl rfl ?_
        refine .off rfl rfl <| .off rfl rfl <| .off rfl rfl <| .off rfl rfl <| .off rfl rfl <| .off rfl rfl ?_
        refine .e (.pickF rfl rfl) rfl rfl <| .e (.assign rfl) rfl rfl <| .nil <| .go <| .seq <| .seq ?_
        refine .region <| .e (.move rfl) rfl rfl <| .e (.not rfl) rfl rfl <| .nil <| .go <| .cond_true rfl ?_
        refine .seq <| .region <| .e (.assign rfl) rfl rfl <| .nil <| .go <| .ret ?_
        refine .ret ?_
        refine .tail ?_
        refine Post.retE rfl rfl ?_
        refine congrArg (Value.int .i64) ?_
        unfold orderWhy orderOk noName plainO
        simp_all
    · skip
      refine .off rfl rfl <| .off rfl rfl <| .off rfl rfl <| .off rfl rfl <| .off rfl rfl <| .off rfl rfl ?_
      refine .off rfl rfl <| .e (.pickF rfl rfl) rfl rfl <| .e (.move rfl) rfl rfl <| .off rfl rfl <| .off rfl rfl <| .off rfl rfl ?_
      refine .off rfl rfl <| .off rfl rfl <| .off rfl rfl <| .e (.pickF rfl rfl) rfl rfl <| .e (.move rfl) rfl rfl <| .off rfl rfl ?_
      refine .off rfl rfl <| .off rfl rfl <| .off rfl rfl <| .off rfl rfl <| .off rfl rfl <| .off rfl rfl ?_
      refine .off rfl rfl <| .off rfl rfl <| .off rfl rfl <| .off rfl rfl <| .off rfl rfl <| .e (.pickF rfl rfl) rfl rfl ?_
      refine .e (.assign rfl) rfl rfl <| .nil <| .go <| .seq <| .seq <| .region ?_
      refine .e (.move rfl) rfl rfl <| .e (.not rfl) rfl rfl <| .nil <| .go <| .cond_true rfl <| .seq ?_
      refine .region <| .e (.assign rfl) rfl rfl <| .nil <| .go <| .ret <| .ret ?_
      refine .tail ?_
      refine Post.retE rfl rfl ?_
      refine congrArg (Value.int .i64) ?_
      unfold orderWhy orderOk noName plainO
      simp_all
  · skip
    refine .e (.load ag28 rfl .here rfl) rfl rfl <| .e (.assign rfl) rfl rfl <| .nil <| .go <| .seq <| .region ?_
    refine .e (.move rfl) rfl rfl <| .e (.neq rfl rfl) rfl rfl <| .e (.move rfl) rfl rfl <| .e (.move rfl) rfl rfl <| .e (.neq rfl rfl) rfl rfl <| .e (.pickT rfl rfl) rfl rfl ?_
    refine .e (.assign rfl) rfl rfl <| .nil <| .go <| .seq <| .region <| .e (.move rfl) rfl rfl ?_
    refine .e (.gtr rfl rfl) rfl rfl <| .e (.move rfl) rfl rfl <| .e (.move rfl) rfl rfl <| .e (.lss rfl rfl) rfl rfl <| .e (.pickT rfl rfl) rfl rfl <| .e (.move rfl) rfl rfl ?_
    refine .e (.move rfl) rfl rfl <| .e (.eql rfl rfl) rfl rfl <| .e (.move rfl) rfl rfl <| .e (.fieldAddr fo36_1 rfl) rfl rfl <| .e (.loadP ag32 sz32 rfl .here rfl) rfl rfl <| .on rfl <| .callP cal44 rfl rfl rfl (rnoNode_ok hon) ?_
    refine .e (.pickF rfl rfl) rfl rfl <| .e (.pickT rfl rfl) rfl rfl <| .e (.move rfl) rfl rfl ?_
    refine .split 29 rfl (fun h29 => ?_) (fun h29 => ?_)
    · skip
      refine .e (.move rfl) rfl rfl <| .e (.eql rfl rfl) rfl rfl <| .e (.move rfl) rfl rfl <| .e (.fieldAddr fo36_2 rfl) rfl rfl <| .e (.loadP ag34 sz34 rfl .here rfl) rfl rfl <| .on rfl <| .callP cal45 rfl rfl rfl (rnoTask_ok hot) ?_
      refine .e (.pickF rfl rfl) rfl rfl <| .e (.pickT rfl rfl) rfl rfl <| .e (.move rfl) rfl rfl ?_
      refine .split 38 rfl (fun h38 => ?_) (fun h38 => ?_)
      · skip
        refine .e (.move rfl) rfl rfl <| .e (.move rfl) rfl rfl <| .off rfl rfl <| .off rfl rfl <| .off rfl rfl <| .e (.pickT rfl rfl) rfl rfl ?_
        refine .e (.pickT rfl rfl) rfl rfl <| .e (.move rfl) rfl rfl <| .e (.move rfl) rfl rfl <| .e (.eql rfl rfl) rfl rfl <| .e (.move rfl) rfl rfl <| .e (.fieldAddr fo36_4 rfl) rfl rfl ?_
        refine .e (.load ag9 rfl .here rfl) rfl rfl <| .e (.streq rfl rfl) rfl rfl <| .e (.move rfl) rfl rfl ?_
        refine .split 53 rfl (fun h53 => ?_) (fun h53 => ?_)
        · skip
          replace h53 := of_decide_eq_true h53
          refine .e (.fieldAddr fo36_5 rfl) rfl rfl <| .e (.load ag25 rfl .here rfl) rfl rfl <| .e (.eql rfl rfl) rfl rfl <| .e (.pickT rfl rfl) rfl rfl <| .e (.pickF rfl rfl) rfl rfl <| .e (.pickT rfl rfl) rfl rfl ?_
          refine .e (.assign rfl) rfl rfl <| .nil <| .go <| .seq <| .seq <| .region ?_
          refine .e (.move rfl) rfl rfl <| .e (.not rfl) rfl rfl <| .nil <| .go ?_
          refine .split 61 rfl (fun h61 => ?_) (fun h61 => ?_)
          · skip
            first | replace h61 := of_decide_eq_false ((Bool.not_eq_true' _).mp h61) | replace h61 := of_decide_eq_false (by simpa using h61)
            refine .cond_true rfl <| .seq <| .region <| .e (.assign rfl) rfl rfl <| .nil <| .go ?_
            refine .ret <| .ret ?_
            refine .tail ?_
            refine Post.retE rfl rfl ?_
            refine congrArg (Value.int .i64) ?_
            unfold orderWhy orderOk noName plainO
            simp_all
          · skip
            first | replace h61 := of_decide_eq_true ((Bool.not_eq_false' _).mp h61) | replace h61 := of_decide_eq_true (by simpa using h61)
            refine .cond_false rfl <| .skip <| .go <| .seq <| .region <| .e (.assign rfl) rfl rfl ?_
            refine .nil <| .go <| .ret ?_
            refine .tail ?_
            refine Post.retE rfl rfl ?_
            refine congrArg (Value.int .i64) ?_
            unfold orderWhy orderOk noName plainO
            simp_all
        · skip
          replace h53 := of_decide_eq_false h53
          refine .off rfl rfl <| .off rfl rfl <| .off rfl rfl <| .e (.pickF rfl rfl) rfl rfl <| .e (.pickF rfl rfl) rfl rfl <| .e (.pickT rfl rfl) rfl rfl ?_
          refine .e (.assign rfl) rfl rfl <| .nil <| .go <| .seq <| .seq <| .region ?_
          refine .e (.move rfl) rfl rfl <| .e (.not rfl) rfl rfl <| .nil <| .go <| .cond_true rfl <| .seq ?_
          refine .region <| .e (.assign rfl) rfl rfl <| .nil <| .go <| .ret <| .ret ?_
          refine .tail ?_
          refine Post.retE rfl rfl ?_
          refine congrArg (Value.int .i64) ?_
          unfold orderWhy orderOk noName plainO
          simp_all
      · skip
        refine .off rfl rfl <| .off rfl rfl <| .off rfl rfl <| .off rfl rfl <| .off rfl rfl <| .off rfl rfl ?_
        refine .e (.pickF rfl rfl) rfl rfl <| .e (.move rfl) rfl rfl <| .off rfl rfl <| .off rfl rfl <| .off rfl rfl <| .off rfl rfl ?_
        refine .off rfl rfl <| .off rfl rfl <| .off rfl rfl <| .off rfl rfl <| .off rfl rfl <| .off rfl rfl ?_
        refine .off rfl rfl <| .off rfl rfl <| .e (.pickF rfl rfl) rfl rfl <| .e (.assign rfl) rfl rfl <| .nil <| .go ?_
        refine .seq <| .seq <| .region <| .e (.move rfl) rfl rfl <| .e (.not rfl) rfl rfl <| .nil ?_
        refine .go <| .cond_true rfl <| .seq <| .region <| .e (.assign rfl) rfl rfl <| .nil ?_
        refine .go <| .ret <| .ret ?_
        refine .tail ?_
        refine Post.retE rfl rfl ?_
        refine congrArg (Value.int .i64) ?_
        unfold orderWhy orderOk noName plainO
        simp_all
    · skip
      refine .off rfl rfl <| .off rfl rfl <| .off rfl rfl <| .off rfl rfl <| .off rfl rfl <| .off rfl rfl ?_
      refine .off rfl rfl <| .e (.pickF rfl rfl) rfl rfl <| .e (.move rfl) rfl rfl <| .off rfl rfl <| .off rfl rfl <| .off rfl rfl ?_
      refine .off rfl rfl <| .off rfl rfl <| .off rfl rfl <| .e (.pickF rfl rfl) rfl rfl <| .e (.move rfl) rfl rfl <| .off rfl rfl ?_
      refine .off rfl rfl <| .off rfl rfl <| .off rfl rfl <| .off rfl rfl <| .off rfl rfl <| .off rfl rfl ?_
      refine .off rfl rfl <| .off rfl rfl <| .off rfl rfl <| .off rfl rfl <| .off rfl rfl <| .e (.pickF rfl rfl) rfl rfl ?_
      refine .e (.assign rfl) rfl rfl <| .nil <| .go <| .seq <| .seq <| .region ?_
      refine .e (.move rfl) rfl rfl <| .e (.not rfl) rfl rfl <| .nil <| .go <| .cond_true rfl <| .seq ?_
      refine .region <| .e (.assign rfl) rfl rfl <| .nil <| .go <| .ret <| .ret ?_
      refine .tail ?_
      refine Post.retE rfl rfl ?_
      refine congrArg (Value.int .i64) ?_
      unfold orderWhy orderOk noName plainO
      simp_all
  · skip
    refine .e (.load ag28 rfl .here rfl) rfl rfl <| .e (.assign rfl) rfl rfl <| .nil <| .go <| .seq <| .region ?_
    refine .e (.move rfl) rfl rfl <| .e (.neq rfl rfl) rfl rfl <| .e (.move rfl) rfl rfl <| .e (.move rfl) rfl rfl <| .e (.neq rfl rfl) rfl rfl <| .e (.pickT rfl rfl) rfl rfl ?_
    refine .e (.assign rfl) rfl rfl <| .nil <| .go <| .seq <| .region <| .e (.move rfl) rfl rfl ?_
    refine .e (.gtr rfl rfl) rfl rfl <| .e (.move rfl) rfl rfl <| .e (.move rfl) rfl rfl <| .e (.lss rfl rfl) rfl rfl <| .e (.pickT rfl rfl) rfl rfl <| .e (.move rfl) rfl rfl ?_
    refine .e (.move rfl) rfl rfl <| .e (.eql rfl rfl) rfl rfl <| .e (.move rfl) rfl rfl <| .e (.fieldAddr fo36_1 rfl) rfl rfl <| .e (.loadP ag32 sz32 rfl .here rfl) rfl rfl <| .on rfl <| .callP cal44 rfl rfl rfl (rnoNode_ok hon) ?_
    refine .e (.pickF rfl rfl) rfl rfl <| .e (.pickT rfl rfl) rfl rfl <| .e (.move rfl) rfl rfl ?_
    refine .split 29 rfl (fun h29 => ?_) (fun h29 => ?_)
    · skip
      refine .e (.move rfl) rfl rfl <| .e (.eql rfl rfl) rfl rfl <| .e (.move rfl) rfl rfl <| .e (.fieldAddr fo36_2 rfl) rfl rfl <| .e (.loadP ag34 sz34 rfl .here rfl) rfl rfl <| .on rfl <| .callP cal45 rfl rfl rfl (rnoTask_ok hot) ?_
      refine .e (.pickF rfl rfl) rfl rfl <| .e (.pickT rfl rfl) rfl rfl <| .e (.move rfl) rfl rfl ?_
      refine .split 38 rfl (fun h38 => ?_) (fun h38 => ?_)
      · skip
        refine .e (.move rfl) rfl rfl <| .e (.move rfl) rfl rfl <| .off rfl rfl <| .off rfl rfl <| .off rfl rfl <| .e (.pickT rfl rfl) rfl rfl ?_
        refine .e (.pickT rfl rfl) rfl rfl <| .e (.move rfl) rfl rfl <| .e (.move rfl) rfl rfl <| .e (.eql rfl rfl) rfl rfl <| .e (.move rfl) rfl rfl <| .off rfl rfl ?_
        refine .off rfl rfl <| .off rfl rfl <| .off rfl rfl <| .off rfl rfl <| .off rfl rfl <| .off rfl rfl ?_
        refine .off rfl rfl <| .e (.pickT rfl rfl) rfl rfl <| .e (.pickT rfl rfl) rfl rfl <| .e (.assign rfl) rfl rfl <| .nil <| .go ?_
        refine .seq <| .seq <| .region <| .e (.move rfl) rfl rfl <| .e (.not rfl) rfl rfl <| .nil ?_
        refine .go <| .cond_false rfl <| .skip <| .go <| .seq <| .region ?_
        refine .e (.assign rfl) rfl rfl <| .nil <| .go <| .ret ?_
        refine .tail ?_
        refine Post.retE rfl rfl ?_
        refine congrArg (Value.int .i64) ?_
        unfold orderWhy orderOk noName plainO
        simp_all
      · skip
        refine .off rfl rfl <| .off rfl rfl <| .off rfl rfl <| .off rfl rfl <| .off rfl rfl <| .off rfl rfl ?_
        refine .e (.pickF rfl rfl) rfl rfl <| .e (.move rfl) rfl rfl <| .off rfl rfl <| .off rfl rfl <| .off rfl rfl <| .off rfl rfl ?_
        refine .off rfl rfl <| .off rfl rfl <| .off rfl rfl <| .off rfl rfl <| .off rfl rfl <| .off rfl rfl ?_
        refine .off rfl rfl <| .off rfl rfl <| .e (.pickF rfl rfl) rfl rfl <| .e (.assign rfl) rfl rfl <| .nil <| .go ?_
        refine .seq <| .seq <| .region <| .e (.move rfl) rfl rfl <| .e (.not rfl) rfl rfl <| .nil ?_
        refine .go <| .cond_true rfl <| .seq <| .region <| .e (.assign rfl) rfl rfl <| .nil ?_
        refine .go <| .ret <| .ret ?_
        refine .tail ?_
        refine Post.retE rfl rfl ?_
        refine congrArg (Value.int .i64) ?_
        unfold orderWhy orderOk noName plainO
        simp_all
    · skip
      refine .off rfl rfl <| .off rfl rfl <| .off rfl rfl <| .off rfl rfl <| .off rfl rfl <| .off rfl rfl ?_
      refine .off rfl rfl <| .e (.pickF rfl rfl) rfl rfl <| .e (.move rfl) rfl rfl <| .off rfl rfl <| .off rfl rfl <| .off rfl rfl ?_
      refine .off rfl rfl <| .off rfl rfl <| .off rfl rfl <| .e (.pickF rfl rfl) rfl rfl <| .e (.move rfl) rfl rfl <| .off rfl rfl ?_
      refine .off rfl rfl <| .off rfl rfl <| .off rfl rfl <| .off rfl rfl <| .off rfl rfl <| .off rfl rfl ?_
      refine .off rfl rfl <| .off rfl rfl <| .off rfl rfl <| .off rfl rfl <| .off rfl rfl <| .e (.pickF rfl rfl) rfl rfl ?_
      refine .e (.assign rfl) rfl rfl <| .nil <| .go <| .seq <| .seq <| .region ?_
      refine .e (.move rfl) rfl rfl <| .e (.not rfl) rfl rfl <| .nil <| .go <| .cond_true rfl <| .seq ?_
      refine .region <| .e (.assign rfl) rfl rfl <| .nil <| .go <| .ret <| .ret ?_
      refine .tail ?_
      refine Post.retE rfl rfl ?_
      refine congrArg (Value.int .i64) ?_
      unfold orderWhy orderOk noName plainO
      simp_all
  · skip
    refine .e (.load ag28 rfl .here rfl) rfl rfl <| .e (.assign rfl) rfl rfl <| .nil <| .go <| .seq <| .region ?_
    refine .e (.move rfl) rfl rfl <| .e (.neq rfl rfl) rfl rfl <| .e (.move rfl) rfl rfl <| .e (.move rfl) rfl rfl <| .e (.neq rfl rfl) rfl rfl <| .e (.pickT rfl rfl) rfl rfl ?_
    refine .e (.assign rfl) rfl rfl <| .nil <| .go <| .seq <| .region <| .e (.move rfl) rfl rfl ?_
    refine .e (.gtr rfl rfl) rfl rfl <| .e (.move rfl) rfl rfl <| .e (.move rfl) rfl rfl <| .e (.lss rfl rfl) rfl rfl <| .e (.pickT rfl rfl) rfl rfl <| .e (.move rfl) rfl rfl ?_
    refine .e (.move rfl) rfl rfl <| .e (.eql rfl rfl) rfl rfl <| .e (.move rfl) rfl rfl <| .e (.fieldAddr fo36_1 rfl) rfl rfl <| .e (.loadP ag32 sz32 rfl .here rfl) rfl rfl <| .on rfl <| .callP cal44 rfl rfl rfl (rnoNode_ok hon) ?_
    refine .e (.pickF rfl rfl) rfl rfl <| .e (.pickT rfl rfl) rfl rfl <| .e (.move rfl) rfl rfl ?_
    refine .split 29 rfl (fun h29 => ?_) (fun h29 => ?_)
    · skip
      refine .e (.move rfl) rfl rfl <| .e (.eql rfl rfl) rfl rfl <| .e (.move rfl) rfl rfl <| .e (.fieldAddr fo36_2 rfl) rfl rfl <| .e (.loadP ag34 sz34 rfl .here rfl) rfl rfl <| .on rfl <| .callP cal45 rfl rfl rfl (rnoTask_ok hot) ?_
      refine .e (.pickF rfl rfl) rfl rfl <| .e (.pickT rfl rfl) rfl rfl <| .e (.move rfl) rfl rfl ?_
      refine .split 38 rfl (fun h38 => ?_) (fun h38 => ?_)
      · skip
        refine .e (.move rfl) rfl rfl <| .e (.move rfl) rfl rfl <| .off rfl rfl <| .off rfl rfl <| .off rfl rfl <| .e (.pickT rfl rfl) rfl rfl ?_
        refine .e (.pickT rfl rfl) rfl rfl <| .e (.move rfl) rfl rfl <| .e (.move rfl) rfl rfl <| .e (.eql rfl rfl) rfl rfl <| .e (.move rfl) rfl rfl <| .e (.fieldAddr fo36_4 rfl) rfl rfl ?_
        refine .e (.load ag9 rfl .here rfl) rfl rfl <| .e (.streq rfl rfl) rfl rfl <| .e (.move rfl) rfl rfl ?_
        refine .split 53 rfl (fun h53 => ?_) (fun h53 => ?_)
        · skip
          replace h53 := of_decide_eq_true h53
          refine .e (.fieldAddr fo36_5 rfl) rfl rfl <| .e (.load ag25 rfl .here rfl) rfl rfl <| .e (.eql rfl rfl) rfl rfl <| .e (.pickT rfl rfl) rfl rfl <| .e (.pickF rfl rfl) rfl rfl <| .e (.pickT rfl rfl) rfl rfl ?_
          refine .e (.assign rfl) rfl rfl <| .nil <| .go <| .seq <| .seq <| .region ?_
          refine .e (.move rfl) rfl rfl <| .e (.not rfl) rfl rfl <| .nil <| .go ?_
          refine .split 61 rfl (fun h61 => ?_) (fun h61 => ?_)
          · skip
            first | replace h61 := of_decide_eq_false ((Bool.not_eq_true' _).mp h61) | replace h61 := of_decide_eq_false (by simpa using h61)
            refine .cond_true rfl <| .seq <| .region <| .e (.assign rfl) rfl rfl <| .nil <| .go ?_
            refine .ret <| .ret ?_
            refine .tail ?_
            refine Post.retE rfl rfl ?_
            refine congrArg (Value.int .i64) ?_
            unfold orderWhy orderOk noName plainO
            simp_all
          · skip
            first | replace h61 := of_decide_eq_true ((Bool.not_eq_false' _).mp h61) | replace h61 := of_decide_eq_true (by simpa using h61)
            refine .cond_false rfl <| .skip <| .go <| .seq <| .region <| .e (.assign rfl) rfl rfl ?_
            refine .nil <| .go <| .ret ?_
            refine .tail ?_
            refine Post.retE rfl rfl ?_
            refine congrArg (Value.int .i64) ?_
            unfold orderWhy orderOk noName plainO
            simp_all
        · skip
          replace h53 := of_decide_eq_false h53
          refine .off rfl rfl <| .off rfl rfl <| .off rfl rfl <| .e (.pickF rfl rfl) rfl rfl <| .e (.pickF rfl rfl) rfl rfl <| .e (.pickT rfl rfl) rfl rfl ?_
          refine .e (.assign rfl) rfl rfl <| .nil <| .go <| .seq <| .seq <| .region ?_
          refine .e (.move rfl) rfl rfl <| .e (.not rfl) rfl rfl <| .nil <| .go <| .cond_true rfl <| .seq ?_
          refine .region <| .e (.assign rfl) rfl rfl <| .nil <| .go <| .ret <| .ret ?_
          refine .tail ?_
          refine Post.retE rfl rfl ?_
          refine congrArg (Value.int .i64) ?_
          unfold orderWhy orderOk noName plainO
          simp_all
      · skip
        refine .off rfl rfl <| .off rfl rfl <| .off rfl rfl <| .off rfl rfl <| .off rfl rfl <| .off rfl rfl ?_
        refine .e (.pickF rfl rfl) rfl rfl <| .e (.move rfl) rfl rfl <| .off rfl rfl <| .off rfl rfl <| .off rfl rfl <| .off rfl rfl ?_
        refine .off rfl rfl <| .off rfl rfl <| .off rfl rfl <| .off rfl rfl <| .off rfl rfl <| .off rfl rfl ?_
        refine .off rfl rfl <| .off rfl rfl <| .e (.pickF rfl rfl) rfl rfl <| .e (.assign rfl) rfl rfl <| .nil <| .go ?_
        refine .seq <| .seq <| .region <| .e (.move rfl) rfl rfl <| .e (.not rfl) rfl rfl <| .nil ?_
        refine .go <| .cond_true rfl <| .seq <| .region <| .e (.assign rfl) rfl rfl <| .nil ?_
        refine .go <| .ret <| .ret ?_
        refine .tail ?_
        refine Post.retE rfl rfl ?_
        refine congrArg (Value.int .i64) ?_
        unfold orderWhy orderOk noName plainO
        simp_all
    · skip
      refine .off rfl rfl <| .off rfl rfl <| .off rfl rfl <| .off rfl rfl <| .off rfl rfl <| .off rfl rfl ?_
      refine .off rfl rfl <| .e (.pickF rfl rfl) rfl rfl <| .e (.move rfl) rfl rfl <| .off rfl rfl <| .off rfl rfl <| .off rfl rfl ?_
      refine .off rfl rfl <| .off rfl rfl <| .off rfl rfl <| .e (.pickF rfl rfl) rfl rfl <| .e (.move rfl) rfl rfl <| .off rfl rfl ?_
      refine .off rfl rfl <| .off rfl rfl <| .off rfl rfl <| .off rfl rfl <| .off rfl rfl <| .off rfl rfl ?_
      refine .off rfl rfl <| .off rfl rfl <| .off rfl rfl <| .off rfl rfl <| .off rfl rfl <| .e (.pickF rfl rfl) rfl rfl ?_
      refine .e (.assign rfl) rfl rfl <| .nil <| .go <| .seq <| .seq <| .region ?_
      refine .e (.move rfl) rfl rfl <| .e (.not rfl) rfl rfl <| .nil <| .go <| .cond_true rfl <| .seq ?_
      refine .region <| .e (.assign rfl) rfl rfl <| .nil <| .go <| .ret <| .ret ?_
      refine .tail ?_
      refine Post.retE rfl rfl ?_
      refine congrArg (Value.int .i64) ?_
      unfold orderWhy orderOk noName plainO
      simp_all
  · skip
    refine .e (.load ag28 rfl .here rfl) rfl rfl <| .e (.assign rfl) rfl rfl <| .nil <| .go <| .seq <| .region ?_
    refine .e (.move rfl) rfl rfl <| .e (.neq rfl rfl) rfl rfl <| .e (.move rfl) rfl rfl <| .e (.move rfl) rfl rfl <| .e (.neq rfl rfl) rfl rfl <| .e (.pickT rfl rfl) rfl rfl ?_
    refine .e (.assign rfl) rfl rfl <| .nil <| .go <| .seq <| .region <| .e (.move rfl) rfl rfl ?_
    refine .e (.gtr rfl rfl) rfl rfl <| .e (.move rfl) rfl rfl <| .e (.move rfl) rfl rfl <| .e (.lss rfl rfl) rfl rfl <| .e (.pickT rfl rfl) rfl rfl <| .e (.move rfl) rfl rfl ?_
    refine .e (.move rfl) rfl rfl <| .e (.eql rfl rfl) rfl rfl <| .e (.move rfl) rfl rfl <| .e (.fieldAddr fo36_1 rfl) rfl rfl <| .e (.loadP ag32 sz32 rfl .here rfl) rfl rfl <| .on rfl <| .callP cal44 rfl rfl rfl (rnoNode_ok hon) ?_
    refine .e (.pickF rfl rfl) rfl rfl <| .e (.pickT rfl rfl) rfl rfl <| .e (.move rfl) rfl rfl ?_
    refine .split 29 rfl (fun h29 => ?_) (fun h29 => ?_)
    · skip
      refine .e (.move rfl) rfl rfl <| .e (.eql rfl rfl) rfl rfl <| .e (.move rfl) rfl rfl <| .e (.fieldAddr fo36_2 rfl) rfl rfl <| .e (.loadP ag34 sz34 rfl .here rfl) rfl rfl <| .on rfl <| .callP cal45 rfl rfl rfl (rnoTask_ok hot) ?_
      refine .e (.pickF rfl rfl) rfl rfl <| .e (.pickT rfl rfl) rfl rfl <| .e (.move rfl) rfl rfl ?_
      refine .split 38 rfl (fun h38 => ?_) (fun h38 => ?_)
      · skip
        refine .e (.move rfl) rfl rfl <| .e (.move rfl) rfl rfl <| .off rfl rfl <| .off rfl rfl <| .off rfl rfl <| .e (.pickT rfl rfl) rfl rfl ?_
        refine .e (.pickT rfl rfl) rfl rfl <| .e (.move rfl) rfl rfl <| .e (.move rfl) rfl rfl <| .e (.eql rfl rfl) rfl rfl <| .e (.move rfl) rfl rfl <| .e (.fieldAddr fo36_4 rfl) rfl rfl ?_
        refine .e (.load ag9 rfl .here rfl) rfl rfl <| .e (.streq rfl rfl) rfl rfl <| .e (.move rfl) rfl rfl ?_
        refine .split 53 rfl (fun h53 => ?_) (fun h53 => ?_)
        · skip
          replace h53 := of_decide_eq_true h53
          refine .e (.fieldAddr fo36_5 rfl) rfl rfl <| .e (.load ag25 rfl .here rfl) rfl rfl <| .e (.eql rfl rfl) rfl rfl <| .e (.pickT rfl rfl) rfl rfl <| .e (.pickF rfl rfl) rfl rfl <| .e (.pickT rfl rfl) rfl rfl ?_
          refine .e (.assign rfl) rfl rfl <| .nil <| .go <| .seq <| .seq <| .region ?_
          refine .e (.move rfl) rfl rfl <| .e (.not rfl) rfl rfl <| .nil <| .go ?_
          refine .split 61 rfl (fun h61 => ?_) (fun h61 => ?_)
          · skip
            first | replace h61 := of_decide_eq_false ((Bool.not_eq_true' _).mp h61) | replace h61 := of_decide_eq_false (by simpa using h61)
            refine .cond_true rfl <| .seq <| .region <| .e (.assign rfl) rfl rfl <| .nil <| .go ?_
            refine .ret <| .ret ?_
            refine .tail ?_
            refine Post.retE rfl rfl ?_
            refine congrArg (Value.int .i64) ?_
            unfold orderWhy orderOk noName plainO
            simp_all
          · skip
            first | replace h61 := of_decide_eq_true ((Bool.not_eq_false' _).mp h61) | replace h61 := of_decide_eq_true (by simpa using h61)
            refine .cond_false rfl <| .skip <| .go <| .seq <| .region <| .e (.assign rfl) rfl rfl ?_
            refine .nil <| .go <| .ret ?_
            refine .tail ?_
            refine Post.retE rfl rfl ?_
            refine congrArg (Value.int .i64) ?_
            unfold orderWhy orderOk noName plainO
            simp_all
        · skip
          replace h53 := of_decide_eq_false h53
          refine .off rfl rfl <| .off rfl rfl <| .off rfl rfl <| .e (.pickF rfl rfl) rfl rfl <| .e (.pickF rfl rfl) rfl rfl <| .e (.pickT rfl rfl) rfl rfl ?_
          refine .e (.assign rfl) rfl rfl <| .nil <| .go <| .seq <| .seq <| .region ?_
          refine .e (.move rfl) rfl rfl <| .e (.not rfl) rfl rfl <| .nil <| .go <| .cond_true rfl <| .seq ?_
          refine .region <| .e (.assign rfl) rfl rfl <| .nil <| .go <| .ret <| .ret ?_
          refine .tail ?_
          refine Post.retE rfl rfl ?_
          refine congrArg (Value.int .i64) ?_
          unfold orderWhy orderOk noName plainO
          simp_all
      · skip
        refine .off rfl rfl <| .off rfl rfl <| .off rfl rfl <| .off rfl rfl <| .off rfl rfl <| .off rfl rfl ?_
        refine .e (.pickF rfl rfl) rfl rfl <| .e (.move rfl) rfl rfl <| .off rfl rfl <| .off rfl rfl <| .off rfl rfl <| .off rfl rfl ?_
        refine .off rfl rfl <| .off rfl rfl <| .off rfl rfl <| .off rfl rfl <| .off rfl rfl <| .off rfl rfl ?_
        refine .off rfl rfl <| .off rfl rfl <| .e (.pickF rfl rfl) rfl rfl <| .e (.assign rfl) rfl rfl <| .nil <| .go ?_
        refine .seq <| .seq <| .region <| .e (.move rfl) rfl rfl <| .e (.not rfl) rfl rfl <| .nil ?_
        refine .go <| .cond_true rfl <| .seq <| .region <| .e (.assign rfl) rfl rfl <| .nil ?_
        refine .go <| .ret <| .ret ?_
        refine .tail ?_
        refine Post.retE rfl rfl ?_
        refine congrArg (Value.int .i64) ?_
        unfold orderWhy orderOk noName plainO
        simp_all
    · skip
      refine .off rfl rfl <| .off rfl rfl <| .off rfl rfl <| .off rfl rfl <| .off rfl rfl <| .off rfl rfl ?_
      refine .off rfl rfl <| .e (.pickF rfl rfl) rfl rfl <| .e (.move rfl) rfl rfl <| .off rfl rfl <| .off rfl rfl <| .off rfl rfl ?_
      refine .off rfl rfl <| .off rfl rfl <| .off rfl rfl <| .e (.pickF rfl rfl) rfl rfl <| .e (.move rfl) rfl rfl <| .off rfl rfl ?_
      refine .off rfl rfl <| .off rfl rfl <| .off rfl rfl <| .off rfl rfl <| .off rfl rfl <| .off rfl rfl ?_
      refine .off rfl rfl <| .off rfl rfl <| .off rfl rfl <| .off rfl rfl <| .off rfl rfl <| .e (.pickF rfl rfl) rfl rfl ?_
      refine .e (.assign rfl) rfl rfl <| .nil <| .go <| .seq <| .seq <| .region ?_
      refine .e (.move rfl) rfl rfl <| .e (.not rfl) rfl rfl <| .nil <| .go <| .cond_true rfl <| .seq ?_
      refine .region <| .e (.assign rfl) rfl rfl <| .nil <| .go <| .ret <| .ret ?_
      refine .tail ?_
      refine Post.retE rfl rfl ?_
      refine congrArg (Value.int .i64) ?_
      unfold orderWhy orderOk noName plainO
      simp_all
  · skip
    refine .e (.load ag28 rfl .here rfl) rfl rfl <| .e (.assign rfl) rfl rfl <| .nil <| .go <| .seq <| .region ?_
    refine .e (.move rfl) rfl rfl <| .e (.neq rfl rfl) rfl rfl <| .e (.move rfl) rfl rfl <| .e (.move rfl) rfl rfl <| .e (.neq rfl rfl) rfl rfl <| .e (.pickT rfl rfl) rfl rfl ?_
    refine .e (.assign rfl) rfl rfl <| .nil <| .go <| .seq <| .region <| .e (.move rfl) rfl rfl ?_
    refine .e (.gtr rfl rfl) rfl rfl <| .e (.move rfl) rfl rfl <| .off rfl rfl <| .off rfl rfl <| .e (.pickF rfl rfl) rfl rfl <| .e (.move rfl) rfl rfl ?_
    refine .off rfl rfl <| .off rfl rfl <| .off rfl rfl <| .off rfl rfl <| .off rfl rfl <| .off rfl rfl ?_
    refine .off rfl rfl <| .e (.pickF rfl rfl) rfl rfl <| .e (.move rfl) rfl rfl <| .off rfl rfl <| .off rfl rfl <| .off rfl rfl ?_
    refine .off rfl rfl <| .off rfl rfl <| .off rfl rfl <| .off rfl rfl <| .e (.pickF rfl rfl) rfl rfl <| .e (.move rfl) rfl rfl ?_
    refine .off rfl rfl <| .off rfl rfl <| .off rfl rfl <| .off rfl rfl <| .off rfl rfl <| .off rfl rfl ?_
    refine .e (.pickF rfl rfl) rfl rfl <| .e (.move rfl) rfl rfl <| .off rfl rfl <| .off rfl rfl <| .off rfl rfl <| .off rfl rfl ?_
    refine .off rfl rfl <| .off rfl rfl <| .off rfl rfl <| .off rfl rfl <| .off rfl rfl <| .off rfl rfl ?_
    refine .off rfl rfl <| .off rfl rfl <| .e (.pickF rfl rfl) rfl rfl <| .e (.assign rfl) rfl rfl <| .nil <| .go ?_
    refine .seq <| .seq <| .region <| .e (.move rfl) rfl rfl <| .e (.not rfl) rfl rfl <| .nil ?_
    refine .go <| .cond_true rfl <| .seq <| .region <| .e (.assign rfl) rfl rfl <| .nil ?_
    refine .go <| .ret <| .ret ?_
    refine .tail ?_
    refine Post.retE rfl rfl ?_
    refine congrArg (Value.int .i64) ?_
    unfold orderWhy orderOk noName plainO
    simp_all
  · skip
    refine .e (.load ag28 rfl .here rfl) rfl rfl <| .e (.assign rfl) rfl rfl <| .nil <| .go <| .seq <| .region ?_
    refine .e (.move rfl) rfl rfl <| .e (.neq rfl rfl) rfl rfl <| .e (.move rfl) rfl rfl ?_
    refine .split 10 rfl (fun h10 => ?_) (fun h10 => ?_)
    · skip
      first | replace h10 := of_decide_eq_false ((Bool.not_eq_true' _).mp h10) | replace h10 := of_decide_eq_false (by simpa using h10)
      refine .e (.move rfl) rfl rfl <| .e (.neq rfl rfl) rfl rfl <| .e (.pickT rfl rfl) rfl rfl <| .e (.assign rfl) rfl rfl <| .nil <| .go ?_
      refine .seq <| .region <| .e (.move rfl) rfl rfl <| .e (.gtr rfl rfl) rfl rfl <| .e (.move rfl) rfl rfl ?_
      refine .split 16 rfl (fun h16 => ?_) (fun h16 => ?_)
      · skip
        replace h16 := of_decide_eq_true h16
        refine .e (.move rfl) rfl rfl <| .e (.lss rfl rfl) rfl rfl <| .e (.pickT rfl rfl) rfl rfl <| .e (.move rfl) rfl rfl ?_
        refine .split 20 rfl (fun h20 => ?_) (fun h20 => ?_)
        · skip
          replace h20 := of_decide_eq_true h20
          first | omega | (dsimp only at *; omega)
        · skip
          replace h20 := of_decide_eq_false h20
          refine .off rfl rfl <| .off rfl rfl <| .off rfl rfl <| .off rfl rfl <| .off rfl rfl <| .off rfl rfl ?_
          refine .off rfl rfl <| .e (.pickF rfl rfl) rfl rfl <| .e (.move rfl) rfl rfl <| .off rfl rfl <| .off rfl rfl <| .off rfl rfl ?_
          refine .off rfl rfl <| .off rfl rfl <| .off rfl rfl <| .off rfl rfl <| .e (.pickF rfl rfl) rfl rfl <| .e (.move rfl) rfl rfl ?_
          refine .off rfl rfl <| .off rfl rfl <| .off rfl rfl <| .off rfl rfl <| .off rfl rfl <| .off rfl rfl ?_
          refine .e (.pickF rfl rfl) rfl rfl <| .e (.move rfl) rfl rfl <| .off rfl rfl <| .off rfl rfl <| .off rfl rfl <| .off rfl rfl ?_
          refine .off rfl rfl <| .off rfl rfl <| .off rfl rfl <| .off rfl rfl <| .off rfl rfl <| .off rfl rfl ?_
          refine .off rfl rfl <| .off rfl rfl <| .e (.pickF rfl rfl) rfl rfl <| .e (.assign rfl) rfl rfl <| .nil <| .go ?_
          refine .seq <| .seq <| .region <| .e (.move rfl) rfl rfl <| .e (.not rfl) rfl rfl <| .nil ?_
          refine .go <| .cond_true rfl <| .seq <| .region <| .e (.assign rfl) rfl rfl <| .nil ?_
          refine .go <| .ret <| .ret ?_
          refine .tail ?_
          refine Post.retE rfl rfl ?_
          refine congrArg (Value.int .i64) ?_
          have e : orderOk ⟨okk, ond, otk, onm, oon, ofe⟩ = false := by
            unfold orderOk; dsimp only; rw [if_neg (by omega), if_neg (by omega), if_neg (by omega), if_neg (by omega)]
          unfold orderWhy; rw [e]; rfl
      · skip
        replace h16 := of_decide_eq_false h16
        first | omega | (dsimp only at *; omega)
    · skip
      first | replace h10 := of_decide_eq_true ((Bool.not_eq_false' _).mp h10) | replace h10 := of_decide_eq_true (by simpa using h10)
      first | omega | (dsimp only at *; omega)

set_option maxHeartbeats 1000000 in
set_option maxRecDepth 20000 in
theorem rused_ok {I : Imm} {O : Own} {kc : List Value} {b : Bk} (hk : BkR I kc b) (hok : BookOk b) {s : ByteArray} :
    Pure Tryz.prog 68 [.agg ⟨kc⟩, .string s] I O (.agg ⟨[.int .i64 (sumR (thereR b s)).1.a, .int .i64 (sumR (thereR b s)).1.b, .int .i64 (sumR (thereR b s)).1.c]⟩) := by
  have hk0 := hk
  obtain ⟨nv, tv, bv, rfl, hnv, htv, hbv⟩ := hk.ex
  have hnv0 := hnv
  have htv0 := htv
  have hbv0 := hbv
  obtain ⟨na, ncap, rfl, hn1, hn2, -⟩ := hnv
  obtain ⟨ta, tcap, rfl, ht1, ht2, -⟩ := htv
  obtain ⟨ba, bcap, rfl, hb1, hb2, -⟩ := hbv
  refine Go.Sy.Does.enter Tryz.func68 rfl Tryz.ntmps68 rfl ?_
  refine .seq <| .region <| .on rfl <| .box rfl rfl rfl fun c1 _ _ => .on rfl <| .alloc zr29 rfl fun c2 _ _ => .nil <| .go ?_
  refine .seq <| .region <| .e (.loadW ag27 sz27 rfl (.there <| .here) rfl) rfl rfl <| .e (.move rfl) rfl rfl <| .on rfl <| .call cal85 rfl rfl rfl (rthere_ok hk0 (Listed.ok hok)) fun v10 I10 O10 hI10 hK10 => ?_
  obtain ⟨rfl, hl10⟩ := hK10
  have hl100 := hl10
  obtain ⟨la10, lc10, rfl, hl101, hl102, -⟩ := hl10
  refine .on rfl <| .callP cal111 rfl rfl rfl (rSum_ok hl100) <| .e (.move rfl) rfl rfl <| .e (.extract rfl rfl) rfl rfl <| .e (.extract rfl rfl) rfl rfl <| .on rfl <| .alloc zr29 rfl fun c3 _ _ => .on rfl <| .storeW sz29 rfl rfl rfl rfl rfl rfl .here ?_
  refine .e (.assign rfl) rfl rfl <| .nil <| .go <| .seq <| .region <| .e (.loadW ag29 sz29 rfl .here rfl) rfl rfl ?_
  refine .on rfl <| .storeW sz29 rfl rfl rfl rfl rfl rfl (.there <| .here) <| .nil <| .go <| .ret ?_
  refine .back hI10 ?_
  refine Post.retsE rfl (.agg rfl ag29 sz29 (.there <| .here) rfl .nil) rfl (fun w h => h.tail.tail.tail) ?_
  rfl

set_option maxHeartbeats 1000000 in
set_option maxRecDepth 20000 in
theorem rbUsed_ok {I : Imm} {O : Own} {kc : List Value} {b : Bk} (hk : BkR I kc b) {s : ByteArray} :
    Pure Tryz.prog 22 [.agg ⟨kc⟩, .string s] I O (.tuple ⟨[.agg ⟨[.int .i64 (usedR b s).1.a, .int .i64 (usedR b s).1.b, .int .i64 (usedR b s).1.c]⟩, .int .i64 (usedR b s).2]⟩) := by
  have hk0 := hk
  obtain ⟨nv, tv, bv, rfl, hnv, htv, hbv⟩ := hk.ex
  have hnv0 := hnv
  have htv0 := htv
  have hbv0 := hbv
  obtain ⟨na, ncap, rfl, hn1, hn2, -⟩ := hnv
  obtain ⟨ta, tcap, rfl, ht1, ht2, -⟩ := htv
  obtain ⟨ba, bcap, rfl, hb1, hb2, -⟩ := hbv
  refine Go.Sy.Does.enter Tryz.func22 rfl Tryz.ntmps22 rfl ?_
  refine .seq <| .region <| .on rfl <| .box rfl rfl rfl fun c1 _ _ => .on rfl <| .alloc zr29 rfl fun c2 _ _ => .e (.assign rfl) rfl rfl <| .nil ?_
  refine .go <| .seq <| .block <| .seq <| .region <| .e (.loadW ag27 sz27 rfl (.there <| .here) rfl) rfl rfl ?_
  refine .on rfl <| .callP cal25 rfl rfl rfl (rbCheck_ok hk0) <| .e (.neq rfl rfl) rfl rfl <| .e (.assign rfl) rfl rfl <| .nil <| .go ?_
  refine .split 6 rfl (fun h6 => ?_) (fun h6 => ?_)
  · skip
    first | replace h6 := of_decide_eq_false ((Bool.not_eq_true' _).mp h6) | replace h6 := of_decide_eq_false (by simpa using h6)
    refine .cond_true rfl <| .seq <| .region <| .e (.buildA ar29 zv29 rfl rfl) rfl rfl <| .on rfl <| .storeW sz29 rfl rfl rfl rfl rfl rfl .here <| .e (.assign rfl) rfl rfl ?_
    refine .nil <| .go <| .ret <| .blk_ret <| .ret ?_
    refine Post.retsE rfl (.agg rfl ag29 sz29 .here rfl (.tmp rfl .nil)) rfl (fun w h => h.tail.tail) ?_
    unfold usedR
    rw [(bookWhy_no h6).1, if_neg (by simp)]
    rfl
  · skip
    first | replace h6 := of_decide_eq_true ((Bool.not_eq_false' _).mp h6) | replace h6 := of_decide_eq_true (by simpa using h6)
    have hok := BookOk.of (bookWhy_ok h6)
    refine .cond_false rfl <| .seq <| .region <| .e (.loadW ag27 sz27 rfl (.there <| .here) rfl) rfl rfl <| .e (.move rfl) rfl rfl <| .on rfl <| .callP cal67 rfl rfl rfl (rixN_ok hk0) ?_
    refine .e ((EV.cast (.lss rfl rfl) (congrArg Value.bool (ix_lt (nm := fun x : Nod => x.name))))) rfl rfl <| .e (.assign rfl) rfl rfl <| .nil <| .go ?_
    refine .split 11 rfl (fun h11 => ?_) (fun h11 => ?_)
    · skip
      refine .cond_true rfl <| .seq <| .region <| .e (.buildA ar29 zv29 rfl rfl) rfl rfl <| .on rfl <| .storeW sz29 rfl rfl rfl rfl rfl rfl .here <| .e (.assign rfl) rfl rfl ?_
      refine .nil <| .go <| .ret <| .blk_ret <| .ret ?_
      refine Post.retsE rfl (.agg rfl ag29 sz29 .here rfl (.tmp rfl .nil)) rfl (fun w h => h.tail.tail) ?_
      unfold usedR
      rw [if_pos (bookWhy_ok h6), if_neg (show ¬hasN b s = true from Bool.eq_false_iff.1 ((Bool.not_eq_true' _).mp h11))]
      rfl
    · skip
      refine .cond_false rfl <| .skip <| .blk_normal <| .go <| .seq <| .region ?_
      refine .e (.loadW ag27 sz27 rfl (.there <| .here) rfl) rfl rfl <| .e (.move rfl) rfl rfl <| .on rfl <| .callP cal68 rfl rfl rfl (rused_ok hk0 hok) <| .on rfl <| .storeW sz29 rfl rfl rfl rfl rfl rfl .here <| .e (.assign rfl) rfl rfl <| .nil ?_
      refine .go <| .ret ?_
      refine Post.retsE rfl (.agg rfl ag29 sz29 .here rfl (.tmp rfl .nil)) rfl (fun w h => h.tail.tail) ?_
      unfold usedR
      rw [if_pos (bookWhy_ok h6), if_pos (show hasN b s = true from (Bool.not_eq_false' _).mp h11), used_ref hok ((Bool.not_eq_false' _).mp h11)]
      rfl

theorem can_keep {a : Bool} {p : Tsk → Bool} {L : List Tsk} {k : Nat} (h : (a && (L.take k).all p) = false) : (a && (L.take (k + 1)).all p) = false := by
  rw [Bool.and_eq_false_iff] at h ⊢
  refine h.imp id fun h => ?_
  rw [Bool.eq_false_iff] at h ⊢
  refine fun h2 => h (List.all_eq_true.2 fun x hx => List.all_eq_true.1 h2 x ?_)
  rw [List.mem_take_iff_getElem] at hx ⊢
  obtain ⟨j, hj, e⟩ := hx
  exact ⟨j, by omega, e⟩
theorem can_next {a : Bool} {p : Tsk → Bool} {L : List Tsk} {k : Nat} (hk : k < L.length) (h : (a && (L.take k).all p) = true) : (a && (L.take (k + 1)).all p) = p L[k] := by
  rw [Bool.and_eq_true] at h
  rw [List.take_succ_eq_append_getElem hk, List.all_append, h.1, h.2]; simp

set_option maxHeartbeats 16000000 in
set_option maxRecDepth 20000 in
theorem rcan_ok {I : Imm} {O : Own} {kc : List Value} {b : Bk} (hk : BkR I kc b) (hok : BookOk b) {task node : ByteArray} :
    Pure Tryz.prog 36 [.agg ⟨kc⟩, .string task, .string node] I O (.int .i64 (canR b task node)) := by
  have hk0 := hk
  obtain ⟨nv, tv, bv, rfl, hnv, htv, hbv⟩ := hk.ex
  have hnv0 := hnv
  have htv0 := htv
  have hbv0 := hbv
  obtain ⟨na, ncap, rfl, hn1, hn2, -⟩ := hnv
  obtain ⟨ta, tcap, rfl, ht1, ht2, -⟩ := htv
  obtain ⟨ba, bcap, rfl, hb1, hb2, -⟩ := hbv
  refine Go.Sy.Does.enter Tryz.func36 rfl Tryz.ntmps36 rfl ?_
  refine .seq <| .region <| .on rfl <| .box rfl rfl rfl fun c1 _ _ => .e (.assign rfl) rfl rfl <| .nil <| .go ?_
  refine .seq ?_
  refine .draw [(c1, _)] mixed (.cons .here .nil) ?_
  refine .t 0 rfl (.loadW ag27 sz27 rfl .here rfl) rfl rfl (by kernel_rfl) <| .t 1 rfl (.move rfl) rfl rfl (by kernel_rfl) <| .t 3 rfl (.loadW ag27 sz27 rfl .here rfl) rfl rfl (by kernel_rfl) <| .t 4 rfl (.move rfl) rfl rfl (by kernel_rfl) <| .one (i := 2) (by kernel_rfl) rfl rfl <| .callP cal38 rfl rfl rfl (rixT_ok hk0) ?_
  refine ⟨(.cons .here .nil), Imm.le_refl _, ?_⟩
  refine .one (i := 5) (by kernel_rfl) rfl rfl <| .callP cal67 rfl rfl rfl (rixN_ok hk0) ?_
  refine ⟨(.cons .here .nil), Imm.le_refl _, ?_⟩
  refine .t 6 rfl (.assign rfl) rfl rfl (by kernel_rfl) <| .t 7 rfl (.assign rfl) rfl rfl (by kernel_rfl) <| .done (by kernel_rfl) <| .go <| .seq <| .seq ?_
  refine .region <| .e (.move rfl) rfl rfl <| .e ((EV.cast (.lss rfl rfl) (congrArg Value.bool (ix_lt (nm := fun x : Tsk => x.name))))) rfl rfl <| .e (.move rfl) rfl rfl ?_
  refine .split 22 rfl (fun h22 => ?_) (fun h22 => ?_)
  · skip
    refine .off rfl rfl <| .off rfl rfl <| .e (.pickT rfl rfl) rfl rfl <| .nil <| .go <| .cond_true rfl ?_
    refine .seq <| .region <| .e (.assign rfl) rfl rfl <| .nil <| .go <| .ret ?_
    refine .ret ?_
    refine .tail ?_
    refine Post.retE rfl rfl ?_
    exact congrArg (Value.int .i64) (canR_none (.inl (by simpa [hasT] using h22))).symm
  · skip
    have hT34 := (Bool.not_eq_false' _).mp h22
    obtain ⟨hpt, -⟩ := has_get hok.rt hT34
    have hmt : ixT b task = (posBy (fun x : Tsk => x.name) b.tasks task : Int) := ix_pos hok.rt hT34
    refine .e (.move rfl) rfl rfl <| .e ((EV.cast (.lss rfl rfl) (congrArg Value.bool (ix_lt (nm := fun x : Nod => x.name))))) rfl rfl <| .e (.pickF rfl rfl) rfl rfl <| .nil <| .go ?_
    refine .split 25 rfl (fun h25 => ?_) (fun h25 => ?_)
    · skip
      refine .cond_true rfl <| .seq <| .region <| .e (.assign rfl) rfl rfl <| .nil <| .go ?_
      refine .ret <| .ret ?_
      refine .tail ?_
      refine Post.retE rfl rfl ?_
      exact congrArg (Value.int .i64) (canR_none (.inr (by simpa [hasN] using h25))).symm
    · skip
      have hN37 := (Bool.not_eq_false' _).mp h25
      obtain ⟨hpn, -⟩ := has_get hok.rn hN37
      have hmn : ixN b node = (posBy (fun x : Nod => x.name) b.nodes node : Int) := ix_pos hok.rn hN37
      obtain ⟨L, hL⟩ : ∃ L, thereR b node = L := ⟨_, rfl⟩
      refine .cond_false rfl <| .skip <| .go <| .seq <| .seq <| .region ?_
      refine .e (.loadW ag27 sz27 rfl .here rfl) rfl rfl <| .e (.move rfl) rfl rfl <| .on rfl <| .callP cal39 rfl rfl rfl (rOn_ok hk0) <| .e ((EV.cast (.strne rfl rfl) (congrArg Value.bool (on_ne hok)))) rfl rfl <| .nil <| .go ?_
      refine .split 29 rfl (fun h29 => ?_) (fun h29 => ?_)
      · skip
        refine .cond_true rfl <| .seq <| .region <| .e (.assign rfl) rfl rfl <| .nil <| .go ?_
        refine .ret <| .ret ?_
        refine .tail ?_
        refine Post.retE rfl rfl ?_
        refine congrArg (Value.int .i64) ?_
        rw [canR_some hok.rt hok.rn hT34 hN37]
        rw [if_pos (show hasB b task = true from h29)]
      · skip
        refine .cond_false rfl <| .skip <| .go <| .seq ?_
        refine .draw [(c1, _)] mixed (.cons .here .nil) ?_
        refine .t 0 rfl (.fieldAddr fo27_1 rfl) rfl rfl (by kernel_rfl) <| .t 1 rfl (.load ag23 rfl .here rfl) rfl rfl (by kernel_rfl) <| .t 2 rfl (.move rfl) rfl rfl (by kernel_rfl) ?_
        obtain ⟨eb33, eo33, cs33, hd33, hat33, hr33⟩ := SlR.at_ htv0 (k := posBy (fun x : Tsk => x.name) b.tasks task) hpt
        cases hd33
        obtain ⟨t, ht⟩ : ∃ t, b.tasks[posBy (fun x : Tsk => x.name) b.tasks task]'hpt = t := ⟨_, rfl⟩
        rw [ht] at hr33
        have htK := hr33
        obtain ⟨xw59, xb59, rfl, hxw59, hxb59⟩ := hr33.ex
        obtain ⟨xa59, xc59, rfl, -⟩ := hxw59
        obtain ⟨xd59, xe59, rfl, -⟩ := hxb59
        refine .t 3 rfl (.indexAddrL sl23 rfl rfl hmt hpt) rfl rfl (by kernel_rfl) <| .t 4 rfl (.loadIA ag34 sz34 rfl hat33 rfl) rfl rfl (by kernel_rfl) <| .t 5 rfl (.fieldAddr fo27_0 rfl) rfl rfl (by kernel_rfl) <| .t 6 rfl (.load ag22 rfl .here rfl) rfl rfl (by kernel_rfl) <| .t 7 rfl (.move rfl) rfl rfl (by kernel_rfl) ?_
        obtain ⟨eb38, eo38, cs38, hd38, hat38, hr38⟩ := SlR.at_ hnv0 (k := posBy (fun x : Nod => x.name) b.nodes node) hpn
        cases hd38
        obtain ⟨n, hn⟩ : ∃ n, b.nodes[posBy (fun x : Nod => x.name) b.nodes node]'hpn = n := ⟨_, rfl⟩
        rw [hn] at hr38
        have hn38 := hr38
        obtain ⟨xf68, xg68, rfl, hxf68, hxg68⟩ := hr38.ex
        obtain ⟨xh68, xi68, rfl, -⟩ := hxf68
        obtain ⟨xj68, xk68, rfl, -⟩ := hxg68
        refine .t 8 rfl (.indexAddrL sl22 rfl rfl hmn hpn) rfl rfl (by kernel_rfl) <| .t 9 rfl (.loadIA ag32 sz32 rfl hat38 rfl) rfl rfl (by kernel_rfl) ?_
        refine .all (rs := [10, 11]) (by kernel_rfl) (by simp) ⟨⟨_, rfl, .inl ⟨rfl, ?_⟩⟩, ⟨⟨_, rfl, .inl ⟨rfl, ?_⟩⟩, trivial⟩⟩
        · skip
          refine .alloc zr34 rfl fun c2 _ _ => ?_
          refine ⟨(.cons (.there <| .here) .nil), Imm.le_refl _, ?_⟩
          refine .one (i := 11) (by kernel_rfl) rfl rfl <| .alloc zr32 rfl fun c3 _ _ => ?_
          refine ⟨(.cons (.there <| .there <| .here) .nil), Imm.le_refl _, ?_⟩
          refine .one (i := 12) (by kernel_rfl) rfl rfl <| .storeW sz34 rfl rfl rfl rfl rfl rfl (.there <| .here) ?_
          refine ⟨(.cons (.there <| .there <| .here) .nil), Imm.le_refl _, ?_⟩
          refine .late (i := 13) (by kernel_rfl) (by kernel_rfl) (by kernel_rfl) rfl rfl <| .storeW sz32 rfl rfl rfl rfl rfl rfl .here <| .go <| .seq ?_
          refine .draw [(c2, _), (c3, _), (c1, _)] mixed (.cons (.there <| .here) (.cons .here (.cons (.there <| .there <| .here) .nil))) ?_
          refine .t 0 rfl (.loadW ag34 sz34 rfl .here rfl) rfl rfl (by kernel_rfl) <| .t 1 rfl (.loadW ag32 sz32 rfl (.there <| .here) rfl) rfl rfl (by kernel_rfl) <| .one (i := 2) (by kernel_rfl) rfl rfl <| .callP cal89 rfl rfl rfl (rSuits_ok htK hn38) ?_
          refine ⟨(.cons (.there <| .here) (.cons .here (.cons (.there <| .there <| .here) .nil))), Imm.le_refl _, ?_⟩
          refine .t 3 rfl (.move rfl) rfl rfl (by kernel_rfl) ?_
          refine .split 43 rfl (fun h43 => ?_) (fun h43 => ?_)
          · skip
            refine .t 4 rfl (.loadW ag32 sz32 rfl (.there <| .here) rfl) rfl rfl (by kernel_rfl) <| .t 5 rfl (.loadW ag27 sz27 rfl (.there <| .there <| .here) rfl) rfl rfl (by kernel_rfl) <| .t 6 rfl (.move rfl) rfl rfl (by kernel_rfl) <| .t 8 rfl (.fieldAddr fo34_1 rfl) rfl rfl (by kernel_rfl) <| .t 9 rfl (.loadP ag29 sz29 rfl .here rfl) rfl rfl (by kernel_rfl) <| .one (i := 7) (by kernel_rfl) rfl rfl ?_
            refine .callP cal68 rfl rfl rfl ((rused_ok hk0 hok (s := node)).cast (by rw [hL])) ?_
            refine ⟨(.cons (.there <| .here) (.cons .here (.cons (.there <| .there <| .here) .nil))), Imm.le_refl _, ?_⟩
            refine .one (i := 10) (by kernel_rfl) rfl rfl <| .callP cal90 rfl rfl rfl (rRoom_ok (u := (sumR L).1) (d := t.needs) hn38) ?_
            refine ⟨(.cons (.there <| .here) (.cons .here (.cons (.there <| .there <| .here) .nil))), Imm.le_refl _, ?_⟩
            refine .t 11 rfl (.pickT rfl rfl) rfl rfl (by kernel_rfl) <| .t 12 rfl (.assign rfl) rfl rfl (by kernel_rfl) <| .done (by kernel_rfl) <| .go <| .seq <| .seq ?_
            refine .region <| .e (.loadW ag27 sz27 rfl (.there <| .there <| .here) rfl) rfl rfl <| .e (.move rfl) rfl rfl <| .on rfl <| .call cal85 rfl rfl rfl (rthere_ok hk0 (Listed.ok hok)) fun v54 I54 O54 hI54 hK54 => ?_
            obtain ⟨rfl, hl54⟩ := hK54
            have hl540 := hl54
            obtain ⟨la54, lc54, rfl, hl541, hl542, -⟩ := hl54
            rw [hL] at hl540 hl541
            rw [hL]
            refine .e (.len sl23 rfl rfl) rfl rfl <| .e (.move rfl) rfl rfl <| .nil <| .go <| .block ?_
            refine .loopM [11, 13, 56, 57, 58, 59, 60, 61, 62, 63, 64, 65, 66] (fun k => L.length - k) (fun k => k ≤ L.length) (fun k => [(56, .int .i64 k), (11, .bool ((suits t n && room n (sumR L).1 t.needs) && (L.take k).all (bear t)))]) (fun _ => _) (fun _ => _) (0) (Nat.zero_le _) ⟨rfl, congrArg (fun x => some (Value.bool x)) (by simp_all), trivial⟩ rfl rfl ?_
            intro k hk
            refine .seq <| .region <| .e (.lss rfl rfl) rfl rfl <| .nil <| .go <| .seq ?_
            refine .split 57 rfl (fun h57 => ?_) (fun h57 => ?_)
            · skip
              replace h57 := of_decide_eq_true h57
              refine .cond_true rfl <| .skip <| .go <| .seq <| .block <| .seq ?_
              refine .region ?_
              obtain ⟨eb58, eo58, cs58, hd58, hat58, hr58⟩ := SlR.at_ hl540 (k := k) (by omega)
              cases hd58
              have ht58 := hr58
              obtain ⟨xw58, xb58, rfl, hxw58, hxb58⟩ := hr58.ex
              obtain ⟨xa58, xc58, rfl, -⟩ := hxw58
              obtain ⟨xd58, xe58, rfl, -⟩ := hxb58
              refine .e (.indexAddrL sl23 rfl rfl rfl (by omega)) rfl rfl <| .e (.loadIA ag34 sz34 rfl hat58 rfl) rfl rfl <| .on rfl <| .alloc zr34 rfl fun c4 _ _ => .on rfl <| .storeW sz34 rfl rfl rfl rfl rfl rfl .here <| .nil <| .go ?_
              refine .region <| .e (.move rfl) rfl rfl <| .e (.move rfl) rfl rfl ?_
              refine .split 61 rfl (fun h61 => ?_) (fun h61 => ?_)
              · skip
                refine .e (.loadW ag34 sz34 rfl (.there <| .there <| .here) rfl) rfl rfl <| .e (.loadW ag34 sz34 rfl .here rfl) rfl rfl <| .on rfl <| .callP cal91 rfl rfl rfl (rBear_ok (htK.mono hI54) ht58) <| .e (.pickT rfl rfl) rfl rfl <| .e (.assign rfl) rfl rfl <| .nil ?_
                refine .blk_normal <| .go <| .region <| .e (.add rfl rfl (by first | exact wrap_succ (by omega) | exact IntWalk.i64_in _ (by omega) | exact rfl)) rfl rfl <| .e (.move rfl) rfl rfl <| .nil ?_
                refine .tail ?_
                exact .mid (k + 1) ⟨by omega, by omega⟩ ⟨rfl, congrArg (fun x => some (Value.bool x)) (can_next (show k < L.length by omega) h61).symm, trivial⟩ rfl rfl (.pre 15 rfl (.app rfl .base))
              · skip
                refine .off rfl rfl <| .off rfl rfl <| .off rfl rfl <| .e (.pickF rfl rfl) rfl rfl <| .e (.assign rfl) rfl rfl <| .nil ?_
                refine .blk_normal <| .go <| .region <| .e (.add rfl rfl (by first | exact wrap_succ (by omega) | exact IntWalk.i64_in _ (by omega) | exact rfl)) rfl rfl <| .e (.move rfl) rfl rfl <| .nil ?_
                refine .tail ?_
                exact .mid (k + 1) ⟨by omega, by omega⟩ ⟨rfl, congrArg (fun x => some (Value.bool x)) (can_keep (k := k) h61).symm, trivial⟩ rfl rfl (.pre 15 rfl (.app rfl .base))
            · skip
              replace h57 := of_decide_eq_false h57
              refine .cond_false rfl <| .exit <| .exit <| .exit <| .blk_exit <| .go ?_
              refine .seq <| .seq <| .region <| .e (.move rfl) rfl rfl <| .e (.not rfl) rfl rfl <| .nil ?_
              refine .go ?_
              refine .split 68 rfl (fun h68 => ?_) (fun h68 => ?_)
              · skip
                refine .cond_true rfl <| .seq <| .region <| .e (.assign rfl) rfl rfl <| .nil <| .go ?_
                refine .ret <| .ret ?_
                refine .tail <| .tail <| .tail ?_
                refine .back hI54 ?_
                refine Post.retE rfl rfl ?_
                refine congrArg (Value.int .i64) ?_
                rw [canR_some hok.rt hok.rn hT34 hN37]
                rw [if_neg (show ¬hasB b task = true from Bool.eq_false_iff.1 h29), hL]
                simp only [ht, hn]
                have eL : L.take k = L := List.take_of_length_le (by omega)
                rw [eL] at h68
                unfold canT
                rw [hL]
                rw [if_neg (Bool.eq_false_iff.1 ((Bool.not_eq_true' _).mp h68))]
              · skip
                refine .cond_false rfl <| .skip <| .go <| .seq <| .region <| .e (.assign rfl) rfl rfl ?_
                refine .nil <| .go <| .ret ?_
                refine .tail <| .tail <| .tail ?_
                refine .back hI54 ?_
                refine Post.retE rfl rfl ?_
                refine congrArg (Value.int .i64) ?_
                rw [canR_some hok.rt hok.rn hT34 hN37]
                rw [if_neg (show ¬hasB b task = true from Bool.eq_false_iff.1 h29), hL]
                simp only [ht, hn]
                have eL : L.take k = L := List.take_of_length_le (by omega)
                rw [eL] at h68
                unfold canT
                rw [hL]
                rw [if_pos ((Bool.not_eq_false' _).mp h68)]
          · skip
            refine .s 4 rfl rfl rfl (by kernel_rfl) <| .s 5 rfl rfl rfl (by kernel_rfl) <| .s 6 rfl rfl rfl (by kernel_rfl) <| .s 8 rfl rfl rfl (by kernel_rfl) <| .s 9 rfl rfl rfl (by kernel_rfl) <| .none_ (i := 7) (by kernel_rfl) rfl rfl rfl ?_
            refine .none_ (i := 10) (by kernel_rfl) rfl rfl rfl <| .t 11 rfl (.pickF rfl rfl) rfl rfl (by kernel_rfl) <| .t 12 rfl (.assign rfl) rfl rfl (by kernel_rfl) <| .done (by kernel_rfl) <| .go <| .seq ?_
            refine .seq <| .region <| .e (.loadW ag27 sz27 rfl (.there <| .there <| .here) rfl) rfl rfl <| .e (.move rfl) rfl rfl <| .on rfl <| .call cal85 rfl rfl rfl (rthere_ok hk0 (Listed.ok hok)) fun v54 I54 O54 hI54 hK54 => ?_
            obtain ⟨rfl, hl54⟩ := hK54
            have hl540 := hl54
            obtain ⟨la54, lc54, rfl, hl541, hl542, -⟩ := hl54
            rw [hL] at hl540 hl541
            rw [hL]
            refine .e (.len sl23 rfl rfl) rfl rfl <| .e (.move rfl) rfl rfl <| .nil <| .go <| .block ?_
            refine .loopM [11, 13, 56, 57, 58, 59, 60, 61, 62, 63, 64, 65, 66] (fun k => L.length - k) (fun k => k ≤ L.length) (fun k => [(56, .int .i64 k), (11, .bool ((suits t n && room n (sumR L).1 t.needs) && (L.take k).all (bear t)))]) (fun _ => _) (fun _ => _) (0) (Nat.zero_le _) ⟨rfl, congrArg (fun x => some (Value.bool x)) (by simp_all), trivial⟩ rfl rfl ?_
            intro k hk
            refine .seq <| .region <| .e (.lss rfl rfl) rfl rfl <| .nil <| .go <| .seq ?_
            refine .split 57 rfl (fun h57 => ?_) (fun h57 => ?_)
            · skip
              replace h57 := of_decide_eq_true h57
              refine .cond_true rfl <| .skip <| .go <| .seq <| .block <| .seq ?_
              refine .region ?_
              obtain ⟨eb58, eo58, cs58, hd58, hat58, hr58⟩ := SlR.at_ hl540 (k := k) (by omega)
              cases hd58
              have ht58 := hr58
              obtain ⟨xw58, xb58, rfl, hxw58, hxb58⟩ := hr58.ex
              obtain ⟨xa58, xc58, rfl, -⟩ := hxw58
              obtain ⟨xd58, xe58, rfl, -⟩ := hxb58
              refine .e (.indexAddrL sl23 rfl rfl rfl (by omega)) rfl rfl <| .e (.loadIA ag34 sz34 rfl hat58 rfl) rfl rfl <| .on rfl <| .alloc zr34 rfl fun c5 _ _ => .on rfl <| .storeW sz34 rfl rfl rfl rfl rfl rfl .here <| .nil <| .go ?_
              refine .region <| .e (.move rfl) rfl rfl <| .e (.move rfl) rfl rfl ?_
              refine .split 61 rfl (fun h61 => ?_) (fun h61 => ?_)
              · skip
                refine .e (.loadW ag34 sz34 rfl (.there <| .there <| .here) rfl) rfl rfl <| .e (.loadW ag34 sz34 rfl .here rfl) rfl rfl <| .on rfl <| .callP cal91 rfl rfl rfl (rBear_ok (htK.mono hI54) ht58) <| .e (.pickT rfl rfl) rfl rfl <| .e (.assign rfl) rfl rfl <| .nil ?_
                refine .blk_normal <| .go <| .region <| .e (.add rfl rfl (by first | exact wrap_succ (by omega) | exact IntWalk.i64_in _ (by omega) | exact rfl)) rfl rfl <| .e (.move rfl) rfl rfl <| .nil ?_
                refine .tail ?_
                exact .mid (k + 1) ⟨by omega, by omega⟩ ⟨rfl, congrArg (fun x => some (Value.bool x)) (can_next (show k < L.length by omega) h61).symm, trivial⟩ rfl rfl (.pre 15 rfl (.app rfl .base))
              · skip
                refine .off rfl rfl <| .off rfl rfl <| .off rfl rfl <| .e (.pickF rfl rfl) rfl rfl <| .e (.assign rfl) rfl rfl <| .nil ?_
                refine .blk_normal <| .go <| .region <| .e (.add rfl rfl (by first | exact wrap_succ (by omega) | exact IntWalk.i64_in _ (by omega) | exact rfl)) rfl rfl <| .e (.move rfl) rfl rfl <| .nil ?_
                refine .tail ?_
                exact .mid (k + 1) ⟨by omega, by omega⟩ ⟨rfl, congrArg (fun x => some (Value.bool x)) (can_keep (k := k) h61).symm, trivial⟩ rfl rfl (.pre 15 rfl (.app rfl .base))
            · skip
              replace h57 := of_decide_eq_false h57
              refine .cond_false rfl <| .exit <| .exit <| .exit <| .blk_exit <| .go ?_
              refine .seq <| .seq <| .region <| .e (.move rfl) rfl rfl <| .e (.not rfl) rfl rfl <| .nil ?_
              refine .go ?_
              refine .split 68 rfl (fun h68 => ?_) (fun h68 => ?_)
              · skip
                refine .cond_true rfl <| .seq <| .region <| .e (.assign rfl) rfl rfl <| .nil <| .go ?_
                refine .ret <| .ret ?_
                refine .tail <| .tail <| .tail ?_
                refine .back hI54 ?_
                refine Post.retE rfl rfl ?_
                refine congrArg (Value.int .i64) ?_
                rw [canR_some hok.rt hok.rn hT34 hN37]
                rw [if_neg (show ¬hasB b task = true from Bool.eq_false_iff.1 h29), hL]
                simp only [ht, hn]
                have eL : L.take k = L := List.take_of_length_le (by omega)
                rw [eL] at h68
                unfold canT
                rw [hL]
                rw [if_neg (Bool.eq_false_iff.1 ((Bool.not_eq_true' _).mp h68))]
              · skip
                refine .cond_false rfl <| .skip <| .go <| .seq <| .region <| .e (.assign rfl) rfl rfl ?_
                refine .nil <| .go <| .ret ?_
                refine .tail <| .tail <| .tail ?_
                refine .back hI54 ?_
                refine Post.retE rfl rfl ?_
                refine congrArg (Value.int .i64) ?_
                rw [canR_some hok.rt hok.rn hT34 hN37]
                rw [if_neg (show ¬hasB b task = true from Bool.eq_false_iff.1 h29), hL]
                simp only [ht, hn]
                have eL : L.take k = L := List.take_of_length_le (by omega)
                rw [eL] at h68
                unfold canT
                rw [hL]
                rw [if_pos ((Bool.not_eq_false' _).mp h68)]
        · skip
          refine .alloc zr32 rfl fun c6 _ _ => ?_
          refine ⟨(.cons (.there <| .here) .nil), Imm.le_refl _, ?_⟩
          refine .one (i := 10) (by kernel_rfl) rfl rfl <| .alloc zr34 rfl fun c7 _ _ => ?_
          refine ⟨(.cons (.there <| .there <| .here) .nil), Imm.le_refl _, ?_⟩
          refine .one (i := 12) (by kernel_rfl) rfl rfl <| .storeW sz34 rfl rfl rfl rfl rfl rfl .here ?_
          refine ⟨(.cons (.there <| .there <| .here) .nil), Imm.le_refl _, ?_⟩
          refine .late (i := 13) (by kernel_rfl) (by kernel_rfl) (by kernel_rfl) rfl rfl <| .storeW sz32 rfl rfl rfl rfl rfl rfl (.there <| .here) <| .go <| .seq ?_
          refine .draw [(c7, _), (c6, _), (c1, _)] mixed (.cons .here (.cons (.there <| .here) (.cons (.there <| .there <| .here) .nil))) ?_
          refine .t 0 rfl (.loadW ag34 sz34 rfl .here rfl) rfl rfl (by kernel_rfl) <| .t 1 rfl (.loadW ag32 sz32 rfl (.there <| .here) rfl) rfl rfl (by kernel_rfl) <| .one (i := 2) (by kernel_rfl) rfl rfl <| .callP cal89 rfl rfl rfl (rSuits_ok htK hn38) ?_
          refine ⟨(.cons .here (.cons (.there <| .here) (.cons (.there <| .there <| .here) .nil))), Imm.le_refl _, ?_⟩
          refine .t 3 rfl (.move rfl) rfl rfl (by kernel_rfl) ?_
          refine .split 43 rfl (fun h43 => ?_) (fun h43 => ?_)
          · skip
            refine .t 4 rfl (.loadW ag32 sz32 rfl (.there <| .here) rfl) rfl rfl (by kernel_rfl) <| .t 5 rfl (.loadW ag27 sz27 rfl (.there <| .there <| .here) rfl) rfl rfl (by kernel_rfl) <| .t 6 rfl (.move rfl) rfl rfl (by kernel_rfl) <| .t 8 rfl (.fieldAddr fo34_1 rfl) rfl rfl (by kernel_rfl) <| .t 9 rfl (.loadP ag29 sz29 rfl .here rfl) rfl rfl (by kernel_rfl) <| .one (i := 7) (by kernel_rfl) rfl rfl ?_
            refine .callP cal68 rfl rfl rfl ((rused_ok hk0 hok (s := node)).cast (by rw [hL])) ?_
            refine ⟨(.cons .here (.cons (.there <| .here) (.cons (.there <| .there <| .here) .nil))), Imm.le_refl _, ?_⟩
            refine .one (i := 10) (by kernel_rfl) rfl rfl <| .callP cal90 rfl rfl rfl (rRoom_ok (u := (sumR L).1) (d := t.needs) hn38) ?_
            refine ⟨(.cons .here (.cons (.there <| .here) (.cons (.there <| .there <| .here) .nil))), Imm.le_refl _, ?_⟩
            refine .t 11 rfl (.pickT rfl rfl) rfl rfl (by kernel_rfl) <| .t 12 rfl (.assign rfl) rfl rfl (by kernel_rfl) <| .done (by kernel_rfl) <| .go <| .seq <| .seq ?_
            refine .region <| .e (.loadW ag27 sz27 rfl (.there <| .there <| .here) rfl) rfl rfl <| .e (.move rfl) rfl rfl <| .on rfl <| .call cal85 rfl rfl rfl (rthere_ok hk0 (Listed.ok hok)) fun v54 I54 O54 hI54 hK54 => ?_
            obtain ⟨rfl, hl54⟩ := hK54
            have hl540 := hl54
            obtain ⟨la54, lc54, rfl, hl541, hl542, -⟩ := hl54
            rw [hL] at hl540 hl541
            rw [hL]
            refine .e (.len sl23 rfl rfl) rfl rfl <| .e (.move rfl) rfl rfl <| .nil <| .go <| .block ?_
            refine .loopM [11, 13, 56, 57, 58, 59, 60, 61, 62, 63, 64, 65, 66] (fun k => L.length - k) (fun k => k ≤ L.length) (fun k => [(56, .int .i64 k), (11, .bool ((suits t n && room n (sumR L).1 t.needs) && (L.take k).all (bear t)))]) (fun _ => _) (fun _ => _) (0) (Nat.zero_le _) ⟨rfl, congrArg (fun x => some (Value.bool x)) (by simp_all), trivial⟩ rfl rfl ?_
            intro k hk
            refine .seq <| .region <| .e (.lss rfl rfl) rfl rfl <| .nil <| .go <| .seq ?_
            refine .split 57 rfl (fun h57 => ?_) (fun h57 => ?_)
            · skip
              replace h57 := of_decide_eq_true h57
              refine .cond_true rfl <| .skip <| .go <| .seq <| .block <| .seq ?_
              refine .region ?_
              obtain ⟨eb58, eo58, cs58, hd58, hat58, hr58⟩ := SlR.at_ hl540 (k := k) (by omega)
              cases hd58
              have ht58 := hr58
              obtain ⟨xw58, xb58, rfl, hxw58, hxb58⟩ := hr58.ex
              obtain ⟨xa58, xc58, rfl, -⟩ := hxw58
              obtain ⟨xd58, xe58, rfl, -⟩ := hxb58
              refine .e (.indexAddrL sl23 rfl rfl rfl (by omega)) rfl rfl <| .e (.loadIA ag34 sz34 rfl hat58 rfl) rfl rfl <| .on rfl <| .alloc zr34 rfl fun c8 _ _ => .on rfl <| .storeW sz34 rfl rfl rfl rfl rfl rfl .here <| .nil <| .go ?_
              refine .region <| .e (.move rfl) rfl rfl <| .e (.move rfl) rfl rfl ?_
              refine .split 61 rfl (fun h61 => ?_) (fun h61 => ?_)
              · skip
                refine .e (.loadW ag34 sz34 rfl (.there <| .here) rfl) rfl rfl <| .e (.loadW ag34 sz34 rfl .here rfl) rfl rfl <| .on rfl <| .callP cal91 rfl rfl rfl (rBear_ok (htK.mono hI54) ht58) <| .e (.pickT rfl rfl) rfl rfl <| .e (.assign rfl) rfl rfl <| .nil ?_
                refine .blk_normal <| .go <| .region <| .e (.add rfl rfl (by first | exact wrap_succ (by omega) | exact IntWalk.i64_in _ (by omega) | exact rfl)) rfl rfl <| .e (.move rfl) rfl rfl <| .nil ?_
                refine .tail ?_
                exact .mid (k + 1) ⟨by omega, by omega⟩ ⟨rfl, congrArg (fun x => some (Value.bool x)) (can_next (show k < L.length by omega) h61).symm, trivial⟩ rfl rfl (.pre 15 rfl (.app rfl .base))
              · skip
                refine .off rfl rfl <| .off rfl rfl <| .off rfl rfl <| .e (.pickF rfl rfl) rfl rfl <| .e (.assign rfl) rfl rfl <| .nil ?_
                refine .blk_normal <| .go <| .region <| .e (.add rfl rfl (by first | exact wrap_succ (by omega) | exact IntWalk.i64_in _ (by omega) | exact rfl)) rfl rfl <| .e (.move rfl) rfl rfl <| .nil ?_
                refine .tail ?_
                exact .mid (k + 1) ⟨by omega, by omega⟩ ⟨rfl, congrArg (fun x => some (Value.bool x)) (can_keep (k := k) h61).symm, trivial⟩ rfl rfl (.pre 15 rfl (.app rfl .base))
            · skip
              replace h57 := of_decide_eq_false h57
              refine .cond_false rfl <| .exit <| .exit <| .exit <| .blk_exit <| .go ?_
              refine .seq <| .seq <| .region <| .e (.move rfl) rfl rfl <| .e (.not rfl) rfl rfl <| .nil ?_
              refine .go ?_
              refine .split 68 rfl (fun h68 => ?_) (fun h68 => ?_)
              · skip
                refine .cond_true rfl <| .seq <| .region <| .e (.assign rfl) rfl rfl <| .nil <| .go ?_
                refine .ret <| .ret ?_
                refine .tail <| .tail <| .tail ?_
                refine .back hI54 ?_
                refine Post.retE rfl rfl ?_
                refine congrArg (Value.int .i64) ?_
                rw [canR_some hok.rt hok.rn hT34 hN37]
                rw [if_neg (show ¬hasB b task = true from Bool.eq_false_iff.1 h29), hL]
                simp only [ht, hn]
                have eL : L.take k = L := List.take_of_length_le (by omega)
                rw [eL] at h68
                unfold canT
                rw [hL]
                rw [if_neg (Bool.eq_false_iff.1 ((Bool.not_eq_true' _).mp h68))]
              · skip
                refine .cond_false rfl <| .skip <| .go <| .seq <| .region <| .e (.assign rfl) rfl rfl ?_
                refine .nil <| .go <| .ret ?_
                refine .tail <| .tail <| .tail ?_
                refine .back hI54 ?_
                refine Post.retE rfl rfl ?_
                refine congrArg (Value.int .i64) ?_
                rw [canR_some hok.rt hok.rn hT34 hN37]
                rw [if_neg (show ¬hasB b task = true from Bool.eq_false_iff.1 h29), hL]
                simp only [ht, hn]
                have eL : L.take k = L := List.take_of_length_le (by omega)
                rw [eL] at h68
                unfold canT
                rw [hL]
                rw [if_pos ((Bool.not_eq_false' _).mp h68)]
          · skip
            refine .s 4 rfl rfl rfl (by kernel_rfl) <| .s 5 rfl rfl rfl (by kernel_rfl) <| .s 6 rfl rfl rfl (by kernel_rfl) <| .s 8 rfl rfl rfl (by kernel_rfl) <| .s 9 rfl rfl rfl (by kernel_rfl) <| .none_ (i := 7) (by kernel_rfl) rfl rfl rfl ?_
            refine .none_ (i := 10) (by kernel_rfl) rfl rfl rfl <| .t 11 rfl (.pickF rfl rfl) rfl rfl (by kernel_rfl) <| .t 12 rfl (.assign rfl) rfl rfl (by kernel_rfl) <| .done (by kernel_rfl) <| .go <| .seq ?_
            refine .seq <| .region <| .e (.loadW ag27 sz27 rfl (.there <| .there <| .here) rfl) rfl rfl <| .e (.move rfl) rfl rfl <| .on rfl <| .call cal85 rfl rfl rfl (rthere_ok hk0 (Listed.ok hok)) fun v54 I54 O54 hI54 hK54 => ?_
            obtain ⟨rfl, hl54⟩ := hK54
            have hl540 := hl54
            obtain ⟨la54, lc54, rfl, hl541, hl542, -⟩ := hl54
            rw [hL] at hl540 hl541
            rw [hL]
            refine .e (.len sl23 rfl rfl) rfl rfl <| .e (.move rfl) rfl rfl <| .nil <| .go <| .block ?_
            refine .loopM [11, 13, 56, 57, 58, 59, 60, 61, 62, 63, 64, 65, 66] (fun k => L.length - k) (fun k => k ≤ L.length) (fun k => [(56, .int .i64 k), (11, .bool ((suits t n && room n (sumR L).1 t.needs) && (L.take k).all (bear t)))]) (fun _ => _) (fun _ => _) (0) (Nat.zero_le _) ⟨rfl, congrArg (fun x => some (Value.bool x)) (by simp_all), trivial⟩ rfl rfl ?_
            intro k hk
            refine .seq <| .region <| .e (.lss rfl rfl) rfl rfl <| .nil <| .go <| .seq ?_
            refine .split 57 rfl (fun h57 => ?_) (fun h57 => ?_)
            · skip
              replace h57 := of_decide_eq_true h57
              refine .cond_true rfl <| .skip <| .go <| .seq <| .block <| .seq ?_
              refine .region ?_
              obtain ⟨eb58, eo58, cs58, hd58, hat58, hr58⟩ := SlR.at_ hl540 (k := k) (by omega)
              cases hd58
              have ht58 := hr58
              obtain ⟨xw58, xb58, rfl, hxw58, hxb58⟩ := hr58.ex
              obtain ⟨xa58, xc58, rfl, -⟩ := hxw58
              obtain ⟨xd58, xe58, rfl, -⟩ := hxb58
              refine .e (.indexAddrL sl23 rfl rfl rfl (by omega)) rfl rfl <| .e (.loadIA ag34 sz34 rfl hat58 rfl) rfl rfl <| .on rfl <| .alloc zr34 rfl fun c9 _ _ => .on rfl <| .storeW sz34 rfl rfl rfl rfl rfl rfl .here <| .nil <| .go ?_
              refine .region <| .e (.move rfl) rfl rfl <| .e (.move rfl) rfl rfl ?_
              refine .split 61 rfl (fun h61 => ?_) (fun h61 => ?_)
              · skip
                refine .e (.loadW ag34 sz34 rfl (.there <| .here) rfl) rfl rfl <| .e (.loadW ag34 sz34 rfl .here rfl) rfl rfl <| .on rfl <| .callP cal91 rfl rfl rfl (rBear_ok (htK.mono hI54) ht58) <| .e (.pickT rfl rfl) rfl rfl <| .e (.assign rfl) rfl rfl <| .nil ?_
                refine .blk_normal <| .go <| .region <| .e (.add rfl rfl (by first | exact wrap_succ (by omega) | exact IntWalk.i64_in _ (by omega) | exact rfl)) rfl rfl <| .e (.move rfl) rfl rfl <| .nil ?_
                refine .tail ?_
                exact .mid (k + 1) ⟨by omega, by omega⟩ ⟨rfl, congrArg (fun x => some (Value.bool x)) (can_next (show k < L.length by omega) h61).symm, trivial⟩ rfl rfl (.pre 15 rfl (.app rfl .base))
              · skip
                refine .off rfl rfl <| .off rfl rfl <| .off rfl rfl <| .e (.pickF rfl rfl) rfl rfl <| .e (.assign rfl) rfl rfl <| .nil ?_
                refine .blk_normal <| .go <| .region <| .e (.add rfl rfl (by first | exact wrap_succ (by omega) | exact IntWalk.i64_in _ (by omega) | exact rfl)) rfl rfl <| .e (.move rfl) rfl rfl <| .nil ?_
                refine .tail ?_
                exact .mid (k + 1) ⟨by omega, by omega⟩ ⟨rfl, congrArg (fun x => some (Value.bool x)) (can_keep (k := k) h61).symm, trivial⟩ rfl rfl (.pre 15 rfl (.app rfl .base))
            · skip
              replace h57 := of_decide_eq_false h57
              refine .cond_false rfl <| .exit <| .exit <| .exit <| .blk_exit <| .go ?_
              refine .seq <| .seq <| .region <| .e (.move rfl) rfl rfl <| .e (.not rfl) rfl rfl <| .nil ?_
              refine .go ?_
              refine .split 68 rfl (fun h68 => ?_) (fun h68 => ?_)
              · skip
                refine .cond_true rfl <| .seq <| .region <| .e (.assign rfl) rfl rfl <| .nil <| .go ?_
                refine .ret <| .ret ?_
                refine .tail <| .tail <| .tail ?_
                refine .back hI54 ?_
                refine Post.retE rfl rfl ?_
                refine congrArg (Value.int .i64) ?_
                rw [canR_some hok.rt hok.rn hT34 hN37]
                rw [if_neg (show ¬hasB b task = true from Bool.eq_false_iff.1 h29), hL]
                simp only [ht, hn]
                have eL : L.take k = L := List.take_of_length_le (by omega)
                rw [eL] at h68
                unfold canT
                rw [hL]
                rw [if_neg (Bool.eq_false_iff.1 ((Bool.not_eq_true' _).mp h68))]
              · skip
                refine .cond_false rfl <| .skip <| .go <| .seq <| .region <| .e (.assign rfl) rfl rfl ?_
                refine .nil <| .go <| .ret ?_
                refine .tail <| .tail <| .tail ?_
                refine .back hI54 ?_
                refine Post.retE rfl rfl ?_
                refine congrArg (Value.int .i64) ?_
                rw [canR_some hok.rt hok.rn hT34 hN37]
                rw [if_neg (show ¬hasB b task = true from Bool.eq_false_iff.1 h29), hL]
                simp only [ht, hn]
                have eL : L.take k = L := List.take_of_length_le (by omega)
                rw [eL] at h68
                unfold canT
                rw [hL]
                rw [if_pos ((Bool.not_eq_false' _).mp h68)]

set_option maxHeartbeats 1000000 in
set_option maxRecDepth 20000 in
theorem rbCan_ok {I : Imm} {O : Own} {kc : List Value} {b : Bk} (hk : BkR I kc b) {task node : ByteArray} :
    Pure Tryz.prog 24 [.agg ⟨kc⟩, .string task, .string node] I O (.int .i64 (canA b task node)) := by
  have hk0 := hk
  obtain ⟨nv, tv, bv, rfl, hnv, htv, hbv⟩ := hk.ex
  have hnv0 := hnv
  have htv0 := htv
  have hbv0 := hbv
  obtain ⟨na, ncap, rfl, hn1, hn2, -⟩ := hnv
  obtain ⟨ta, tcap, rfl, ht1, ht2, -⟩ := htv
  obtain ⟨ba, bcap, rfl, hb1, hb2, -⟩ := hbv
  refine Go.Sy.Does.enter Tryz.func24 rfl Tryz.ntmps24 rfl ?_
  refine .seq <| .region <| .on rfl <| .box rfl rfl rfl fun c1 _ _ => .e (.assign rfl) rfl rfl <| .nil <| .go ?_
  refine .seq <| .seq <| .region <| .e (.loadW ag27 sz27 rfl .here rfl) rfl rfl <| .on rfl <| .callP cal25 rfl rfl rfl (rbCheck_ok hk0) <| .e (.neq rfl rfl) rfl rfl ?_
  refine .nil <| .go ?_
  refine .split 9 rfl (fun h9 => ?_) (fun h9 => ?_)
  · skip
    first | replace h9 := of_decide_eq_false ((Bool.not_eq_true' _).mp h9) | replace h9 := of_decide_eq_false (by simpa using h9)
    refine .cond_true rfl <| .seq <| .region <| .e (.assign rfl) rfl rfl <| .nil <| .go ?_
    refine .ret <| .ret ?_
    refine .tail ?_
    refine Post.retE rfl rfl ?_
    refine congrArg (Value.int .i64) ?_
    unfold canA
    rw [(bookWhy_no h9).1, if_neg (by simp)]
  · skip
    first | replace h9 := of_decide_eq_true ((Bool.not_eq_false' _).mp h9) | replace h9 := of_decide_eq_true (by simpa using h9)
    have hok := BookOk.of (bookWhy_ok h9)
    refine .cond_false rfl <| .skip <| .go <| .seq <| .region <| .e (.loadW ag27 sz27 rfl .here rfl) rfl rfl ?_
    refine .e (.move rfl) rfl rfl <| .e (.move rfl) rfl rfl <| .on rfl <| .callP cal36 rfl rfl rfl (rcan_ok hk0 hok) <| .e (.assign rfl) rfl rfl <| .nil <| .go ?_
    refine .ret ?_
    refine .tail ?_
    refine Post.retE rfl rfl ?_
    refine congrArg (Value.int .i64) ?_
    unfold canA
    rw [if_pos (bookWhy_ok h9)]

end Go.Proofs.YtcojkkndmholaaaGreatDoor
