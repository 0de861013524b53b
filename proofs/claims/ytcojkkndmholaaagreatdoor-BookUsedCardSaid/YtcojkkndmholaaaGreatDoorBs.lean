/- Walks of functions over a symbolic memory, printed by a program of the session. -/
import Derived.Test.YtcojkkndmholaaaGreatDoorBq
namespace Go.Proofs.YtcojkkndmholaaaGreatDoor
open Go.Sy
set_option linter.unusedSimpArgs false
set_option linter.unusedVariables false

set_option maxHeartbeats 16000000 in
set_option maxRecDepth 20000 in
theorem BookNames_ok {I : Imm} {O : Own} {kc : List Value} {b : Bk} (hk : BkR I kc b) {tc : List Value} {t : Tsk} (ht : TskR I tc t) (hz : TskS t) :
    Pure Tryz.prog 7 [.agg ⟨kc⟩, .agg ⟨tc⟩] I O (.bool true) := by
  have hk0 := hk
  obtain ⟨nv, tv, bv, rfl, hnv, htv, hbv⟩ := hk.ex
  have hnv0 := hnv
  have htv0 := htv
  have hbv0 := hbv
  obtain ⟨na, ncap, rfl, hn1, hn2, -⟩ := hnv
  obtain ⟨ta, tcap, rfl, ht1, ht2, -⟩ := htv
  obtain ⟨ba, bcap, rfl, hb1, hb2, -⟩ := hbv
  have ht0 := ht
  obtain ⟨nwl_, nbl_, rfl, hw_, hb_⟩ := ht.ex
  have hw0 := hw_
  have hb0 := hb_
  obtain ⟨_, _, rfl, -⟩ := hw_
  obtain ⟨_, _, rfl, -⟩ := hb_
  refine Go.Sy.Does.enter Tryz.func7 rfl Tryz.ntmps7 rfl ?_
  refine .seq <| .region <| .on rfl <| .box rfl rfl rfl fun c1 _ _ => .on rfl <| .box rfl rfl rfl fun c2 _ _ => .e (.assign rfl) rfl rfl <| .nil ?_
  refine .go <| .seq <| .seq <| .region <| .on rfl <| .callP cal14 rfl rfl rfl (lives_ok) <| .e (.not rfl) rfl rfl ?_
  refine .nil <| .go <| .cond_false rfl <| .skip <| .go <| .seq ?_
  refine .region <| .e (.loadW ag27 sz27 rfl (.there <| .here) rfl) rfl rfl <| .e (.loadW ag34 sz34 rfl .here rfl) rfl rfl <| .e (.build bs36 zv36 rfl rfl) rfl rfl <| .on rfl <| .call cal12 rfl rfl rfl (doF (o := ordT t) hk0 (ordTR ht0 hw0 hb0 hz).1 (ordTR ht0 hw0 hb0 hz).2) fun v17 I17 O17 hI17 hK17 => ?_
  obtain ⟨rfl, cs17, rfl, hb17⟩ := hK17
  have hb170 := hb17
  obtain ⟨nv17, tv17, bv17, rfl, hn17, ht17, hx17⟩ := hb17.ex
  obtain ⟨_, _, rfl, -⟩ := hn17
  obtain ⟨_, _, rfl, htl17, -⟩ := ht17
  obtain ⟨_, _, rfl, -⟩ := hx17
  refine .e (.move rfl) rfl rfl <| .e (.extract rfl rfl) rfl rfl <| .e (.extract rfl rfl) rfl rfl <| .on rfl <| .alloc zr27 rfl fun c3 _ _ => .on rfl <| .alloc zr40 rfl fun c4 _ _ => .on rfl <| .storeW sz27 rfl rfl rfl rfl rfl rfl (.there <| .here) ?_
  refine .on rfl <| .storeW sz40 rfl rfl rfl rfl rfl rfl .here <| .nil <| .go <| .seq <| .seq <| .region ?_
  refine .e (.fieldAddr fo40_0 rfl) rfl rfl <| .e (.load ag38 rfl .here rfl) rfl rfl <| .e (.neq rfl rfl) rfl rfl <| .nil <| .go ?_
  refine .split 22 rfl (fun h22 => ?_) (fun h22 => ?_)
  · skip
    first | replace h22 := of_decide_eq_false ((Bool.not_eq_true' _).mp h22) | replace h22 := of_decide_eq_false (by simpa using h22)
    refine .cond_true rfl <| .seq <| .region <| .e (.assign rfl) rfl rfl <| .nil <| .go ?_
    refine .ret <| .ret ?_
    refine .tail <| .tail <| .tail <| .tail ?_
    refine .back hI17 ?_
    refine Post.retE rfl rfl ?_
    rfl
  · skip
    first | replace h22 := of_decide_eq_true ((Bool.not_eq_false' _).mp h22) | replace h22 := of_decide_eq_true (by simpa using h22)
    have hN := names_law h22
    have hN1 := hN.1
    have hN2 := hN.2.1
    refine .cond_false rfl <| .skip <| .go <| .seq <| .region <| .e (.loadW ag27 sz27 rfl (.there <| .here) rfl) rfl rfl ?_
    refine .e (.loadW ag34 sz34 rfl (.there <| .there <| .here) rfl) rfl rfl <| .e (.build bs36 zv36 rfl rfl) rfl rfl <| .on rfl <| .call cal12 rfl rfl rfl (doF (o := ordT t) hb170 (ordTR (ht0.mono hI17) (hw0.mono hI17) (hb0.mono hI17) hz).1 (ordTR (ht0.mono hI17) (hw0.mono hI17) (hb0.mono hI17) hz).2) fun v27 I27 O27 hI27 hK27 => ?_
    obtain ⟨rfl, cs27, rfl, hb27⟩ := hK27
    have hb270 := hb27
    obtain ⟨nv27, tv27, bv27, rfl, hn27, ht27, hx27⟩ := hb27.ex
    obtain ⟨_, _, rfl, -⟩ := hn27
    obtain ⟨_, _, rfl, htl27, -⟩ := ht27
    obtain ⟨_, _, rfl, -⟩ := hx27
    refine .e (.move rfl) rfl rfl <| .e (.extract rfl rfl) rfl rfl <| .e (.extract rfl rfl) rfl rfl <| .on rfl <| .alloc zr27 rfl fun c5 _ _ => .on rfl <| .alloc zr40 rfl fun c6 _ _ => .on rfl <| .storeW sz27 rfl rfl rfl rfl rfl rfl (.there <| .here) ?_
    refine .on rfl <| .storeW sz40 rfl rfl rfl rfl rfl rfl .here <| .nil <| .go <| .seq <| .region <| .e (.loadW ag27 sz27 rfl (.there <| .there <| .there <| .here) rfl) rfl rfl ?_
    refine .e (.fieldAddr fo34_0 rfl) rfl rfl <| .e (.load ag9 rfl (.there <| .there <| .there <| .there <| .here) rfl) rfl rfl <| .e (.build bs36 zv36 rfl rfl) rfl rfl <| .on rfl <| .call cal12 rfl rfl rfl (doF (o := ordK 4 t.name) (hb170.mono hI27) (ordKR (e5_ 4 (by decide)) ht0.name).1 (ordKR (I := I) (e5_ 4 (by decide)) ht0.name).2) fun v35 I35 O35 hI35 hK35 => ?_
    obtain ⟨rfl, cs35, rfl, hb35⟩ := hK35
    have hb350 := hb35
    obtain ⟨nv35, tv35, bv35, rfl, hn35, ht35, hx35⟩ := hb35.ex
    obtain ⟨_, _, rfl, -⟩ := hn35
    obtain ⟨_, _, rfl, htl35, -⟩ := ht35
    obtain ⟨_, _, rfl, -⟩ := hx35
    refine .e (.move rfl) rfl rfl <| .e (.extract rfl rfl) rfl rfl <| .e (.extract rfl rfl) rfl rfl <| .on rfl <| .alloc zr27 rfl fun c7 _ _ => .on rfl <| .alloc zr40 rfl fun c8 _ _ => .on rfl <| .storeW sz27 rfl rfl rfl rfl rfl rfl (.there <| .here) ?_
    refine .on rfl <| .storeW sz40 rfl rfl rfl rfl rfl rfl .here <| .nil <| .go <| .seq <| .region <| .e (.fieldAddr fo27_1 rfl) rfl rfl ?_
    refine .e (.load ag23 rfl (.there <| .there <| .there <| .there <| .there <| .here) rfl) rfl rfl <| .e (.len sl23 rfl rfl) rfl rfl <| .e (.fieldAddr fo27_1 rfl) rfl rfl <| .e (.load ag23 rfl (.there <| .there <| .there <| .there <| .there <| .there <| .there <| .here) rfl) rfl rfl <| .e (.len sl23 rfl rfl) rfl rfl <| .e (.add rfl rfl (wrap_succ (by omega))) rfl rfl ?_
    refine .e ((EV.cast (u := .bool true) (.eql rfl rfl) (congrArg Value.bool (decide_eq_true (by omega))))) rfl rfl <| .e (.move rfl) rfl rfl <| .e (.fieldAddr fo40_0 rfl) rfl rfl <| .e (.load ag38 rfl (.there <| .there <| .here) rfl) rfl rfl <| .e ((EV.cast (u := .bool true) (.eql rfl rfl) (congrArg Value.bool (decide_eq_true (hN.2.2.1))))) rfl rfl <| .e (.pickT rfl rfl) rfl rfl ?_
    refine .e (.move rfl) rfl rfl <| .e (.fieldAddr fo40_0 rfl) rfl rfl <| .e (.load ag38 rfl .here rfl) rfl rfl <| .e ((EV.cast (u := .bool true) (.eql rfl rfl) (congrArg Value.bool (decide_eq_true (hN.2.2.2.1))))) rfl rfl <| .e (.pickT rfl rfl) rfl rfl <| .e (.move rfl) rfl rfl ?_
    refine .e (.loadW ag27 sz27 rfl (.there <| .there <| .there <| .there <| .there <| .there <| .there <| .here) rfl) rfl rfl <| .e (.loadW ag27 sz27 rfl (.there <| .here) rfl) rfl rfl <| .on rfl <| .callP cal15 rfl rfl rfl ((sameBk_ok (hk0.mono (Imm.le_trans (Imm.le_trans hI17 hI27) hI35)) hb350).cast (congrArg Value.bool (decide_eq_true (hN.2.2.2.2.symm)))) <| .e (.pickT rfl rfl) rfl rfl <| .e (.assign rfl) rfl rfl <| .nil ?_
    refine .go <| .ret ?_
    refine .tail <| .tail <| .tail <| .tail <| .tail <| .tail ?_
    refine .tail <| .tail ?_
    refine .back (Imm.le_trans (Imm.le_trans hI17 hI27) hI35) ?_
    refine Post.retE rfl rfl ?_
    rfl

set_option maxHeartbeats 16000000 in
set_option maxRecDepth 20000 in
theorem BookCan_ok {I : Imm} {O : Own} {kc : List Value} {b : Bk} (hk : BkR I kc b) {task node : ByteArray} (hst : StrOk task) (hsn : StrOk node) (hz : task.size + node.size ≤ 9223372036854775807) :
    Pure Tryz.prog 8 [.agg ⟨kc⟩, .string task, .string node] I O (.bool true) := by
  have hk0 := hk
  obtain ⟨nv, tv, bv, rfl, hnv, htv, hbv⟩ := hk.ex
  have hnv0 := hnv
  have htv0 := htv
  have hbv0 := hbv
  obtain ⟨na, ncap, rfl, hn1, hn2, -⟩ := hnv
  obtain ⟨ta, tcap, rfl, ht1, ht2, -⟩ := htv
  obtain ⟨ba, bcap, rfl, hb1, hb2, -⟩ := hbv
  refine Go.Sy.Does.enter Tryz.func8 rfl Tryz.ntmps8 rfl ?_
  refine .seq <| .region <| .on rfl <| .box rfl rfl rfl fun c1 _ _ => .e (.assign rfl) rfl rfl <| .nil <| .go ?_
  refine .seq <| .seq <| .region <| .on rfl <| .callP cal14 rfl rfl rfl (lives_ok) <| .e (.not rfl) rfl rfl <| .nil ?_
  refine .go <| .cond_false rfl <| .skip <| .go <| .seq <| .region ?_
  refine .e (.loadW ag27 sz27 rfl .here rfl) rfl rfl <| .e (.move rfl) rfl rfl <| .e (.move rfl) rfl rfl <| .on rfl <| .callP cal20 rfl rfl rfl (bCan_ok hk0) <| .e (.assign rfl) rfl rfl <| .nil ?_
  refine .go <| .seq <| .region <| .e (.loadW ag27 sz27 rfl .here rfl) rfl rfl <| .e (.move rfl) rfl rfl <| .e (.move rfl) rfl rfl ?_
  refine .e (.fieldAddr fo27_3 rfl) rfl rfl <| .e (.load ag25 rfl .here rfl) rfl rfl <| .e (.build bs36 zv36 rfl rfl) rfl rfl <| .on rfl <| .call cal12 rfl rfl rfl (doF (o := ordB task node b.fence) hk0 (ordBR (f := b.fence) hst hsn hk0.fence hz).1 (ordBR (I := I) (f := b.fence) hst hsn hk0.fence hz).2) fun v27 I27 O27 hI27 hK27 => ?_
  obtain ⟨rfl, cs27, rfl, hb27⟩ := hK27
  have hb270 := hb27
  obtain ⟨nv27, tv27, bv27, rfl, hn27, ht27, hx27⟩ := hb27.ex
  obtain ⟨_, _, rfl, -⟩ := hn27
  obtain ⟨_, _, rfl, htl27, -⟩ := ht27
  obtain ⟨_, _, rfl, -⟩ := hx27
  refine .e (.move rfl) rfl rfl <| .e (.extract rfl rfl) rfl rfl <| .e (.extract rfl rfl) rfl rfl <| .on rfl <| .alloc zr27 rfl fun c2 _ _ => .on rfl <| .alloc zr40 rfl fun c3 _ _ => .on rfl <| .storeW sz27 rfl rfl rfl rfl rfl rfl (.there <| .here) ?_
  refine .on rfl <| .storeW sz40 rfl rfl rfl rfl rfl rfl .here <| .nil <| .go <| .seq <| .seq <| .region ?_
  refine .e (.move rfl) rfl rfl <| .e (.neq rfl rfl) rfl rfl <| .nil <| .go ?_
  refine .split 31 rfl (fun h31 => ?_) (fun h31 => ?_)
  · skip
    first | replace h31 := of_decide_eq_false ((Bool.not_eq_true' _).mp h31) | replace h31 := of_decide_eq_false (by simpa using h31)
    refine .cond_true rfl <| .seq <| .region <| .e (.fieldAddr fo40_0 rfl) rfl rfl <| .e (.load ag38 rfl .here rfl) rfl rfl <| .e (.move rfl) rfl rfl ?_
    refine .e ((EV.cast (u := .bool true) (.eql rfl rfl) (congrArg Value.bool (decide_eq_true (can_bad h31))))) rfl rfl <| .e (.assign rfl) rfl rfl <| .nil <| .go <| .ret <| .ret ?_
    refine .tail <| .tail <| .tail ?_
    refine .back hI27 ?_
    refine Post.retE rfl rfl ?_
    rfl
  · skip
    first | replace h31 := of_decide_eq_true ((Bool.not_eq_false' _).mp h31) | replace h31 := of_decide_eq_true (by simpa using h31)
    have hN := can_good h31
    refine .cond_false rfl <| .skip <| .go <| .seq <| .region <| .e (.loadW ag27 sz27 rfl (.there <| .here) rfl) rfl rfl ?_
    refine .e (.move rfl) rfl rfl <| .e (.build bs36 zv36 rfl rfl) rfl rfl <| .on rfl <| .call cal12 rfl rfl rfl (doF (o := ordK 7 task) hb270 (ordKR (e5_ 7 (by decide)) hst).1 (ordKR (I := I) (e5_ 7 (by decide)) hst).2) fun v40 I40 O40 hI40 hK40 => ?_
    obtain ⟨rfl, cs40, rfl, hb40⟩ := hK40
    have hb400 := hb40
    obtain ⟨nv40, tv40, bv40, rfl, hn40, ht40, hx40⟩ := hb40.ex
    obtain ⟨_, _, rfl, -⟩ := hn40
    obtain ⟨_, _, rfl, htl40, -⟩ := ht40
    obtain ⟨_, _, rfl, -⟩ := hx40
    refine .e (.move rfl) rfl rfl <| .e (.extract rfl rfl) rfl rfl <| .e (.extract rfl rfl) rfl rfl <| .on rfl <| .alloc zr27 rfl fun c4 _ _ => .on rfl <| .alloc zr40 rfl fun c5 _ _ => .on rfl <| .storeW sz27 rfl rfl rfl rfl rfl rfl (.there <| .here) ?_
    refine .on rfl <| .storeW sz40 rfl rfl rfl rfl rfl rfl .here <| .nil <| .go <| .seq <| .region <| .e (.loadW ag27 sz27 rfl (.there <| .there <| .there <| .here) rfl) rfl rfl ?_
    refine .e (.move rfl) rfl rfl <| .e (.build bs36 zv36 rfl rfl) rfl rfl <| .on rfl <| .call cal12 rfl rfl rfl (doF (o := ordK 6 task) (hb270.mono hI40) (ordKR (e5_ 6 (by decide)) hst).1 (ordKR (I := I) (e5_ 6 (by decide)) hst).2) fun v47 I47 O47 hI47 hK47 => ?_
    obtain ⟨rfl, cs47, rfl, hb47⟩ := hK47
    have hb470 := hb47
    obtain ⟨nv47, tv47, bv47, rfl, hn47, ht47, hx47⟩ := hb47.ex
    obtain ⟨_, _, rfl, -⟩ := hn47
    obtain ⟨_, _, rfl, htl47, -⟩ := ht47
    obtain ⟨_, _, rfl, -⟩ := hx47
    refine .e (.move rfl) rfl rfl <| .e (.extract rfl rfl) rfl rfl <| .e (.extract rfl rfl) rfl rfl <| .on rfl <| .alloc zr27 rfl fun c6 _ _ => .on rfl <| .alloc zr40 rfl fun c7 _ _ => .on rfl <| .storeW sz27 rfl rfl rfl rfl rfl rfl (.there <| .here) ?_
    refine .on rfl <| .storeW sz40 rfl rfl rfl rfl rfl rfl .here <| .nil <| .go <| .seq <| .region <| .e (.fieldAddr fo40_0 rfl) rfl rfl ?_
    refine .e (.load ag38 rfl (.there <| .there <| .there <| .there <| .here) rfl) rfl rfl <| .e ((EV.cast (u := .bool true) (.eql rfl rfl) (congrArg Value.bool (decide_eq_true (hN.1))))) rfl rfl <| .e (.move rfl) rfl rfl <| .e (.fieldAddr fo40_1 rfl) rfl rfl <| .e (.load ag9 rfl (.there <| .there <| .here) rfl) rfl rfl <| .e (.move rfl) rfl rfl ?_
    refine .e ((EV.cast (u := .bool true) (.streq rfl rfl) (congrArg Value.bool (decide_eq_true hN.2.1)))) rfl rfl <| .e (.pickT rfl rfl) rfl rfl <| .e (.move rfl) rfl rfl <| .e (.loadW ag27 sz27 rfl (.there <| .there <| .there <| .there <| .there <| .here) rfl) rfl rfl <| .e (.move rfl) rfl rfl <| .e (.move rfl) rfl rfl ?_
    refine .on rfl <| .callP cal20 rfl rfl rfl (bCan_ok ((hb270.mono hI40).mono hI47)) <| .e ((EV.cast (u := .bool true) (.eql rfl rfl) (congrArg Value.bool (decide_eq_true (hN.2.2.1))))) rfl rfl <| .e (.pickT rfl rfl) rfl rfl <| .e (.move rfl) rfl rfl <| .e (.fieldAddr fo40_0 rfl) rfl rfl <| .e (.load ag38 rfl .here rfl) rfl rfl ?_
    refine .e ((EV.cast (u := .bool true) (.eql rfl rfl) (congrArg Value.bool (decide_eq_true (hN.2.2.2.1))))) rfl rfl <| .e (.pickT rfl rfl) rfl rfl <| .e (.move rfl) rfl rfl <| .e (.loadW ag27 sz27 rfl (.there <| .here) rfl) rfl rfl <| .e (.loadW ag27 sz27 rfl (.there <| .there <| .there <| .there <| .there <| .there <| .here) rfl) rfl rfl <| .on rfl <| .callP cal15 rfl rfl rfl ((sameBk_ok hb470 (hk0.mono (Imm.le_trans (Imm.le_trans hI27 hI40) hI47))).cast (congrArg Value.bool (decide_eq_true (hN.2.2.2.2)))) ?_
    refine .e (.pickT rfl rfl) rfl rfl <| .e (.move rfl) rfl rfl <| .e (.loadW ag27 sz27 rfl (.there <| .here) rfl) rfl rfl <| .e (.move rfl) rfl rfl <| .e (.move rfl) rfl rfl <| .on rfl <| .callP cal20 rfl rfl rfl (bCan_ok hb470) ?_
    refine .e ((EV.cast (u := .bool true) (.eql rfl rfl) (congrArg Value.bool (decide_eq_true (by rw [hN.2.2.2.2]; exact h31))))) rfl rfl <| .e (.pickT rfl rfl) rfl rfl <| .e (.assign rfl) rfl rfl <| .nil <| .go <| .ret ?_
    refine .tail <| .tail <| .tail <| .tail <| .tail <| .tail ?_
    refine .tail ?_
    refine .back (Imm.le_trans (Imm.le_trans hI27 hI40) hI47) ?_
    refine Post.retE rfl rfl ?_
    rfl

theorem nd_bnd {b : Bk} {task : ByteArray} {k : Nat} (h : amtAll b.tasks) (hl : b.tasks.length ≤ 32) : 0 ≤ (ndTo b task k).a ∧ 0 ≤ (ndTo b task k).b ∧ 0 ≤ (ndTo b task k).c ∧ (ndTo b task k).a ≤ 1099511627776 * 32 ∧ (ndTo b task k).b ≤ 1099511627776 * 32 ∧ (ndTo b task k).c ≤ 1099511627776 * 32 := by
  have h1 := sum_bnd (L := (b.tasks.take k).filter fun x => decide (x.name = task)) fun t ht => h t (List.mem_of_mem_take (List.mem_filter.1 ht).1)
  have h2 : ((b.tasks.take k).filter fun x => decide (x.name = task)).length ≤ 32 := Nat.le_trans (List.length_filter_le _ _) (by rw [List.length_take]; omega)
  unfold ndTo
  omega

set_option maxHeartbeats 16000000 in
set_option maxRecDepth 20000 in
theorem BookUsed_ok {I : Imm} {O : Own} {kc : List Value} {b : Bk} (hk : BkR I kc b) {task node : ByteArray} (hst : StrOk task) (hsn : StrOk node) (hz : task.size + node.size ≤ 9223372036854775807) :
    Pure Tryz.prog 9 [.agg ⟨kc⟩, .string task, .string node] I O (.bool true) := by
  have hk0 := hk
  obtain ⟨nv, tv, bv, rfl, hnv, htv, hbv⟩ := hk.ex
  have hnv0 := hnv
  have htv0 := htv
  have hbv0 := hbv
  obtain ⟨na, ncap, rfl, hn1, hn2, -⟩ := hnv
  obtain ⟨ta, tcap, rfl, ht1, ht2, -⟩ := htv
  obtain ⟨ba, bcap, rfl, hb1, hb2, -⟩ := hbv
  refine Go.Sy.Does.enter Tryz.func9 rfl Tryz.ntmps9 rfl ?_
  refine .seq <| .region <| .on rfl <| .box rfl rfl rfl fun c1 _ _ => .e (.assign rfl) rfl rfl <| .nil <| .go ?_
  refine .seq <| .seq <| .region <| .on rfl <| .callP cal14 rfl rfl rfl (lives_ok) <| .e (.not rfl) rfl rfl <| .nil ?_
  refine .go <| .cond_false rfl <| .skip <| .go <| .seq <| .region ?_
  refine .e (.loadW ag27 sz27 rfl .here rfl) rfl rfl <| .e (.move rfl) rfl rfl <| .on rfl <| .callP cal21 rfl rfl rfl (bUsed_ok hk0) <| .e (.move rfl) rfl rfl <| .e (.extract rfl rfl) rfl rfl <| .e (.extract rfl rfl) rfl rfl ?_
  refine .on rfl <| .alloc zr29 rfl fun c2 _ _ => .on rfl <| .storeW sz29 rfl rfl rfl rfl rfl rfl .here <| .e (.assign rfl) rfl rfl <| .nil <| .go <| .seq ?_
  refine .region <| .e (.loadW ag27 sz27 rfl (.there <| .here) rfl) rfl rfl <| .e (.move rfl) rfl rfl <| .e (.move rfl) rfl rfl <| .e (.fieldAddr fo27_3 rfl) rfl rfl <| .e (.load ag25 rfl (.there <| .here) rfl) rfl rfl ?_
  refine .e (.build bs36 zv36 rfl rfl) rfl rfl <| .on rfl <| .call cal12 rfl rfl rfl (doF (o := ordB task node b.fence) hk0 (ordBR (f := b.fence) hst hsn hk0.fence hz).1 (ordBR (I := I) (f := b.fence) hst hsn hk0.fence hz).2) fun v31 I31 O31 hI31 hK31 => ?_
  obtain ⟨rfl, cs31, rfl, hb31⟩ := hK31
  have hb310 := hb31
  obtain ⟨nv31, tv31, bv31, rfl, hn31, ht31, hx31⟩ := hb31.ex
  obtain ⟨_, _, rfl, -⟩ := hn31
  obtain ⟨_, _, rfl, htl31, -⟩ := ht31
  obtain ⟨_, _, rfl, -⟩ := hx31
  refine .e (.move rfl) rfl rfl <| .e (.extract rfl rfl) rfl rfl <| .e (.extract rfl rfl) rfl rfl <| .on rfl <| .alloc zr27 rfl fun c3 _ _ => .on rfl <| .alloc zr40 rfl fun c4 _ _ => .on rfl <| .storeW sz27 rfl rfl rfl rfl rfl rfl (.there <| .here) ?_
  refine .on rfl <| .storeW sz40 rfl rfl rfl rfl rfl rfl .here <| .nil <| .go <| .seq <| .seq <| .region ?_
  refine .e (.move rfl) rfl rfl <| .e (.neq rfl rfl) rfl rfl <| .e (.move rfl) rfl rfl ?_
  refine .split 36 rfl (fun h36 => ?_) (fun h36 => ?_)
  · skip
    first | replace h36 := of_decide_eq_false ((Bool.not_eq_true' _).mp h36) | replace h36 := of_decide_eq_false (by simpa using h36)
    refine .off rfl rfl <| .off rfl rfl <| .off rfl rfl <| .e (.pickT rfl rfl) rfl rfl <| .nil <| .go ?_
    refine .cond_true rfl <| .seq <| .region <| .e (.assign rfl) rfl rfl <| .nil <| .go ?_
    refine .ret <| .ret ?_
    refine .tail <| .tail <| .tail <| .tail ?_
    refine .back hI31 ?_
    refine Post.retE rfl rfl ?_
    rfl
  · skip
    first | replace h36 := of_decide_eq_true ((Bool.not_eq_false' _).mp h36) | replace h36 := of_decide_eq_true (by simpa using h36)
    refine .e (.fieldAddr fo40_0 rfl) rfl rfl <| .e (.load ag38 rfl .here rfl) rfl rfl <| .e (.neq rfl rfl) rfl rfl <| .e (.pickF rfl rfl) rfl rfl <| .nil <| .go ?_
    refine .split 40 rfl (fun h40 => ?_) (fun h40 => ?_)
    · skip
      first | replace h40 := of_decide_eq_false ((Bool.not_eq_true' _).mp h40) | replace h40 := of_decide_eq_false (by simpa using h40)
      refine .cond_true rfl <| .seq <| .region <| .e (.assign rfl) rfl rfl <| .nil <| .go ?_
      refine .ret <| .ret ?_
      refine .tail <| .tail <| .tail <| .tail ?_
      refine .back hI31 ?_
      refine Post.retE rfl rfl ?_
      rfl
    · skip
      first | replace h40 := of_decide_eq_true ((Bool.not_eq_false' _).mp h40) | replace h40 := of_decide_eq_true (by simpa using h40)
      have hU := used_law h36 h40
      refine .cond_false rfl <| .skip <| .go <| .seq <| .region <| .e (.loadW ag27 sz27 rfl (.there <| .here) rfl) rfl rfl ?_
      refine .e (.move rfl) rfl rfl <| .on rfl <| .callP cal21 rfl rfl rfl (bUsed_ok hb310) <| .e (.move rfl) rfl rfl <| .e (.extract rfl rfl) rfl rfl <| .e (.extract rfl rfl) rfl rfl <| .on rfl <| .alloc zr29 rfl fun c5 _ _ => ?_
      refine .on rfl <| .storeW sz29 rfl rfl rfl rfl rfl rfl .here <| .e (.assign rfl) rfl rfl <| .nil <| .go <| .seq <| .seq ?_
      refine .region <| .e (.fieldAddr fo27_1 rfl) rfl rfl <| .e (.load ag23 rfl (.there <| .there <| .there <| .there <| .here) rfl) rfl rfl <| .e (.len sl23 rfl rfl) rfl rfl <| .e (.move rfl) rfl rfl <| .nil ?_
      refine .go <| .block ?_
      refine .front1 (.there <| .there <| .there <| .here) ?_
      refine .loopM [14, 15, 50, 51, 52, 53, 54, 55, 56, 57, 58, 59, 60, 61, 62, 63, 64, 65, 66, 67, 68, 69, 70, 71] (fun s => b.tasks.length - s.1) (fun s => s.1 ≤ b.tasks.length ∧ s.2 = A3.plus (usedR b node).1 (ndTo b task s.1)) (fun s => [(50, .int .i64 s.1)]) (fun _ => _) (fun s => (c2, .cells ⟨[.int .i64 s.2.a, .int .i64 s.2.b, .int .i64 s.2.c]⟩ 29 (0, 0)) :: _) (((0, (usedR b node).1) : Nat × A3)) ⟨Nat.zero_le _, by unfold ndTo sumT A3.plus; simp⟩ ⟨rfl, trivial⟩ rfl rfl ?_
      intro ⟨k, x⟩ hk
      dsimp only at hk ⊢
      obtain ⟨hk, hx⟩ := hk
      have hxb := nd_bnd (task := task) (k := k) hU.2.2.1 hU.2.2.2.1
      have hub := hU.2.2.2.2
      have hxa : x.a = _ := congrArg A3.a hx
      have hxb2 : x.b = _ := congrArg A3.b hx
      have hxc : x.c = _ := congrArg A3.c hx
      dsimp only [A3.plus] at hxa hxb2 hxc
      refine .seq <| .region <| .e (.lss rfl rfl) rfl rfl <| .nil <| .go <| .seq ?_
      refine .split 51 rfl (fun h51 => ?_) (fun h51 => ?_)
      · skip
        replace h51 := of_decide_eq_true h51
        refine .cond_true rfl <| .skip <| .go <| .seq <| .block <| .seq ?_
        refine .region ?_
        obtain ⟨eb52, eo52, cs52, hd52, hat52, hr52⟩ := SlR.at_ (htv0.mono hI31) (k := k) (by omega)
        cases hd52
        have ht52 := hr52
        obtain ⟨xw52, xb52, rfl, hxw52, hxb52⟩ := hr52.ex
        obtain ⟨xa52, xc52, rfl, -⟩ := hxw52
        obtain ⟨xd52, xe52, rfl, -⟩ := hxb52
        refine .e (.indexAddrL sl23 rfl rfl rfl (by omega)) rfl rfl <| .e (.loadIA ag34 sz34 rfl hat52 rfl) rfl rfl <| .on rfl <| .alloc zr34 rfl fun c6 _ _ => .on rfl <| .storeW sz34 rfl rfl rfl rfl rfl rfl .here <| .nil <| .go ?_
        refine .seq <| .region <| .e (.fieldAddr fo34_0 rfl) rfl rfl <| .e (.load ag9 rfl .here rfl) rfl rfl <| .e (.move rfl) rfl rfl <| .e (.streq rfl rfl) rfl rfl ?_
        refine .nil <| .go ?_
        refine .split 57 rfl (fun h57 => ?_) (fun h57 => ?_)
        · skip
          replace h57 := of_decide_eq_true h57
          refine .cond_true rfl <| .seq <| .region <| .e (.move rfl) rfl rfl <| .nil <| .go ?_
          refine .block <| .unroll 3 <| .seq <| .region <| .e (.lss rfl rfl) rfl rfl <| .nil ?_
          refine .go <| .seq <| .cond_true rfl <| .skip <| .go <| .seq ?_
          refine .block <| .seq <| .region <| .e (.move rfl) rfl rfl <| .e (.assign rfl) rfl rfl <| .nil ?_
          refine .go ?_
          refine .draw [(c6, _)] mixed (.cons .here .nil) ?_
          refine .t 0 rfl (.move rfl) rfl rfl (by kernel_rfl) <| .t 1 rfl (.indexAddrA (j := 0) ar29 rfl rfl rfl (by first | decide | omega)) rfl rfl (by kernel_rfl) <| .t 3 rfl (.move rfl) rfl rfl (by kernel_rfl) <| .t 4 rfl (.fieldAddr fo34_1 rfl) rfl rfl (by kernel_rfl) <| .t 5 rfl (.indexAddrA (j := 0) ar29 rfl rfl rfl (by first | decide | omega)) rfl rfl (by kernel_rfl) <| .t 6 rfl (.load ag2 rfl .here rfl) rfl rfl (by kernel_rfl) ?_
          refine .one (i := 2) (by kernel_rfl) rfl rfl ?_
          refine .ev (.load ag2 rfl (.there <| .here) rfl) rfl ⟨(.cons .here .nil), Imm.le_refl _, ?_⟩
          refine .t 7 rfl (.add rfl rfl (IntWalk.i64_in _ (by have := A3.amt_out (hU.2.2.1 _ (List.getElem_mem (show k < b.tasks.length by omega))); omega))) rfl rfl (by kernel_rfl) <| .t 8 rfl (.indexAddrA (j := 0) ar29 rfl rfl rfl (by first | decide | omega)) rfl rfl (by kernel_rfl) <| .one (i := 9) (by kernel_rfl) rfl rfl <| .store sz2 rfl rfl rfl rfl rfl rfl (.there <| .here) ?_
          refine ⟨(.cons .here .nil), Imm.le_refl _, ?_⟩
          refine .done (by kernel_rfl) <| .blk_normal <| .go <| .region <| .e (.add (c := 1) rfl rfl (by decide)) rfl rfl <| .e (.move rfl) rfl rfl ?_
          refine .nil <| .again <| .seq <| .region <| .e (.lss rfl rfl) rfl rfl <| .nil ?_
          refine .go <| .seq <| .cond_true rfl <| .skip <| .go <| .seq ?_
          refine .block <| .seq <| .region <| .e (.move rfl) rfl rfl <| .e (.assign rfl) rfl rfl <| .nil ?_
          refine .go ?_
          refine .draw [(c6, _)] mixed (.cons .here .nil) ?_
          refine .t 0 rfl (.move rfl) rfl rfl (by kernel_rfl) <| .t 1 rfl (.indexAddrA (j := 1) ar29 rfl rfl rfl (by first | decide | omega)) rfl rfl (by kernel_rfl) <| .t 3 rfl (.move rfl) rfl rfl (by kernel_rfl) <| .t 4 rfl (.fieldAddr fo34_1 rfl) rfl rfl (by kernel_rfl) <| .t 5 rfl (.indexAddrA (j := 1) ar29 rfl rfl rfl (by first | decide | omega)) rfl rfl (by kernel_rfl) <| .t 6 rfl (.load ag2 rfl .here rfl) rfl rfl (by kernel_rfl) ?_
          refine .one (i := 2) (by kernel_rfl) rfl rfl ?_
          refine .ev (.load ag2 rfl (.there <| .here) rfl) rfl ⟨(.cons .here .nil), Imm.le_refl _, ?_⟩
          refine .t 7 rfl (.add rfl rfl (IntWalk.i64_in _ (by have := A3.amt_out (hU.2.2.1 _ (List.getElem_mem (show k < b.tasks.length by omega))); omega))) rfl rfl (by kernel_rfl) <| .t 8 rfl (.indexAddrA (j := 1) ar29 rfl rfl rfl (by first | decide | omega)) rfl rfl (by kernel_rfl) <| .one (i := 9) (by kernel_rfl) rfl rfl <| .store sz2 rfl rfl rfl rfl rfl rfl (.there <| .here) ?_
          refine ⟨(.cons .here .nil), Imm.le_refl _, ?_⟩
          refine .done (by kernel_rfl) <| .blk_normal <| .go <| .region <| .e (.add (c := 2) rfl rfl (by decide)) rfl rfl <| .e (.move rfl) rfl rfl ?_
          refine .nil <| .again <| .seq <| .region <| .e (.lss rfl rfl) rfl rfl <| .nil ?_
          refine .go <| .seq <| .cond_true rfl <| .skip <| .go <| .seq ?_
          refine .block <| .seq <| .region <| .e (.move rfl) rfl rfl <| .e (.assign rfl) rfl rfl <| .nil ?_
          refine .go ?_
          refine .draw [(c6, _)] mixed (.cons .here .nil) ?_
          refine .t 0 rfl (.move rfl) rfl rfl (by kernel_rfl) <| .t 1 rfl (.indexAddrA (j := 2) ar29 rfl rfl rfl (by first | decide | omega)) rfl rfl (by kernel_rfl) <| .t 3 rfl (.move rfl) rfl rfl (by kernel_rfl) <| .t 4 rfl (.fieldAddr fo34_1 rfl) rfl rfl (by kernel_rfl) <| .t 5 rfl (.indexAddrA (j := 2) ar29 rfl rfl rfl (by first | decide | omega)) rfl rfl (by kernel_rfl) <| .t 6 rfl (.load ag2 rfl .here rfl) rfl rfl (by kernel_rfl) ?_
          refine .one (i := 2) (by kernel_rfl) rfl rfl ?_
          refine .ev (.load ag2 rfl (.there <| .here) rfl) rfl ⟨(.cons .here .nil), Imm.le_refl _, ?_⟩
          refine .t 7 rfl (.add rfl rfl (IntWalk.i64_in _ (by have := A3.amt_out (hU.2.2.1 _ (List.getElem_mem (show k < b.tasks.length by omega))); omega))) rfl rfl (by kernel_rfl) <| .t 8 rfl (.indexAddrA (j := 2) ar29 rfl rfl rfl (by first | decide | omega)) rfl rfl (by kernel_rfl) <| .one (i := 9) (by kernel_rfl) rfl rfl <| .store sz2 rfl rfl rfl rfl rfl rfl (.there <| .here) ?_
          refine ⟨(.cons .here .nil), Imm.le_refl _, ?_⟩
          refine .done (by kernel_rfl) <| .blk_normal <| .go <| .region <| .e (.add (c := 3) rfl rfl (by decide)) rfl rfl <| .e (.move rfl) rfl rfl ?_
          refine .nil <| .again <| .seq <| .region <| .e (.lss rfl rfl) rfl rfl <| .nil ?_
          refine .go <| .seq <| .cond_false rfl <| .exit <| .exit <| .exit ?_
          refine .blk_exit <| .blk_normal <| .go <| .region <| .e (.add rfl rfl (by first | exact wrap_succ (by omega) | exact IntWalk.i64_in _ (by omega) | exact rfl)) rfl rfl <| .e (.move rfl) rfl rfl ?_
          refine .nil ?_
          refine .tail ?_
          exact .mid ((k + 1, A3.plus x b.tasks[k].needs)) ⟨by dsimp only; omega, by dsimp only; omega, by dsimp only; rw [ndTo_step (show k < b.tasks.length by omega), if_pos h57]; subst hx; unfold A3.plus; simp only [A3.mk.injEq]; omega⟩ ⟨rfl, trivial⟩ rfl rfl (.pre 56 rfl (.app rfl .base))
        · skip
          replace h57 := of_decide_eq_false h57
          refine .cond_false rfl <| .skip <| .blk_normal <| .go <| .region <| .e (.add rfl rfl (by first | exact wrap_succ (by omega) | exact IntWalk.i64_in _ (by omega) | exact rfl)) rfl rfl ?_
          refine .e (.move rfl) rfl rfl <| .nil ?_
          refine .tail ?_
          exact .mid ((k + 1, x)) ⟨by dsimp only; omega, by dsimp only; omega, by dsimp only; rw [ndTo_step (show k < b.tasks.length by omega), if_neg h57]; exact hx⟩ ⟨rfl, trivial⟩ rfl rfl (.pre 12 rfl (.app rfl .base))
      · skip
        replace h51 := of_decide_eq_false h51
        refine .cond_false rfl <| .exit <| .exit <| .exit <| .blk_exit <| .go ?_
        refine .seq <| .region <| .e (.move rfl) rfl rfl <| .e ((EV.cast (u := .bool true) (.eql rfl rfl) (congrArg Value.bool (decide_eq_true (hU.1))))) rfl rfl <| .e (.move rfl) rfl rfl <| .e (.loadW ag29 sz29 rfl .here rfl) rfl rfl ?_
        refine .e (.loadW ag29 sz29 rfl (.there <| .here) rfl) rfl rfl <| .e ((EV.cast (u := .bool true) (.eqv (eqA3 (x := x) (y := (usedR (doR b (ordB task node b.fence)).1 node).1)) rfl rfl) (congrArg Value.bool (decide_eq_true (by rw [hx, show k = b.tasks.length by omega]; exact hU.2.1))))) rfl rfl <| .e (.pickT rfl rfl) rfl rfl <| .e (.assign rfl) rfl rfl <| .nil <| .go ?_
        refine .ret ?_
        refine .tail <| .tail <| .tail <| .tail <| .tail ?_
        refine .back hI31 ?_
        refine Post.retE rfl rfl ?_
        rfl

end Go.Proofs.YtcojkkndmholaaaGreatDoor
