/- Walks of functions over a symbolic memory, printed by a program of the session. -/
import Derived.Test.YtmmokaockpghaaaGreatDoorBo
namespace Go.Proofs.YtmmokaockpghaaaGreatDoor
open Go.Sy
set_option linter.unusedSimpArgs false
set_option linter.unusedVariables false

theorem take_step {α : Type} {l m : List α} {k : Nat} (hl : k < l.length) (hm : k < m.length) (h : l.take k = m.take k) (e : l[k] = m[k]) : l.take (k + 1) = m.take (k + 1) := by
  rw [List.take_succ_eq_append_getElem hl, List.take_succ_eq_append_getElem hm, h, e]
theorem same_all {α : Type} {l m : List α} {k : Nat} (hk : l.length ≤ k) (hlm : l.length = m.length) (h : l.take k = m.take k) : l = m := by
  rwa [List.take_of_length_le hk, List.take_of_length_le (by omega)] at h
theorem same_no {α : Type} {l m : List α} {k : Nat} (hl : k < l.length) (hm : k < m.length) (e : ¬l[k] = m[k]) : ¬l = m := fun h => by subst h; exact e rfl
theorem same_len {α : Type} {l m : List α} (h : ¬l.length = m.length) : ¬l = m := fun e => h (by rw [e])
set_option maxHeartbeats 1000000 in
set_option maxRecDepth 20000 in
theorem samePrs_ok {I : Imm} {O : Own} {v u : Value} {l m : List Pr} (hl : PrsR I v l) (hm : PrsR I u m) :
  Pure Tryz.prog 54 [v, u] I O (.bool (decide (l = m))) := by
 have hl0 := hl
 obtain ⟨la, lcap, rfl, hl1, hl2, -⟩ := hl
 have hm0 := hm
 obtain ⟨ma, mcap, rfl, hm1, hm2, -⟩ := hm
 refine Go.Sy.Does.enter Tryz.func54 rfl Tryz.ntmps54 rfl ?_
 refine .seq <| .region <| .a rfl <| .nil <| .go <| .seq ?_
 refine .seq <| .region <| .m rfl <| .f (.len sl40 rfl rfl) <| .m rfl <| .f (.len sl40 rfl rfl) ?_
 refine .f (.neq rfl rfl) <| .nil <| .go ?_
 refine .split 10 rfl (fun h10 => ?_) (fun h10 => ?_)
 ·
  first | replace h10 := of_decide_eq_false ((Bool.not_eq_true' _).mp h10) | replace h10 := of_decide_eq_false (by simpa using h10)
  refine .cond_true rfl <| .seq <| .region <| .a rfl <| .nil <| .go ?_
  refine .ret <| .ret ?_
  refine Post.retE rfl rfl ?_
  exact congrArg Value.bool (decide_eq_false (same_len (by omega))).symm
 ·
  first | replace h10 := of_decide_eq_true ((Bool.not_eq_false' _).mp h10) | replace h10 := of_decide_eq_true (by simpa using h10)
  refine .cond_false rfl <| .skip <| .go <| .seq <| .seq <| .region ?_
  refine .m rfl <| .f (.len sl40 rfl rfl) <| .m rfl <| .nil <| .go <| .block ?_
  refine .loopM [4, 5, 13, 14, 15, 16, 17, 18, 19, 20, 21, 22, 23, 24, 25] (fun k => l.length - k) (fun k => k ≤ l.length ∧ l.take k = m.take k) (fun k => [(13, .int .i64 k)]) (fun _ => _) (fun _ => _) (0) ⟨Nat.zero_le _, rfl⟩ ⟨rfl, trivial⟩ rfl rfl ?_
  intro k hk
  obtain ⟨hk, hs⟩ := hk
  refine .seq <| .region <| .f (.lss rfl rfl) <| .nil <| .go <| .seq ?_
  refine .sd 14 rfl (fun h14 => ?_) (fun h14 => ?_)
  ·
   refine .cond_true rfl <| .skip <| .go <| .seq <| .block <| .seq ?_
   refine .region <| .m rfl <| .a rfl <| .nil <| .go <| .seq ?_
   refine .draw [] mixed .nil ?_
   refine .u 0 rfl (.move rfl) <| .u 1 rfl (.move rfl) ?_
   obtain ⟨eb18, eo18, cs18, hd18, hat18, hr18⟩ := SlR.at_ hl0 (k := k) (by omega)
   cases hd18
   obtain ⟨rfl, hx18, hy18⟩ := hr18
   refine .u 2 rfl (.indexAddrL sl40 rfl rfl rfl (by omega)) <| .u 3 rfl (.loadIA ag57 sz57 rfl hat18 rfl) <| .u 4 rfl (.move rfl) <| .u 5 rfl (.move rfl) ?_
   obtain ⟨eb22, eo22, cs22, hd22, hat22, hr22⟩ := SlR.at_ hm0 (k := k) (by omega)
   cases hd22
   obtain ⟨rfl, hx22, hy22⟩ := hr22
   refine .u 6 rfl (.indexAddrL sl40 rfl rfl rfl (by omega)) <| .u 7 rfl (.loadIA ag57 sz57 rfl hat22 rfl) <| .u 8 rfl (.nev (eqPr (p := l[k]) (q := m[k])) rfl rfl) <| .done (by kernel_rfl) <| .go ?_
   refine .split 24 rfl (fun h24 => ?_) (fun h24 => ?_)
   ·
    first | replace h24 := of_decide_eq_false ((Bool.not_eq_true' _).mp h24) | replace h24 := of_decide_eq_false (by simpa using h24)
    refine .cond_true rfl <| .seq <| .region <| .a rfl <| .nil <| .go ?_
    refine .ret <| .blk_ret <| .ret <| .ret <| .blk_ret <| .ret ?_
    refine Post.retE rfl rfl ?_
    exact congrArg Value.bool (decide_eq_false (same_no (k := k) (by omega) (by omega) h24)).symm
   ·
    first | replace h24 := of_decide_eq_true ((Bool.not_eq_false' _).mp h24) | replace h24 := of_decide_eq_true (by simpa using h24)
    refine .cond_false rfl <| .skip <| .blk_normal <| .go <| .region <| .f (.add rfl rfl (by first | exact wrap_succ (by omega) | exact IntWalk.i64_in _ (by omega) | exact rfl)) ?_
    refine .m rfl <| .nil ?_
    exact .mid (k + 1) ⟨by omega, by omega, take_step (by omega) (by omega) hs h24⟩ ⟨rfl, trivial⟩ rfl rfl (.pre 16 rfl (.app rfl .base))
  ·
   refine .cond_false rfl <| .exit <| .exit <| .exit <| .blk_exit <| .go ?_
   refine .seq <| .region <| .a rfl <| .nil <| .go <| .ret ?_
   refine Post.retE rfl rfl ?_
   exact congrArg Value.bool (decide_eq_true (same_all (k := k) (by omega) (by omega) hs)).symm

set_option maxHeartbeats 1000000 in
set_option maxRecDepth 20000 in
theorem sameNod_ok {I : Imm} {O : Own} {ac bc : List Value} {a b : Nod} (ha : NodR I ac a) (hb : NodR I bc b) :
  Pure Tryz.prog 22 [.agg ⟨ac⟩, .agg ⟨bc⟩] I O (.bool (decide (a = b))) := by
 have ha0 := ha
 obtain ⟨xl, xt, rfl, xhl, xht⟩ := ha.ex
 have xhl0 := xhl
 have xht0 := xht
 obtain ⟨_, _, rfl, -⟩ := xhl
 obtain ⟨_, _, rfl, -⟩ := xht
 have hb0 := hb
 obtain ⟨yl, yt, rfl, yhl, yht⟩ := hb.ex
 have yhl0 := yhl
 have yht0 := yht
 obtain ⟨_, _, rfl, -⟩ := yhl
 obtain ⟨_, _, rfl, -⟩ := yht
 refine Go.Sy.Does.enter Tryz.func22 rfl Tryz.ntmps22 rfl ?_
 refine .seq <| .region <| .on rfl <| .box rfl rfl rfl fun c1 _ _ => .on rfl <| .box rfl rfl rfl fun c2 _ _ => .a rfl <| .nil ?_
 refine .go <| .seq <| .region <| .f (.fieldAddr fo45_0 rfl) <| .f (.load ag9 rfl (.there <| .here) rfl) <| .f (.fieldAddr fo45_0 rfl) ?_
 refine .f (.load ag9 rfl .here rfl) <| .f (.streq rfl rfl) <| .m rfl ?_
 refine .sd 10 rfl (fun h10 => ?_) (fun h10 => ?_)
 ·
  refine .f (.fieldAddr fo45_1 rfl) <| .f (.loadP ag39 sz39 rfl (.there <| .here) rfl) <| .f (.fieldAddr fo45_1 rfl) <| .f (.loadP ag39 sz39 rfl .here rfl) <| .f (.eqv eqA3 rfl rfl) <| .f (.pickT rfl rfl) ?_
  refine .m rfl ?_
  refine .sd 17 rfl (fun h17 => ?_) (fun h17 => ?_)
  ·
   refine .f (.fieldAddr fo45_2 rfl) <| .f (.load ag40 rfl (.there <| .here) rfl) <| .f (.fieldAddr fo45_2 rfl) <| .f (.load ag40 rfl .here rfl) <| .on rfl <| .callP cal54 rfl rfl rfl (samePrs_ok xhl0 yhl0) <| .f (.pickT rfl rfl) ?_
   refine .m rfl ?_
   refine .split 24 rfl (fun h24 => ?_) (fun h24 => ?_)
   ·
    refine .f (.fieldAddr fo45_3 rfl) <| .f (.load ag40 rfl (.there <| .here) rfl) <| .f (.fieldAddr fo45_3 rfl) <| .f (.load ag40 rfl .here rfl) <| .on rfl <| .callP cal54 rfl rfl rfl (samePrs_ok xht0 yht0) <| .f (.pickT rfl rfl) ?_
    refine .a rfl <| .nil <| .go <| .ret ?_
    refine .tail <| .tail ?_
    refine Post.retE rfl rfl ?_
    refine congrArg Value.bool ?_
    cases a with | mk a1 a2 a3 a4 => cases b with | mk b1 b2 b3 b4 => simp_all
   ·
    refine .z <| .z <| .z <| .z <| .z <| .f (.pickF rfl rfl) ?_
    refine .a rfl <| .nil <| .go <| .ret ?_
    refine .tail <| .tail ?_
    refine Post.retE rfl rfl ?_
    refine congrArg Value.bool ?_
    cases a with | mk a1 a2 a3 a4 => cases b with | mk b1 b2 b3 b4 => simp_all
  ·
   refine .z <| .z <| .z <| .z <| .z <| .f (.pickF rfl rfl) ?_
   refine .m rfl <| .z <| .z <| .z <| .z <| .z ?_
   refine .f (.pickF rfl rfl) <| .a rfl <| .nil <| .go <| .ret ?_
   refine .tail <| .tail ?_
   refine Post.retE rfl rfl ?_
   refine congrArg Value.bool ?_
   cases a with | mk a1 a2 a3 a4 => cases b with | mk b1 b2 b3 b4 => simp_all
 ·
  refine .z <| .z <| .z <| .z <| .z <| .f (.pickF rfl rfl) ?_
  refine .m rfl <| .z <| .z <| .z <| .z <| .z ?_
  refine .f (.pickF rfl rfl) <| .m rfl <| .z <| .z <| .z <| .z ?_
  refine .z <| .f (.pickF rfl rfl) <| .a rfl <| .nil <| .go <| .ret ?_
  refine .tail <| .tail ?_
  refine Post.retE rfl rfl ?_
  refine congrArg Value.bool ?_
  cases a with | mk a1 a2 a3 a4 => cases b with | mk b1 b2 b3 b4 => simp_all

set_option maxHeartbeats 1000000 in
set_option maxRecDepth 20000 in
theorem sameTsk_ok {I : Imm} {O : Own} {ac bc : List Value} {a b : Tsk} (ha : TskR I ac a) (hb : TskR I bc b) :
  Pure Tryz.prog 21 [.agg ⟨ac⟩, .agg ⟨bc⟩] I O (.bool (decide (a = b))) := by
 have ha0 := ha
 obtain ⟨xl, xt, rfl, xhl, xht⟩ := ha.ex
 have xhl0 := xhl
 have xht0 := xht
 obtain ⟨_, _, rfl, -⟩ := xhl
 obtain ⟨_, _, rfl, -⟩ := xht
 have hb0 := hb
 obtain ⟨yl, yt, rfl, yhl, yht⟩ := hb.ex
 have yhl0 := yhl
 have yht0 := yht
 obtain ⟨_, _, rfl, -⟩ := yhl
 obtain ⟨_, _, rfl, -⟩ := yht
 refine Go.Sy.Does.enter Tryz.func21 rfl Tryz.ntmps21 rfl ?_
 refine .seq <| .region <| .on rfl <| .box rfl rfl rfl fun c1 _ _ => .on rfl <| .box rfl rfl rfl fun c2 _ _ => .a rfl <| .nil ?_
 refine .go <| .seq <| .region <| .f (.fieldAddr fo42_0 rfl) <| .f (.load ag9 rfl (.there <| .here) rfl) <| .f (.fieldAddr fo42_0 rfl) ?_
 refine .f (.load ag9 rfl .here rfl) <| .f (.streq rfl rfl) <| .m rfl ?_
 refine .sd 10 rfl (fun h10 => ?_) (fun h10 => ?_)
 ·
  refine .f (.fieldAddr fo42_1 rfl) <| .f (.loadP ag39 sz39 rfl (.there <| .here) rfl) <| .f (.fieldAddr fo42_1 rfl) <| .f (.loadP ag39 sz39 rfl .here rfl) <| .f (.eqv eqA3 rfl rfl) <| .f (.pickT rfl rfl) ?_
  refine .m rfl ?_
  refine .sd 17 rfl (fun h17 => ?_) (fun h17 => ?_)
  ·
   refine .f (.fieldAddr fo42_2 rfl) <| .f (.load ag40 rfl (.there <| .here) rfl) <| .f (.fieldAddr fo42_2 rfl) <| .f (.load ag40 rfl .here rfl) <| .on rfl <| .callP cal54 rfl rfl rfl (samePrs_ok xhl0 yhl0) <| .f (.pickT rfl rfl) ?_
   refine .m rfl ?_
   refine .split 24 rfl (fun h24 => ?_) (fun h24 => ?_)
   ·
    refine .f (.fieldAddr fo42_3 rfl) <| .f (.load ag40 rfl (.there <| .here) rfl) <| .f (.fieldAddr fo42_3 rfl) <| .f (.load ag40 rfl .here rfl) <| .on rfl <| .callP cal54 rfl rfl rfl (samePrs_ok xht0 yht0) <| .f (.pickT rfl rfl) ?_
    refine .m rfl ?_
    refine .split 31 rfl (fun h31 => ?_) (fun h31 => ?_)
    ·
     refine .f (.fieldAddr fo42_4 rfl) <| .f (.load ag9 rfl (.there <| .here) rfl) <| .f (.fieldAddr fo42_4 rfl) <| .f (.load ag9 rfl .here rfl) <| .f (.streq rfl rfl) <| .f (.pickT rfl rfl) ?_
     refine .m rfl ?_
     refine .sd 38 rfl (fun h38 => ?_) (fun h38 => ?_)
     ·
      refine .f (.fieldAddr fo42_5 rfl) <| .f (.load ag9 rfl (.there <| .here) rfl) <| .f (.fieldAddr fo42_5 rfl) <| .f (.load ag9 rfl .here rfl) <| .f (.streq rfl rfl) <| .f (.pickT rfl rfl) ?_
      refine .m rfl ?_
      refine .sd 45 rfl (fun h45 => ?_) (fun h45 => ?_)
      ·
       refine .f (.fieldAddr fo42_6 rfl) <| .f (.load ag3 rfl (.there <| .here) rfl) <| .f (.fieldAddr fo42_6 rfl) <| .f (.load ag3 rfl .here rfl) <| .f (.eql rfl rfl) <| .f (.pickT rfl rfl) ?_
       refine .a rfl <| .nil <| .go <| .ret ?_
       refine .tail <| .tail ?_
       refine Post.retE rfl rfl ?_
       refine congrArg Value.bool ?_
       cases a with | mk a1 a2 a3 a4 a5 a6 a7 => cases b with | mk b1 b2 b3 b4 b5 b6 b7 => simp_all
      ·
       refine .z <| .z <| .z <| .z <| .z <| .f (.pickF rfl rfl) ?_
       refine .a rfl <| .nil <| .go <| .ret ?_
       refine .tail <| .tail ?_
       refine Post.retE rfl rfl ?_
       refine congrArg Value.bool ?_
       cases a with | mk a1 a2 a3 a4 a5 a6 a7 => cases b with | mk b1 b2 b3 b4 b5 b6 b7 => simp_all
     ·
      refine .z <| .z <| .z <| .z <| .z <| .f (.pickF rfl rfl) ?_
      refine .m rfl <| .z <| .z <| .z <| .z <| .z ?_
      refine .f (.pickF rfl rfl) <| .a rfl <| .nil <| .go <| .ret ?_
      refine .tail <| .tail ?_
      refine Post.retE rfl rfl ?_
      refine congrArg Value.bool ?_
      cases a with | mk a1 a2 a3 a4 a5 a6 a7 => cases b with | mk b1 b2 b3 b4 b5 b6 b7 => simp_all
    ·
     refine .z <| .z <| .z <| .z <| .z <| .f (.pickF rfl rfl) ?_
     refine .m rfl <| .z <| .z <| .z <| .z <| .z ?_
     refine .f (.pickF rfl rfl) <| .m rfl <| .z <| .z <| .z <| .z ?_
     refine .z <| .f (.pickF rfl rfl) <| .a rfl <| .nil <| .go <| .ret ?_
     refine .tail <| .tail ?_
     refine Post.retE rfl rfl ?_
     refine congrArg Value.bool ?_
     cases a with | mk a1 a2 a3 a4 a5 a6 a7 => cases b with | mk b1 b2 b3 b4 b5 b6 b7 => simp_all
   ·
    refine .z <| .z <| .z <| .z <| .z <| .f (.pickF rfl rfl) ?_
    refine .m rfl <| .z <| .z <| .z <| .z <| .z ?_
    refine .f (.pickF rfl rfl) <| .m rfl <| .z <| .z <| .z <| .z ?_
    refine .z <| .f (.pickF rfl rfl) <| .m rfl <| .z <| .z <| .z ?_
    refine .z <| .z <| .f (.pickF rfl rfl) <| .a rfl <| .nil <| .go ?_
    refine .ret ?_
    refine .tail <| .tail ?_
    refine Post.retE rfl rfl ?_
    refine congrArg Value.bool ?_
    cases a with | mk a1 a2 a3 a4 a5 a6 a7 => cases b with | mk b1 b2 b3 b4 b5 b6 b7 => simp_all
  ·
   refine .z <| .z <| .z <| .z <| .z <| .f (.pickF rfl rfl) ?_
   refine .m rfl <| .z <| .z <| .z <| .z <| .z ?_
   refine .f (.pickF rfl rfl) <| .m rfl <| .z <| .z <| .z <| .z ?_
   refine .z <| .f (.pickF rfl rfl) <| .m rfl <| .z <| .z <| .z ?_
   refine .z <| .z <| .f (.pickF rfl rfl) <| .m rfl <| .z <| .z ?_
   refine .z <| .z <| .z <| .f (.pickF rfl rfl) <| .a rfl <| .nil ?_
   refine .go <| .ret ?_
   refine .tail <| .tail ?_
   refine Post.retE rfl rfl ?_
   refine congrArg Value.bool ?_
   cases a with | mk a1 a2 a3 a4 a5 a6 a7 => cases b with | mk b1 b2 b3 b4 b5 b6 b7 => simp_all
 ·
  refine .z <| .z <| .z <| .z <| .z <| .f (.pickF rfl rfl) ?_
  refine .m rfl <| .z <| .z <| .z <| .z <| .z ?_
  refine .f (.pickF rfl rfl) <| .m rfl <| .z <| .z <| .z <| .z ?_
  refine .z <| .f (.pickF rfl rfl) <| .m rfl <| .z <| .z <| .z ?_
  refine .z <| .z <| .f (.pickF rfl rfl) <| .m rfl <| .z <| .z ?_
  refine .z <| .z <| .z <| .f (.pickF rfl rfl) <| .m rfl <| .z ?_
  refine .z <| .z <| .z <| .z <| .f (.pickF rfl rfl) <| .a rfl ?_
  refine .nil <| .go <| .ret ?_
  refine .tail <| .tail ?_
  refine Post.retE rfl rfl ?_
  refine congrArg Value.bool ?_
  cases a with | mk a1 a2 a3 a4 a5 a6 a7 => cases b with | mk b1 b2 b3 b4 b5 b6 b7 => simp_all

set_option maxHeartbeats 1000000 in
set_option maxRecDepth 20000 in
theorem bCan_ok {I : Imm} {O : Own} {kc : List Value} {b : Bk} (hk : BkR I kc b) {task node : ByteArray} :
  Pure Tryz.prog 35 [.agg ⟨kc⟩, .string task, .string node] I O (.int .i64 (canA b task node)) := by
 have hk0 := hk
 obtain ⟨nv, tv, bv, rfl, hnv, htv, hbv⟩ := hk.ex
 have hnv0 := hnv
 have htv0 := htv
 have hbv0 := hbv
 obtain ⟨na, ncap, rfl, hn1, hn2, -⟩ := hnv
 obtain ⟨ta, tcap, rfl, ht1, ht2, -⟩ := htv
 obtain ⟨ba, bcap, rfl, hb1, hb2, -⟩ := hbv
 refine Go.Sy.Does.enter Tryz.func35 rfl Tryz.ntmps35 rfl ?_
 refine .seq <| .region <| .on rfl <| .box rfl rfl rfl fun c1 _ _ => .a rfl <| .nil <| .go ?_
 refine .seq <| .seq <| .region <| .f (.loadW ag27 sz27 rfl .here rfl) <| .on rfl <| .callP cal23 rfl rfl rfl (bCheck_ok hk0) <| .a rfl ?_
 refine .nil <| .go <| .seq <| .region <| .m rfl <| .f (.neq rfl rfl) ?_
 refine .nil <| .go ?_
 refine .split 11 rfl (fun h11 => ?_) (fun h11 => ?_)
 ·
  first | replace h11 := of_decide_eq_false ((Bool.not_eq_true' _).mp h11) | replace h11 := of_decide_eq_false (by simpa using h11)
  refine .cond_true rfl <| .seq <| .region <| .m rfl <| .a rfl <| .nil ?_
  refine .go <| .ret <| .ret ?_
  refine .tail ?_
  refine Post.retE rfl rfl ?_
  refine congrArg (Value.int .i64) ?_
  unfold canA
  rw [(bookWhy_no h11).1, if_neg (by simp)]; exact (bookWhy_no h11).2
 ·
  first | replace h11 := of_decide_eq_true ((Bool.not_eq_false' _).mp h11) | replace h11 := of_decide_eq_true (by simpa using h11)
  have hok := BookOk.of (bookWhy_ok h11)
  refine .cond_false rfl <| .skip <| .go <| .seq <| .region <| .f (.loadW ag27 sz27 rfl .here rfl) ?_
  refine .f (.build bs93 zv93 rfl rfl) <| .on rfl <| .box rfl rfl rfl fun c2 _ _ => .m rfl <| .m rfl <| .on rfl <| .callP cal86 rfl rfl rfl (kcan_ok .here hk0 hok.rn hok.rt hok.rb hok.hsn hok.hst hok.binds) <| .a rfl ?_
  refine .nil <| .go <| .ret ?_
  refine .tail <| .tail ?_
  refine Post.retE rfl rfl ?_
  refine congrArg (Value.int .i64) ?_
  unfold canA
  rw [if_pos (bookWhy_ok h11)]

set_option maxHeartbeats 1000000 in
set_option maxRecDepth 20000 in
theorem bUsed_ok {I : Imm} {O : Own} {kc : List Value} {b : Bk} (hk : BkR I kc b) {s : ByteArray} :
  Pure Tryz.prog 36 [.agg ⟨kc⟩, .string s] I O (.tuple ⟨[.agg ⟨[.int .i64 (usedR b s).1.a, .int .i64 (usedR b s).1.b, .int .i64 (usedR b s).1.c]⟩, .int .i64 (usedR b s).2]⟩) := by
 have hk0 := hk
 obtain ⟨nv, tv, bv, rfl, hnv, htv, hbv⟩ := hk.ex
 have hnv0 := hnv
 have htv0 := htv
 have hbv0 := hbv
 obtain ⟨na, ncap, rfl, hn1, hn2, -⟩ := hnv
 obtain ⟨ta, tcap, rfl, ht1, ht2, -⟩ := htv
 obtain ⟨ba, bcap, rfl, hb1, hb2, -⟩ := hbv
 refine Go.Sy.Does.enter Tryz.func36 rfl Tryz.ntmps36 rfl ?_
 refine .seq <| .region <| .on rfl <| .box rfl rfl rfl fun c1 _ _ => .on rfl <| .alloc zr39 rfl fun c2 _ _ => .a rfl <| .nil ?_
 refine .go <| .seq <| .seq <| .region <| .f (.loadW ag27 sz27 rfl (.there <| .here) rfl) <| .on rfl <| .callP cal23 rfl rfl rfl (bCheck_ok hk0) ?_
 refine .a rfl <| .nil <| .go <| .seq <| .region <| .m rfl ?_
 refine .f (.neq rfl rfl) <| .nil <| .go ?_
 refine .split 13 rfl (fun h13 => ?_) (fun h13 => ?_)
 ·
  first | replace h13 := of_decide_eq_false ((Bool.not_eq_true' _).mp h13) | replace h13 := of_decide_eq_false (by simpa using h13)
  refine .cond_true rfl <| .seq <| .region <| .f (.buildA ar39 zv39 rfl rfl) <| .m rfl <| .on rfl <| .storeW sz39 rfl rfl rfl rfl rfl rfl .here ?_
  refine .a rfl <| .nil <| .go <| .ret <| .ret ?_
  refine Post.retsE rfl (.agg rfl ag39 sz39 .here rfl (.tmp rfl .nil)) rfl (fun w h => h.tail.tail) ?_
  unfold usedR
  rw [(bookWhy_no h13).1, if_neg (by simp), (bookWhy_no h13).2]
  rfl
 ·
  first | replace h13 := of_decide_eq_true ((Bool.not_eq_false' _).mp h13) | replace h13 := of_decide_eq_true (by simpa using h13)
  have hok := BookOk.of (bookWhy_ok h13)
  refine .cond_false rfl <| .skip <| .go <| .seq <| .region <| .f (.loadW ag27 sz27 rfl (.there <| .here) rfl) ?_
  refine .f (.build bs93 zv93 rfl rfl) <| .on rfl <| .box rfl rfl rfl fun c3 _ _ => .a rfl <| .nil <| .go <| .seq ?_
  refine .seq <| .region <| .m rfl <| .m rfl <| .on rfl <| .callP cal68 rfl rfl rfl (knode_ok .here hk0 hok.rn hok.hsn) <| .m rfl ?_
  refine .f (.extract rfl rfl) <| .f (.extract rfl rfl) <| .a rfl <| .a rfl <| .nil <| .go ?_
  refine .seq <| .region <| .m rfl <| .f (.not rfl) <| .nil <| .go ?_
  refine .split 26 rfl (fun h26 => ?_) (fun h26 => ?_)
  ·
   refine .cond_true rfl <| .seq <| .region <| .f (.buildA ar39 zv39 rfl rfl) <| .on rfl <| .storeW sz39 rfl rfl rfl rfl rfl rfl (.there <| .here) <| .a rfl ?_
   refine .nil <| .go <| .ret <| .ret ?_
   refine Post.retsE rfl (.agg rfl ag39 sz39 (.there <| .here) rfl (.tmp rfl .nil)) rfl (fun w h => h.tail.tail.tail) ?_
   unfold usedR
   rw [if_pos (bookWhy_ok h13), if_neg (show ¬hasN b s = true from Bool.eq_false_iff.1 ((Bool.not_eq_true' _).mp h26))]
   rfl
  ·
   refine .cond_false rfl <| .skip <| .go <| .seq <| .region <| .m rfl ?_
   refine .m rfl <| .on rfl <| .call cal87 rfl rfl rfl (there_ok .here hk0 hok.rt hok.hst hok.binds) fun v30 I30 O30 hI30 hK30 => ?_
   obtain ⟨rfl, hl30⟩ := hK30
   have hl300 := hl30
   obtain ⟨la30, lc30, rfl, hl301, hl302, -⟩ := hl30
   refine .on rfl <| .callP cal24 rfl rfl rfl (Sum_ok hl300) <| .f (.extract rfl rfl) <| .f (.extract rfl rfl) <| .on rfl <| .storeW sz39 rfl rfl rfl rfl rfl rfl (.there <| .here) <| .a rfl <| .nil ?_
   refine .go <| .ret ?_
   refine .back hI30 ?_
   refine Post.retsE rfl (.agg rfl ag39 sz39 (.there <| .here) rfl (.tmp rfl .nil)) rfl (fun w h => h.tail.tail.tail) ?_
   unfold usedR
   rw [if_pos (bookWhy_ok h13), if_pos (show hasN b s = true from (Bool.not_eq_false' _).mp h26)]
   rfl

def FB (U : List Value → Value) (b : Bk) (O : Own) : Value → Imm → Own → Prop := fun u I' O' => O' = O ∧ ∃ cs, u = U cs ∧ BkR I' cs b
theorem frzBk {P : Program} {f : FuncId} {vs : List Value} {I : Imm} {O : Own} {U : List Value → Value} {b : Bk} (h : Go.Sy.Does P f vs I O fun u I' O' => ∃ nv tv bv on ot ob, u = U (b.cells nv tv bv) ∧ BkO I' b nv tv bv on ot ob ∧ O' = on ++ (ot ++ (ob ++ O))) :
    Go.Sy.Does P f vs I O (FB U b O) := fun w hw => (h w hw).mono fun e w' ⟨u, I', O', he, hI, hs, hK⟩ => by
  obtain ⟨nv, tv, bv, on, ot, ob, rfl, ⟨⟨w1, h1, d1⟩, ⟨w2, h2, d2⟩, ⟨w3, h3, d3⟩, hf⟩, rfl⟩ := hK
  obtain ⟨J, hJ, r1, s1⟩ := frzS h1 hs
  obtain ⟨K, hK, r2, s2⟩ := frzS h2 s1
  obtain ⟨L, hL, r3, s3⟩ := frzS h3 s2
  have hJL := Imm.le_trans hK hL
  exact ⟨_, L, O, he, Imm.le_trans hI (Imm.le_trans hJ hJL), s3, rfl, _, rfl, ⟨_, _, _, rfl, NodsR.mono hJL (r1 (R := NodR) (d1.mono fun _ _ h => h.mono hJ) rfl), TsksR.mono hL (r2 (R := TskR) (d2.mono fun _ _ h => TskR.mono hK (TskR.mono hJ h)) rfl), r3 (R := BndR) (d3.mono fun _ _ h => h) rfl⟩, hf⟩
section
variable {I : Imm} {O : Own} {kc : List Value} {b : Bk} (hk : BkR I kc b)
include hk
theorem doF {oc : List Value} {o : Ordr} (ho : OrdrR I oc o) (hs : OrdS o) : Go.Sy.Does Tryz.prog 27 [.agg ⟨kc⟩, .agg ⟨oc⟩] I O (FB (fun cs => .tuple ⟨[.agg ⟨cs⟩, .agg ⟨[.int .i64 (doR b o).2.1, .string (doR b o).2.2]⟩]⟩) (doR b o).1 O) :=
  frzBk (U := fun cs => .tuple ⟨[.agg ⟨cs⟩, .agg ⟨[.int .i64 (doR b o).2.1, .string (doR b o).2.2]⟩]⟩) (bDo_ok hk ho hs)
end

end Go.Proofs.YtmmokaockpghaaaGreatDoor
