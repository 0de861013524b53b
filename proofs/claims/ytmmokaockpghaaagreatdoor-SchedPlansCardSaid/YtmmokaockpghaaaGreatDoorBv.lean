/- Walks of functions over a symbolic memory, printed by a program of the session. -/
import Derived.Test.YtmmokaockpghaaaGreatDoorBu
import Derived.Test.YtmmokaockpghaaaGreatDoorBq
namespace Go.Proofs.YtmmokaockpghaaaGreatDoor
open Go.Sy
set_option linter.unusedSimpArgs false
set_option linter.unusedVariables false

theorem rcopyF {I : Imm} {O : Own} {kc : List Value} {b : Bk} (hk : BkR I kc b) (hM : BkM b) : Go.Sy.Does Tryz.prog 25 [.agg ⟨kc⟩] I O (FB (fun cs => .agg ⟨cs⟩) b O) := frzBk (U := fun cs => .agg ⟨cs⟩) (rbCopy_ok hk hM)

set_option maxHeartbeats 32000000 in
set_option maxRecDepth 20000 in
theorem rbDo_ok {I : Imm} {O : Own} {kc : List Value} {b : Bk} (hk : BkR I kc b) {oc : List Value} {o : Ordr} (ho : OrdrR I oc o) :
  Go.Sy.Does Tryz.prog 82 [.agg ⟨kc⟩, .agg ⟨oc⟩] I O (FB (fun cs => .tuple ⟨[.agg ⟨cs⟩, .agg ⟨[.int .i64 (doR b o).2.1, .string (doR b o).2.2]⟩]⟩) (doR b o).1 O) := by
 obtain ⟨okk, ond, otk, onm, oon, ofe⟩ := o
 have hk0 := hk
 obtain ⟨nv, tv, bv, rfl, hnv, htv, hbv⟩ := hk.ex
 have hnv0 := hnv
 have htv0 := htv
 have hbv0 := hbv
 obtain ⟨na, ncap, rfl, hn1, hn2, -⟩ := hnv
 obtain ⟨ta, tcap, rfl, ht1, ht2, -⟩ := htv
 obtain ⟨ba, bcap, rfl, hb1, hb2, -⟩ := hbv
 have ho0 := ho
 obtain ⟨lv, tv, wv, bv, rfl, hon, holv, hotv, hot, howv, hobv⟩ := ho.ex
 have hkd := ho0.kind
 obtain ⟨olva, olvc, rfl, -⟩ := holv
 obtain ⟨otva, otvc, rfl, -⟩ := hotv
 obtain ⟨owva, owvc, rfl, -⟩ := howv
 obtain ⟨obva, obvc, rfl, -⟩ := hobv
 refine Go.Sy.Does.enter Tryz.func82 rfl Tryz.ntmps82 rfl ?_
 refine .seq <| .region <| .on rfl <| .box rfl rfl rfl fun c1 _ _ => .on rfl <| .box rfl rfl rfl fun c2 _ _ => .on rfl <| .alloc zr27 rfl fun c3 _ _ => .on rfl <| .alloc zr60 rfl fun c4 _ _ => ?_
 refine .nil <| .go <| .seq <| .seq <| .region <| .f (.loadW ag27 sz27 rfl (.there <| .there <| .there <| .here) rfl) ?_
 refine .on rfl <| .callP cal43 rfl rfl rfl (rbCheck_ok hk0) <| .f (.neq rfl rfl) <| .nil <| .go ?_
 refine .split 10 rfl (fun h10 => ?_) (fun h10 => ?_)
 ·
  first | replace h10 := of_decide_eq_false ((Bool.not_eq_true' _).mp h10) | replace h10 := of_decide_eq_false (by simpa using h10)
  refine .cond_true rfl <| .seq <| .region <| .f (.build bs27 zv27 rfl rfl) <| .f (.build bs60 zv60 rfl rfl) <| .on rfl <| .storeW sz27 rfl rfl rfl rfl rfl rfl (.there <| .here) ?_
  refine .on rfl <| .storeW sz60 rfl rfl rfl rfl rfl rfl .here <| .nil <| .go <| .ret <| .ret ?_
  refine Post.rets rfl (.agg rfl ag27 sz27 (.there <| .here) rfl (.agg rfl ag60 sz60 .here rfl .nil)) rfl (Imm.le_refl _) (fun w h => (Sat.tail (Sat.tail (Sat.tail (Sat.tail h))))) ?_
  rw [doR_no h10]
  exact ⟨rfl, _, rfl, ⟨⟨_, _, _, rfl, SlR.nil, SlR.nil, SlR.nil⟩, by unfold U64 bk0; decide⟩⟩
 ·
  first | replace h10 := of_decide_eq_true ((Bool.not_eq_false' _).mp h10) | replace h10 := of_decide_eq_true (by simpa using h10)
  have hok := BookOk.of (bookWhy_ok h10)
  refine .cond_false rfl <| .skip <| .go <| .seq <| .region <| .f (.loadW ag27 sz27 rfl (.there <| .there <| .there <| .here) rfl) ?_
  refine .on rfl <| .call cal25 rfl rfl rfl (rcopyF hk0 (BkM.of hok)) fun v14 I14 O14 hI14 hK14 => ?_
  obtain ⟨rfl, cs14, rfl, hb14⟩ := hK14
  have hb140 := hb14
  obtain ⟨nv14, tv14, bv14, rfl, hn14, ht14, hx14⟩ := hb14.ex
  obtain ⟨_, _, rfl, -⟩ := hn14
  obtain ⟨_, _, rfl, htl14, -⟩ := ht14
  obtain ⟨_, _, rfl, -⟩ := hx14
  refine .on rfl <| .storeW sz27 rfl rfl rfl rfl rfl rfl (.there <| .there <| .there <| .here) <| .nil <| .go <| .seq <| .region <| .f (.loadW ag65 sz65 rfl (.there <| .there <| .here) rfl) ?_
  refine .on rfl <| .callP cal134 rfl rfl rfl (rCheckOrder_ok (ho0.mono hI14)) <| .a rfl <| .nil <| .go <| .seq <| .seq ?_
  refine .region <| .m rfl <| .f (.neq rfl rfl) <| .nil <| .go ?_
  refine .split 18 rfl (fun h18 => ?_) (fun h18 => ?_)
  ·
   first | replace h18 := of_decide_eq_false ((Bool.not_eq_true' _).mp h18) | replace h18 := of_decide_eq_false (by simpa using h18)
   refine .cond_true rfl <| .seq <| .region <| .f (.loadW ag27 sz27 rfl (.there <| .there <| .there <| .here) rfl) <| .m rfl <| .f (.build bs60 zv60 rfl rfl) ?_
   refine .on rfl <| .storeW sz27 rfl rfl rfl rfl rfl rfl (.there <| .here) <| .on rfl <| .storeW sz60 rfl rfl rfl rfl rfl rfl .here <| .nil <| .go <| .ret <| .ret ?_
   refine Post.rets rfl (.agg rfl ag27 sz27 (.there <| .here) rfl (.agg rfl ag60 sz60 .here rfl .nil)) rfl hI14 (fun w h => (Sat.tail (Sat.tail (Sat.tail (Sat.tail h))))) ?_
   have e4 := (orderWhy_no h18).2
   rw [e4]
   rw [doR_form h10 h18]
   exact ⟨rfl, _, rfl, hb140⟩
  ·
   first | replace h18 := of_decide_eq_true ((Bool.not_eq_false' _).mp h18) | replace h18 := of_decide_eq_true (by simpa using h18)
   refine .cond_false rfl <| .skip <| .go <| .seq <| .region <| .f (.loadW ag27 sz27 rfl (.there <| .there <| .there <| .here) rfl) ?_
   refine .on rfl <| .alloc zr27 rfl fun c5 _ _ => .on rfl <| .storeW sz27 rfl rfl rfl rfl rfl rfl .here <| .nil <| .go <| .seq <| .seq ?_
   refine .region <| .f (.fieldAddr fo65_0 rfl) ?_
   have hkk := order_kinds (o := ⟨okk, ond, otk, onm, oon, ofe⟩) (orderWhy_ok h18)
   dsimp only at hkk
   rcases hkk with rfl | rfl | rfl | rfl | rfl | rfl | rfl
   ·
    refine .f (.load ag63 rfl (.there <| .there <| .there <| .here) rfl) <| .nil <| .go <| .block <| .seq <| .seq ?_
    refine .region <| .f (.eql rfl rfl) <| .a rfl <| .nil <| .go <| .cond_true rfl ?_
    refine .skip <| .go <| .cond_true rfl <| .region <| .f (.loadW ag27 sz27 rfl (.there <| .there <| .there <| .there <| .here) rfl) <| .f (.loadW ag65 sz65 rfl (.there <| .there <| .there <| .here) rfl) ?_
    refine .on rfl <| .call cal135 rfl rfl rfl (rnodes_ok hb140 hok (ho0.mono hI14)) fun v44 I44 O44 hI44 hK44 => ?_
    obtain ⟨rfl, cs44, rfl, hb44⟩ := hK44
    have hb440 := hb44
    obtain ⟨nv44, tv44, bv44, rfl, hn44, ht44, hx44⟩ := hb44.ex
    obtain ⟨_, _, rfl, -⟩ := hn44
    obtain ⟨_, _, rfl, htl44, -⟩ := ht44
    obtain ⟨_, _, rfl, -⟩ := hx44
    refine .m rfl <| .f (.extract rfl rfl) <| .f (.extract rfl rfl) <| .on rfl <| .storeW sz27 rfl rfl rfl rfl rfl rfl .here <| .a rfl <| .nil ?_
    refine .blk_normal <| .go <| .seq <| .region <| .f (.loadW ag27 sz27 rfl .here rfl) <| .m rfl ?_
    refine .f (.build bs60 zv60 rfl rfl) <| .on rfl <| .storeW sz27 rfl rfl rfl rfl rfl rfl (.there <| .there <| .here) <| .on rfl <| .storeW sz60 rfl rfl rfl rfl rfl rfl (.there <| .here) <| .nil <| .go <| .ret ?_
    refine Post.rets rfl (.agg rfl ag27 sz27 (.there <| .there <| .here) rfl (.agg rfl ag60 sz60 (.there <| .here) rfl .nil)) rfl (Imm.le_trans hI14 hI44) (fun w h => (Sat.tail (Sat.tail (Sat.tail (Sat.tail (Sat.tail h)))))) ?_
    rw [show doR b (⟨1, ond, otk, onm, oon, ofe⟩ : Ordr) = ((nodesR b (⟨1, ond, otk, onm, oon, ofe⟩ : Ordr)).1, (nodesR b (⟨1, ond, otk, onm, oon, ofe⟩ : Ordr)).2, ⟨#[]⟩) from (doR_step h10 h18).trans rfl]
    exact ⟨rfl, _, rfl, hb440⟩
   ·
    refine .f (.load ag63 rfl (.there <| .there <| .there <| .here) rfl) <| .nil <| .go <| .block <| .seq <| .seq ?_
    refine .region <| .f (.eql rfl rfl) <| .a rfl <| .nil <| .go <| .cond_false rfl ?_
    refine .region <| .f (.eql rfl rfl) <| .a rfl <| .nil <| .go <| .cond_true rfl ?_
    refine .region <| .f (.loadW ag27 sz27 rfl (.there <| .there <| .there <| .there <| .here) rfl) <| .f (.loadW ag65 sz65 rfl (.there <| .there <| .there <| .here) rfl) <| .on rfl <| .call cal135 rfl rfl rfl (rnodes_ok hb140 hok (ho0.mono hI14)) fun v44 I44 O44 hI44 hK44 => ?_
    obtain ⟨rfl, cs44, rfl, hb44⟩ := hK44
    have hb440 := hb44
    obtain ⟨nv44, tv44, bv44, rfl, hn44, ht44, hx44⟩ := hb44.ex
    obtain ⟨_, _, rfl, -⟩ := hn44
    obtain ⟨_, _, rfl, htl44, -⟩ := ht44
    obtain ⟨_, _, rfl, -⟩ := hx44
    refine .m rfl <| .f (.extract rfl rfl) <| .f (.extract rfl rfl) <| .on rfl <| .storeW sz27 rfl rfl rfl rfl rfl rfl .here <| .a rfl <| .nil ?_
    refine .blk_normal <| .go <| .seq <| .region <| .f (.loadW ag27 sz27 rfl .here rfl) <| .m rfl ?_
    refine .f (.build bs60 zv60 rfl rfl) <| .on rfl <| .storeW sz27 rfl rfl rfl rfl rfl rfl (.there <| .there <| .here) <| .on rfl <| .storeW sz60 rfl rfl rfl rfl rfl rfl (.there <| .here) <| .nil <| .go <| .ret ?_
    refine Post.rets rfl (.agg rfl ag27 sz27 (.there <| .there <| .here) rfl (.agg rfl ag60 sz60 (.there <| .here) rfl .nil)) rfl (Imm.le_trans hI14 hI44) (fun w h => (Sat.tail (Sat.tail (Sat.tail (Sat.tail (Sat.tail h)))))) ?_
    rw [show doR b (⟨2, ond, otk, onm, oon, ofe⟩ : Ordr) = ((nodesR b (⟨2, ond, otk, onm, oon, ofe⟩ : Ordr)).1, (nodesR b (⟨2, ond, otk, onm, oon, ofe⟩ : Ordr)).2, ⟨#[]⟩) from (doR_step h10 h18).trans rfl]
    exact ⟨rfl, _, rfl, hb440⟩
   ·
    refine .f (.load ag63 rfl (.there <| .there <| .there <| .here) rfl) <| .nil <| .go <| .block <| .seq <| .seq ?_
    refine .region <| .f (.eql rfl rfl) <| .a rfl <| .nil <| .go <| .cond_false rfl ?_
    refine .region <| .f (.eql rfl rfl) <| .a rfl <| .nil <| .go <| .cond_false rfl ?_
    refine .seq <| .seq <| .region <| .f (.eql rfl rfl) <| .a rfl <| .nil ?_
    refine .go <| .cond_true rfl <| .skip <| .go <| .cond_true rfl <| .region ?_
    refine .f (.loadW ag27 sz27 rfl (.there <| .there <| .there <| .there <| .here) rfl) <| .f (.loadW ag65 sz65 rfl (.there <| .there <| .there <| .here) rfl) <| .on rfl <| .call cal136 rfl rfl rfl (rtasks_ok hb140 hok (ho0.mono hI14) (.inl rfl)) fun v54 I54 O54 hI54 hK54 => ?_
    obtain ⟨rfl, cs54, rfl, hb54⟩ := hK54
    have hb540 := hb54
    obtain ⟨nv54, tv54, bv54, rfl, hn54, ht54, hx54⟩ := hb54.ex
    obtain ⟨_, _, rfl, -⟩ := hn54
    obtain ⟨_, _, rfl, htl54, -⟩ := ht54
    obtain ⟨_, _, rfl, -⟩ := hx54
    refine .m rfl <| .f (.extract rfl rfl) <| .f (.extract rfl rfl) <| .on rfl <| .storeW sz27 rfl rfl rfl rfl rfl rfl .here <| .a rfl <| .nil ?_
    refine .blk_normal <| .go <| .seq <| .region <| .f (.loadW ag27 sz27 rfl .here rfl) <| .m rfl ?_
    refine .f (.build bs60 zv60 rfl rfl) <| .on rfl <| .storeW sz27 rfl rfl rfl rfl rfl rfl (.there <| .there <| .here) <| .on rfl <| .storeW sz60 rfl rfl rfl rfl rfl rfl (.there <| .here) <| .nil <| .go <| .ret ?_
    refine Post.rets rfl (.agg rfl ag27 sz27 (.there <| .there <| .here) rfl (.agg rfl ag60 sz60 (.there <| .here) rfl .nil)) rfl (Imm.le_trans hI14 hI54) (fun w h => (Sat.tail (Sat.tail (Sat.tail (Sat.tail (Sat.tail h)))))) ?_
    rw [show doR b (⟨3, ond, otk, onm, oon, ofe⟩ : Ordr) = ((tasksR b (⟨3, ond, otk, onm, oon, ofe⟩ : Ordr)).1, (tasksR b (⟨3, ond, otk, onm, oon, ofe⟩ : Ordr)).2, ⟨#[]⟩) from (doR_step h10 h18).trans rfl]
    exact ⟨rfl, _, rfl, hb540⟩
   ·
    refine .f (.load ag63 rfl (.there <| .there <| .there <| .here) rfl) <| .nil <| .go <| .block <| .seq <| .seq ?_
    refine .region <| .f (.eql rfl rfl) <| .a rfl <| .nil <| .go <| .cond_false rfl ?_
    refine .region <| .f (.eql rfl rfl) <| .a rfl <| .nil <| .go <| .cond_false rfl ?_
    refine .seq <| .seq <| .region <| .f (.eql rfl rfl) <| .a rfl <| .nil ?_
    refine .go <| .cond_false rfl <| .seq <| .region <| .f (.eql rfl rfl) <| .a rfl ?_
    refine .nil <| .go <| .cond_true rfl <| .skip <| .go <| .cond_true rfl ?_
    refine .region <| .f (.loadW ag27 sz27 rfl (.there <| .there <| .there <| .there <| .here) rfl) <| .f (.loadW ag65 sz65 rfl (.there <| .there <| .there <| .here) rfl) <| .on rfl <| .call cal136 rfl rfl rfl (rtasks_ok hb140 hok (ho0.mono hI14) (.inr (.inl rfl))) fun v54 I54 O54 hI54 hK54 => ?_
    obtain ⟨rfl, cs54, rfl, hb54⟩ := hK54
    have hb540 := hb54
    obtain ⟨nv54, tv54, bv54, rfl, hn54, ht54, hx54⟩ := hb54.ex
    obtain ⟨_, _, rfl, -⟩ := hn54
    obtain ⟨_, _, rfl, htl54, -⟩ := ht54
    obtain ⟨_, _, rfl, -⟩ := hx54
    refine .m rfl <| .f (.extract rfl rfl) <| .f (.extract rfl rfl) <| .on rfl <| .storeW sz27 rfl rfl rfl rfl rfl rfl .here <| .a rfl <| .nil ?_
    refine .blk_normal <| .go <| .seq <| .region <| .f (.loadW ag27 sz27 rfl .here rfl) <| .m rfl ?_
    refine .f (.build bs60 zv60 rfl rfl) <| .on rfl <| .storeW sz27 rfl rfl rfl rfl rfl rfl (.there <| .there <| .here) <| .on rfl <| .storeW sz60 rfl rfl rfl rfl rfl rfl (.there <| .here) <| .nil <| .go <| .ret ?_
    refine Post.rets rfl (.agg rfl ag27 sz27 (.there <| .there <| .here) rfl (.agg rfl ag60 sz60 (.there <| .here) rfl .nil)) rfl (Imm.le_trans hI14 hI54) (fun w h => (Sat.tail (Sat.tail (Sat.tail (Sat.tail (Sat.tail h)))))) ?_
    rw [show doR b (⟨4, ond, otk, onm, oon, ofe⟩ : Ordr) = ((tasksR b (⟨4, ond, otk, onm, oon, ofe⟩ : Ordr)).1, (tasksR b (⟨4, ond, otk, onm, oon, ofe⟩ : Ordr)).2, ⟨#[]⟩) from (doR_step h10 h18).trans (Prod.ext rfl (Prod.ext rfl (of_text (b := b) (o := (⟨4, ond, otk, onm, oon, ofe⟩ : Ordr)) (.inl rfl))))]
    exact ⟨rfl, _, rfl, hb540⟩
   ·
    refine .f (.load ag63 rfl (.there <| .there <| .there <| .here) rfl) <| .nil <| .go <| .block <| .seq <| .seq ?_
    refine .region <| .f (.eql rfl rfl) <| .a rfl <| .nil <| .go <| .cond_false rfl ?_
    refine .region <| .f (.eql rfl rfl) <| .a rfl <| .nil <| .go <| .cond_false rfl ?_
    refine .seq <| .seq <| .region <| .f (.eql rfl rfl) <| .a rfl <| .nil ?_
    refine .go <| .cond_false rfl <| .seq <| .region <| .f (.eql rfl rfl) <| .a rfl ?_
    refine .nil <| .go <| .cond_false rfl <| .region <| .f (.eql rfl rfl) <| .a rfl ?_
    refine .nil <| .go <| .cond_false rfl <| .seq <| .region <| .f (.eql rfl rfl) ?_
    refine .a rfl <| .nil <| .go <| .cond_true rfl <| .seq <| .seq ?_
    refine .region <| .f (.fieldAddr fo65_5 rfl) <| .f (.load ag25 rfl (.there <| .there <| .there <| .here) rfl) <| .f (.fieldAddr fo27_3 rfl) <| .f (.load ag25 rfl (.there <| .there <| .there <| .there <| .here) rfl) <| .f (.lss rfl rfl) ?_
    refine .nil <| .go ?_
    refine .sd 63 rfl (fun h63 => ?_) (fun h63 => ?_)
    ·
     refine .cond_true rfl <| .seq <| .region <| .f (.loadW ag27 sz27 rfl (.there <| .there <| .there <| .there <| .here) rfl) <| .f (.build bs60 zv60 rfl rfl) <| .on rfl <| .storeW sz27 rfl rfl rfl rfl rfl rfl (.there <| .there <| .here) ?_
     refine .on rfl <| .storeW sz60 rfl rfl rfl rfl rfl rfl (.there <| .here) <| .nil <| .go <| .ret <| .ret <| .blk_ret ?_
     refine .ret ?_
     refine Post.rets rfl (.agg rfl ag27 sz27 (.there <| .there <| .here) rfl (.agg rfl ag60 sz60 (.there <| .here) rfl .nil)) rfl hI14 (fun w h => (Sat.tail (Sat.tail (Sat.tail (Sat.tail (Sat.tail h)))))) ?_
     rw [show doR b (⟨5, ond, otk, onm, oon, ofe⟩ : Ordr) = ((placeR b (⟨5, ond, otk, onm, oon, ofe⟩ : Ordr)).1, (placeR b (⟨5, ond, otk, onm, oon, ofe⟩ : Ordr)).2, ⟨#[]⟩) from (doR_step h10 h18).trans rfl, show placeR b (⟨5, ond, otk, onm, oon, ofe⟩ : Ordr) = (b, 14) by unfold placeR; rw [if_pos h63]]
     exact ⟨rfl, _, rfl, hb140⟩
    ·
     refine .cond_false rfl <| .skip <| .go <| .seq <| .region <| .f (.loadW ag27 sz27 rfl (.there <| .there <| .there <| .there <| .here) rfl) ?_
     refine .f (.fieldAddr fo65_3 rfl) <| .f (.load ag9 rfl (.there <| .there <| .there <| .here) rfl) <| .f (.fieldAddr fo65_4 rfl) <| .f (.load ag9 rfl (.there <| .there <| .there <| .here) rfl) <| .on rfl <| .callP cal108 rfl rfl rfl (rcan_ok hb140 hok) <| .a rfl ?_
     refine .nil <| .go <| .seq <| .region <| .m rfl <| .f (.eql rfl rfl) ?_
     refine .nil <| .go ?_
     refine .sd 73 rfl (fun h73 => ?_) (fun h73 => ?_)
     ·
      refine .cond_true rfl <| .region <| .f (.loadW ag27 sz27 rfl (.there <| .there <| .there <| .there <| .here) rfl) <| .f (.fieldAddr fo65_3 rfl) <| .f (.load ag9 rfl (.there <| .there <| .there <| .here) rfl) <| .f (.fieldAddr fo65_4 rfl) ?_
      refine .f (.load ag9 rfl (.there <| .there <| .there <| .here) rfl) <| .f (.build bs51 zv51 rfl rfl) <| .on rfl <| .call cal137 rfl rfl rfl (rwithBind_ok hb140 (x := ⟨onm, oon⟩) ⟨rfl, ho0.name, ho0.on⟩ (by have := hok.binds; omega)) fun v80 I80 O80 hI80 hK80 => ?_
      obtain ⟨rfl, cs80, rfl, hb80⟩ := hK80
      have hb800 := hb80
      obtain ⟨nv80, tv80, bv80, rfl, hn80, ht80, hx80⟩ := hb80.ex
      obtain ⟨_, _, rfl, -⟩ := hn80
      obtain ⟨_, _, rfl, htl80, -⟩ := ht80
      obtain ⟨_, _, rfl, -⟩ := hx80
      refine .on rfl <| .storeW sz27 rfl rfl rfl rfl rfl rfl .here <| .nil <| .blk_normal <| .go <| .seq <| .region ?_
      refine .f (.loadW ag27 sz27 rfl .here rfl) <| .m rfl <| .f (.build bs60 zv60 rfl rfl) <| .on rfl <| .storeW sz27 rfl rfl rfl rfl rfl rfl (.there <| .there <| .here) <| .on rfl <| .storeW sz60 rfl rfl rfl rfl rfl rfl (.there <| .here) <| .nil ?_
      refine .go <| .ret ?_
      refine Post.rets rfl (.agg rfl ag27 sz27 (.there <| .there <| .here) rfl (.agg rfl ag60 sz60 (.there <| .here) rfl .nil)) rfl (Imm.le_trans hI14 hI80) (fun w h => (Sat.tail (Sat.tail (Sat.tail (Sat.tail (Sat.tail h)))))) ?_
      rw [h73]
      rw [show doR b (⟨5, ond, otk, onm, oon, ofe⟩ : Ordr) = ((placeR b (⟨5, ond, otk, onm, oon, ofe⟩ : Ordr)).1, (placeR b (⟨5, ond, otk, onm, oon, ofe⟩ : Ordr)).2, ⟨#[]⟩) from (doR_step h10 h18).trans rfl, show placeR b (⟨5, ond, otk, onm, oon, ofe⟩ : Ordr) = ({ b with binds := insAt b.binds (posB b onm) ⟨onm, oon⟩ }, 0) by unfold placeR; rw [if_neg h63, if_pos h73]]
      exact ⟨rfl, _, rfl, hb800⟩
     ·
      refine .cond_false rfl <| .skip <| .blk_normal <| .go <| .seq <| .region ?_
      refine .f (.loadW ag27 sz27 rfl .here rfl) <| .m rfl <| .f (.build bs60 zv60 rfl rfl) <| .on rfl <| .storeW sz27 rfl rfl rfl rfl rfl rfl (.there <| .there <| .here) <| .on rfl <| .storeW sz60 rfl rfl rfl rfl rfl rfl (.there <| .here) <| .nil ?_
      refine .go <| .ret ?_
      refine Post.rets rfl (.agg rfl ag27 sz27 (.there <| .there <| .here) rfl (.agg rfl ag60 sz60 (.there <| .here) rfl .nil)) rfl hI14 (fun w h => (Sat.tail (Sat.tail (Sat.tail (Sat.tail (Sat.tail h)))))) ?_
      rw [show doR b (⟨5, ond, otk, onm, oon, ofe⟩ : Ordr) = ((placeR b (⟨5, ond, otk, onm, oon, ofe⟩ : Ordr)).1, (placeR b (⟨5, ond, otk, onm, oon, ofe⟩ : Ordr)).2, ⟨#[]⟩) from (doR_step h10 h18).trans rfl, show placeR b (⟨5, ond, otk, onm, oon, ofe⟩ : Ordr) = (b, canR b onm oon) by unfold placeR; rw [if_neg h63, if_neg h73]]
      exact ⟨rfl, _, rfl, hb140⟩
   ·
    refine .f (.load ag63 rfl (.there <| .there <| .there <| .here) rfl) <| .nil <| .go <| .block <| .seq <| .seq ?_
    refine .region <| .f (.eql rfl rfl) <| .a rfl <| .nil <| .go <| .cond_false rfl ?_
    refine .region <| .f (.eql rfl rfl) <| .a rfl <| .nil <| .go <| .cond_false rfl ?_
    refine .seq <| .seq <| .region <| .f (.eql rfl rfl) <| .a rfl <| .nil ?_
    refine .go <| .cond_false rfl <| .seq <| .region <| .f (.eql rfl rfl) <| .a rfl ?_
    refine .nil <| .go <| .cond_false rfl <| .region <| .f (.eql rfl rfl) <| .a rfl ?_
    refine .nil <| .go <| .cond_true rfl <| .region <| .f (.loadW ag27 sz27 rfl (.there <| .there <| .there <| .there <| .here) rfl) <| .f (.loadW ag65 sz65 rfl (.there <| .there <| .there <| .here) rfl) ?_
    refine .on rfl <| .call cal136 rfl rfl rfl (rtasks_ok hb140 hok (ho0.mono hI14) (.inr (.inr rfl))) fun v54 I54 O54 hI54 hK54 => ?_
    obtain ⟨rfl, cs54, rfl, hb54⟩ := hK54
    have hb540 := hb54
    obtain ⟨nv54, tv54, bv54, rfl, hn54, ht54, hx54⟩ := hb54.ex
    obtain ⟨_, _, rfl, -⟩ := hn54
    obtain ⟨_, _, rfl, htl54, -⟩ := ht54
    obtain ⟨_, _, rfl, -⟩ := hx54
    refine .m rfl <| .f (.extract rfl rfl) <| .f (.extract rfl rfl) <| .on rfl <| .storeW sz27 rfl rfl rfl rfl rfl rfl .here <| .a rfl <| .nil ?_
    refine .blk_normal <| .go <| .seq <| .region <| .f (.loadW ag27 sz27 rfl .here rfl) <| .m rfl ?_
    refine .f (.build bs60 zv60 rfl rfl) <| .on rfl <| .storeW sz27 rfl rfl rfl rfl rfl rfl (.there <| .there <| .here) <| .on rfl <| .storeW sz60 rfl rfl rfl rfl rfl rfl (.there <| .here) <| .nil <| .go <| .ret ?_
    refine Post.rets rfl (.agg rfl ag27 sz27 (.there <| .there <| .here) rfl (.agg rfl ag60 sz60 (.there <| .here) rfl .nil)) rfl (Imm.le_trans hI14 hI54) (fun w h => (Sat.tail (Sat.tail (Sat.tail (Sat.tail (Sat.tail h)))))) ?_
    rw [show doR b (⟨6, ond, otk, onm, oon, ofe⟩ : Ordr) = ((tasksR b (⟨6, ond, otk, onm, oon, ofe⟩ : Ordr)).1, (tasksR b (⟨6, ond, otk, onm, oon, ofe⟩ : Ordr)).2, ⟨#[]⟩) from (doR_step h10 h18).trans (Prod.ext rfl (Prod.ext rfl (of_text (b := b) (o := (⟨6, ond, otk, onm, oon, ofe⟩ : Ordr)) (.inr rfl))))]
    exact ⟨rfl, _, rfl, hb540⟩
   ·
    refine .f (.load ag63 rfl (.there <| .there <| .there <| .here) rfl) <| .nil <| .go <| .block <| .seq <| .seq ?_
    refine .region <| .f (.eql rfl rfl) <| .a rfl <| .nil <| .go <| .cond_false rfl ?_
    refine .region <| .f (.eql rfl rfl) <| .a rfl <| .nil <| .go <| .cond_false rfl ?_
    refine .seq <| .seq <| .region <| .f (.eql rfl rfl) <| .a rfl <| .nil ?_
    refine .go <| .cond_false rfl <| .seq <| .region <| .f (.eql rfl rfl) <| .a rfl ?_
    refine .nil <| .go <| .cond_false rfl <| .region <| .f (.eql rfl rfl) <| .a rfl ?_
    refine .nil <| .go <| .cond_false rfl <| .seq <| .region <| .f (.eql rfl rfl) ?_
    refine .a rfl <| .nil <| .go <| .cond_false rfl <| .seq <| .seq ?_
    refine .region <| .f (.loadW ag27 sz27 rfl (.there <| .there <| .there <| .there <| .here) rfl) <| .f (.fieldAddr fo65_3 rfl) <| .f (.load ag9 rfl (.there <| .there <| .there <| .here) rfl) <| .on rfl <| .callP cal52 rfl rfl rfl (rixT_ok hb140) <| .f ((EV.cast (.lss rfl rfl) (congrArg Value.bool (ix_lt (nm := fun x : Tsk => x.name))))) ?_
    refine .nil <| .go ?_
    refine .split 29 rfl (fun h29 => ?_) (fun h29 => ?_)
    ·
     refine .cond_true rfl <| .seq <| .region <| .f (.loadW ag27 sz27 rfl (.there <| .there <| .there <| .there <| .here) rfl) <| .f (.build bs60 zv60 rfl rfl) <| .on rfl <| .storeW sz27 rfl rfl rfl rfl rfl rfl (.there <| .there <| .here) ?_
     refine .on rfl <| .storeW sz60 rfl rfl rfl rfl rfl rfl (.there <| .here) <| .nil <| .go <| .ret <| .ret <| .blk_ret ?_
     refine .ret ?_
     refine Post.rets rfl (.agg rfl ag27 sz27 (.there <| .there <| .here) rfl (.agg rfl ag60 sz60 (.there <| .here) rfl .nil)) rfl hI14 (fun w h => (Sat.tail (Sat.tail (Sat.tail (Sat.tail (Sat.tail h)))))) ?_
     rw [show doR b (⟨7, ond, otk, onm, oon, ofe⟩ : Ordr) = ofR b (⟨7, ond, otk, onm, oon, ofe⟩ : Ordr) from (doR_step h10 h18).trans rfl, show ofR b (⟨7, ond, otk, onm, oon, ofe⟩ : Ordr) = (b, 6, ⟨#[]⟩) by unfold ofR; rw [if_neg (show ¬hasT b onm = true from Bool.eq_false_iff.1 ((Bool.not_eq_true' _).mp h29))]]
     exact ⟨rfl, _, rfl, hb140⟩
    ·
     refine .cond_false rfl <| .skip <| .go <| .seq ?_
     refine .draw [(c1, _), (c2, _)] mixed (.cons (.there <| .there <| .there <| .there <| .here) (.cons (.there <| .there <| .there <| .here) .nil)) ?_
     refine .u 0 rfl (.loadW ag27 sz27 rfl .here rfl) <| .u 1 rfl (.loadW ag27 sz27 rfl .here rfl) <| .u 2 rfl (.fieldAddr fo65_3 rfl) <| .u 3 rfl (.load ag9 rfl (.there <| .here) rfl) <| .one (i := 4) (by kernel_rfl) rfl rfl <| .callP cal44 rfl rfl rfl (rOn_ok hb140) ?_
     refine ⟨(.cons (.there <| .there <| .there <| .there <| .here) (.cons (.there <| .there <| .there <| .here) .nil)), Imm.le_refl _, ?_⟩
     refine .u 5 rfl (.build bs60 zv60 rfl rfl) <| .one (i := 6) (by kernel_rfl) rfl rfl <| .storeW sz27 rfl rfl rfl rfl rfl rfl (.there <| .there <| .here) ?_
     refine ⟨(.cons (.there <| .there <| .there <| .there <| .here) (.cons (.there <| .there <| .there <| .here) .nil)), Imm.le_refl _, ?_⟩
     refine .late (i := 7) (by kernel_rfl) (by kernel_rfl) (by kernel_rfl) rfl rfl <| .storeW sz60 rfl rfl rfl rfl rfl rfl (.there <| .here) <| .go <| .ret <| .blk_ret <| .ret ?_
     refine Post.rets rfl (.agg rfl ag27 sz27 (.there <| .there <| .here) rfl (.agg rfl ag60 sz60 (.there <| .here) rfl .nil)) rfl hI14 (fun w h => (Sat.tail (Sat.tail (Sat.tail (Sat.tail (Sat.tail h)))))) ?_
     rw [show doR b (⟨7, ond, otk, onm, oon, ofe⟩ : Ordr) = ofR b (⟨7, ond, otk, onm, oon, ofe⟩ : Ordr) from (doR_step h10 h18).trans rfl, show ofR b (⟨7, ond, otk, onm, oon, ofe⟩ : Ordr) = (b, 0, onR b onm) by unfold ofR; rw [if_pos (show hasT b onm = true from (Bool.not_eq_false' _).mp h29), if_neg (show ¬((7 : Int) = 4) by decide), if_neg (show ¬((7 : Int) = 6) by decide), if_pos rfl]]
     exact ⟨rfl, _, rfl, hb140⟩

end Go.Proofs.YtmmokaockpghaaaGreatDoor
