/- Walks of functions over a symbolic memory, printed by a program of the session. -/
import Derived.Test.YtcojkkndmholaaaGreatDoorCa
import Derived.Test.YtcojkkndmholaaaGreatDoorBq
namespace Go.Proofs.YtcojkkndmholaaaGreatDoor
open Go.Sy
set_option linter.unusedSimpArgs false
set_option linter.unusedVariables false

theorem rcopyF {I : Imm} {O : Own} {kc : List Value} {b : Bk} (hk : BkR I kc b) (hM : BkM b) : Go.Sy.Does Tryz.prog 11 [.agg ⟨kc⟩] I O (FB (fun cs => .agg ⟨cs⟩) b O) := frzBk (U := fun cs => .agg ⟨cs⟩) (rbCopy_ok hk hM)

set_option maxHeartbeats 32000000 in
set_option maxRecDepth 20000 in
theorem rbDo_ok {I : Imm} {O : Own} {kc : List Value} {b : Bk} (hk : BkR I kc b) {oc : List Value} {o : Ordr} (ho : OrdrR I oc o) :
    Go.Sy.Does Tryz.prog 13 [.agg ⟨kc⟩, .agg ⟨oc⟩] I O (FB (fun cs => .tuple ⟨[.agg ⟨cs⟩, .agg ⟨[.int .i64 (doR b o).2.1, .string (doR b o).2.2]⟩]⟩) (doR b o).1 O) := by
  obtain ⟨okk, ond, otk, onm, oon, ofe⟩ := o
  have hk0 := hk
  obtain ⟨nv, tv, bv, rfl, hnv, htv, hbv⟩ := hk.ex
  have hnv0 := hnv
  have htv0 := htv
  have hbv0 := hbv
  obtain ⟨na, ncap, rfl, hn1, hn2, -⟩ := hnv
  obtain ⟨ta, tcap, rfl, ht1, ht2, -⟩ := htv
  obtain ⟨ba, bcap, rfl, hb1, hb2, -⟩ := hbv
  have ho0 := ho
  obtain ⟨lv, tv, wv, bv, rfl, hon, holv, hotv, hot, howv, hobv⟩ := ho.ex
  have hkd := ho0.kind
  obtain ⟨olva, olvc, rfl, -⟩ := holv
  obtain ⟨otva, otvc, rfl, -⟩ := hotv
  obtain ⟨owva, owvc, rfl, -⟩ := howv
  obtain ⟨obva, obvc, rfl, -⟩ := hobv
  refine Go.Sy.Does.enter Tryz.func13 rfl Tryz.ntmps13 rfl ?_
  refine .seq <| .region <| .on rfl <| .box rfl rfl rfl fun c1 _ _ => .on rfl <| .box rfl rfl rfl fun c2 _ _ => .on rfl <| .alloc zr27 rfl fun c3 _ _ => .on rfl <| .alloc zr40 rfl fun c4 _ _ => ?_
  refine .nil <| .go <| .seq <| .seq <| .region <| .e (.loadW ag27 sz27 rfl (.there <| .there <| .there <| .here) rfl) rfl rfl ?_
  refine .on rfl <| .callP cal25 rfl rfl rfl (rbCheck_ok hk0) <| .e (.neq rfl rfl) rfl rfl <| .nil <| .go ?_
  refine .split 10 rfl (fun h10 => ?_) (fun h10 => ?_)
  · skip
    first | replace h10 := of_decide_eq_false ((Bool.not_eq_true' _).mp h10) | replace h10 := of_decide_eq_false (by simpa using h10)
    refine .cond_true rfl <| .seq <| .region <| .e (.build bs27 zv27 rfl rfl) rfl rfl <| .e (.build bs40 zv40 rfl rfl) rfl rfl <| .on rfl <| .storeW sz27 rfl rfl rfl rfl rfl rfl (.there <| .here) ?_
    refine .on rfl <| .storeW sz40 rfl rfl rfl rfl rfl rfl .here <| .nil <| .go <| .ret <| .ret ?_
    refine Post.rets rfl (.agg rfl ag27 sz27 (.there <| .here) rfl (.agg rfl ag40 sz40 .here rfl .nil)) rfl (Imm.le_refl _) (fun w h => (Sat.tail (Sat.tail (Sat.tail (Sat.tail h))))) ?_
    rw [doR_no h10]
    exact ⟨rfl, _, rfl, ⟨⟨_, _, _, rfl, SlR.nil, SlR.nil, SlR.nil⟩, by unfold U64 bk0; decide⟩⟩
  · skip
    first | replace h10 := of_decide_eq_true ((Bool.not_eq_false' _).mp h10) | replace h10 := of_decide_eq_true (by simpa using h10)
    have hok := BookOk.of (bookWhy_ok h10)
    refine .cond_false rfl <| .skip <| .go <| .seq <| .region <| .e (.loadW ag27 sz27 rfl (.there <| .there <| .there <| .here) rfl) rfl rfl ?_
    refine .on rfl <| .call cal11 rfl rfl rfl (rcopyF hk0 (BkM.of hok)) fun v14 I14 O14 hI14 hK14 => ?_
    obtain ⟨rfl, cs14, rfl, hb14⟩ := hK14
    have hb140 := hb14
    obtain ⟨nv14, tv14, bv14, rfl, hn14, ht14, hx14⟩ := hb14.ex
    obtain ⟨_, _, rfl, -⟩ := hn14
    obtain ⟨_, _, rfl, htl14, -⟩ := ht14
    obtain ⟨_, _, rfl, -⟩ := hx14
    refine .on rfl <| .storeW sz27 rfl rfl rfl rfl rfl rfl (.there <| .there <| .there <| .here) <| .nil <| .go <| .seq <| .region <| .e (.loadW ag36 sz36 rfl (.there <| .there <| .here) rfl) rfl rfl ?_
    refine .on rfl <| .callP cal17 rfl rfl rfl (rCheckOrder_ok (ho0.mono hI14)) <| .e (.assign rfl) rfl rfl <| .nil <| .go <| .seq <| .seq ?_
    refine .region <| .e (.move rfl) rfl rfl <| .e (.neq rfl rfl) rfl rfl <| .nil <| .go ?_
    refine .split 18 rfl (fun h18 => ?_) (fun h18 => ?_)
    · skip
      first | replace h18 := of_decide_eq_false ((Bool.not_eq_true' _).mp h18) | replace h18 := of_decide_eq_false (by simpa using h18)
      refine .cond_true rfl <| .seq <| .region <| .e (.loadW ag27 sz27 rfl (.there <| .there <| .there <| .here) rfl) rfl rfl <| .e (.move rfl) rfl rfl <| .e (.build bs40 zv40 rfl rfl) rfl rfl ?_
      refine .on rfl <| .storeW sz27 rfl rfl rfl rfl rfl rfl (.there <| .here) <| .on rfl <| .storeW sz40 rfl rfl rfl rfl rfl rfl .here <| .nil <| .go <| .ret <| .ret ?_
      refine Post.rets rfl (.agg rfl ag27 sz27 (.there <| .here) rfl (.agg rfl ag40 sz40 .here rfl .nil)) rfl hI14 (fun w h => (Sat.tail (Sat.tail (Sat.tail (Sat.tail h))))) ?_
      have e4 := (orderWhy_no h18).2
      rw [e4]
      rw [doR_form h10 h18]
      exact ⟨rfl, _, rfl, hb140⟩
    · skip
      first | replace h18 := of_decide_eq_true ((Bool.not_eq_false' _).mp h18) | replace h18 := of_decide_eq_true (by simpa using h18)
      refine .cond_false rfl <| .skip <| .go <| .seq <| .region <| .e (.loadW ag27 sz27 rfl (.there <| .there <| .there <| .here) rfl) rfl rfl ?_
      refine .on rfl <| .alloc zr27 rfl fun c5 _ _ => .on rfl <| .storeW sz27 rfl rfl rfl rfl rfl rfl .here <| .nil <| .go <| .seq <| .seq ?_
      refine .region <| .e (.fieldAddr fo36_0 rfl) rfl rfl ?_
      have hkk := order_kinds (o := ⟨okk, ond, otk, onm, oon, ofe⟩) (orderWhy_ok h18)
      dsimp only at hkk
      rcases hkk with rfl | rfl | rfl | rfl | rfl | rfl | rfl
      · skip
        refine .e (.load ag28 rfl (.there <| .there <| .there <| .here) rfl) rfl rfl <| .nil <| .go <| .block <| .seq <| .seq ?_
        refine .region <| .e (.eql rfl rfl) rfl rfl <| .e (.assign rfl) rfl rfl <| .nil <| .go <| .cond_true rfl ?_
        refine .skip <| .go <| .cond_true rfl <| .region <| .e (.loadW ag27 sz27 rfl (.there <| .there <| .there <| .there <| .here) rfl) rfl rfl <| .e (.loadW ag36 sz36 rfl (.there <| .there <| .there <| .here) rfl) rfl rfl ?_
        refine .on rfl <| .call cal34 rfl rfl rfl (rnodes_ok hb140 hok (ho0.mono hI14)) fun v44 I44 O44 hI44 hK44 => ?_
        obtain ⟨rfl, cs44, rfl, hb44⟩ := hK44
        have hb440 := hb44
        obtain ⟨nv44, tv44, bv44, rfl, hn44, ht44, hx44⟩ := hb44.ex
        obtain ⟨_, _, rfl, -⟩ := hn44
        obtain ⟨_, _, rfl, htl44, -⟩ := ht44
        obtain ⟨_, _, rfl, -⟩ := hx44
        refine .e (.move rfl) rfl rfl <| .e (.extract rfl rfl) rfl rfl <| .e (.extract rfl rfl) rfl rfl <| .on rfl <| .storeW sz27 rfl rfl rfl rfl rfl rfl .here <| .e (.assign rfl) rfl rfl <| .nil ?_
        refine .blk_normal <| .go <| .seq <| .region <| .e (.loadW ag27 sz27 rfl .here rfl) rfl rfl <| .e (.move rfl) rfl rfl ?_
        refine .e (.build bs40 zv40 rfl rfl) rfl rfl <| .on rfl <| .storeW sz27 rfl rfl rfl rfl rfl rfl (.there <| .there <| .here) <| .on rfl <| .storeW sz40 rfl rfl rfl rfl rfl rfl (.there <| .here) <| .nil <| .go <| .ret ?_
        refine Post.rets rfl (.agg rfl ag27 sz27 (.there <| .there <| .here) rfl (.agg rfl ag40 sz40 (.there <| .here) rfl .nil)) rfl (Imm.le_trans hI14 hI44) (fun w h => (Sat.tail (Sat.tail (Sat.tail (Sat.tail (Sat.tail h)))))) ?_
        rw [show doR b (⟨1, ond, otk, onm, oon, ofe⟩ : Ordr) = ((nodesR b (⟨1, ond, otk, onm, oon, ofe⟩ : Ordr)).1, (nodesR b (⟨1, ond, otk, onm, oon, ofe⟩ : Ordr)).2, ⟨#[]⟩) from (doR_step h10 h18).trans rfl]
        exact ⟨rfl, _, rfl, hb440⟩
      · skip
        refine .e (.load ag28 rfl (.there <| .there <| .there <| .here) rfl) rfl rfl <| .nil <| .go <| .block <| .seq <| .seq ?_
        refine .region <| .e (.eql rfl rfl) rfl rfl <| .e (.assign rfl) rfl rfl <| .nil <| .go <| .cond_false rfl ?_
        refine .region <| .e (.eql rfl rfl) rfl rfl <| .e (.assign rfl) rfl rfl <| .nil <| .go <| .cond_true rfl ?_
        refine .region <| .e (.loadW ag27 sz27 rfl (.there <| .there <| .there <| .there <| .here) rfl) rfl rfl <| .e (.loadW ag36 sz36 rfl (.there <| .there <| .there <| .here) rfl) rfl rfl <| .on rfl <| .call cal34 rfl rfl rfl (rnodes_ok hb140 hok (ho0.mono hI14)) fun v44 I44 O44 hI44 hK44 => ?_
        obtain ⟨rfl, cs44, rfl, hb44⟩ := hK44
        have hb440 := hb44
        obtain ⟨nv44, tv44, bv44, rfl, hn44, ht44, hx44⟩ := hb44.ex
        obtain ⟨_, _, rfl, -⟩ := hn44
        obtain ⟨_, _, rfl, htl44, -⟩ := ht44
        obtain ⟨_, _, rfl, -⟩ := hx44
        refine .e (.move rfl) rfl rfl <| .e (.extract rfl rfl) rfl rfl <| .e (.extract rfl rfl) rfl rfl <| .on rfl <| .storeW sz27 rfl rfl rfl rfl rfl rfl .here <| .e (.assign rfl) rfl rfl <| .nil ?_
        refine .blk_normal <| .go <| .seq <| .region <| .e (.loadW ag27 sz27 rfl .here rfl) rfl rfl <| .e (.move rfl) rfl rfl ?_
        refine .e (.build bs40 zv40 rfl rfl) rfl rfl <| .on rfl <| .storeW sz27 rfl rfl rfl rfl rfl rfl (.there <| .there <| .here) <| .on rfl <| .storeW sz40 rfl rfl rfl rfl rfl rfl (.there <| .here) <| .nil <| .go <| .ret ?_
        refine Post.rets rfl (.agg rfl ag27 sz27 (.there <| .there <| .here) rfl (.agg rfl ag40 sz40 (.there <| .here) rfl .nil)) rfl (Imm.le_trans hI14 hI44) (fun w h => (Sat.tail (Sat.tail (Sat.tail (Sat.tail (Sat.tail h)))))) ?_
        rw [show doR b (⟨2, ond, otk, onm, oon, ofe⟩ : Ordr) = ((nodesR b (⟨2, ond, otk, onm, oon, ofe⟩ : Ordr)).1, (nodesR b (⟨2, ond, otk, onm, oon, ofe⟩ : Ordr)).2, ⟨#[]⟩) from (doR_step h10 h18).trans rfl]
        exact ⟨rfl, _, rfl, hb440⟩
      · skip
        refine .e (.load ag28 rfl (.there <| .there <| .there <| .here) rfl) rfl rfl <| .nil <| .go <| .block <| .seq <| .seq ?_
        refine .region <| .e (.eql rfl rfl) rfl rfl <| .e (.assign rfl) rfl rfl <| .nil <| .go <| .cond_false rfl ?_
        refine .region <| .e (.eql rfl rfl) rfl rfl <| .e (.assign rfl) rfl rfl <| .nil <| .go <| .cond_false rfl ?_
        refine .seq <| .seq <| .region <| .e (.eql rfl rfl) rfl rfl <| .e (.assign rfl) rfl rfl <| .nil ?_
        refine .go <| .cond_true rfl <| .skip <| .go <| .cond_true rfl <| .region ?_
        refine .e (.loadW ag27 sz27 rfl (.there <| .there <| .there <| .there <| .here) rfl) rfl rfl <| .e (.loadW ag36 sz36 rfl (.there <| .there <| .there <| .here) rfl) rfl rfl <| .on rfl <| .call cal35 rfl rfl rfl (rtasks_ok hb140 hok (ho0.mono hI14) (.inl rfl)) fun v54 I54 O54 hI54 hK54 => ?_
        obtain ⟨rfl, cs54, rfl, hb54⟩ := hK54
        have hb540 := hb54
        obtain ⟨nv54, tv54, bv54, rfl, hn54, ht54, hx54⟩ := hb54.ex
        obtain ⟨_, _, rfl, -⟩ := hn54
        obtain ⟨_, _, rfl, htl54, -⟩ := ht54
        obtain ⟨_, _, rfl, -⟩ := hx54
        refine .e (.move rfl) rfl rfl <| .e (.extract rfl rfl) rfl rfl <| .e (.extract rfl rfl) rfl rfl <| .on rfl <| .storeW sz27 rfl rfl rfl rfl rfl rfl .here <| .e (.assign rfl) rfl rfl <| .nil ?_
        refine .blk_normal <| .go <| .seq <| .region <| .e (.loadW ag27 sz27 rfl .here rfl) rfl rfl <| .e (.move rfl) rfl rfl ?_
        refine .e (.build bs40 zv40 rfl rfl) rfl rfl <| .on rfl <| .storeW sz27 rfl rfl rfl rfl rfl rfl (.there <| .there <| .here) <| .on rfl <| .storeW sz40 rfl rfl rfl rfl rfl rfl (.there <| .here) <| .nil <| .go <| .ret ?_
        refine Post.rets rfl (.agg rfl ag27 sz27 (.there <| .there <| .here) rfl (.agg rfl ag40 sz40 (.there <| .here) rfl .nil)) rfl (Imm.le_trans hI14 hI54) (fun w h => (Sat.tail (Sat.tail (Sat.tail (Sat.tail (Sat.tail h)))))) ?_
        rw [show doR b (⟨3, ond, otk, onm, oon, ofe⟩ : Ordr) = ((tasksR b (⟨3, ond, otk, onm, oon, ofe⟩ : Ordr)).1, (tasksR b (⟨3, ond, otk, onm, oon, ofe⟩ : Ordr)).2, ⟨#[]⟩) from (doR_step h10 h18).trans rfl]
        exact ⟨rfl, _, rfl, hb540⟩
      · skip
        refine .e (.load ag28 rfl (.there <| .there <| .there <| .here) rfl) rfl rfl <| .nil <| .go <| .block <| .seq <| .seq ?_
        refine .region <| .e (.eql rfl rfl) rfl rfl <| .e (.assign rfl) rfl rfl <| .nil <| .go <| .cond_false rfl ?_
        refine .region <| .e (.eql rfl rfl) rfl rfl <| .e (.assign rfl) rfl rfl <| .nil <| .go <| .cond_false rfl ?_
        refine .seq <| .seq <| .region <| .e (.eql rfl rfl) rfl rfl <| .e (.assign rfl) rfl rfl <| .nil ?_
        refine .go <| .cond_false rfl <| .seq <| .region <| .e (.eql rfl rfl) rfl rfl <| .e (.assign rfl) rfl rfl ?_
        refine .nil <| .go <| .cond_true rfl <| .skip <| .go <| .cond_true rfl ?_
        refine .region <| .e (.loadW ag27 sz27 rfl (.there <| .there <| .there <| .there <| .here) rfl) rfl rfl <| .e (.loadW ag36 sz36 rfl (.there <| .there <| .there <| .here) rfl) rfl rfl <| .on rfl <| .call cal35 rfl rfl rfl (rtasks_ok hb140 hok (ho0.mono hI14) (.inr (.inl rfl))) fun v54 I54 O54 hI54 hK54 => ?_
        obtain ⟨rfl, cs54, rfl, hb54⟩ := hK54
        have hb540 := hb54
        obtain ⟨nv54, tv54, bv54, rfl, hn54, ht54, hx54⟩ := hb54.ex
        obtain ⟨_, _, rfl, -⟩ := hn54
        obtain ⟨_, _, rfl, htl54, -⟩ := ht54
        obtain ⟨_, _, rfl, -⟩ := hx54
        refine .e (.move rfl) rfl rfl <| .e (.extract rfl rfl) rfl rfl <| .e (.extract rfl rfl) rfl rfl <| .on rfl <| .storeW sz27 rfl rfl rfl rfl rfl rfl .here <| .e (.assign rfl) rfl rfl <| .nil ?_
        refine .blk_normal <| .go <| .seq <| .region <| .e (.loadW ag27 sz27 rfl .here rfl) rfl rfl <| .e (.move rfl) rfl rfl ?_
        refine .e (.build bs40 zv40 rfl rfl) rfl rfl <| .on rfl <| .storeW sz27 rfl rfl rfl rfl rfl rfl (.there <| .there <| .here) <| .on rfl <| .storeW sz40 rfl rfl rfl rfl rfl rfl (.there <| .here) <| .nil <| .go <| .ret ?_
        refine Post.rets rfl (.agg rfl ag27 sz27 (.there <| .there <| .here) rfl (.agg rfl ag40 sz40 (.there <| .here) rfl .nil)) rfl (Imm.le_trans hI14 hI54) (fun w h => (Sat.tail (Sat.tail (Sat.tail (Sat.tail (Sat.tail h)))))) ?_
        rw [show doR b (⟨4, ond, otk, onm, oon, ofe⟩ : Ordr) = ((tasksR b (⟨4, ond, otk, onm, oon, ofe⟩ : Ordr)).1, (tasksR b (⟨4, ond, otk, onm, oon, ofe⟩ : Ordr)).2, ⟨#[]⟩) from (doR_step h10 h18).trans (Prod.ext rfl (Prod.ext rfl (of_text (b := b) (o := (⟨4, ond, otk, onm, oon, ofe⟩ : Ordr)) (.inl rfl))))]
        exact ⟨rfl, _, rfl, hb540⟩
      · skip
        refine .e (.load ag28 rfl (.there <| .there <| .there <| .here) rfl) rfl rfl <| .nil <| .go <| .block <| .seq <| .seq ?_
        refine .region <| .e (.eql rfl rfl) rfl rfl <| .e (.assign rfl) rfl rfl <| .nil <| .go <| .cond_false rfl ?_
        refine .region <| .e (.eql rfl rfl) rfl rfl <| .e (.assign rfl) rfl rfl <| .nil <| .go <| .cond_false rfl ?_
        refine .seq <| .seq <| .region <| .e (.eql rfl rfl) rfl rfl <| .e (.assign rfl) rfl rfl <| .nil ?_
        refine .go <| .cond_false rfl <| .seq <| .region <| .e (.eql rfl rfl) rfl rfl <| .e (.assign rfl) rfl rfl ?_
        refine .nil <| .go <| .cond_false rfl <| .region <| .e (.eql rfl rfl) rfl rfl <| .e (.assign rfl) rfl rfl ?_
        refine .nil <| .go <| .cond_false rfl <| .seq <| .region <| .e (.eql rfl rfl) rfl rfl ?_
        refine .e (.assign rfl) rfl rfl <| .nil <| .go <| .cond_true rfl <| .seq <| .seq ?_
        refine .region <| .e (.fieldAddr fo36_5 rfl) rfl rfl <| .e (.load ag25 rfl (.there <| .there <| .there <| .here) rfl) rfl rfl <| .e (.fieldAddr fo27_3 rfl) rfl rfl <| .e (.load ag25 rfl (.there <| .there <| .there <| .there <| .here) rfl) rfl rfl <| .e (.lss rfl rfl) rfl rfl ?_
        refine .nil <| .go ?_
        refine .split 63 rfl (fun h63 => ?_) (fun h63 => ?_)
        · skip
          replace h63 := of_decide_eq_true h63
          refine .cond_true rfl <| .seq <| .region <| .e (.loadW ag27 sz27 rfl (.there <| .there <| .there <| .there <| .here) rfl) rfl rfl <| .e (.build bs40 zv40 rfl rfl) rfl rfl <| .on rfl <| .storeW sz27 rfl rfl rfl rfl rfl rfl (.there <| .there <| .here) ?_
          refine .on rfl <| .storeW sz40 rfl rfl rfl rfl rfl rfl (.there <| .here) <| .nil <| .go <| .ret <| .ret <| .blk_ret ?_
          refine .ret ?_
          refine Post.rets rfl (.agg rfl ag27 sz27 (.there <| .there <| .here) rfl (.agg rfl ag40 sz40 (.there <| .here) rfl .nil)) rfl hI14 (fun w h => (Sat.tail (Sat.tail (Sat.tail (Sat.tail (Sat.tail h)))))) ?_
          rw [show doR b (⟨5, ond, otk, onm, oon, ofe⟩ : Ordr) = ((placeR b (⟨5, ond, otk, onm, oon, ofe⟩ : Ordr)).1, (placeR b (⟨5, ond, otk, onm, oon, ofe⟩ : Ordr)).2, ⟨#[]⟩) from (doR_step h10 h18).trans rfl, show placeR b (⟨5, ond, otk, onm, oon, ofe⟩ : Ordr) = (b, 14) by unfold placeR; rw [if_pos h63]]
          exact ⟨rfl, _, rfl, hb140⟩
        · skip
          replace h63 := of_decide_eq_false h63
          refine .cond_false rfl <| .skip <| .go <| .seq <| .region <| .e (.loadW ag27 sz27 rfl (.there <| .there <| .there <| .there <| .here) rfl) rfl rfl ?_
          refine .e (.fieldAddr fo36_3 rfl) rfl rfl <| .e (.load ag9 rfl (.there <| .there <| .there <| .here) rfl) rfl rfl <| .e (.fieldAddr fo36_4 rfl) rfl rfl <| .e (.load ag9 rfl (.there <| .there <| .there <| .here) rfl) rfl rfl <| .on rfl <| .callP cal36 rfl rfl rfl (rcan_ok hb140 hok) <| .e (.assign rfl) rfl rfl ?_
          refine .nil <| .go <| .seq <| .region <| .e (.move rfl) rfl rfl <| .e (.eql rfl rfl) rfl rfl ?_
          refine .nil <| .go ?_
          refine .split 73 rfl (fun h73 => ?_) (fun h73 => ?_)
          · skip
            replace h73 := of_decide_eq_true h73
            refine .cond_true rfl <| .region <| .e (.loadW ag27 sz27 rfl (.there <| .there <| .there <| .there <| .here) rfl) rfl rfl <| .e (.fieldAddr fo36_3 rfl) rfl rfl <| .e (.load ag9 rfl (.there <| .there <| .there <| .here) rfl) rfl rfl <| .e (.fieldAddr fo36_4 rfl) rfl rfl ?_
            refine .e (.load ag9 rfl (.there <| .there <| .there <| .here) rfl) rfl rfl <| .e (.build bs56 zv56 rfl rfl) rfl rfl <| .on rfl <| .call cal37 rfl rfl rfl (rwithBind_ok hb140 (x := ⟨onm, oon⟩) ⟨rfl, ho0.name, ho0.on⟩ (by have := hok.binds; omega)) fun v80 I80 O80 hI80 hK80 => ?_
            obtain ⟨rfl, cs80, rfl, hb80⟩ := hK80
            have hb800 := hb80
            obtain ⟨nv80, tv80, bv80, rfl, hn80, ht80, hx80⟩ := hb80.ex
            obtain ⟨_, _, rfl, -⟩ := hn80
            obtain ⟨_, _, rfl, htl80, -⟩ := ht80
            obtain ⟨_, _, rfl, -⟩ := hx80
            refine .on rfl <| .storeW sz27 rfl rfl rfl rfl rfl rfl .here <| .nil <| .blk_normal <| .go <| .seq <| .region ?_
            refine .e (.loadW ag27 sz27 rfl .here rfl) rfl rfl <| .e (.move rfl) rfl rfl <| .e (.build bs40 zv40 rfl rfl) rfl rfl <| .on rfl <| .storeW sz27 rfl rfl rfl rfl rfl rfl (.there <| .there <| .here) <| .on rfl <| .storeW sz40 rfl rfl rfl rfl rfl rfl (.there <| .here) <| .nil ?_
            refine .go <| .ret ?_
            refine Post.rets rfl (.agg rfl ag27 sz27 (.there <| .there <| .here) rfl (.agg rfl ag40 sz40 (.there <| .here) rfl .nil)) rfl (Imm.le_trans hI14 hI80) (fun w h => (Sat.tail (Sat.tail (Sat.tail (Sat.tail (Sat.tail h)))))) ?_
            rw [h73]
            rw [show doR b (⟨5, ond, otk, onm, oon, ofe⟩ : Ordr) = ((placeR b (⟨5, ond, otk, onm, oon, ofe⟩ : Ordr)).1, (placeR b (⟨5, ond, otk, onm, oon, ofe⟩ : Ordr)).2, ⟨#[]⟩) from (doR_step h10 h18).trans rfl, show placeR b (⟨5, ond, otk, onm, oon, ofe⟩ : Ordr) = ({ b with binds := insAt b.binds (posB b onm) ⟨onm, oon⟩ }, 0) by unfold placeR; rw [if_neg h63, if_pos h73]]
            exact ⟨rfl, _, rfl, hb800⟩
          · skip
            replace h73 := of_decide_eq_false h73
            refine .cond_false rfl <| .skip <| .blk_normal <| .go <| .seq <| .region ?_
            refine .e (.loadW ag27 sz27 rfl .here rfl) rfl rfl <| .e (.move rfl) rfl rfl <| .e (.build bs40 zv40 rfl rfl) rfl rfl <| .on rfl <| .storeW sz27 rfl rfl rfl rfl rfl rfl (.there <| .there <| .here) <| .on rfl <| .storeW sz40 rfl rfl rfl rfl rfl rfl (.there <| .here) <| .nil ?_
            refine .go <| .ret ?_
            refine Post.rets rfl (.agg rfl ag27 sz27 (.there <| .there <| .here) rfl (.agg rfl ag40 sz40 (.there <| .here) rfl .nil)) rfl hI14 (fun w h => (Sat.tail (Sat.tail (Sat.tail (Sat.tail (Sat.tail h)))))) ?_
            rw [show doR b (⟨5, ond, otk, onm, oon, ofe⟩ : Ordr) = ((placeR b (⟨5, ond, otk, onm, oon, ofe⟩ : Ordr)).1, (placeR b (⟨5, ond, otk, onm, oon, ofe⟩ : Ordr)).2, ⟨#[]⟩) from (doR_step h10 h18).trans rfl, show placeR b (⟨5, ond, otk, onm, oon, ofe⟩ : Ordr) = (b, canR b onm oon) by unfold placeR; rw [if_neg h63, if_neg h73]]
            exact ⟨rfl, _, rfl, hb140⟩
      · skip
        refine .e (.load ag28 rfl (.there <| .there <| .there <| .here) rfl) rfl rfl <| .nil <| .go <| .block <| .seq <| .seq ?_
        refine .region <| .e (.eql rfl rfl) rfl rfl <| .e (.assign rfl) rfl rfl <| .nil <| .go <| .cond_false rfl ?_
        refine .region <| .e (.eql rfl rfl) rfl rfl <| .e (.assign rfl) rfl rfl <| .nil <| .go <| .cond_false rfl ?_
        refine .seq <| .seq <| .region <| .e (.eql rfl rfl) rfl rfl <| .e (.assign rfl) rfl rfl <| .nil ?_
        refine .go <| .cond_false rfl <| .seq <| .region <| .e (.eql rfl rfl) rfl rfl <| .e (.assign rfl) rfl rfl ?_
        refine .nil <| .go <| .cond_false rfl <| .region <| .e (.eql rfl rfl) rfl rfl <| .e (.assign rfl) rfl rfl ?_
        refine .nil <| .go <| .cond_true rfl <| .region <| .e (.loadW ag27 sz27 rfl (.there <| .there <| .there <| .there <| .here) rfl) rfl rfl <| .e (.loadW ag36 sz36 rfl (.there <| .there <| .there <| .here) rfl) rfl rfl ?_
        refine .on rfl <| .call cal35 rfl rfl rfl (rtasks_ok hb140 hok (ho0.mono hI14) (.inr (.inr rfl))) fun v54 I54 O54 hI54 hK54 => ?_
        obtain ⟨rfl, cs54, rfl, hb54⟩ := hK54
        have hb540 := hb54
        obtain ⟨nv54, tv54, bv54, rfl, hn54, ht54, hx54⟩ := hb54.ex
        obtain ⟨_, _, rfl, -⟩ := hn54
        obtain ⟨_, _, rfl, htl54, -⟩ := ht54
        obtain ⟨_, _, rfl, -⟩ := hx54
        refine .e (.move rfl) rfl rfl <| .e (.extract rfl rfl) rfl rfl <| .e (.extract rfl rfl) rfl rfl <| .on rfl <| .storeW sz27 rfl rfl rfl rfl rfl rfl .here <| .e (.assign rfl) rfl rfl <| .nil ?_
        refine .blk_normal <| .go <| .seq <| .region <| .e (.loadW ag27 sz27 rfl .here rfl) rfl rfl <| .e (.move rfl) rfl rfl ?_
        refine .e (.build bs40 zv40 rfl rfl) rfl rfl <| .on rfl <| .storeW sz27 rfl rfl rfl rfl rfl rfl (.there <| .there <| .here) <| .on rfl <| .storeW sz40 rfl rfl rfl rfl rfl rfl (.there <| .here) <| .nil <| .go <| .ret ?_
        refine Post.rets rfl (.agg rfl ag27 sz27 (.there <| .there <| .here) rfl (.agg rfl ag40 sz40 (.there <| .here) rfl .nil)) rfl (Imm.le_trans hI14 hI54) (fun w h => (Sat.tail (Sat.tail (Sat.tail (Sat.tail (Sat.tail h)))))) ?_
        rw [show doR b (⟨6, ond, otk, onm, oon, ofe⟩ : Ordr) = ((tasksR b (⟨6, ond, otk, onm, oon, ofe⟩ : Ordr)).1, (tasksR b (⟨6, ond, otk, onm, oon, ofe⟩ : Ordr)).2, ⟨#[]⟩) from (doR_step h10 h18).trans (Prod.ext rfl (Prod.ext rfl (of_text (b := b) (o := (⟨6, ond, otk, onm, oon, ofe⟩ : Ordr)) (.inr rfl))))]
        exact ⟨rfl, _, rfl, hb540⟩
      · skip
        refine .e (.load ag28 rfl (.there <| .there <| .there <| .here) rfl) rfl rfl <| .nil <| .go <| .block <| .seq <| .seq ?_
        refine .region <| .e (.eql rfl rfl) rfl rfl <| .e (.assign rfl) rfl rfl <| .nil <| .go <| .cond_false rfl ?_
        refine .region <| .e (.eql rfl rfl) rfl rfl <| .e (.assign rfl) rfl rfl <| .nil <| .go <| .cond_false rfl ?_
        refine .seq <| .seq <| .region <| .e (.eql rfl rfl) rfl rfl <| .e (.assign rfl) rfl rfl <| .nil ?_
        refine .go <| .cond_false rfl <| .seq <| .region <| .e (.eql rfl rfl) rfl rfl <| .e (.assign rfl) rfl rfl ?_
        refine .nil <| .go <| .cond_false rfl <| .region <| .e (.eql rfl rfl) rfl rfl <| .e (.assign rfl) rfl rfl ?_
        refine .nil <| .go <| .cond_false rfl <| .seq <| .region <| .e (.eql rfl rfl) rfl rfl ?_
        refine .e (.assign rfl) rfl rfl <| .nil <| .go <| .cond_false rfl <| .seq <| .seq ?_
        refine .region <| .e (.loadW ag27 sz27 rfl (.there <| .there <| .there <| .there <| .here) rfl) rfl rfl <| .e (.fieldAddr fo36_3 rfl) rfl rfl <| .e (.load ag9 rfl (.there <| .there <| .there <| .here) rfl) rfl rfl <| .on rfl <| .callP cal38 rfl rfl rfl (rixT_ok hb140) <| .e ((EV.cast (.lss rfl rfl) (congrArg Value.bool (ix_lt (nm := fun x : Tsk => x.name))))) rfl rfl ?_
        refine .nil <| .go ?_
        refine .split 29 rfl (fun h29 => ?_) (fun h29 => ?_)
        · skip
          refine .cond_true rfl <| .seq <| .region <| .e (.loadW ag27 sz27 rfl (.there <| .there <| .there <| .there <| .here) rfl) rfl rfl <| .e (.build bs40 zv40 rfl rfl) rfl rfl <| .on rfl <| .storeW sz27 rfl rfl rfl rfl rfl rfl (.there <| .there <| .here) ?_
          refine .on rfl <| .storeW sz40 rfl rfl rfl rfl rfl rfl (.there <| .here) <| .nil <| .go <| .ret <| .ret <| .blk_ret ?_
          refine .ret ?_
          refine Post.rets rfl (.agg rfl ag27 sz27 (.there <| .there <| .here) rfl (.agg rfl ag40 sz40 (.there <| .here) rfl .nil)) rfl hI14 (fun w h => (Sat.tail (Sat.tail (Sat.tail (Sat.tail (Sat.tail h)))))) ?_
          rw [show doR b (⟨7, ond, otk, onm, oon, ofe⟩ : Ordr) = ofR b (⟨7, ond, otk, onm, oon, ofe⟩ : Ordr) from (doR_step h10 h18).trans rfl, show ofR b (⟨7, ond, otk, onm, oon, ofe⟩ : Ordr) = (b, 6, ⟨#[]⟩) by unfold ofR; rw [if_neg (show ¬hasT b onm = true from Bool.eq_false_iff.1 ((Bool.not_eq_true' _).mp h29))]]
          exact ⟨rfl, _, rfl, hb140⟩
        · skip
          refine .cond_false rfl <| .skip <| .go <| .seq ?_
          refine .draw [(c1, _), (c2, _)] mixed (.cons (.there <| .there <| .there <| .there <| .here) (.cons (.there <| .there <| .there <| .here) .nil)) ?_
          refine .t 0 rfl (.loadW ag27 sz27 rfl .here rfl) rfl rfl (by kernel_rfl) <| .t 1 rfl (.loadW ag27 sz27 rfl .here rfl) rfl rfl (by kernel_rfl) <| .t 2 rfl (.fieldAddr fo36_3 rfl) rfl rfl (by kernel_rfl) <| .t 3 rfl (.load ag9 rfl (.there <| .here) rfl) rfl rfl (by kernel_rfl) <| .one (i := 4) (by kernel_rfl) rfl rfl <| .callP cal39 rfl rfl rfl (rOn_ok hb140) ?_
          refine ⟨(.cons (.there <| .there <| .there <| .there <| .here) (.cons (.there <| .there <| .there <| .here) .nil)), Imm.le_refl _, ?_⟩
          refine .t 5 rfl (.build bs40 zv40 rfl rfl) rfl rfl (by kernel_rfl) <| .one (i := 6) (by kernel_rfl) rfl rfl <| .storeW sz27 rfl rfl rfl rfl rfl rfl (.there <| .there <| .here) ?_
          refine ⟨(.cons (.there <| .there <| .there <| .there <| .here) (.cons (.there <| .there <| .there <| .here) .nil)), Imm.le_refl _, ?_⟩
          refine .late (i := 7) (by kernel_rfl) (by kernel_rfl) (by kernel_rfl) rfl rfl <| .storeW sz40 rfl rfl rfl rfl rfl rfl (.there <| .here) <| .go <| .ret <| .blk_ret <| .ret ?_
          refine Post.rets rfl (.agg rfl ag27 sz27 (.there <| .there <| .here) rfl (.agg rfl ag40 sz40 (.there <| .here) rfl .nil)) rfl hI14 (fun w h => (Sat.tail (Sat.tail (Sat.tail (Sat.tail (Sat.tail h)))))) ?_
          rw [show doR b (⟨7, ond, otk, onm, oon, ofe⟩ : Ordr) = ofR b (⟨7, ond, otk, onm, oon, ofe⟩ : Ordr) from (doR_step h10 h18).trans rfl, show ofR b (⟨7, ond, otk, onm, oon, ofe⟩ : Ordr) = (b, 0, onR b onm) by unfold ofR; rw [if_pos (show hasT b onm = true from (Bool.not_eq_false' _).mp h29), if_neg (show ¬((7 : Int) = 4) by decide), if_neg (show ¬((7 : Int) = 6) by decide), if_pos rfl]]
          exact ⟨rfl, _, rfl, hb140⟩

set_option maxHeartbeats 4000000 in
set_option maxRecDepth 20000 in
theorem rbLead_ok {I : Imm} {O : Own} {kc : List Value} {b : Bk} (hk : BkR I kc b) {t : Int} (ht : U64 t) :
    Go.Sy.Does Tryz.prog 23 [.agg ⟨kc⟩, .int .u64 t] I O (FB (fun cs => .tuple ⟨[.agg ⟨cs⟩, .int .i64 (leadR b t).2]⟩) (leadR b t).1 O) := by
  have hk0 := hk
  obtain ⟨nv, tv, bv, rfl, hnv, htv, hbv⟩ := hk.ex
  have hnv0 := hnv
  have htv0 := htv
  have hbv0 := hbv
  obtain ⟨na, ncap, rfl, hn1, hn2, -⟩ := hnv
  obtain ⟨ta, tcap, rfl, ht1, ht2, -⟩ := htv
  obtain ⟨ba, bcap, rfl, hb1, hb2, -⟩ := hbv
  refine Go.Sy.Does.enter Tryz.func23 rfl Tryz.ntmps23 rfl ?_
  refine .seq <| .region <| .on rfl <| .box rfl rfl rfl fun c1 _ _ => .on rfl <| .alloc zr27 rfl fun c2 _ _ => .e (.assign rfl) rfl rfl <| .nil ?_
  refine .go <| .seq <| .seq <| .region <| .e (.loadW ag27 sz27 rfl (.there <| .here) rfl) rfl rfl <| .on rfl <| .callP cal25 rfl rfl rfl (rbCheck_ok hk0) ?_
  refine .e (.neq rfl rfl) rfl rfl <| .nil <| .go ?_
  refine .split 8 rfl (fun h8 => ?_) (fun h8 => ?_)
  · skip
    first | replace h8 := of_decide_eq_false ((Bool.not_eq_true' _).mp h8) | replace h8 := of_decide_eq_false (by simpa using h8)
    refine .cond_true rfl <| .seq <| .region <| .e (.build bs27 zv27 rfl rfl) rfl rfl <| .on rfl <| .storeW sz27 rfl rfl rfl rfl rfl rfl .here <| .e (.assign rfl) rfl rfl ?_
    refine .nil <| .go <| .ret <| .ret ?_
    refine Post.rets rfl (.agg rfl ag27 sz27 .here rfl (.tmp rfl .nil)) rfl (Imm.le_refl _) (fun w h => (Sat.tail (Sat.tail h))) ?_
    rw [show leadR b t = (bk0, 10) by unfold leadR; rw [(bookWhy_no h8).1, if_neg (by simp)]]
    exact ⟨rfl, _, rfl, ⟨⟨_, _, _, rfl, SlR.nil, SlR.nil, SlR.nil⟩, by unfold U64 bk0; decide⟩⟩
  · skip
    first | replace h8 := of_decide_eq_true ((Bool.not_eq_false' _).mp h8) | replace h8 := of_decide_eq_true (by simpa using h8)
    have hok := BookOk.of (bookWhy_ok h8)
    refine .cond_false rfl <| .skip <| .go <| .seq <| .region <| .e (.loadW ag27 sz27 rfl (.there <| .here) rfl) rfl rfl ?_
    refine .on rfl <| .call cal11 rfl rfl rfl (rcopyF hk0 (BkM.of hok)) fun v11 I11 O11 hI11 hK11 => ?_
    obtain ⟨rfl, cs11, rfl, hb11⟩ := hK11
    have hb110 := hb11
    obtain ⟨nv11, tv11, bv11, rfl, hn11, ht11, hx11⟩ := hb11.ex
    obtain ⟨_, _, rfl, -⟩ := hn11
    obtain ⟨_, _, rfl, htl11, -⟩ := ht11
    obtain ⟨_, _, rfl, -⟩ := hx11
    refine .on rfl <| .storeW sz27 rfl rfl rfl rfl rfl rfl (.there <| .here) <| .nil <| .go <| .seq <| .seq <| .region ?_
    refine .e (.move rfl) rfl rfl <| .e (.fieldAddr fo27_3 rfl) rfl rfl <| .e (.load ag25 rfl (.there <| .here) rfl) rfl rfl <| .e (.gtr rfl rfl) rfl rfl <| .nil <| .go ?_
    refine .split 15 rfl (fun h15 => ?_) (fun h15 => ?_)
    · skip
      replace h15 := of_decide_eq_true h15
      refine .cond_true rfl <| .region <| .e (.move rfl) rfl rfl <| .e (.fieldAddr fo27_3 rfl) rfl rfl <| .on rfl <| .store sz25 rfl rfl rfl rfl rfl rfl (.there <| .here) <| .nil ?_
      refine .go <| .seq <| .region <| .e (.loadW ag27 sz27 rfl (.there <| .here) rfl) rfl rfl <| .on rfl <| .storeW sz27 rfl rfl rfl rfl rfl rfl .here <| .e (.assign rfl) rfl rfl ?_
      refine .nil <| .go <| .ret ?_
      refine Post.rets rfl (.agg rfl ag27 sz27 .here rfl (.tmp rfl .nil)) rfl hI11 (fun w h => (Sat.tail (Sat.tail h))) ?_
      rw [show leadR b t = ({ b with fence := max b.fence t }, 0) by unfold leadR; rw [if_pos (bookWhy_ok h8)], show max b.fence t = t by omega]
      obtain ⟨nvZ, tvZ, bvZ, eZ, h1Z, h2Z, h3Z⟩ := hb110.ex
      cases eZ
      exact ⟨rfl, _, rfl, ⟨⟨_, _, _, rfl, h1Z, h2Z, h3Z⟩, ht⟩⟩
    · skip
      replace h15 := of_decide_eq_false h15
      refine .cond_false rfl <| .skip <| .go <| .seq <| .region <| .e (.loadW ag27 sz27 rfl (.there <| .here) rfl) rfl rfl ?_
      refine .on rfl <| .storeW sz27 rfl rfl rfl rfl rfl rfl .here <| .e (.assign rfl) rfl rfl <| .nil <| .go <| .ret ?_
      refine Post.rets rfl (.agg rfl ag27 sz27 .here rfl (.tmp rfl .nil)) rfl hI11 (fun w h => (Sat.tail (Sat.tail h))) ?_
      rw [show leadR b t = ({ b with fence := max b.fence t }, 0) by unfold leadR; rw [if_pos (bookWhy_ok h8)], show max b.fence t = b.fence by omega]
      obtain ⟨nvZ, tvZ, bvZ, eZ, h1Z, h2Z, h3Z⟩ := hb110.ex
      cases eZ
      exact ⟨rfl, _, rfl, ⟨⟨_, _, _, rfl, h1Z, h2Z, h3Z⟩, hk0.fence⟩⟩

theorem eqTold {p q : Int × ByteArray} : EqOk Tryz.prog 40 (.agg ⟨[.int .i64 p.1, .string p.2]⟩) (.agg ⟨[.int .i64 q.1, .string q.2]⟩) (decide (p = q)) := by
  have e : decide (p = q) = (decide (p.1 = q.1) && (decide (p.2 = q.2) && true)) := by cases p; cases q; simp
  rw [e]
  refine .struct Tryz.underlying40 (by kernel_rfl) (by kernel_rfl) ?_
  exact ⟨_, _, _, _, rfl, run_part ag38 rfl, run_part ag38 rfl, fun w => equalIn_int Tryz.underlying38, ⟨_, _, _, _, rfl, run_part ag9 rfl, run_part ag9 rfl, fun w => equalIn_str Tryz.underlying9, rfl, rfl⟩, rfl⟩

set_option maxHeartbeats 16000000 in
set_option maxRecDepth 20000 in
theorem BookDoes_ok {I : Imm} {O : Own} {kc : List Value} {b : Bk} (hk : BkR I kc b) (hM : BkM b) {oc : List Value} {o : Ordr} (ho : OrdrR I oc o) (hS : OrdS o) :
    Pure Tryz.prog 3 [.agg ⟨kc⟩, .agg ⟨oc⟩] I O (.bool true) := by
  have hk0 := hk
  obtain ⟨nv, tv, bv, rfl, hnv, htv, hbv⟩ := hk.ex
  have hnv0 := hnv
  have htv0 := htv
  have hbv0 := hbv
  obtain ⟨na, ncap, rfl, hn1, hn2, -⟩ := hnv
  obtain ⟨ta, tcap, rfl, ht1, ht2, -⟩ := htv
  obtain ⟨ba, bcap, rfl, hb1, hb2, -⟩ := hbv
  have ho0 := ho
  obtain ⟨lv, tv, wv, bv, rfl, hon, holv, hotv, hot, howv, hobv⟩ := ho.ex
  have hkd := ho0.kind
  obtain ⟨olva, olvc, rfl, -⟩ := holv
  obtain ⟨otva, otvc, rfl, -⟩ := hotv
  obtain ⟨owva, owvc, rfl, -⟩ := howv
  obtain ⟨obva, obvc, rfl, -⟩ := hobv
  refine Go.Sy.Does.enter Tryz.func3 rfl Tryz.ntmps3 rfl ?_
  refine .seq <| .region <| .on rfl <| .box rfl rfl rfl fun c1 _ _ => .on rfl <| .box rfl rfl rfl fun c2 _ _ => .e (.assign rfl) rfl rfl <| .nil ?_
  refine .go <| .seq <| .region <| .e (.loadW ag27 sz27 rfl (.there <| .here) rfl) rfl rfl <| .on rfl <| .call cal11 rfl rfl rfl (rcopyF hk0 hM) fun v11 I11 O11 hI11 hK11 => ?_
  obtain ⟨rfl, cs11, rfl, hb11⟩ := hK11
  have hb110 := hb11
  obtain ⟨nv11, tv11, bv11, rfl, hn11, ht11, hx11⟩ := hb11.ex
  obtain ⟨_, _, rfl, -⟩ := hn11
  obtain ⟨_, _, rfl, htl11, -⟩ := ht11
  obtain ⟨_, _, rfl, -⟩ := hx11
  refine .on rfl <| .alloc zr27 rfl fun c3 _ _ => .on rfl <| .storeW sz27 rfl rfl rfl rfl rfl rfl .here <| .nil <| .go <| .seq <| .region ?_
  refine .e (.loadW ag27 sz27 rfl .here rfl) rfl rfl <| .e (.loadW ag36 sz36 rfl (.there <| .here) rfl) rfl rfl <| .on rfl <| .call cal12 rfl rfl rfl (doF hb110 (ho0.mono hI11) hS) fun v15 I15 O15 hI15 hK15 => ?_
  obtain ⟨rfl, cs15, rfl, hb15⟩ := hK15
  have hb150 := hb15
  obtain ⟨nv15, tv15, bv15, rfl, hn15, ht15, hx15⟩ := hb15.ex
  obtain ⟨_, _, rfl, -⟩ := hn15
  obtain ⟨_, _, rfl, htl15, -⟩ := ht15
  obtain ⟨_, _, rfl, -⟩ := hx15
  refine .e (.move rfl) rfl rfl <| .e (.extract rfl rfl) rfl rfl <| .e (.extract rfl rfl) rfl rfl <| .on rfl <| .alloc zr27 rfl fun c4 _ _ => .on rfl <| .alloc zr40 rfl fun c5 _ _ => .on rfl <| .storeW sz27 rfl rfl rfl rfl rfl rfl (.there <| .here) ?_
  refine .on rfl <| .storeW sz40 rfl rfl rfl rfl rfl rfl .here <| .nil <| .go <| .seq <| .region <| .e (.loadW ag27 sz27 rfl (.there <| .there <| .there <| .there <| .here) rfl) rfl rfl ?_
  refine .e (.loadW ag36 sz36 rfl (.there <| .there <| .there <| .here) rfl) rfl rfl <| .on rfl <| .call cal13 rfl rfl rfl (rbDo_ok (hk0.mono (Imm.le_trans hI11 hI15)) (ho0.mono (Imm.le_trans hI11 hI15))) fun v21 I21 O21 hI21 hK21 => ?_
  obtain ⟨rfl, cs21, rfl, hb21⟩ := hK21
  have hb210 := hb21
  obtain ⟨nv21, tv21, bv21, rfl, hn21, ht21, hx21⟩ := hb21.ex
  obtain ⟨_, _, rfl, -⟩ := hn21
  obtain ⟨_, _, rfl, htl21, -⟩ := ht21
  obtain ⟨_, _, rfl, -⟩ := hx21
  refine .e (.move rfl) rfl rfl <| .e (.extract rfl rfl) rfl rfl <| .e (.extract rfl rfl) rfl rfl <| .on rfl <| .alloc zr27 rfl fun c6 _ _ => .on rfl <| .alloc zr40 rfl fun c7 _ _ => .on rfl <| .storeW sz27 rfl rfl rfl rfl rfl rfl (.there <| .here) ?_
  refine .on rfl <| .storeW sz40 rfl rfl rfl rfl rfl rfl .here <| .nil <| .go <| .seq ?_
  refine .draw [(c4, _), (c6, _), (c5, _), (c7, _), (c2, _), (c3, _), (c1, _)] mixed (.cons (.there <| .there <| .there <| .here) (.cons (.there <| .here) (.cons (.there <| .there <| .here) (.cons .here (.cons (.there <| .there <| .there <| .there <| .there <| .here) (.cons (.there <| .there <| .there <| .there <| .here) (.cons (.there <| .there <| .there <| .there <| .there <| .there <| .here) .nil))))))) ?_
  refine .one (i := 0) (by kernel_rfl) rfl rfl <| .callP cal14 rfl rfl rfl (lives_ok) ?_
  refine ⟨(.cons (.there <| .there <| .there <| .here) (.cons (.there <| .here) (.cons (.there <| .there <| .here) (.cons .here (.cons (.there <| .there <| .there <| .there <| .there <| .here) (.cons (.there <| .there <| .there <| .there <| .here) (.cons (.there <| .there <| .there <| .there <| .there <| .there <| .here) .nil))))))), Imm.le_refl _, ?_⟩
  refine .t 1 rfl (.move rfl) rfl rfl (by kernel_rfl) <| .t 2 rfl (.loadW ag27 sz27 rfl .here rfl) rfl rfl (by kernel_rfl) <| .t 3 rfl (.loadW ag27 sz27 rfl (.there <| .here) rfl) rfl rfl (by kernel_rfl) <| .one (i := 4) (by kernel_rfl) rfl rfl <| .callP cal15 rfl rfl rfl ((sameBk_ok (hb150.mono hI21) hb210).cast (congrArg Value.bool (decide_eq_true (rfl)))) ?_
  refine ⟨(.cons (.there <| .there <| .there <| .here) (.cons (.there <| .here) (.cons (.there <| .there <| .here) (.cons .here (.cons (.there <| .there <| .there <| .there <| .there <| .here) (.cons (.there <| .there <| .there <| .there <| .here) (.cons (.there <| .there <| .there <| .there <| .there <| .there <| .here) .nil))))))), Imm.le_refl _, ?_⟩
  refine .t 5 rfl (.pickT rfl rfl) rfl rfl (by kernel_rfl) <| .t 6 rfl (.move rfl) rfl rfl (by kernel_rfl) <| .t 7 rfl (.loadW ag40 sz40 rfl (.there <| .there <| .here) rfl) rfl rfl (by kernel_rfl) <| .t 8 rfl (.loadW ag40 sz40 rfl (.there <| .there <| .there <| .here) rfl) rfl rfl (by kernel_rfl) <| .t 9 rfl ((EV.cast (u := .bool true) (.eqv (eqTold (p := (doR b o).2) (q := (doR b o).2)) rfl rfl) (congrArg Value.bool (decide_eq_true rfl)))) rfl rfl (by kernel_rfl) <| .t 10 rfl (.pickT rfl rfl) rfl rfl (by kernel_rfl) ?_
  refine .t 11 rfl (.move rfl) rfl rfl (by kernel_rfl) <| .t 12 rfl (.loadW ag36 sz36 rfl (.there <| .there <| .there <| .there <| .here) rfl) rfl rfl (by kernel_rfl) <| .t 14 rfl (.loadW ag36 sz36 rfl (.there <| .there <| .there <| .there <| .here) rfl) rfl rfl (by kernel_rfl) <| .one (i := 13) (by kernel_rfl) rfl rfl <| .callP cal16 rfl rfl rfl (CheckOrder_ok (ho0.mono (Imm.le_trans (Imm.le_trans hI11 hI15) hI21)) hS) ?_
  refine ⟨(.cons (.there <| .there <| .there <| .here) (.cons (.there <| .here) (.cons (.there <| .there <| .here) (.cons .here (.cons (.there <| .there <| .there <| .there <| .there <| .here) (.cons (.there <| .there <| .there <| .there <| .here) (.cons (.there <| .there <| .there <| .there <| .there <| .there <| .here) .nil))))))), Imm.le_refl _, ?_⟩
  refine .one (i := 15) (by kernel_rfl) rfl rfl <| .callP cal17 rfl rfl rfl (rCheckOrder_ok (ho0.mono (Imm.le_trans (Imm.le_trans hI11 hI15) hI21))) ?_
  refine ⟨(.cons (.there <| .there <| .there <| .here) (.cons (.there <| .here) (.cons (.there <| .there <| .here) (.cons .here (.cons (.there <| .there <| .there <| .there <| .there <| .here) (.cons (.there <| .there <| .there <| .there <| .here) (.cons (.there <| .there <| .there <| .there <| .there <| .there <| .here) .nil))))))), Imm.le_refl _, ?_⟩
  refine .t 16 rfl ((EV.cast (u := .bool true) (.eql rfl rfl) (congrArg Value.bool (decide_eq_true (rfl))))) rfl rfl (by kernel_rfl) <| .t 17 rfl (.pickT rfl rfl) rfl rfl (by kernel_rfl) <| .t 18 rfl (.move rfl) rfl rfl (by kernel_rfl) <| .t 19 rfl (.loadW ag27 sz27 rfl (.there <| .there <| .there <| .there <| .there <| .here) rfl) rfl rfl (by kernel_rfl) <| .t 20 rfl (.loadW ag27 sz27 rfl (.there <| .there <| .there <| .there <| .there <| .there <| .here) rfl) rfl rfl (by kernel_rfl) <| .one (i := 21) (by kernel_rfl) rfl rfl ?_
  refine .callP cal15 rfl rfl rfl ((sameBk_ok (hb110.mono (Imm.le_trans hI15 hI21)) (hk0.mono (Imm.le_trans (Imm.le_trans hI11 hI15) hI21))).cast (congrArg Value.bool (decide_eq_true (rfl)))) ?_
  refine ⟨(.cons (.there <| .there <| .there <| .here) (.cons (.there <| .here) (.cons (.there <| .there <| .here) (.cons .here (.cons (.there <| .there <| .there <| .there <| .there <| .here) (.cons (.there <| .there <| .there <| .there <| .here) (.cons (.there <| .there <| .there <| .there <| .there <| .there <| .here) .nil))))))), Imm.le_refl _, ?_⟩
  refine .t 22 rfl (.pickT rfl rfl) rfl rfl (by kernel_rfl) <| .t 23 rfl (.assign rfl) rfl rfl (by kernel_rfl) <| .done (by kernel_rfl) <| .go <| .ret ?_
  refine .tail <| .tail <| .tail <| .tail <| .tail <| .tail ?_
  refine .tail ?_
  refine .back (Imm.le_trans (Imm.le_trans hI11 hI15) hI21) ?_
  refine Post.retE rfl rfl ?_
  rfl

set_option maxHeartbeats 16000000 in
set_option maxRecDepth 20000 in
theorem BookAsks_ok {I : Imm} {O : Own} {kc : List Value} {b : Bk} (hk : BkR I kc b) {task node : ByteArray} {t : Int} (ht : U64 t) :
    Pure Tryz.prog 10 [.agg ⟨kc⟩, .string task, .string node, .int .u64 t] I O (.bool true) := by
  have hk0 := hk
  obtain ⟨nv, tv, bv, rfl, hnv, htv, hbv⟩ := hk.ex
  have hnv0 := hnv
  have htv0 := htv
  have hbv0 := hbv
  obtain ⟨na, ncap, rfl, hn1, hn2, -⟩ := hnv
  obtain ⟨ta, tcap, rfl, ht1, ht2, -⟩ := htv
  obtain ⟨ba, bcap, rfl, hb1, hb2, -⟩ := hbv
  refine Go.Sy.Does.enter Tryz.func10 rfl Tryz.ntmps10 rfl ?_
  refine .seq <| .region <| .on rfl <| .box rfl rfl rfl fun c1 _ _ => .e (.assign rfl) rfl rfl <| .nil <| .go ?_
  refine .seq <| .region <| .e (.loadW ag27 sz27 rfl .here rfl) rfl rfl <| .e (.move rfl) rfl rfl <| .on rfl <| .callP cal21 rfl rfl rfl (bUsed_ok hk0) <| .e (.move rfl) rfl rfl ?_
  refine .e (.extract rfl rfl) rfl rfl <| .e (.extract rfl rfl) rfl rfl <| .on rfl <| .alloc zr29 rfl fun c2 _ _ => .on rfl <| .storeW sz29 rfl rfl rfl rfl rfl rfl .here <| .e (.assign rfl) rfl rfl <| .nil ?_
  refine .go <| .seq <| .region <| .e (.loadW ag27 sz27 rfl (.there <| .here) rfl) rfl rfl <| .e (.move rfl) rfl rfl <| .on rfl <| .callP cal22 rfl rfl rfl (rbUsed_ok hk0) ?_
  refine .e (.move rfl) rfl rfl <| .e (.extract rfl rfl) rfl rfl <| .e (.extract rfl rfl) rfl rfl <| .on rfl <| .alloc zr29 rfl fun c3 _ _ => .on rfl <| .storeW sz29 rfl rfl rfl rfl rfl rfl .here <| .e (.assign rfl) rfl rfl ?_
  refine .nil <| .go <| .seq <| .region <| .e (.loadW ag27 sz27 rfl (.there <| .there <| .here) rfl) rfl rfl <| .e (.move rfl) rfl rfl ?_
  refine .on rfl <| .call cal19 rfl rfl rfl (leadF hk0 ht) fun v32 I32 O32 hI32 hK32 => ?_
  obtain ⟨rfl, cs32, rfl, hb32⟩ := hK32
  have hb320 := hb32
  obtain ⟨nv32, tv32, bv32, rfl, hn32, ht32, hx32⟩ := hb32.ex
  obtain ⟨_, _, rfl, -⟩ := hn32
  obtain ⟨_, _, rfl, htl32, -⟩ := ht32
  obtain ⟨_, _, rfl, -⟩ := hx32
  refine .e (.move rfl) rfl rfl <| .e (.extract rfl rfl) rfl rfl <| .e (.extract rfl rfl) rfl rfl <| .on rfl <| .alloc zr27 rfl fun c4 _ _ => .on rfl <| .storeW sz27 rfl rfl rfl rfl rfl rfl .here <| .e (.assign rfl) rfl rfl ?_
  refine .nil <| .go <| .seq <| .region <| .e (.loadW ag27 sz27 rfl (.there <| .there <| .there <| .here) rfl) rfl rfl <| .e (.move rfl) rfl rfl ?_
  refine .on rfl <| .call cal23 rfl rfl rfl (rbLead_ok (hk0.mono hI32) ht) fun v38 I38 O38 hI38 hK38 => ?_
  obtain ⟨rfl, cs38, rfl, hb38⟩ := hK38
  have hb380 := hb38
  obtain ⟨nv38, tv38, bv38, rfl, hn38, ht38, hx38⟩ := hb38.ex
  obtain ⟨_, _, rfl, -⟩ := hn38
  obtain ⟨_, _, rfl, htl38, -⟩ := ht38
  obtain ⟨_, _, rfl, -⟩ := hx38
  refine .e (.move rfl) rfl rfl <| .e (.extract rfl rfl) rfl rfl <| .e (.extract rfl rfl) rfl rfl <| .on rfl <| .alloc zr27 rfl fun c5 _ _ => .on rfl <| .storeW sz27 rfl rfl rfl rfl rfl rfl .here <| .e (.assign rfl) rfl rfl ?_
  refine .nil <| .go <| .seq ?_
  refine .draw [(c2, _), (c3, _), (c4, _), (c5, _), (c1, _)] mixed (.cons (.there <| .there <| .there <| .here) (.cons (.there <| .there <| .here) (.cons (.there <| .here) (.cons .here (.cons (.there <| .there <| .there <| .there <| .here) .nil))))) ?_
  refine .one (i := 0) (by kernel_rfl) rfl rfl <| .callP cal14 rfl rfl rfl (lives_ok) ?_
  refine ⟨(.cons (.there <| .there <| .there <| .here) (.cons (.there <| .there <| .here) (.cons (.there <| .here) (.cons .here (.cons (.there <| .there <| .there <| .there <| .here) .nil))))), Imm.le_refl _, ?_⟩
  refine .t 1 rfl (.move rfl) rfl rfl (by kernel_rfl) <| .t 2 rfl (.loadW ag29 sz29 rfl .here rfl) rfl rfl (by kernel_rfl) <| .t 3 rfl (.loadW ag29 sz29 rfl (.there <| .here) rfl) rfl rfl (by kernel_rfl) <| .t 4 rfl ((EV.cast (u := .bool true) (.eqv (eqA3 (x := (usedR b node).1) (y := (usedR b node).1)) rfl rfl) (congrArg Value.bool (decide_eq_true rfl)))) rfl rfl (by kernel_rfl) <| .t 5 rfl (.pickT rfl rfl) rfl rfl (by kernel_rfl) <| .t 6 rfl (.move rfl) rfl rfl (by kernel_rfl) ?_
  refine .t 7 rfl (.move rfl) rfl rfl (by kernel_rfl) <| .t 8 rfl (.move rfl) rfl rfl (by kernel_rfl) <| .t 9 rfl ((EV.cast (u := .bool true) (.eql rfl rfl) (congrArg Value.bool (decide_eq_true (rfl))))) rfl rfl (by kernel_rfl) <| .t 10 rfl (.pickT rfl rfl) rfl rfl (by kernel_rfl) <| .t 11 rfl (.move rfl) rfl rfl (by kernel_rfl) <| .t 12 rfl (.loadW ag27 sz27 rfl (.there <| .there <| .here) rfl) rfl rfl (by kernel_rfl) ?_
  refine .t 13 rfl (.loadW ag27 sz27 rfl (.there <| .there <| .there <| .here) rfl) rfl rfl (by kernel_rfl) <| .one (i := 14) (by kernel_rfl) rfl rfl <| .callP cal15 rfl rfl rfl ((sameBk_ok (hb320.mono hI38) hb380).cast (congrArg Value.bool (decide_eq_true (rfl)))) ?_
  refine ⟨(.cons (.there <| .there <| .there <| .here) (.cons (.there <| .there <| .here) (.cons (.there <| .here) (.cons .here (.cons (.there <| .there <| .there <| .there <| .here) .nil))))), Imm.le_refl _, ?_⟩
  refine .t 15 rfl (.pickT rfl rfl) rfl rfl (by kernel_rfl) <| .t 16 rfl (.move rfl) rfl rfl (by kernel_rfl) <| .t 17 rfl (.move rfl) rfl rfl (by kernel_rfl) <| .t 18 rfl (.move rfl) rfl rfl (by kernel_rfl) <| .t 19 rfl ((EV.cast (u := .bool true) (.eql rfl rfl) (congrArg Value.bool (decide_eq_true (rfl))))) rfl rfl (by kernel_rfl) <| .t 20 rfl (.pickT rfl rfl) rfl rfl (by kernel_rfl) ?_
  refine .t 21 rfl (.move rfl) rfl rfl (by kernel_rfl) <| .t 22 rfl (.loadW ag27 sz27 rfl (.there <| .there <| .there <| .there <| .here) rfl) rfl rfl (by kernel_rfl) <| .t 23 rfl (.move rfl) rfl rfl (by kernel_rfl) <| .t 24 rfl (.move rfl) rfl rfl (by kernel_rfl) <| .t 26 rfl (.loadW ag27 sz27 rfl (.there <| .there <| .there <| .there <| .here) rfl) rfl rfl (by kernel_rfl) <| .t 27 rfl (.move rfl) rfl rfl (by kernel_rfl) ?_
  refine .t 28 rfl (.move rfl) rfl rfl (by kernel_rfl) <| .one (i := 25) (by kernel_rfl) rfl rfl <| .callP cal20 rfl rfl rfl (bCan_ok (hk0.mono (Imm.le_trans hI32 hI38))) ?_
  refine ⟨(.cons (.there <| .there <| .there <| .here) (.cons (.there <| .there <| .here) (.cons (.there <| .here) (.cons .here (.cons (.there <| .there <| .there <| .there <| .here) .nil))))), Imm.le_refl _, ?_⟩
  refine .one (i := 29) (by kernel_rfl) rfl rfl <| .callP cal24 rfl rfl rfl (rbCan_ok (hk0.mono (Imm.le_trans hI32 hI38))) ?_
  refine ⟨(.cons (.there <| .there <| .there <| .here) (.cons (.there <| .there <| .here) (.cons (.there <| .here) (.cons .here (.cons (.there <| .there <| .there <| .there <| .here) .nil))))), Imm.le_refl _, ?_⟩
  refine .t 30 rfl ((EV.cast (u := .bool true) (.eql rfl rfl) (congrArg Value.bool (decide_eq_true (rfl))))) rfl rfl (by kernel_rfl) <| .t 31 rfl (.pickT rfl rfl) rfl rfl (by kernel_rfl) <| .t 32 rfl (.move rfl) rfl rfl (by kernel_rfl) <| .t 33 rfl (.loadW ag27 sz27 rfl (.there <| .there <| .there <| .there <| .here) rfl) rfl rfl (by kernel_rfl) <| .t 35 rfl (.loadW ag27 sz27 rfl (.there <| .there <| .there <| .there <| .here) rfl) rfl rfl (by kernel_rfl) <| .one (i := 34) (by kernel_rfl) rfl rfl ?_
  refine .callP cal18 rfl rfl rfl (bCheck_ok (hk0.mono (Imm.le_trans hI32 hI38))) ?_
  refine ⟨(.cons (.there <| .there <| .there <| .here) (.cons (.there <| .there <| .here) (.cons (.there <| .here) (.cons .here (.cons (.there <| .there <| .there <| .there <| .here) .nil))))), Imm.le_refl _, ?_⟩
  refine .one (i := 36) (by kernel_rfl) rfl rfl <| .callP cal25 rfl rfl rfl (rbCheck_ok (hk0.mono (Imm.le_trans hI32 hI38))) ?_
  refine ⟨(.cons (.there <| .there <| .there <| .here) (.cons (.there <| .there <| .here) (.cons (.there <| .here) (.cons .here (.cons (.there <| .there <| .there <| .there <| .here) .nil))))), Imm.le_refl _, ?_⟩
  refine .t 37 rfl ((EV.cast (u := .bool true) (.eql rfl rfl) (congrArg Value.bool (decide_eq_true (rfl))))) rfl rfl (by kernel_rfl) <| .t 38 rfl (.pickT rfl rfl) rfl rfl (by kernel_rfl) <| .t 39 rfl (.assign rfl) rfl rfl (by kernel_rfl) <| .done (by kernel_rfl) <| .go <| .ret ?_
  refine .tail <| .tail <| .tail <| .tail <| .tail ?_
  refine .back (Imm.le_trans hI32 hI38) ?_
  refine Post.retE rfl rfl ?_
  rfl

theorem bkM_of {b : Bk} (h : BkZ (fun b n => n * b ≤ reachBytes) (fun n => n ≤ reachBytes) b) : BkM b := by
  have hr : reachBytes ≤ 140737488351232 := by decide
  refine ⟨Nat.le_trans h.nodes.1 hr, Nat.le_trans h.tasks.1 hr, Nat.le_trans h.binds.1 hr, fun n hn => ⟨Nat.le_trans (h.nodes.2 n hn).labels.1 hr, Nat.le_trans (h.nodes.2 n hn).taints.1 hr⟩, fun t ht => ⟨Nat.le_trans (h.tasks.2 t ht).wants.1 hr, Nat.le_trans (h.tasks.2 t ht).bears.1 hr⟩⟩

end Go.Proofs.YtcojkkndmholaaaGreatDoor
