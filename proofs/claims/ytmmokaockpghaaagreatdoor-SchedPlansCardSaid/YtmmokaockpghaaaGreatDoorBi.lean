/- Walks of functions over a symbolic memory, printed by a program of the session. -/
import Derived.Test.YtmmokaockpghaaaGreatDoorBh
namespace Go.Proofs.YtmmokaockpghaaaGreatDoor
open Go.Sy
set_option linter.unusedSimpArgs false
set_option linter.unusedVariables false

theorem cat_nil {a b : ByteArray} : decide (a ++ b = ⟨#[]⟩) = (decide (a = ⟨#[]⟩) && decide (b = ⟨#[]⟩)) := by
  rw [← Bool.decide_and]
  refine decide_eq_decide.2 ⟨fun h => ?_, fun h => by rw [h.1, h.2]; rfl⟩
  have h1 := congrArg (fun x : ByteArray => x.size) h
  simp only [ByteArray.size_append] at h1
  have h0 : (⟨#[]⟩ : ByteArray).size = 0 := rfl
  have e : ∀ x : ByteArray, x.size = 0 → x = ⟨#[]⟩ := fun x hx => by
    obtain ⟨⟨l⟩⟩ := x
    have : l.length = 0 := hx
    rw [List.length_eq_zero_iff.1 this]
  exact ⟨e a (by omega), e b (by omega)⟩
theorem wrap_nil {a b : Nat} (ha : a ≤ 9223372036854775807) (hb : b ≤ 9223372036854775807) : decide (IntKind.i64.wrap ((a : Int) + (b : Int)) = 0) = (decide (a = 0) && decide (b = 0)) := by
  rw [← Bool.decide_and]
  refine decide_eq_decide.2 ⟨fun h => ?_, fun h => by rw [h.1, h.2]; rfl⟩
  by_cases h1 : (a : Int) + (b : Int) ≤ 9223372036854775807
  · rw [IntWalk.i64_in _ (by omega)] at h; omega
  · have e : IntKind.i64.wrap ((a : Int) + (b : Int)) = (a : Int) + (b : Int) - 18446744073709551616 := by
      unfold IntKind.wrap
      simp only [IntKind.bits, IntKind.signed]
      have hb2 : (((a : Int) + (b : Int)) % 2 ^ 64) = (a : Int) + (b : Int) := by omega
      simp
      omega
    rw [e] at h; omega
def emptyN (n : Nod) : Bool := decide (n.name = ⟨#[]⟩) && (decide (n.has = ⟨0, 0, 0⟩) && (decide (n.labels.length = 0) && decide (n.taints.length = 0)))
def emptyT (t : Tsk) : Bool := ((decide (t.name = ⟨#[]⟩) && decide (t.group = ⟨#[]⟩)) && decide (t.apart = ⟨#[]⟩)) && (decide (t.needs = ⟨0, 0, 0⟩) && ((decide (t.wants.length = 0) && decide (t.bears.length = 0)) && decide (t.rank = 0)))
def plainO (o : Ordr) : Bool := emptyN o.node && emptyT o.task
def noName (o : Ordr) : Bool := (decide (o.name = ⟨#[]⟩) && decide (o.on = ⟨#[]⟩)) && decide (o.fence = 0)
def orderOk (o : Ordr) : Bool := if o.kind = 1 then emptyT o.task && noName o else if o.kind = 3 then emptyN o.node && noName o else if o.kind = 5 then plainO o else
  if o.kind = 2 ∨ o.kind = 4 ∨ o.kind = 6 ∨ o.kind = 7 then plainO o && (decide (o.on = ⟨#[]⟩) && decide (o.fence = 0)) else false
def orderWhy (o : Ordr) : Int := if orderOk o = true then 0 else 4
def TskS (t : Tsk) : Prop := t.name.size + t.group.size + t.apart.size ≤ 9223372036854775807
def OrdS (o : Ordr) : Prop := TskS o.task ∧ o.name.size + o.on.size ≤ 9223372036854775807
theorem orderWhy_ok {o : Ordr} (h : orderWhy o = 0) : orderOk o = true := by
  unfold orderWhy at h
  cases h2 : orderOk o
  · rw [h2] at h; cases h
  · rfl
theorem orderWhy_no {o : Ordr} (h : ¬orderWhy o = 0) : orderOk o = false ∧ orderWhy o = 4 := by
  unfold orderWhy at *
  cases h2 : orderOk o
  · exact ⟨rfl, rfl⟩
  · rw [h2] at h; exact absurd rfl h

set_option maxHeartbeats 1000000 in
set_option maxRecDepth 20000 in
theorem noNode_ok {I : Imm} {O : Own} {nc : List Value} {n : Nod} (hn : NodR I nc n) :
  Pure Tryz.prog 123 [.agg ⟨nc⟩] I O (.bool (emptyN n)) := by
 have hn0 := hn
 obtain ⟨nl, nt, rfl, hnl, hnt⟩ := hn.ex
 have hnl0 := hnl
 obtain ⟨la, lcap, rfl, hl1, hl2, -⟩ := hnl
 have hnt0 := hnt
 obtain ⟨ta, tcap, rfl, ht1, ht2, -⟩ := hnt
 refine Go.Sy.Does.enter Tryz.func123 rfl Tryz.ntmps123 rfl ?_
 refine .seq <| .region <| .on rfl <| .box rfl rfl rfl fun c1 _ _ => .a rfl <| .nil <| .go ?_
 refine .seq <| .region <| .f (.fieldAddr fo45_0 rfl) <| .f (.load ag9 rfl .here rfl) <| .f (.streq rfl rfl) <| .m rfl ?_
 refine .sd 6 rfl (fun h6 => ?_) (fun h6 => ?_)
 ·
  refine .f (.fieldAddr fo45_1 rfl) <| .f (.loadP ag39 sz39 rfl .here rfl) <| .f (.buildA ar39 zv39 rfl rfl) <| .f (.eqv (eqA3 (x := n.has) (y := ⟨0, 0, 0⟩)) rfl rfl) <| .f (.pickT rfl rfl) <| .m rfl ?_
  refine .split 12 rfl (fun h12 => ?_) (fun h12 => ?_)
  ·
   refine .f (.fieldAddr fo45_2 rfl) <| .f (.load ag40 rfl .here rfl) <| .f (.len sl40 rfl rfl) <| .f (.fieldAddr fo45_3 rfl) <| .f (.load ag40 rfl .here rfl) <| .f (.len sl40 rfl rfl) ?_
   refine .f (.add rfl rfl rfl) <| .f ((EV.cast (.eql rfl rfl) (congrArg Value.bool (wrap_nil (by omega) (by omega))))) <| .f (.pickT rfl rfl) <| .a rfl <| .nil <| .go ?_
   refine .ret ?_
   refine .tail ?_
   refine Post.retE rfl rfl ?_
   refine congrArg Value.bool ?_
   unfold emptyN
   simp_all
  ·
   refine .z <| .z <| .z <| .z <| .z <| .z ?_
   refine .z <| .z <| .f (.pickF rfl rfl) <| .a rfl <| .nil <| .go ?_
   refine .ret ?_
   refine .tail ?_
   refine Post.retE rfl rfl ?_
   refine congrArg Value.bool ?_
   unfold emptyN
   simp_all
 ·
  refine .z <| .z <| .z <| .z <| .f (.pickF rfl rfl) <| .m rfl ?_
  refine .z <| .z <| .z <| .z <| .z <| .z ?_
  refine .z <| .z <| .f (.pickF rfl rfl) <| .a rfl <| .nil <| .go ?_
  refine .ret ?_
  refine .tail ?_
  refine Post.retE rfl rfl ?_
  refine congrArg Value.bool ?_
  unfold emptyN
  simp_all

set_option maxHeartbeats 1000000 in
set_option maxRecDepth 20000 in
theorem noTask_ok {I : Imm} {O : Own} {tc : List Value} {t : Tsk} (ht : TskR I tc t) (hs : TskS t) :
  Pure Tryz.prog 124 [.agg ⟨tc⟩] I O (.bool (emptyT t)) := by
 unfold TskS at hs
 have ht0 := ht
 obtain ⟨tw, tb, rfl, htw, htb⟩ := ht.ex
 have htw0 := htw
 obtain ⟨wa, wcap, rfl, hw1, hw2, -⟩ := htw
 have htb0 := htb
 obtain ⟨ba, bcap, rfl, hb1, hb2, -⟩ := htb
 refine Go.Sy.Does.enter Tryz.func124 rfl Tryz.ntmps124 rfl ?_
 refine .seq <| .region <| .on rfl <| .box rfl rfl rfl fun c1 _ _ => .a rfl <| .nil <| .go ?_
 refine .seq <| .region <| .f (.fieldAddr fo42_0 rfl) <| .f (.load ag9 rfl .here rfl) <| .f (.fieldAddr fo42_4 rfl) <| .f (.load ag9 rfl .here rfl) ?_
 refine .f (.strcat rfl rfl (by omega)) <| .f (.fieldAddr fo42_5 rfl) <| .f (.load ag9 rfl .here rfl) <| .f (.strcat rfl rfl (by rw [ByteArray.size_append]; omega)) <| .f ((EV.cast (.streq rfl rfl) (congrArg Value.bool (cat_nil.trans (by rw [cat_nil]))))) <| .m rfl ?_
 refine .split 12 rfl (fun h12 => ?_) (fun h12 => ?_)
 ·
  refine .f (.fieldAddr fo42_1 rfl) <| .f (.loadP ag39 sz39 rfl .here rfl) <| .f (.buildA ar39 zv39 rfl rfl) <| .f (.eqv (eqA3 (x := t.needs) (y := ⟨0, 0, 0⟩)) rfl rfl) <| .f (.pickT rfl rfl) <| .m rfl ?_
  refine .split 18 rfl (fun h18 => ?_) (fun h18 => ?_)
  ·
   refine .f (.fieldAddr fo42_2 rfl) <| .f (.load ag40 rfl .here rfl) <| .f (.len sl40 rfl rfl) <| .f (.fieldAddr fo42_3 rfl) <| .f (.load ag40 rfl .here rfl) <| .f (.len sl40 rfl rfl) ?_
   refine .f (.add rfl rfl rfl) <| .f ((EV.cast (.eql rfl rfl) (congrArg Value.bool (wrap_nil (by omega) (by omega))))) <| .f (.pickT rfl rfl) <| .m rfl ?_
   refine .split 28 rfl (fun h28 => ?_) (fun h28 => ?_)
   ·
    refine .f (.fieldAddr fo42_6 rfl) <| .f (.load ag3 rfl .here rfl) <| .f (.eql rfl rfl) <| .f (.pickT rfl rfl) <| .a rfl <| .nil ?_
    refine .go <| .ret ?_
    refine .tail ?_
    refine Post.retE rfl rfl ?_
    refine congrArg Value.bool ?_
    unfold emptyT
    simp_all
   ·
    refine .z <| .z <| .z <| .f (.pickF rfl rfl) <| .a rfl <| .nil ?_
    refine .go <| .ret ?_
    refine .tail ?_
    refine Post.retE rfl rfl ?_
    refine congrArg Value.bool ?_
    unfold emptyT
    simp_all
  ·
   refine .z <| .z <| .z <| .z <| .z <| .z ?_
   refine .z <| .z <| .f (.pickF rfl rfl) <| .m rfl <| .z <| .z ?_
   refine .z <| .f (.pickF rfl rfl) <| .a rfl <| .nil <| .go <| .ret ?_
   refine .tail ?_
   refine Post.retE rfl rfl ?_
   refine congrArg Value.bool ?_
   unfold emptyT
   simp_all
 ·
  refine .z <| .z <| .z <| .z <| .f (.pickF rfl rfl) <| .m rfl ?_
  refine .z <| .z <| .z <| .z <| .z <| .z ?_
  refine .z <| .z <| .f (.pickF rfl rfl) <| .m rfl <| .z <| .z ?_
  refine .z <| .f (.pickF rfl rfl) <| .a rfl <| .nil <| .go <| .ret ?_
  refine .tail ?_
  refine Post.retE rfl rfl ?_
  refine congrArg Value.bool ?_
  unfold emptyT
  simp_all

set_option maxHeartbeats 8000000 in
set_option maxRecDepth 20000 in
theorem CheckOrder_ok {I : Imm} {O : Own} {oc : List Value} {o : Ordr} (ho : OrdrR I oc o) (hs : OrdS o) :
    Pure Tryz.prog 74 [.agg ⟨oc⟩] I O (.int .i64 (orderWhy o)) := by
  have ho0 := ho
  obtain ⟨lv, tv, wv, bv, rfl, hon, holv, hotv, hot, howv, hobv⟩ := ho.ex
  have hkd := ho0.kind
  obtain ⟨olva, olvc, rfl, -⟩ := holv
  obtain ⟨otva, otvc, rfl, -⟩ := hotv
  obtain ⟨owva, owvc, rfl, -⟩ := howv
  obtain ⟨obva, obvc, rfl, -⟩ := hobv
  obtain ⟨hs1, hs2⟩ := hs
  refine Go.Sy.Does.enter Tryz.func74 rfl Tryz.ntmps74 rfl ?_
  refine .seq <| .region <| .on rfl <| .box rfl rfl rfl fun c1 _ _ => .a rfl <| .nil <| .go ?_
  refine .seq <| .region <| .a rfl <| .nil <| .go ?_
  refine .meetO (σ := Unit) [4, 5, 6, 7, 8, 9, 10, 11, 12] (fun _ => True) (fun _ => [(4, .bool (plainO o))]) (fun _ => I) (fun R _ => R) ?_ ?_
  · skip
    refine .region <| .f (.fieldAddr fo65_1 rfl) <| .f (.loadP ag45 sz45 rfl .here rfl) <| .on rfl <| .callP cal123 rfl rfl rfl (noNode_ok hon) <| .m rfl ?_
    refine .split 8 rfl (fun h8 => ?_) (fun h8 => ?_)
    · skip
      refine .f (.fieldAddr fo65_2 rfl) <| .f (.loadP ag42 sz42 rfl .here rfl) <| .on rfl <| .callP cal124 rfl rfl rfl (noTask_ok hot hs1) <| .f (.pickT rfl rfl) <| .a rfl <| .nil ?_
      exact .mid (()) trivial ⟨congrArg (fun x => some (Value.bool x)) (by unfold plainO; simp_all), trivial⟩ rfl rfl (.pre 10 rfl .self)
    · skip
      refine .z <| .z <| .z <| .f (.pickF rfl rfl) <| .a rfl <| .nil ?_
      exact .mid (()) trivial ⟨congrArg (fun x => some (Value.bool x)) (by unfold plainO; simp_all), trivial⟩ rfl rfl (.pre 10 rfl .self)
  · intro _ _
    refine .seq <| .seq <| .region <| .f (.fieldAddr fo65_0 rfl) <| .f (.load ag63 rfl .here rfl) <| .nil ?_
    refine .go <| .block <| .seq <| .region <| .f (.eql rfl rfl) <| .a rfl ?_
    refine .nil <| .go ?_
    refine .sd 15 rfl (fun h15 => ?_) (fun h15 => ?_)
    · skip
      refine .cond_true rfl <| .region <| .f (.fieldAddr fo65_2 rfl) <| .f (.loadP ag42 sz42 rfl .here rfl) <| .on rfl <| .callP cal124 rfl rfl rfl (noTask_ok hot hs1) <| .m rfl ?_
      refine .split 20 rfl (fun h20 => ?_) (fun h20 => ?_)
      · skip
        refine .f (.fieldAddr fo65_3 rfl) <| .f (.load ag9 rfl .here rfl) <| .f (.fieldAddr fo65_4 rfl) <| .f (.load ag9 rfl .here rfl) <| .f (.strcat rfl rfl hs2) <| .f ((EV.cast (.streq rfl rfl) (congrArg Value.bool cat_nil))) ?_
        refine .f (.pickT rfl rfl) <| .m rfl ?_
        refine .split 28 rfl (fun h28 => ?_) (fun h28 => ?_)
        · skip
          refine .f (.fieldAddr fo65_5 rfl) <| .f (.load ag25 rfl .here rfl) <| .f (.eql rfl rfl) <| .f (.pickT rfl rfl) <| .a rfl <| .nil ?_
          refine .blk_normal <| .go <| .seq <| .seq <| .region <| .m rfl ?_
          refine .f (.not rfl) <| .nil <| .go ?_
          refine .split 71 rfl (fun h71 => ?_) (fun h71 => ?_)
          · skip
            first | replace h71 := of_decide_eq_false ((Bool.not_eq_true' _).mp h71) | replace h71 := of_decide_eq_false (by simpa using h71)
            refine .cond_true rfl <| .seq <| .region <| .a rfl <| .nil <| .go ?_
            refine .ret <| .ret ?_
            refine .tail ?_
            refine Post.retE rfl rfl ?_
            refine congrArg (Value.int .i64) ?_
            unfold orderWhy orderOk noName
            simp_all
          · skip
            first | replace h71 := of_decide_eq_true ((Bool.not_eq_false' _).mp h71) | replace h71 := of_decide_eq_true (by simpa using h71)
            refine .cond_false rfl <| .skip <| .go <| .seq <| .region <| .a rfl ?_
            refine .nil <| .go <| .ret ?_
            refine .tail ?_
            refine Post.retE rfl rfl ?_
            refine congrArg (Value.int .i64) ?_
            unfold orderWhy orderOk noName
            simp_all
        · skip
          refine .z <| .z <| .z <| .f (.pickF rfl rfl) <| .a rfl <| .nil ?_
          refine .blk_normal <| .go <| .seq <| .seq <| .region <| .m rfl ?_
          refine .f (.not rfl) <| .nil <| .go <| .cond_true rfl <| .seq <| .region ?_
          refine .a rfl <| .nil <| .go <| .ret <| .ret ?_
          refine .tail ?_
          refine Post.retE rfl rfl ?_
          refine congrArg (Value.int .i64) ?_
          unfold orderWhy orderOk noName
          simp_all
      · skip
        refine .z <| .z <| .z <| .z <| .z <| .z ?_
        refine .f (.pickF rfl rfl) <| .m rfl <| .z <| .z <| .z <| .f (.pickF rfl rfl) ?_
        refine .a rfl <| .nil <| .blk_normal <| .go <| .seq <| .seq ?_
        refine .region <| .m rfl <| .f (.not rfl) <| .nil <| .go <| .cond_true rfl ?_
        refine .seq <| .region <| .a rfl <| .nil <| .go <| .ret ?_
        refine .ret ?_
        refine .tail ?_
        refine Post.retE rfl rfl ?_
        refine congrArg (Value.int .i64) ?_
        unfold orderWhy orderOk noName
        simp_all
    · skip
      refine .cond_false rfl <| .seq <| .region <| .f (.eql rfl rfl) <| .a rfl <| .nil ?_
      refine .go ?_
      refine .sd 33 rfl (fun h33 => ?_) (fun h33 => ?_)
      · skip
        refine .cond_true rfl <| .region <| .f (.fieldAddr fo65_1 rfl) <| .f (.loadP ag45 sz45 rfl .here rfl) <| .on rfl <| .callP cal123 rfl rfl rfl (noNode_ok hon) <| .m rfl ?_
        refine .split 38 rfl (fun h38 => ?_) (fun h38 => ?_)
        · skip
          refine .f (.fieldAddr fo65_3 rfl) <| .f (.load ag9 rfl .here rfl) <| .f (.fieldAddr fo65_4 rfl) <| .f (.load ag9 rfl .here rfl) <| .f (.strcat rfl rfl hs2) <| .f ((EV.cast (.streq rfl rfl) (congrArg Value.bool cat_nil))) ?_
          refine .f (.pickT rfl rfl) <| .m rfl ?_
          refine .split 46 rfl (fun h46 => ?_) (fun h46 => ?_)
          · skip
            refine .f (.fieldAddr fo65_5 rfl) <| .f (.load ag25 rfl .here rfl) <| .f (.eql rfl rfl) <| .f (.pickT rfl rfl) <| .a rfl <| .nil ?_
            refine .blk_normal <| .go <| .seq <| .seq <| .region <| .m rfl ?_
            refine .f (.not rfl) <| .nil <| .go ?_
            refine .split 71 rfl (fun h71 => ?_) (fun h71 => ?_)
            · skip
              first | replace h71 := of_decide_eq_false ((Bool.not_eq_true' _).mp h71) | replace h71 := of_decide_eq_false (by simpa using h71)
              refine .cond_true rfl <| .seq <| .region <| .a rfl <| .nil <| .go ?_
              refine .ret <| .ret ?_
              refine .tail ?_
              refine Post.retE rfl rfl ?_
              refine congrArg (Value.int .i64) ?_
              unfold orderWhy orderOk noName
              simp_all
            · skip
              first | replace h71 := of_decide_eq_true ((Bool.not_eq_false' _).mp h71) | replace h71 := of_decide_eq_true (by simpa using h71)
              refine .cond_false rfl <| .skip <| .go <| .seq <| .region <| .a rfl ?_
              refine .nil <| .go <| .ret ?_
              refine .tail ?_
              refine Post.retE rfl rfl ?_
              refine congrArg (Value.int .i64) ?_
              unfold orderWhy orderOk noName
              simp_all
          · skip
            refine .z <| .z <| .z <| .f (.pickF rfl rfl) <| .a rfl <| .nil ?_
            refine .blk_normal <| .go <| .seq <| .seq <| .region <| .m rfl ?_
            refine .f (.not rfl) <| .nil <| .go <| .cond_true rfl <| .seq <| .region ?_
            refine .a rfl <| .nil <| .go <| .ret <| .ret ?_
            refine .tail ?_
            refine Post.retE rfl rfl ?_
            refine congrArg (Value.int .i64) ?_
            unfold orderWhy orderOk noName
            simp_all
        · skip
          refine .z <| .z <| .z <| .z <| .z <| .z ?_
          refine .f (.pickF rfl rfl) <| .m rfl <| .z <| .z <| .z <| .f (.pickF rfl rfl) ?_
          refine .a rfl <| .nil <| .blk_normal <| .go <| .seq <| .seq ?_
          refine .region <| .m rfl <| .f (.not rfl) <| .nil <| .go <| .cond_true rfl ?_
          refine .seq <| .region <| .a rfl <| .nil <| .go <| .ret ?_
          refine .ret ?_
          refine .tail ?_
          refine Post.retE rfl rfl ?_
          refine congrArg (Value.int .i64) ?_
          unfold orderWhy orderOk noName
          simp_all
      · skip
        refine .cond_false rfl <| .seq <| .region <| .f (.eql rfl rfl) <| .a rfl <| .nil ?_
        refine .go ?_
        refine .sd 51 rfl (fun h51 => ?_) (fun h51 => ?_)
        · skip
          refine .cond_true rfl <| .region <| .m rfl <| .a rfl <| .nil <| .blk_normal ?_
          refine .go <| .seq <| .seq <| .region <| .m rfl <| .f (.not rfl) ?_
          refine .nil <| .go ?_
          refine .split 71 rfl (fun h71 => ?_) (fun h71 => ?_)
          · skip
            refine .cond_true rfl <| .seq <| .region <| .a rfl <| .nil <| .go ?_
            refine .ret <| .ret ?_
            refine .tail ?_
            refine Post.retE rfl rfl ?_
            refine congrArg (Value.int .i64) ?_
            unfold orderWhy orderOk noName
            simp_all
          · skip
            refine .cond_false rfl <| .skip <| .go <| .seq <| .region <| .a rfl ?_
            refine .nil <| .go <| .ret ?_
            refine .tail ?_
            refine Post.retE rfl rfl ?_
            refine congrArg (Value.int .i64) ?_
            unfold orderWhy orderOk noName
            simp_all
        · skip
          refine .cond_false rfl <| .seq <| .seq <| .region <| .f (.eql rfl rfl) <| .a rfl ?_
          refine .nil <| .go ?_
          refine .sd 54 rfl (fun h54 => ?_) (fun h54 => ?_)
          · skip
            refine .cond_true rfl <| .skip <| .go <| .cond_true rfl <| .region <| .m rfl ?_
            refine .m rfl ?_
            refine .split 60 rfl (fun h60 => ?_) (fun h60 => ?_)
            · skip
              refine .f (.fieldAddr fo65_4 rfl) <| .f (.load ag9 rfl .here rfl) <| .f (.streq rfl rfl) <| .f (.pickT rfl rfl) <| .m rfl ?_
              refine .sd 65 rfl (fun h65 => ?_) (fun h65 => ?_)
              · skip
                refine .f (.fieldAddr fo65_5 rfl) <| .f (.load ag25 rfl .here rfl) <| .f (.eql rfl rfl) <| .f (.pickT rfl rfl) <| .a rfl <| .nil ?_
                refine .blk_normal <| .go <| .seq <| .seq <| .region <| .m rfl ?_
                refine .f (.not rfl) <| .nil <| .go ?_
                refine .split 71 rfl (fun h71 => ?_) (fun h71 => ?_)
                · skip
                  first | replace h71 := of_decide_eq_false ((Bool.not_eq_true' _).mp h71) | replace h71 := of_decide_eq_false (by simpa using h71)
                  refine .cond_true rfl <| .seq <| .region <| .a rfl <| .nil <| .go ?_
                  refine .ret <| .ret ?_
                  refine .tail ?_
                  refine Post.retE rfl rfl ?_
                  refine congrArg (Value.int .i64) ?_
                  unfold orderWhy orderOk noName
                  simp_all
                · skip
                  first | replace h71 := of_decide_eq_true ((Bool.not_eq_false' _).mp h71) | replace h71 := of_decide_eq_true (by simpa using h71)
                  refine .cond_false rfl <| .skip <| .go <| .seq <| .region <| .a rfl ?_
                  refine .nil <| .go <| .ret ?_
                  refine .tail ?_
                  refine Post.retE rfl rfl ?_
                  refine congrArg (Value.int .i64) ?_
                  unfold orderWhy orderOk noName
                  simp_all
              · skip
                refine .z <| .z <| .z <| .f (.pickF rfl rfl) <| .a rfl <| .nil ?_
                refine .blk_normal <| .go <| .seq <| .seq <| .region <| .m rfl ?_
                refine .f (.not rfl) <| .nil <| .go <| .cond_true rfl <| .seq <| .region ?_
                refine .a rfl <| .nil <| .go <| .ret <| .ret ?_
                refine .tail ?_
                refine Post.retE rfl rfl ?_
                refine congrArg (Value.int .i64) ?_
                unfold orderWhy orderOk noName
                simp_all
            · skip
              refine .z <| .z <| .z <| .f (.pickF rfl rfl) <| .m rfl <| .z ?_
              refine .z <| .z <| .f (.pickF rfl rfl) <| .a rfl <| .nil <| .blk_normal ?_
              refine .go <| .seq <| .seq <| .region <| .m rfl <| .f (.not rfl) ?_
              refine .nil <| .go <| .cond_true rfl <| .seq <| .region <| .a rfl ?_
              refine .nil <| .go <| .ret <| .ret ?_
              refine .tail ?_
              refine Post.retE rfl rfl ?_
              refine congrArg (Value.int .i64) ?_
              unfold orderWhy orderOk noName
              simp_all
          · skip
            refine .cond_false rfl <| .seq <| .region <| .f (.eql rfl rfl) <| .a rfl <| .nil ?_
            refine .go ?_
            refine .sd 54 rfl (fun h54_2 => ?_) (fun h54_2 => ?_)
            · skip
              refine .cond_true rfl <| .skip <| .go <| .cond_true rfl <| .region <| .m rfl ?_
              refine .m rfl ?_
              refine .split 60 rfl (fun h60 => ?_) (fun h60 => ?_)
              · skip
                refine .f (.fieldAddr fo65_4 rfl) <| .f (.load ag9 rfl .here rfl) <| .f (.streq rfl rfl) <| .f (.pickT rfl rfl) <| .m rfl ?_
                refine .sd 65 rfl (fun h65 => ?_) (fun h65 => ?_)
                · skip
                  refine .f (.fieldAddr fo65_5 rfl) <| .f (.load ag25 rfl .here rfl) <| .f (.eql rfl rfl) <| .f (.pickT rfl rfl) <| .a rfl <| .nil ?_
                  refine .blk_normal <| .go <| .seq <| .seq <| .region <| .m rfl ?_
                  refine .f (.not rfl) <| .nil <| .go ?_
                  refine .split 71 rfl (fun h71 => ?_) (fun h71 => ?_)
                  · skip
                    first | replace h71 := of_decide_eq_false ((Bool.not_eq_true' _).mp h71) | replace h71 := of_decide_eq_false (by simpa using h71)
                    refine .cond_true rfl <| .seq <| .region <| .a rfl <| .nil <| .go ?_
                    refine .ret <| .ret ?_
                    refine .tail ?_
                    refine Post.retE rfl rfl ?_
                    refine congrArg (Value.int .i64) ?_
                    unfold orderWhy orderOk noName
                    simp_all
                  · skip
                    first | replace h71 := of_decide_eq_true ((Bool.not_eq_false' _).mp h71) | replace h71 := of_decide_eq_true (by simpa using h71)
                    refine .cond_false rfl <| .skip <| .go <| .seq <| .region <| .a rfl ?_
                    refine .nil <| .go <| .ret ?_
                    refine .tail ?_
                    refine Post.retE rfl rfl ?_
                    refine congrArg (Value.int .i64) ?_
                    unfold orderWhy orderOk noName
                    simp_all
                · skip
                  refine .z <| .z <| .z <| .f (.pickF rfl rfl) <| .a rfl <| .nil ?_
                  refine .blk_normal <| .go <| .seq <| .seq <| .region <| .m rfl ?_
                  refine .f (.not rfl) <| .nil <| .go <| .cond_true rfl <| .seq <| .region ?_
                  refine .a rfl <| .nil <| .go <| .ret <| .ret ?_
                  refine .tail ?_
                  refine Post.retE rfl rfl ?_
                  refine congrArg (Value.int .i64) ?_
                  unfold orderWhy orderOk noName
                  simp_all
              · skip
                refine .z <| .z <| .z <| .f (.pickF rfl rfl) <| .m rfl <| .z ?_
                refine .z <| .z <| .f (.pickF rfl rfl) <| .a rfl <| .nil <| .blk_normal ?_
                refine .go <| .seq <| .seq <| .region <| .m rfl <| .f (.not rfl) ?_
                refine .nil <| .go <| .cond_true rfl <| .seq <| .region <| .a rfl ?_
                refine .nil <| .go <| .ret <| .ret ?_
                refine .tail ?_
                refine Post.retE rfl rfl ?_
                refine congrArg (Value.int .i64) ?_
                unfold orderWhy orderOk noName
                simp_all
            · skip
              refine .cond_false rfl <| .seq <| .region <| .f (.eql rfl rfl) <| .a rfl <| .nil ?_
              refine .go ?_
              refine .sd 54 rfl (fun h54_3 => ?_) (fun h54_3 => ?_)
              · skip
                refine .cond_true rfl <| .skip <| .go <| .cond_true rfl <| .region <| .m rfl ?_
                refine .m rfl ?_
                refine .split 60 rfl (fun h60 => ?_) (fun h60 => ?_)
                · skip
                  refine .f (.fieldAddr fo65_4 rfl) <| .f (.load ag9 rfl .here rfl) <| .f (.streq rfl rfl) <| .f (.pickT rfl rfl) <| .m rfl ?_
                  refine .sd 65 rfl (fun h65 => ?_) (fun h65 => ?_)
                  · skip
                    refine .f (.fieldAddr fo65_5 rfl) <| .f (.load ag25 rfl .here rfl) <| .f (.eql rfl rfl) <| .f (.pickT rfl rfl) <| .a rfl <| .nil ?_
                    refine .blk_normal <| .go <| .seq <| .seq <| .region <| .m rfl ?_
                    refine .f (.not rfl) <| .nil <| .go ?_
                    refine .split 71 rfl (fun h71 => ?_) (fun h71 => ?_)
                    · skip
                      first | replace h71 := of_decide_eq_false ((Bool.not_eq_true' _).mp h71) | replace h71 := of_decide_eq_false (by simpa using h71)
                      refine .cond_true rfl <| .seq <| .region <| .a rfl <| .nil <| .go ?_
                      refine .ret <| .ret ?_
                      refine .tail ?_
                      refine Post.retE rfl rfl ?_
                      refine congrArg (Value.int .i64) ?_
                      unfold orderWhy orderOk noName
                      simp_all
                    · skip
                      first | replace h71 := of_decide_eq_true ((Bool.not_eq_false' _).mp h71) | replace h71 := of_decide_eq_true (by simpa using h71)
                      refine .cond_false rfl <| .skip <| .go <| .seq <| .region <| .a rfl ?_
                      refine .nil <| .go <| .ret ?_
                      refine .tail ?_
                      refine Post.retE rfl rfl ?_
                      refine congrArg (Value.int .i64) ?_
                      unfold orderWhy orderOk noName
                      simp_all
                  · skip
                    refine .z <| .z <| .z <| .f (.pickF rfl rfl) <| .a rfl <| .nil ?_
                    refine .blk_normal <| .go <| .seq <| .seq <| .region <| .m rfl ?_
                    refine .f (.not rfl) <| .nil <| .go <| .cond_true rfl <| .seq <| .region ?_
                    refine .a rfl <| .nil <| .go <| .ret <| .ret ?_
                    refine .tail ?_
                    refine Post.retE rfl rfl ?_
                    refine congrArg (Value.int .i64) ?_
                    unfold orderWhy orderOk noName
                    simp_all
                · skip
                  refine .z <| .z <| .z <| .f (.pickF rfl rfl) <| .m rfl <| .z ?_
                  refine .z <| .z <| .f (.pickF rfl rfl) <| .a rfl <| .nil <| .blk_normal ?_
                  refine .go <| .seq <| .seq <| .region <| .m rfl <| .f (.not rfl) ?_
                  refine .nil <| .go <| .cond_true rfl <| .seq <| .region <| .a rfl ?_
                  refine .nil <| .go <| .ret <| .ret ?_
                  refine .tail ?_
                  refine Post.retE rfl rfl ?_
                  refine congrArg (Value.int .i64) ?_
                  unfold orderWhy orderOk noName
                  simp_all
              · skip
                refine .cond_false rfl <| .region <| .f (.eql rfl rfl) <| .a rfl <| .nil <| .go ?_
                refine .sd 54 rfl (fun h54_4 => ?_) (fun h54_4 => ?_)
                · skip
                  refine .cond_true rfl <| .region <| .m rfl <| .m rfl ?_
                  refine .split 60 rfl (fun h60 => ?_) (fun h60 => ?_)
                  · skip
                    refine .f (.fieldAddr fo65_4 rfl) <| .f (.load ag9 rfl .here rfl) <| .f (.streq rfl rfl) <| .f (.pickT rfl rfl) <| .m rfl ?_
                    refine .sd 65 rfl (fun h65 => ?_) (fun h65 => ?_)
                    · skip
                      refine .f (.fieldAddr fo65_5 rfl) <| .f (.load ag25 rfl .here rfl) <| .f (.eql rfl rfl) <| .f (.pickT rfl rfl) <| .a rfl <| .nil ?_
                      refine .blk_normal <| .go <| .seq <| .seq <| .region <| .m rfl ?_
                      refine .f (.not rfl) <| .nil <| .go ?_
                      refine .split 71 rfl (fun h71 => ?_) (fun h71 => ?_)
                      · skip
                        first | replace h71 := of_decide_eq_false ((Bool.not_eq_true' _).mp h71) | replace h71 := of_decide_eq_false (by simpa using h71)
                        refine .cond_true rfl <| .seq <| .region <| .a rfl <| .nil <| .go ?_
                        refine .ret <| .ret ?_
                        refine .tail ?_
                        refine Post.retE rfl rfl ?_
                        refine congrArg (Value.int .i64) ?_
                        unfold orderWhy orderOk noName
                        simp_all
                      · skip
                        first | replace h71 := of_decide_eq_true ((Bool.not_eq_false' _).mp h71) | replace h71 := of_decide_eq_true (by simpa using h71)
                        refine .cond_false rfl <| .skip <| .go <| .seq <| .region <| .a rfl ?_
                        refine .nil <| .go <| .ret ?_
                        refine .tail ?_
                        refine Post.retE rfl rfl ?_
                        refine congrArg (Value.int .i64) ?_
                        unfold orderWhy orderOk noName
                        simp_all
                    · skip
                      refine .z <| .z <| .z <| .f (.pickF rfl rfl) <| .a rfl <| .nil ?_
                      refine .blk_normal <| .go <| .seq <| .seq <| .region <| .m rfl ?_
                      refine .f (.not rfl) <| .nil <| .go <| .cond_true rfl <| .seq <| .region ?_
                      refine .a rfl <| .nil <| .go <| .ret <| .ret ?_
                      refine .tail ?_
                      refine Post.retE rfl rfl ?_
                      refine congrArg (Value.int .i64) ?_
                      unfold orderWhy orderOk noName
                      simp_all
                  · skip
                    refine .z <| .z <| .z <| .f (.pickF rfl rfl) <| .m rfl <| .z ?_
                    refine .z <| .z <| .f (.pickF rfl rfl) <| .a rfl <| .nil <| .blk_normal ?_
                    refine .go <| .seq <| .seq <| .region <| .m rfl <| .f (.not rfl) ?_
                    refine .nil <| .go <| .cond_true rfl <| .seq <| .region <| .a rfl ?_
                    refine .nil <| .go <| .ret <| .ret ?_
                    refine .tail ?_
                    refine Post.retE rfl rfl ?_
                    refine congrArg (Value.int .i64) ?_
                    unfold orderWhy orderOk noName
                    simp_all
                · skip
                  refine .cond_false rfl <| .skip <| .blk_normal <| .go <| .seq <| .seq ?_
                  refine .region <| .m rfl <| .f (.not rfl) <| .nil <| .go <| .cond_true rfl ?_
                  refine .seq <| .region <| .a rfl <| .nil <| .go <| .ret ?_
                  refine .ret ?_
                  refine .tail ?_
                  refine Post.retE rfl rfl ?_
                  refine congrArg (Value.int .i64) ?_
                  unfold orderWhy orderOk noName
                  simp_all

end Go.Proofs.YtmmokaockpghaaaGreatDoor
