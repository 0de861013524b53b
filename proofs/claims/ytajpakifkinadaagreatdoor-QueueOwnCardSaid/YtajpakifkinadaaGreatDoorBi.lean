/- Walks of functions over a symbolic memory, printed by a program of the session. -/
import Derived.Test.YtajpakifkinadaaGreatDoorBh
namespace Go.Proofs.YtajpakifkinadaaGreatDoor
open Go.Sy
set_option linter.unusedSimpArgs false
set_option linter.unusedVariables false

theorem cat_nil {a b : ByteArray} : decide (a ++ b = ⟨#[]⟩) = (decide (a = ⟨#[]⟩) && decide (b = ⟨#[]⟩)) := by
  rw [← Bool.decide_and]
  refine decide_eq_decide.2 ⟨fun h => ?_, fun h => by rw [h.1, h.2]; rfl⟩
  have h1 := congrArg (fun x : ByteArray => x.size) h
  simp only [ByteArray.size_append] at h1
  have h0 : (⟨#[]⟩ : ByteArray).size = 0 := rfl
  have e : ∀ x : ByteArray, x.size = 0 → x = ⟨#[]⟩ := fun x hx => by
    obtain ⟨⟨l⟩⟩ := x
    have : l.length = 0 := hx
    rw [List.length_eq_zero_iff.1 this]
  exact ⟨e a (by omega), e b (by omega)⟩
theorem wrap_nil {a b : Nat} (ha : a ≤ 9223372036854775807) (hb : b ≤ 9223372036854775807) : decide (IntKind.i64.wrap ((a : Int) + (b : Int)) = 0) = (decide (a = 0) && decide (b = 0)) := by
  rw [← Bool.decide_and]
  refine decide_eq_decide.2 ⟨fun h => ?_, fun h => by rw [h.1, h.2]; rfl⟩
  by_cases h1 : (a : Int) + (b : Int) ≤ 9223372036854775807
  · rw [IntWalk.i64_in _ (by omega)] at h; omega
  · have e : IntKind.i64.wrap ((a : Int) + (b : Int)) = (a : Int) + (b : Int) - 18446744073709551616 := by
      unfold IntKind.wrap
      simp only [IntKind.bits, IntKind.signed]
      have hb2 : (((a : Int) + (b : Int)) % 2 ^ 64) = (a : Int) + (b : Int) := by omega
      simp
      omega
    rw [e] at h; omega
def emptyN (n : Nod) : Bool := decide (n.name = ⟨#[]⟩) && (decide (n.has = ⟨0, 0, 0⟩) && (decide (n.labels.length = 0) && decide (n.taints.length = 0)))
def emptyT (t : Tsk) : Bool := ((decide (t.name = ⟨#[]⟩) && decide (t.group = ⟨#[]⟩)) && decide (t.apart = ⟨#[]⟩)) && (decide (t.needs = ⟨0, 0, 0⟩) && ((decide (t.wants.length = 0) && decide (t.bears.length = 0)) && decide (t.rank = 0)))
def plainO (o : Ordr) : Bool := emptyN o.node && emptyT o.task
def noName (o : Ordr) : Bool := (decide (o.name = ⟨#[]⟩) && decide (o.on = ⟨#[]⟩)) && decide (o.fence = 0)
def orderOk (o : Ordr) : Bool := if o.kind = 1 then emptyT o.task && noName o else if o.kind = 3 then emptyN o.node && noName o else if o.kind = 5 then plainO o else
  if o.kind = 2 ∨ o.kind = 4 ∨ o.kind = 6 ∨ o.kind = 7 then plainO o && (decide (o.on = ⟨#[]⟩) && decide (o.fence = 0)) else false
def orderWhy (o : Ordr) : Int := if orderOk o = true then 0 else 4
def TskS (t : Tsk) : Prop := t.name.size + t.group.size + t.apart.size ≤ 9223372036854775807
def OrdS (o : Ordr) : Prop := TskS o.task ∧ o.name.size + o.on.size ≤ 9223372036854775807
theorem orderWhy_ok {o : Ordr} (h : orderWhy o = 0) : orderOk o = true := by
  unfold orderWhy at h
  cases h2 : orderOk o
  · rw [h2] at h; cases h
  · rfl
theorem orderWhy_no {o : Ordr} (h : ¬orderWhy o = 0) : orderOk o = false ∧ orderWhy o = 4 := by
  unfold orderWhy at *
  cases h2 : orderOk o
  · exact ⟨rfl, rfl⟩
  · rw [h2] at h; exact absurd rfl h

set_option maxHeartbeats 1000000 in
set_option maxRecDepth 20000 in
theorem noNode_ok {I : Imm} {O : Own} {nc : List Value} {n : Nod} (hn : NodR I nc n) :
    Pure Tryz.prog 53 [.agg ⟨nc⟩] I O (.bool (emptyN n)) := by
  have hn0 := hn
  obtain ⟨nl, nt, rfl, hnl, hnt⟩ := hn.ex
  have hnl0 := hnl
  obtain ⟨la, lcap, rfl, hl1, hl2, -⟩ := hnl
  have hnt0 := hnt
  obtain ⟨ta, tcap, rfl, ht1, ht2, -⟩ := hnt
  refine Go.Sy.Does.enter Tryz.func53 rfl Tryz.ntmps53 rfl ?_
  refine .seq <| .region <| .on rfl <| .box rfl rfl rfl fun c1 _ _ => .e (.assign rfl) rfl rfl <| .nil <| .go ?_
  refine .seq <| .region <| .e (.fieldAddr fo32_0 rfl) rfl rfl <| .e (.load ag9 rfl .here rfl) rfl rfl <| .e (.streq rfl rfl) rfl rfl <| .e (.move rfl) rfl rfl ?_
  refine .split 6 rfl (fun h6 => ?_) (fun h6 => ?_)
  · skip
    replace h6 := of_decide_eq_true h6
    refine .e (.fieldAddr fo32_1 rfl) rfl rfl <| .e (.loadP ag29 sz29 rfl .here rfl) rfl rfl <| .e (.buildA ar29 zv29 rfl rfl) rfl rfl <| .e (.eqv (eqA3 (x := n.has) (y := ⟨0, 0, 0⟩)) rfl rfl) rfl rfl <| .e (.pickT rfl rfl) rfl rfl <| .e (.move rfl) rfl rfl ?_
    refine .split 12 rfl (fun h12 => ?_) (fun h12 => ?_)
    · skip
      refine .e (.fieldAddr fo32_2 rfl) rfl rfl <| .e (.load ag30 rfl .here rfl) rfl rfl <| .e (.len sl30 rfl rfl) rfl rfl <| .e (.fieldAddr fo32_3 rfl) rfl rfl <| .e (.load ag30 rfl .here rfl) rfl rfl <| .e (.len sl30 rfl rfl) rfl rfl ?_
      refine .e (.add rfl rfl rfl) rfl rfl <| .e ((EV.cast (.eql rfl rfl) (congrArg Value.bool (wrap_nil (by omega) (by omega))))) rfl rfl <| .e (.pickT rfl rfl) rfl rfl <| .e (.assign rfl) rfl rfl <| .nil <| .go ?_
      refine .ret ?_
      refine .tail ?_
      refine Post.retE rfl rfl ?_
      refine congrArg Value.bool ?_
      unfold emptyN
      simp_all
    · skip
      refine .off rfl rfl <| .off rfl rfl <| .off rfl rfl <| .off rfl rfl <| .off rfl rfl <| .off rfl rfl ?_
      refine .off rfl rfl <| .off rfl rfl <| .e (.pickF rfl rfl) rfl rfl <| .e (.assign rfl) rfl rfl <| .nil <| .go ?_
      refine .ret ?_
      refine .tail ?_
      refine Post.retE rfl rfl ?_
      refine congrArg Value.bool ?_
      unfold emptyN
      simp_all
  · skip
    replace h6 := of_decide_eq_false h6
    refine .off rfl rfl <| .off rfl rfl <| .off rfl rfl <| .off rfl rfl <| .e (.pickF rfl rfl) rfl rfl <| .e (.move rfl) rfl rfl ?_
    refine .off rfl rfl <| .off rfl rfl <| .off rfl rfl <| .off rfl rfl <| .off rfl rfl <| .off rfl rfl ?_
    refine .off rfl rfl <| .off rfl rfl <| .e (.pickF rfl rfl) rfl rfl <| .e (.assign rfl) rfl rfl <| .nil <| .go ?_
    refine .ret ?_
    refine .tail ?_
    refine Post.retE rfl rfl ?_
    refine congrArg Value.bool ?_
    unfold emptyN
    simp_all

set_option maxHeartbeats 1000000 in
set_option maxRecDepth 20000 in
theorem noTask_ok {I : Imm} {O : Own} {tc : List Value} {t : Tsk} (ht : TskR I tc t) (hs : TskS t) :
    Pure Tryz.prog 54 [.agg ⟨tc⟩] I O (.bool (emptyT t)) := by
  unfold TskS at hs
  have ht0 := ht
  obtain ⟨tw, tb, rfl, htw, htb⟩ := ht.ex
  have htw0 := htw
  obtain ⟨wa, wcap, rfl, hw1, hw2, -⟩ := htw
  have htb0 := htb
  obtain ⟨ba, bcap, rfl, hb1, hb2, -⟩ := htb
  refine Go.Sy.Does.enter Tryz.func54 rfl Tryz.ntmps54 rfl ?_
  refine .seq <| .region <| .on rfl <| .box rfl rfl rfl fun c1 _ _ => .e (.assign rfl) rfl rfl <| .nil <| .go ?_
  refine .seq <| .region <| .e (.fieldAddr fo34_0 rfl) rfl rfl <| .e (.load ag9 rfl .here rfl) rfl rfl <| .e (.fieldAddr fo34_4 rfl) rfl rfl <| .e (.load ag9 rfl .here rfl) rfl rfl ?_
  refine .e (.strcat rfl rfl (by omega)) rfl rfl <| .e (.fieldAddr fo34_5 rfl) rfl rfl <| .e (.load ag9 rfl .here rfl) rfl rfl <| .e (.strcat rfl rfl (by rw [ByteArray.size_append]; omega)) rfl rfl <| .e ((EV.cast (.streq rfl rfl) (congrArg Value.bool (cat_nil.trans (by rw [cat_nil]))))) rfl rfl <| .e (.move rfl) rfl rfl ?_
  refine .split 12 rfl (fun h12 => ?_) (fun h12 => ?_)
  · skip
    refine .e (.fieldAddr fo34_1 rfl) rfl rfl <| .e (.loadP ag29 sz29 rfl .here rfl) rfl rfl <| .e (.buildA ar29 zv29 rfl rfl) rfl rfl <| .e (.eqv (eqA3 (x := t.needs) (y := ⟨0, 0, 0⟩)) rfl rfl) rfl rfl <| .e (.pickT rfl rfl) rfl rfl <| .e (.move rfl) rfl rfl ?_
    refine .split 18 rfl (fun h18 => ?_) (fun h18 => ?_)
    · skip
      refine .e (.fieldAddr fo34_2 rfl) rfl rfl <| .e (.load ag30 rfl .here rfl) rfl rfl <| .e (.len sl30 rfl rfl) rfl rfl <| .e (.fieldAddr fo34_3 rfl) rfl rfl <| .e (.load ag30 rfl .here rfl) rfl rfl <| .e (.len sl30 rfl rfl) rfl rfl ?_
      refine .e (.add rfl rfl rfl) rfl rfl <| .e ((EV.cast (.eql rfl rfl) (congrArg Value.bool (wrap_nil (by omega) (by omega))))) rfl rfl <| .e (.pickT rfl rfl) rfl rfl <| .e (.move rfl) rfl rfl ?_
      refine .split 28 rfl (fun h28 => ?_) (fun h28 => ?_)
      · skip
        refine .e (.fieldAddr fo34_6 rfl) rfl rfl <| .e (.load ag3 rfl .here rfl) rfl rfl <| .e (.eql rfl rfl) rfl rfl <| .e (.pickT rfl rfl) rfl rfl <| .e (.assign rfl) rfl rfl <| .nil ?_
        refine .go <| .ret ?_
        refine .tail ?_
        refine Post.retE rfl rfl ?_
        refine congrArg Value.bool ?_
        unfold emptyT
        simp_all
      · skip
        refine .off rfl rfl <| .off rfl rfl <| .off rfl rfl <| .e (.pickF rfl rfl) rfl rfl <| .e (.assign rfl) rfl rfl <| .nil ?_
        refine .go <| .ret ?_
        refine .tail ?_
        refine Post.retE rfl rfl ?_
        refine congrArg Value.bool ?_
        unfold emptyT
        simp_all
    · skip
      refine .off rfl rfl <| .off rfl rfl <| .off rfl rfl <| .off rfl rfl <| .off rfl rfl <| .off rfl rfl ?_
      refine .off rfl rfl <| .off rfl rfl <| .e (.pickF rfl rfl) rfl rfl <| .e (.move rfl) rfl rfl <| .off rfl rfl <| .off rfl rfl ?_
      refine .off rfl rfl <| .e (.pickF rfl rfl) rfl rfl <| .e (.assign rfl) rfl rfl <| .nil <| .go <| .ret ?_
      refine .tail ?_
      refine Post.retE rfl rfl ?_
      refine congrArg Value.bool ?_
      unfold emptyT
      simp_all
  · skip
    refine .off rfl rfl <| .off rfl rfl <| .off rfl rfl <| .off rfl rfl <| .e (.pickF rfl rfl) rfl rfl <| .e (.move rfl) rfl rfl ?_
    refine .off rfl rfl <| .off rfl rfl <| .off rfl rfl <| .off rfl rfl <| .off rfl rfl <| .off rfl rfl ?_
    refine .off rfl rfl <| .off rfl rfl <| .e (.pickF rfl rfl) rfl rfl <| .e (.move rfl) rfl rfl <| .off rfl rfl <| .off rfl rfl ?_
    refine .off rfl rfl <| .e (.pickF rfl rfl) rfl rfl <| .e (.assign rfl) rfl rfl <| .nil <| .go <| .ret ?_
    refine .tail ?_
    refine Post.retE rfl rfl ?_
    refine congrArg Value.bool ?_
    unfold emptyT
    simp_all

set_option maxHeartbeats 8000000 in
set_option maxRecDepth 20000 in
theorem CheckOrder_ok {I : Imm} {O : Own} {oc : List Value} {o : Ordr} (ho : OrdrR I oc o) (hs : OrdS o) :
    Pure Tryz.prog 17 [.agg ⟨oc⟩] I O (.int .i64 (orderWhy o)) := by
  have ho0 := ho
  obtain ⟨lv, tv, wv, bv, rfl, hon, holv, hotv, hot, howv, hobv⟩ := ho.ex
  have hkd := ho0.kind
  obtain ⟨olva, olvc, rfl, -⟩ := holv
  obtain ⟨otva, otvc, rfl, -⟩ := hotv
  obtain ⟨owva, owvc, rfl, -⟩ := howv
  obtain ⟨obva, obvc, rfl, -⟩ := hobv
  obtain ⟨hs1, hs2⟩ := hs
  refine Go.Sy.Does.enter Tryz.func17 rfl Tryz.ntmps17 rfl ?_
  refine .seq <| .region <| .on rfl <| .box rfl rfl rfl fun c1 _ _ => .e (.assign rfl) rfl rfl <| .nil <| .go ?_
  refine .seq <| .region <| .e (.assign rfl) rfl rfl <| .nil <| .go ?_
  refine .meetO (σ := Unit) [4, 5, 6, 7, 8, 9, 10, 11, 12] (fun _ => True) (fun _ => [(4, .bool (plainO o))]) (fun _ => I) (fun R _ => R) ?_ ?_
  · skip
    refine .region <| .e (.fieldAddr fo36_1 rfl) rfl rfl <| .e (.loadP ag32 sz32 rfl .here rfl) rfl rfl <| .on rfl <| .callP cal53 rfl rfl rfl (noNode_ok hon) <| .e (.move rfl) rfl rfl ?_
    refine .split 8 rfl (fun h8 => ?_) (fun h8 => ?_)
    · skip
      refine .e (.fieldAddr fo36_2 rfl) rfl rfl <| .e (.loadP ag34 sz34 rfl .here rfl) rfl rfl <| .on rfl <| .callP cal54 rfl rfl rfl (noTask_ok hot hs1) <| .e (.pickT rfl rfl) rfl rfl <| .e (.assign rfl) rfl rfl <| .nil ?_
      exact .mid (()) trivial ⟨congrArg (fun x => some (Value.bool x)) (by unfold plainO; simp_all), trivial⟩ rfl rfl (.pre 10 rfl .self)
    · skip
      refine .off rfl rfl <| .off rfl rfl <| .off rfl rfl <| .e (.pickF rfl rfl) rfl rfl <| .e (.assign rfl) rfl rfl <| .nil ?_
      exact .mid (()) trivial ⟨congrArg (fun x => some (Value.bool x)) (by unfold plainO; simp_all), trivial⟩ rfl rfl (.pre 10 rfl .self)
  · intro _ _
    refine .seq <| .seq <| .region <| .e (.fieldAddr fo36_0 rfl) rfl rfl <| .e (.load ag28 rfl .here rfl) rfl rfl <| .nil ?_
    refine .go <| .block <| .seq <| .region <| .e (.eql rfl rfl) rfl rfl <| .e (.assign rfl) rfl rfl ?_
    refine .nil <| .go ?_
    refine .split 15 rfl (fun h15 => ?_) (fun h15 => ?_)
    · skip
      replace h15 := of_decide_eq_true h15
      refine .cond_true rfl <| .region <| .e (.fieldAddr fo36_2 rfl) rfl rfl <| .e (.loadP ag34 sz34 rfl .here rfl) rfl rfl <| .on rfl <| .callP cal54 rfl rfl rfl (noTask_ok hot hs1) <| .e (.move rfl) rfl rfl ?_
      refine .split 20 rfl (fun h20 => ?_) (fun h20 => ?_)
      · skip
        refine .e (.fieldAddr fo36_3 rfl) rfl rfl <| .e (.load ag9 rfl .here rfl) rfl rfl <| .e (.fieldAddr fo36_4 rfl) rfl rfl <| .e (.load ag9 rfl .here rfl) rfl rfl <| .e (.strcat rfl rfl hs2) rfl rfl <| .e ((EV.cast (.streq rfl rfl) (congrArg Value.bool cat_nil))) rfl rfl ?_
        refine .e (.pickT rfl rfl) rfl rfl <| .e (.move rfl) rfl rfl ?_
        refine .split 28 rfl (fun h28 => ?_) (fun h28 => ?_)
        · skip
          refine .e (.fieldAddr fo36_5 rfl) rfl rfl <| .e (.load ag25 rfl .here rfl) rfl rfl <| .e (.eql rfl rfl) rfl rfl <| .e (.pickT rfl rfl) rfl rfl <| .e (.assign rfl) rfl rfl <| .nil ?_
          refine .blk_normal <| .go <| .seq <| .seq <| .region <| .e (.move rfl) rfl rfl ?_
          refine .e (.not rfl) rfl rfl <| .nil <| .go ?_
          refine .split 71 rfl (fun h71 => ?_) (fun h71 => ?_)
          · skip
            first | replace h71 := of_decide_eq_false ((Bool.not_eq_true' _).mp h71) | replace h71 := of_decide_eq_false (by simpa using h71)
            refine .cond_true rfl <| .seq <| .region <| .e (.assign rfl) rfl rfl <| .nil <| .go ?_
            refine .ret <| .ret ?_
            refine .tail ?_
            refine Post.retE rfl rfl ?_
            refine congrArg (Value.int .i64) ?_
            unfold orderWhy orderOk noName
            simp_all
          · skip
            first | replace h71 := of_decide_eq_true ((Bool.not_eq_false' _).mp h71) | replace h71 := of_decide_eq_true (by simpa using h71)
            refine .cond_false rfl <| .skip <| .go <| .seq <| .region <| .e (.assign rfl) rfl rfl ?_
            refine .nil <| .go <| .ret ?_
            refine .tail ?_
            refine Post.retE rfl rfl ?_
            refine congrArg (Value.int .i64) ?_
            unfold orderWhy orderOk noName
            simp_all
        · skip
          refine .off rfl rfl <| .off rfl rfl <| .off rfl rfl <| .e (.pickF rfl rfl) rfl rfl <| .e (.assign rfl) rfl rfl <| .nil ?_
          refine .blk_normal <| .go <| .seq <| .seq <| .region <| .e (.move rfl) rfl rfl ?_
          refine .e (.not rfl) rfl rfl <| .nil <| .go <| .cond_true rfl <| .seq <| .region ?_
          refine .e (.assign rfl) rfl rfl <| .nil <| .go <| .ret <| .ret ?_
          refine .tail ?_
          refine Post.retE rfl rfl ?_
          refine congrArg (Value.int .i64) ?_
          unfold orderWhy orderOk noName
          simp_all
      · skip
        refine .off rfl rfl <| .off rfl rfl <| .off rfl rfl <| .off rfl rfl <| .off rfl rfl <| .off rfl rfl ?_
        refine .e (.pickF rfl rfl) rfl rfl <| .e (.move rfl) rfl rfl <| .off rfl rfl <| .off rfl rfl <| .off rfl rfl <| .e (.pickF rfl rfl) rfl rfl ?_
        refine .e (.assign rfl) rfl rfl <| .nil <| .blk_normal <| .go <| .seq <| .seq ?_
        refine .region <| .e (.move rfl) rfl rfl <| .e (.not rfl) rfl rfl <| .nil <| .go <| .cond_true rfl ?_
        refine .seq <| .region <| .e (.assign rfl) rfl rfl <| .nil <| .go <| .ret ?_
        refine .ret ?_
        refine .tail ?_
        refine Post.retE rfl rfl ?_
        refine congrArg (Value.int .i64) ?_
        unfold orderWhy orderOk noName
        simp_all
    · skip
      replace h15 := of_decide_eq_false h15
      refine .cond_false rfl <| .seq <| .region <| .e (.eql rfl rfl) rfl rfl <| .e (.assign rfl) rfl rfl <| .nil ?_
      refine .go ?_
      refine .split 33 rfl (fun h33 => ?_) (fun h33 => ?_)
      · skip
        replace h33 := of_decide_eq_true h33
        refine .cond_true rfl <| .region <| .e (.fieldAddr fo36_1 rfl) rfl rfl <| .e (.loadP ag32 sz32 rfl .here rfl) rfl rfl <| .on rfl <| .callP cal53 rfl rfl rfl (noNode_ok hon) <| .e (.move rfl) rfl rfl ?_
        refine .split 38 rfl (fun h38 => ?_) (fun h38 => ?_)
        · skip
          refine .e (.fieldAddr fo36_3 rfl) rfl rfl <| .e (.load ag9 rfl .here rfl) rfl rfl <| .e (.fieldAddr fo36_4 rfl) rfl rfl <| .e (.load ag9 rfl .here rfl) rfl rfl <| .e (.strcat rfl rfl hs2) rfl rfl <| .e ((EV.cast (.streq rfl rfl) (congrArg Value.bool cat_nil))) rfl rfl ?_
          refine .e (.pickT rfl rfl) rfl rfl <| .e (.move rfl) rfl rfl ?_
          refine .split 46 rfl (fun h46 => ?_) (fun h46 => ?_)
          · skip
            refine .e (.fieldAddr fo36_5 rfl) rfl rfl <| .e (.load ag25 rfl .here rfl) rfl rfl <| .e (.eql rfl rfl) rfl rfl <| .e (.pickT rfl rfl) rfl rfl <| .e (.assign rfl) rfl rfl <| .nil ?_
            refine .blk_normal <| .go <| .seq <| .seq <| .region <| .e (.move rfl) rfl rfl ?_
            refine .e (.not rfl) rfl rfl <| .nil <| .go ?_
            refine .split 71 rfl (fun h71 => ?_) (fun h71 => ?_)
            · skip
              first | replace h71 := of_decide_eq_false ((Bool.not_eq_true' _).mp h71) | replace h71 := of_decide_eq_false (by simpa using h71)
              refine .cond_true rfl <| .seq <| .region <| .e (.assign rfl) rfl rfl <| .nil <| .go ?_
              refine .ret <| .ret ?_
              refine .tail ?_
              refine Post.retE rfl rfl ?_
              refine congrArg (Value.int .i64) ?_
              unfold orderWhy orderOk noName
              simp_all
            · skip
              first | replace h71 := of_decide_eq_true ((Bool.not_eq_false' _).mp h71) | replace h71 := of_decide_eq_true (by simpa using h71)
              refine .cond_false rfl <| .skip <| .go <| .seq <| .region <| .e (.assign rfl) rfl rfl ?_
              refine .nil <| .go <| .ret ?_
              refine .tail ?_
              refine Post.retE rfl rfl ?_
              refine congrArg (Value.int .i64) ?_
              unfold orderWhy orderOk noName
              simp_all
          · skip
            refine .off rfl rfl <| .off rfl rfl <| .off rfl rfl <| .e (.pickF rfl rfl) rfl rfl <| .e (.assign rfl) rfl rfl <| .nil ?_
            refine .blk_normal <| .go <| .seq <| .seq <| .region <| .e (.move rfl) rfl rfl ?_
            refine .e (.not rfl) rfl rfl <| .nil <| .go <| .cond_true rfl <| .seq <| .region ?_
            refine .e (.assign rfl) rfl rfl <| .nil <| .go <| .ret <| .ret ?_
            refine .tail ?_
            refine Post.retE rfl rfl ?_
            refine congrArg (Value.int .i64) ?_
            unfold orderWhy orderOk noName
            simp_all
        · skip
          refine .off rfl rfl <| .off rfl rfl <| .off rfl rfl <| .off rfl rfl <| .off rfl rfl <| .off rfl rfl ?_
          refine .e (.pickF rfl rfl) rfl rfl <| .e (.move rfl) rfl rfl <| .off rfl rfl <| .off rfl rfl <| .off rfl rfl <| .e (.pickF rfl rfl) rfl rfl ?_
          refine .e (.assign rfl) rfl rfl <| .nil <| .blk_normal <| .go <| .seq <| .seq ?_
          refine .region <| .e (.move rfl) rfl rfl <| .e (.not rfl) rfl rfl <| .nil <| .go <| .cond_true rfl ?_
          refine .seq <| .region <| .e (.assign rfl) rfl rfl <| .nil <| .go <| .ret ?_
          refine .ret ?_
          refine .tail ?_
          refine Post.retE rfl rfl ?_
          refine congrArg (Value.int .i64) ?_
          unfold orderWhy orderOk noName
          simp_all
      · skip
        replace h33 := of_decide_eq_false h33
        refine .cond_false rfl <| .seq <| .region <| .e (.eql rfl rfl) rfl rfl <| .e (.assign rfl) rfl rfl <| .nil ?_
        refine .go ?_
        refine .split 51 rfl (fun h51 => ?_) (fun h51 => ?_)
        · skip
          replace h51 := of_decide_eq_true h51
          refine .cond_true rfl <| .region <| .e (.move rfl) rfl rfl <| .e (.assign rfl) rfl rfl <| .nil <| .blk_normal ?_
          refine .go <| .seq <| .seq <| .region <| .e (.move rfl) rfl rfl <| .e (.not rfl) rfl rfl ?_
          refine .nil <| .go ?_
          refine .split 71 rfl (fun h71 => ?_) (fun h71 => ?_)
          · skip
            refine .cond_true rfl <| .seq <| .region <| .e (.assign rfl) rfl rfl <| .nil <| .go ?_
            refine .ret <| .ret ?_
            refine .tail ?_
            refine Post.retE rfl rfl ?_
            refine congrArg (Value.int .i64) ?_
            unfold orderWhy orderOk noName
            simp_all
          · skip
            refine .cond_false rfl <| .skip <| .go <| .seq <| .region <| .e (.assign rfl) rfl rfl ?_
            refine .nil <| .go <| .ret ?_
            refine .tail ?_
            refine Post.retE rfl rfl ?_
            refine congrArg (Value.int .i64) ?_
            unfold orderWhy orderOk noName
            simp_all
        · skip
          replace h51 := of_decide_eq_false h51
          refine .cond_false rfl <| .seq <| .seq <| .region <| .e (.eql rfl rfl) rfl rfl <| .e (.assign rfl) rfl rfl ?_
          refine .nil <| .go ?_
          refine .split 54 rfl (fun h54 => ?_) (fun h54 => ?_)
          · skip
            replace h54 := of_decide_eq_true h54
            refine .cond_true rfl <| .skip <| .go <| .cond_true rfl <| .region <| .e (.move rfl) rfl rfl ?_
            refine .e (.move rfl) rfl rfl ?_
            refine .split 60 rfl (fun h60 => ?_) (fun h60 => ?_)
            · skip
              refine .e (.fieldAddr fo36_4 rfl) rfl rfl <| .e (.load ag9 rfl .here rfl) rfl rfl <| .e (.streq rfl rfl) rfl rfl <| .e (.pickT rfl rfl) rfl rfl <| .e (.move rfl) rfl rfl ?_
              refine .split 65 rfl (fun h65 => ?_) (fun h65 => ?_)
              · skip
                replace h65 := of_decide_eq_true h65
                refine .e (.fieldAddr fo36_5 rfl) rfl rfl <| .e (.load ag25 rfl .here rfl) rfl rfl <| .e (.eql rfl rfl) rfl rfl <| .e (.pickT rfl rfl) rfl rfl <| .e (.assign rfl) rfl rfl <| .nil ?_
                refine .blk_normal <| .go <| .seq <| .seq <| .region <| .e (.move rfl) rfl rfl ?_
                refine .e (.not rfl) rfl rfl <| .nil <| .go ?_
                refine .split 71 rfl (fun h71 => ?_) (fun h71 => ?_)
                · skip
                  first | replace h71 := of_decide_eq_false ((Bool.not_eq_true' _).mp h71) | replace h71 := of_decide_eq_false (by simpa using h71)
                  refine .cond_true rfl <| .seq <| .region <| .e (.assign rfl) rfl rfl <| .nil <| .go ?_
                  refine .ret <| .ret ?_
                  refine .tail ?_
                  refine Post.retE rfl rfl ?_
                  refine congrArg (Value.int .i64) ?_
                  unfold orderWhy orderOk noName
                  simp_all
                · skip
                  first | replace h71 := of_decide_eq_true ((Bool.not_eq_false' _).mp h71) | replace h71 := of_decide_eq_true (by simpa using h71)
                  refine .cond_false rfl <| .skip <| .go <| .seq <| .region <| .e (.assign rfl) rfl rfl ?_
                  refine .nil <| .go <| .ret ?_
                  refine .tail ?_
                  refine Post.retE rfl rfl ?_
                  refine congrArg (Value.int .i64) ?_
                  unfold orderWhy orderOk noName
                  simp_all
              · skip
                replace h65 := of_decide_eq_false h65
                refine .off rfl rfl <| .off rfl rfl <| .off rfl rfl <| .e (.pickF rfl rfl) rfl rfl <| .e (.assign rfl) rfl rfl <| .nil ?_
                refine .blk_normal <| .go <| .seq <| .seq <| .region <| .e (.move rfl) rfl rfl ?_
                refine .e (.not rfl) rfl rfl <| .nil <| .go <| .cond_true rfl <| .seq <| .region ?_
                refine .e (.assign rfl) rfl rfl <| .nil <| .go <| .ret <| .ret ?_
                refine .tail ?_
                refine Post.retE rfl rfl ?_
                refine congrArg (Value.int .i64) ?_
                unfold orderWhy orderOk noName
                simp_all
            · skip
              refine .off rfl rfl <| .off rfl rfl <| .off rfl rfl <| .e (.pickF rfl rfl) rfl rfl <| .e (.move rfl) rfl rfl <| .off rfl rfl ?_
              refine .off rfl rfl <| .off rfl rfl <| .e (.pickF rfl rfl) rfl rfl <| .e (.assign rfl) rfl rfl <| .nil <| .blk_normal ?_
              refine .go <| .seq <| .seq <| .region <| .e (.move rfl) rfl rfl <| .e (.not rfl) rfl rfl ?_
              refine .nil <| .go <| .cond_true rfl <| .seq <| .region <| .e (.assign rfl) rfl rfl ?_
              refine .nil <| .go <| .ret <| .ret ?_
              refine .tail ?_
              refine Post.retE rfl rfl ?_
              refine congrArg (Value.int .i64) ?_
              unfold orderWhy orderOk noName
              simp_all
          · skip
            replace h54 := of_decide_eq_false h54
            refine .cond_false rfl <| .seq <| .region <| .e (.eql rfl rfl) rfl rfl <| .e (.assign rfl) rfl rfl <| .nil ?_
            refine .go ?_
            refine .split 54 rfl (fun h54_2 => ?_) (fun h54_2 => ?_)
            · skip
              replace h54_2 := of_decide_eq_true h54_2
              refine .cond_true rfl <| .skip <| .go <| .cond_true rfl <| .region <| .e (.move rfl) rfl rfl ?_
              refine .e (.move rfl) rfl rfl ?_
              refine .split 60 rfl (fun h60 => ?_) (fun h60 => ?_)
              · skip
                refine .e (.fieldAddr fo36_4 rfl) rfl rfl <| .e (.load ag9 rfl .here rfl) rfl rfl <| .e (.streq rfl rfl) rfl rfl <| .e (.pickT rfl rfl) rfl rfl <| .e (.move rfl) rfl rfl ?_
                refine .split 65 rfl (fun h65 => ?_) (fun h65 => ?_)
                · skip
                  replace h65 := of_decide_eq_true h65
                  refine .e (.fieldAddr fo36_5 rfl) rfl rfl <| .e (.load ag25 rfl .here rfl) rfl rfl <| .e (.eql rfl rfl) rfl rfl <| .e (.pickT rfl rfl) rfl rfl <| .e (.assign rfl) rfl rfl <| .nil ?_
                  refine .blk_normal <| .go <| .seq <| .seq <| .region <| .e (.move rfl) rfl rfl ?_
                  refine .e (.not rfl) rfl rfl <| .nil <| .go ?_
                  refine .split 71 rfl (fun h71 => ?_) (fun h71 => ?_)
                  · skip
                    first | replace h71 := of_decide_eq_false ((Bool.not_eq_true' _).mp h71) | replace h71 := of_decide_eq_false (by simpa using h71)
                    refine .cond_true rfl <| .seq <| .region <| .e (.assign rfl) rfl rfl <| .nil <| .go ?_
                    refine .ret <| .ret ?_
                    refine .tail ?_
                    refine Post.retE rfl rfl ?_
                    refine congrArg (Value.int .i64) ?_
                    unfold orderWhy orderOk noName
                    simp_all
                  · skip
                    first | replace h71 := of_decide_eq_true ((Bool.not_eq_false' _).mp h71) | replace h71 := of_decide_eq_true (by simpa using h71)
                    refine .cond_false rfl <| .skip <| .go <| .seq <| .region <| .e (.assign rfl) rfl rfl ?_
                    refine .nil <| .go <| .ret ?_
                    refine .tail ?_
                    refine Post.retE rfl rfl ?_
                    refine congrArg (Value.int .i64) ?_
                    unfold orderWhy orderOk noName
                    simp_all
                · skip
                  replace h65 := of_decide_eq_false h65
                  refine .off rfl rfl <| .off rfl rfl <| .off rfl rfl <| .e (.pickF rfl rfl) rfl rfl <| .e (.assign rfl) rfl rfl <| .nil ?_
                  refine .blk_normal <| .go <| .seq <| .seq <| .region <| .e (.move rfl) rfl rfl ?_
                  refine .e (.not rfl) rfl rfl <| .nil <| .go <| .cond_true rfl <| .seq <| .region ?_
                  refine .e (.assign rfl) rfl rfl <| .nil <| .go <| .ret <| .ret ?_
                  refine .tail ?_
                  refine Post.retE rfl rfl ?_
                  refine congrArg (Value.int .i64) ?_
                  unfold orderWhy orderOk noName
                  simp_all
              · skip
                refine .off rfl rfl <| .off rfl rfl <| .off rfl rfl <| .e (.pickF rfl rfl) rfl rfl <| .e (.move rfl) rfl rfl <| .off rfl rfl ?_
                refine .off rfl rfl <| .off rfl rfl <| .e (.pickF rfl rfl) rfl rfl <| .e (.assign rfl) rfl rfl <| .nil <| .blk_normal ?_
                refine .go <| .seq <| .seq <| .region <| .e (.move rfl) rfl rfl <| .e (.not rfl) rfl rfl ?_
                refine .nil <| .go <| .cond_true rfl <| .seq <| .region <| .e (.assign rfl) rfl rfl ?_
                refine .nil <| .go <| .ret <| .ret ?_
                refine .tail ?_
                refine Post.retE rfl rfl ?_
                refine congrArg (Value.int .i64) ?_
                unfold orderWhy orderOk noName
                simp_all
            · skip
              replace h54_2 := of_decide_eq_false h54_2
              refine .cond_false rfl <| .seq <| .region <| .e (.eql rfl rfl) rfl rfl <| .e (.assign rfl) rfl rfl <| .nil ?_
              refine .go ?_
              refine .split 54 rfl (fun h54_3 => ?_) (fun h54_3 => ?_)
              · skip
                replace h54_3 := of_decide_eq_true h54_3
                refine .cond_true rfl <| .skip <| .go <| .cond_true rfl <| .region <| .e (.move rfl) rfl rfl ?_
                refine .e (.move rfl) rfl rfl ?_
                refine .split 60 rfl (fun h60 => ?_) (fun h60 => ?_)
                · skip
                  refine .e (.fieldAddr fo36_4 rfl) rfl rfl <| .e (.load ag9 rfl .here rfl) rfl rfl <| .e (.streq rfl rfl) rfl rfl <| .e (.pickT rfl rfl) rfl rfl <| .e (.move rfl) rfl rfl ?_
                  refine .split 65 rfl (fun h65 => ?_) (fun h65 => ?_)
                  · skip
                    replace h65 := of_decide_eq_true h65
                    refine .e (.fieldAddr fo36_5 rfl) rfl rfl <| .e (.load ag25 rfl .here rfl) rfl rfl <| .e (.eql rfl rfl) rfl rfl <| .e (.pickT rfl rfl) rfl rfl <| .e (.assign rfl) rfl rfl <| .nil ?_
                    refine .blk_normal <| .go <| .seq <| .seq <| .region <| .e (.move rfl) rfl rfl ?_
                    refine .e (.not rfl) rfl rfl <| .nil <| .go ?_
                    refine .split 71 rfl (fun h71 => ?_) (fun h71 => ?_)
                    · skip
                      first | replace h71 := of_decide_eq_false ((Bool.not_eq_true' _).mp h71) | replace h71 := of_decide_eq_false (by simpa using h71)
                      refine .cond_true rfl <| .seq <| .region <| .e (.assign rfl) rfl rfl <| .nil <| .go ?_
                      refine .ret <| .ret ?_
                      refine .tail ?_
                      refine Post.retE rfl rfl ?_
                      refine congrArg (Value.int .i64) ?_
                      unfold orderWhy orderOk noName
                      simp_all
                    · skip
                      first | replace h71 := of_decide_eq_true ((Bool.not_eq_false' _).mp h71) | replace h71 := of_decide_eq_true (by simpa using h71)
                      refine .cond_false rfl <| .skip <| .go <| .seq <| .region <| .e (.assign rfl) rfl rfl ?_
                      refine .nil <| .go <| .ret ?_
                      refine .tail ?_
                      refine Post.retE rfl rfl ?_
                      refine congrArg (Value.int .i64) ?_
                      unfold orderWhy orderOk noName
                      simp_all
                  · skip
                    replace h65 := of_decide_eq_false h65
                    refine .off rfl rfl <| .off rfl rfl <| .off rfl rfl <| .e (.pickF rfl rfl) rfl rfl <| .e (.assign rfl) rfl rfl <| .nil ?_
                    refine .blk_normal <| .go <| .seq <| .seq <| .region <| .e (.move rfl) rfl rfl ?_
                    refine .e (.not rfl) rfl rfl <| .nil <| .go <| .cond_true rfl <| .seq <| .region ?_
                    refine .e (.assign rfl) rfl rfl <| .nil <| .go <| .ret <| .ret ?_
                    refine .tail ?_
                    refine Post.retE rfl rfl ?_
                    refine congrArg (Value.int .i64) ?_
                    unfold orderWhy orderOk noName
                    simp_all
                · skip
                  refine .off rfl rfl <| .off rfl rfl <| .off rfl rfl <| .e (.pickF rfl rfl) rfl rfl <| .e (.move rfl) rfl rfl <| .off rfl rfl ?_
                  refine .off rfl rfl <| .off rfl rfl <| .e (.pickF rfl rfl) rfl rfl <| .e (.assign rfl) rfl rfl <| .nil <| .blk_normal ?_
                  refine .go <| .seq <| .seq <| .region <| .e (.move rfl) rfl rfl <| .e (.not rfl) rfl rfl ?_
                  refine .nil <| .go <| .cond_true rfl <| .seq <| .region <| .e (.assign rfl) rfl rfl ?_
                  refine .nil <| .go <| .ret <| .ret ?_
                  refine .tail ?_
                  refine Post.retE rfl rfl ?_
                  refine congrArg (Value.int .i64) ?_
                  unfold orderWhy orderOk noName
                  simp_all
              · skip
                replace h54_3 := of_decide_eq_false h54_3
                refine .cond_false rfl <| .region <| .e (.eql rfl rfl) rfl rfl <| .e (.assign rfl) rfl rfl <| .nil <| .go ?_
                refine .split 54 rfl (fun h54_4 => ?_) (fun h54_4 => ?_)
                · skip
                  replace h54_4 := of_decide_eq_true h54_4
                  refine .cond_true rfl <| .region <| .e (.move rfl) rfl rfl <| .e (.move rfl) rfl rfl ?_
                  refine .split 60 rfl (fun h60 => ?_) (fun h60 => ?_)
                  · skip
                    refine .e (.fieldAddr fo36_4 rfl) rfl rfl <| .e (.load ag9 rfl .here rfl) rfl rfl <| .e (.streq rfl rfl) rfl rfl <| .e (.pickT rfl rfl) rfl rfl <| .e (.move rfl) rfl rfl ?_
                    refine .split 65 rfl (fun h65 => ?_) (fun h65 => ?_)
                    · skip
                      replace h65 := of_decide_eq_true h65
                      refine .e (.fieldAddr fo36_5 rfl) rfl rfl <| .e (.load ag25 rfl .here rfl) rfl rfl <| .e (.eql rfl rfl) rfl rfl <| .e (.pickT rfl rfl) rfl rfl <| .e (.assign rfl) rfl rfl <| .nil ?_
                      refine .blk_normal <| .go <| .seq <| .seq <| .region <| .e (.move rfl) rfl rfl ?_
                      refine .e (.not rfl) rfl rfl <| .nil <| .go ?_
                      refine .split 71 rfl (fun h71 => ?_) (fun h71 => ?_)
                      · skip
                        first | replace h71 := of_decide_eq_false ((Bool.not_eq_true' _).mp h71) | replace h71 := of_decide_eq_false (by simpa using h71)
                        refine .cond_true rfl <| .seq <| .region <| .e (.assign rfl) rfl rfl <| .nil <| .go ?_
                        refine .ret <| .ret ?_
                        refine .tail ?_
                        refine Post.retE rfl rfl ?_
                        refine congrArg (Value.int .i64) ?_
                        unfold orderWhy orderOk noName
                        simp_all
                      · skip
                        first | replace h71 := of_decide_eq_true ((Bool.not_eq_false' _).mp h71) | replace h71 := of_decide_eq_true (by simpa using h71)
                        refine .cond_false rfl <| .skip <| .go <| .seq <| .region <| .e (.assign rfl) rfl rfl ?_
                        refine .nil <| .go <| .ret ?_
                        refine .tail ?_
                        refine Post.retE rfl rfl ?_
                        refine congrArg (Value.int .i64) ?_
                        unfold orderWhy orderOk noName
                        simp_all
                    · skip
                      replace h65 := of_decide_eq_false h65
                      refine .off rfl rfl <| .off rfl rfl <| .off rfl rfl <| .e (.pickF rfl rfl) rfl rfl <| .e (.assign rfl) rfl rfl <| .nil ?_
                      refine .blk_normal <| .go <| .seq <| .seq <| .region <| .e (.move rfl) rfl rfl ?_
                      refine .e (.not rfl) rfl rfl <| .nil <| .go <| .cond_true rfl <| .seq <| .region ?_
                      refine .e (.assign rfl) rfl rfl <| .nil <| .go <| .ret <| .ret ?_
                      refine .tail ?_
                      refine Post.retE rfl rfl ?_
                      refine congrArg (Value.int .i64) ?_
                      unfold orderWhy orderOk noName
                      simp_all
                  · skip
                    refine .off rfl rfl <| .off rfl rfl <| .off rfl rfl <| .e (.pickF rfl rfl) rfl rfl <| .e (.move rfl) rfl rfl <| .off rfl rfl ?_
                    refine .off rfl rfl <| .off rfl rfl <| .e (.pickF rfl rfl) rfl rfl <| .e (.assign rfl) rfl rfl <| .nil <| .blk_normal ?_
                    refine .go <| .seq <| .seq <| .region <| .e (.move rfl) rfl rfl <| .e (.not rfl) rfl rfl ?_
                    refine .nil <| .go <| .cond_true rfl <| .seq <| .region <| .e (.assign rfl) rfl rfl ?_
                    refine .nil <| .go <| .ret <| .ret ?_
                    refine .tail ?_
                    refine Post.retE rfl rfl ?_
                    refine congrArg (Value.int .i64) ?_
                    unfold orderWhy orderOk noName
                    simp_all
                · skip
                  replace h54_4 := of_decide_eq_false h54_4
                  refine .cond_false rfl <| .skip <| .blk_normal <| .go <| .seq <| .seq ?_
                  refine .region <| .e (.move rfl) rfl rfl <| .e (.not rfl) rfl rfl <| .nil <| .go <| .cond_true rfl ?_
                  refine .seq <| .region <| .e (.assign rfl) rfl rfl <| .nil <| .go <| .ret ?_
                  refine .ret ?_
                  refine .tail ?_
                  refine Post.retE rfl rfl ?_
                  refine congrArg (Value.int .i64) ?_
                  unfold orderWhy orderOk noName
                  simp_all

end Go.Proofs.YtajpakifkinadaaGreatDoor
