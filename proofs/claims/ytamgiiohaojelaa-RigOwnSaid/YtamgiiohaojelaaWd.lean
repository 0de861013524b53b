/- Walks of functions over a symbolic memory, printed by a program of the session. -/
import Derived.Test.YtamgiiohaojelaaWc
namespace Go.Proofs.Ytamgiiohaojelaa
open Go.Sy
set_option linter.unusedSimpArgs false
set_option linter.unusedVariables false

theorem within_sub {l o : List Pr} (h : ∀ p ∈ l, p ∈ o) : within l o = true := by
  unfold within
  refine List.all_eq_true.2 fun p hp => List.any_eq_true.2 ⟨p, h p hp, by simp⟩
theorem mem_cut {α : Type} {l : List α} {a b : Nat} {p : α} (h : p ∈ (l.take b).drop a) : p ∈ l := List.mem_of_mem_take (List.mem_of_mem_drop h)

set_option maxHeartbeats 1000000 in
set_option maxRecDepth 20000 in
theorem RigOwn_ok {I : Imm} {O : Own} {nc tc : List Value} {n : Nod} {t : Tsk} (hn : NodR I nc n) (ht : TskR I tc t) {i : Int} (hi : I64 i) :
    Pure Try.prog 6 [.agg ⟨nc⟩, .agg ⟨tc⟩, .int .i64 i] I O (.bool true) := by
  have hn0 := hn
  obtain ⟨nl, nt, rfl, hnl, hnt⟩ := hn.ex
  have hnl0 := hnl
  obtain ⟨la, lcap, rfl, hl1, hl2, -⟩ := hnl
  have hnt0 := hnt
  obtain ⟨ta, tcap, rfl, ht1, ht2, -⟩ := hnt
  have ht0 := ht
  obtain ⟨tw, tb, rfl, htw, htb⟩ := ht.ex
  have htw0 := htw
  obtain ⟨wa, wcap, rfl, hw1, hw2, -⟩ := htw
  have htb0 := htb
  obtain ⟨ba, bcap, rfl, hb1, hb2, -⟩ := htb
  unfold I64 at hi
  refine Does.enter Try.func6 rfl Try.ntmps6 rfl ?_
  refine .seq <| .region <| .on rfl <| .box rfl rfl rfl fun c1 _ _ => .on rfl <| .box rfl rfl rfl fun c2 _ _ => .e (.assign rfl) rfl rfl <| .nil ?_
  refine .go <| .seq <| .seq <| .region <| .on rfl <| .callP cal13 rfl rfl rfl (suits_ok) <| .e (.not rfl) rfl rfl ?_
  refine .nil <| .go <| .cond_false rfl <| .skip <| .go <| .seq ?_
  refine .region <| .e (.build bs25 zv25 rfl rfl) rfl rfl <| .on rfl <| .alloc zr25 rfl fun c3 _ _ => .on rfl <| .storeW sz25 rfl rfl rfl rfl rfl rfl .here <| .nil <| .go ?_
  refine .seq <| .region <| .e (.loadW ag30 sz30 rfl (.there <| .there <| .here) rfl) rfl rfl <| .on rfl <| .alloc zr30 rfl fun c4 _ _ => .on rfl <| .storeW sz30 rfl rfl rfl rfl rfl rfl .here <| .nil ?_
  refine .go <| .seq <| .region <| .e (.fieldAddr fo30_3 rfl) rfl rfl <| .on rfl <| .store sz23 rfl rfl rfl rfl rfl rfl .here <| .nil ?_
  refine .go <| .seq <| .seq <| .region <| .e (.loadW ag25 sz25 rfl (.there <| .here) rfl) rfl rfl <| .e (.loadW ag30 sz30 rfl .here rfl) rfl rfl ?_
  refine .on rfl <| .callP cal14 rfl rfl rfl ((Suits_ok (t := task0) (n := { n with taints := [] }) task0_R ⟨⟨_, _, rfl, hnl0, prsNil⟩, hn0.name, hn0.has⟩).castT (by simp [suits, task0, within])) <| .e (.not rfl) rfl rfl <| .nil <| .go <| .cond_false rfl <| .skip ?_
  refine .go <| .seq <| .seq <| .region <| .e (.move rfl) rfl rfl <| .e (.lss rfl rfl) rfl rfl ?_
  refine .e (.move rfl) rfl rfl ?_
  refine .split 20 rfl (fun h20 => ?_) (fun h20 => ?_)
  · skip
    replace h20 := of_decide_eq_true h20
    refine .off rfl rfl <| .off rfl rfl <| .off rfl rfl <| .off rfl rfl <| .off rfl rfl <| .e (.pickT rfl rfl) rfl rfl ?_
    refine .nil <| .go <| .cond_true rfl <| .seq <| .region <| .e (.assign rfl) rfl rfl ?_
    refine .nil <| .go <| .ret <| .ret ?_
    refine .tail <| .tail <| .tail <| .tail ?_
    refine Post.retE rfl rfl ?_
    rfl
  · skip
    replace h20 := of_decide_eq_false h20
    refine .e (.move rfl) rfl rfl <| .e (.fieldAddr fo30_2 rfl) rfl rfl <| .e (.load ag23 rfl (.there <| .there <| .there <| .here) rfl) rfl rfl <| .e (.len sl23 rfl rfl) rfl rfl <| .e (.geq rfl rfl) rfl rfl <| .e (.pickF rfl rfl) rfl rfl ?_
    refine .nil <| .go ?_
    refine .split 26 rfl (fun h26 => ?_) (fun h26 => ?_)
    · skip
      replace h26 := of_decide_eq_true h26
      refine .cond_true rfl <| .seq <| .region <| .e (.assign rfl) rfl rfl <| .nil <| .go ?_
      refine .ret <| .ret ?_
      refine .tail <| .tail <| .tail <| .tail ?_
      refine Post.retE rfl rfl ?_
      rfl
    · skip
      replace h26 := of_decide_eq_false h26
      refine .cond_false rfl <| .skip <| .go <| .seq ?_
      refine .draw [(c1, _)] mixed (.cons (.there <| .there <| .there <| .here) .nil) ?_
      refine .t 0 rfl (.fieldAddr fo30_2 rfl) rfl rfl (by kernel_rfl) <| .t 1 rfl (.load ag23 rfl .here rfl) rfl rfl (by kernel_rfl) <| .t 2 rfl (.move rfl) rfl rfl (by kernel_rfl) <| .t 3 rfl (.move rfl) rfl rfl (by kernel_rfl) <| .t 4 rfl (.add rfl rfl (IntWalk.i64_in _ (by omega))) rfl rfl (by kernel_rfl) <| .t 5 rfl (.sliceLH (l := i.toNat) (h := i.toNat + 1) sl23 rfl rfl rfl (by omega) (by omega) (by omega) (by omega)) rfl rfl (by kernel_rfl) ?_
      refine .t 6 rfl (.fieldAddr fo30_3 rfl) rfl rfl (by kernel_rfl) <| .t 7 rfl (.load ag23 rfl .here rfl) rfl rfl (by kernel_rfl) <| .t 8 rfl (.build bs25 zv25 rfl rfl) rfl rfl (by kernel_rfl) <| .t 9 rfl (.loadW ag30 sz30 rfl .here rfl) rfl rfl (by kernel_rfl) <| .one (i := 10) (by kernel_rfl) rfl rfl <| .callP cal14 rfl rfl rfl ((Suits_ok (t := { task0 with wants := (n.labels.take (i.toNat + 1)).drop i.toNat, bears := n.taints }) (n := n) ⟨⟨_, _, rfl, hnl0.cut (by omega) (by omega), hnt0⟩, strOk_nil, a3_0, strOk_nil, strOk_nil, i64_0⟩ hn0).castT (by simp only [suits, Bool.and_eq_true]; exact ⟨within_sub fun p hp => mem_cut hp, within_sub fun p hp => hp⟩)) ?_
      refine ⟨(.cons (.there <| .there <| .there <| .here) .nil), Imm.le_refl _, ?_⟩
      refine .t 11 rfl (.assign rfl) rfl rfl (by kernel_rfl) <| .done (by kernel_rfl) <| .go <| .ret ?_
      refine .tail <| .tail <| .tail <| .tail ?_
      refine Post.retE rfl rfl ?_
      rfl

end Go.Proofs.Ytamgiiohaojelaa
