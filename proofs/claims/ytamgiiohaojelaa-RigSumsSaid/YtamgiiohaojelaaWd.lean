/- Walks of functions over a symbolic memory, printed by a program of the session. -/
import Derived.Test.YtamgiiohaojelaaWc
namespace Go.Proofs.Ytamgiiohaojelaa
open Go.Sy
set_option linter.unusedSimpArgs false
set_option linter.unusedVariables false

theorem within_sub {l o : List Pr} (h : ∀ p ∈ l, p ∈ o) : within l o = true := by
  unfold within
  refine List.all_eq_true.2 fun p hp => List.any_eq_true.2 ⟨p, h p hp, by simp⟩
theorem mem_cut {α : Type} {l : List α} {a b : Nat} {p : α} (h : p ∈ (l.take b).drop a) : p ∈ l := List.mem_of_mem_take (List.mem_of_mem_drop h)

set_option maxHeartbeats 1000000 in
set_option maxRecDepth 20000 in
theorem RigOwn_ok {I : Imm} {O : Own} {nc tc : List Value} {n : Nod} {t : Tsk} (hn : NodR I nc n) (ht : TskR I tc t) {i : Int} (hi : I64 i) :
    Pure Try.prog 6 [.agg ⟨nc⟩, .agg ⟨tc⟩, .int .i64 i] I O (.bool true) := by
  have hn0 := hn
  obtain ⟨nl, nt, rfl, hnl, hnt⟩ := hn.ex
  have hnl0 := hnl
  obtain ⟨la, lcap, rfl, hl1, hl2, -⟩ := hnl
  have hnt0 := hnt
  obtain ⟨ta, tcap, rfl, ht1, ht2, -⟩ := hnt
  have ht0 := ht
  obtain ⟨tw, tb, rfl, htw, htb⟩ := ht.ex
  have htw0 := htw
  obtain ⟨wa, wcap, rfl, hw1, hw2, -⟩ := htw
  have htb0 := htb
  obtain ⟨ba, bcap, rfl, hb1, hb2, -⟩ := htb
  unfold I64 at hi
  refine Does.enter Try.func6 rfl Try.ntmps6 rfl ?_
  refine .seq <| .region <| .on rfl <| .box rfl rfl rfl fun c1 _ _ => .on rfl <| .box rfl rfl rfl fun c2 _ _ => .e (.assign rfl) rfl rfl <| .nil ?_
  refine .go <| .seq <| .seq <| .region <| .on rfl <| .callP cal13 rfl rfl rfl (suits_ok) <| .e (.not rfl) rfl rfl ?_
  refine .nil <| .go <| .cond_false rfl <| .skip <| .go <| .seq ?_
  refine .region <| .e (.build bs25 zv25 rfl rfl) rfl rfl <| .on rfl <| .alloc zr25 rfl fun c3 _ _ => .on rfl <| .storeW sz25 rfl rfl rfl rfl rfl rfl .here <| .nil <| .go ?_
  refine .seq <| .region <| .e (.loadW ag30 sz30 rfl (.there <| .there <| .here) rfl) rfl rfl <| .on rfl <| .alloc zr30 rfl fun c4 _ _ => .on rfl <| .storeW sz30 rfl rfl rfl rfl rfl rfl .here <| .nil ?_
  refine .go <| .seq <| .region <| .e (.fieldAddr fo30_3 rfl) rfl rfl <| .on rfl <| .store sz23 rfl rfl rfl rfl rfl rfl .here <| .nil ?_
  refine .go <| .seq <| .seq <| .region <| .e (.loadW ag25 sz25 rfl (.there <| .here) rfl) rfl rfl <| .e (.loadW ag30 sz30 rfl .here rfl) rfl rfl ?_
  refine .on rfl <| .callP cal14 rfl rfl rfl ((Suits_ok (t := task0) (n := { n with taints := [] }) task0_R ⟨⟨_, _, rfl, hnl0, prsNil⟩, hn0.name, hn0.has⟩).castT (by simp [suits, task0, within])) <| .e (.not rfl) rfl rfl <| .nil <| .go <| .cond_false rfl <| .skip ?_
  refine .go <| .seq <| .seq <| .region <| .e (.move rfl) rfl rfl <| .e (.lss rfl rfl) rfl rfl ?_
  refine .e (.move rfl) rfl rfl ?_
  refine .split 20 rfl (fun h20 => ?_) (fun h20 => ?_)
  · skip
    replace h20 := of_decide_eq_true h20
    refine .off rfl rfl <| .off rfl rfl <| .off rfl rfl <| .off rfl rfl <| .off rfl rfl <| .e (.pickT rfl rfl) rfl rfl ?_
    refine .nil <| .go <| .cond_true rfl <| .seq <| .region <| .e (.assign rfl) rfl rfl ?_
    refine .nil <| .go <| .ret <| .ret ?_
    refine .tail <| .tail <| .tail <| .tail ?_
    refine Post.retE rfl rfl ?_
    rfl
  · skip
    replace h20 := of_decide_eq_false h20
    refine .e (.move rfl) rfl rfl <| .e (.fieldAddr fo30_2 rfl) rfl rfl <| .e (.load ag23 rfl (.there <| .there <| .there <| .here) rfl) rfl rfl <| .e (.len sl23 rfl rfl) rfl rfl <| .e (.geq rfl rfl) rfl rfl <| .e (.pickF rfl rfl) rfl rfl ?_
    refine .nil <| .go ?_
    refine .split 26 rfl (fun h26 => ?_) (fun h26 => ?_)
    · skip
      replace h26 := of_decide_eq_true h26
      refine .cond_true rfl <| .seq <| .region <| .e (.assign rfl) rfl rfl <| .nil <| .go ?_
      refine .ret <| .ret ?_
      refine .tail <| .tail <| .tail <| .tail ?_
      refine Post.retE rfl rfl ?_
      rfl
    · skip
      replace h26 := of_decide_eq_false h26
      refine .cond_false rfl <| .skip <| .go <| .seq ?_
      refine .draw [(c1, _)] mixed (.cons (.there <| .there <| .there <| .here) .nil) ?_
      refine .t 0 rfl (.fieldAddr fo30_2 rfl) rfl rfl (by kernel_rfl) <| .t 1 rfl (.load ag23 rfl .here rfl) rfl rfl (by kernel_rfl) <| .t 2 rfl (.move rfl) rfl rfl (by kernel_rfl) <| .t 3 rfl (.move rfl) rfl rfl (by kernel_rfl) <| .t 4 rfl (.add rfl rfl (IntWalk.i64_in _ (by omega))) rfl rfl (by kernel_rfl) <| .t 5 rfl (.sliceLH (l := i.toNat) (h := i.toNat + 1) sl23 rfl rfl rfl (by omega) (by omega) (by omega) (by omega)) rfl rfl (by kernel_rfl) ?_
      refine .t 6 rfl (.fieldAddr fo30_3 rfl) rfl rfl (by kernel_rfl) <| .t 7 rfl (.load ag23 rfl .here rfl) rfl rfl (by kernel_rfl) <| .t 8 rfl (.build bs25 zv25 rfl rfl) rfl rfl (by kernel_rfl) <| .t 9 rfl (.loadW ag30 sz30 rfl .here rfl) rfl rfl (by kernel_rfl) <| .one (i := 10) (by kernel_rfl) rfl rfl <| .callP cal14 rfl rfl rfl ((Suits_ok (t := { task0 with wants := (n.labels.take (i.toNat + 1)).drop i.toNat, bears := n.taints }) (n := n) ⟨⟨_, _, rfl, hnl0.cut (by omega) (by omega), hnt0⟩, strOk_nil, a3_0, strOk_nil, strOk_nil, i64_0⟩ hn0).castT (by simp only [suits, Bool.and_eq_true]; exact ⟨within_sub fun p hp => mem_cut hp, within_sub fun p hp => hp⟩)) ?_
      refine ⟨(.cons (.there <| .there <| .there <| .here) .nil), Imm.le_refl _, ?_⟩
      refine .t 11 rfl (.assign rfl) rfl rfl (by kernel_rfl) <| .done (by kernel_rfl) <| .go <| .ret ?_
      refine .tail <| .tail <| .tail <| .tail ?_
      refine Post.retE rfl rfl ?_
      rfl

def A3.plus (x y : A3) : A3 := ⟨x.a + y.a, x.b + y.b, x.c + y.c⟩
def sumT (l : List Tsk) : A3 := l.foldl (fun x t => ⟨x.a + t.needs.a, x.b + t.needs.b, x.c + t.needs.c⟩) ⟨0, 0, 0⟩
def badT (t : Tsk) : Bool := !t.needs.amt 1
def sumR (l : List Tsk) : A3 × Int := if 32 < l.length ∨ l.any badT = true then (⟨0, 0, 0⟩, 1) else (sumT l, 0)
def sumV (l : List Tsk) : Value := .tuple ⟨[.agg ⟨[.int .i64 (sumR l).1.a, .int .i64 (sumR l).1.b, .int .i64 (sumR l).1.c]⟩, .int .i64 (sumR l).2]⟩
theorem sumT_take {l : List Tsk} {k : Nat} (hk : k < l.length) : sumT (l.take (k + 1)) = ⟨(sumT (l.take k)).a + l[k].needs.a, (sumT (l.take k)).b + l[k].needs.b, (sumT (l.take k)).c + l[k].needs.c⟩ := by
  unfold sumT
  rw [List.take_succ_eq_append_getElem hk, List.foldl_append]; rfl
theorem amt_get {l : List Tsk} {k : Nat} (hk : k < l.length) (h : l.any badT = false) : l[k].needs.amt 1 = true := by
  have := List.any_eq_false.1 h l[k] (List.getElem_mem hk)
  simpa [badT] using this
def Acc (l : List Tsk) (k : Nat) (x : A3) : Prop := x = sumT (l.take k) ∧ 0 ≤ x.a ∧ 0 ≤ x.b ∧ 0 ≤ x.c ∧ x.a ≤ 1099511627776 * (k : Int) ∧ x.b ≤ 1099511627776 * (k : Int) ∧ x.c ≤ 1099511627776 * (k : Int)
theorem Acc.step {l : List Tsk} {k : Nat} {x : A3} (hk : k < l.length) (h : Acc l k x) (hb : l[k].needs.amt 1 = true) : Acc l (k + 1) ⟨x.a + l[k].needs.a, x.b + l[k].needs.b, x.c + l[k].needs.c⟩ := by
  obtain ⟨rfl, h⟩ := h
  have hb := A3.amt_out hb
  refine ⟨(sumT_take hk).symm, ?_⟩
  dsimp only
  omega
theorem Acc.zero {l : List Tsk} : Acc l 0 ⟨0, 0, 0⟩ := ⟨rfl, by decide⟩
theorem sumV_bad {l : List Tsk} (h : 32 < l.length ∨ l.any badT = true) : Value.tuple ⟨[.agg ⟨[.int .i64 0, .int .i64 0, .int .i64 0]⟩, .int .i64 1]⟩ = sumV l := by
  unfold sumV sumR; rw [if_pos h]
theorem sumV_sum {l : List Tsk} {k : Nat} {x : A3} (hk : l.length ≤ k) (h1 : l.length ≤ 32) (h2 : l.any badT = false) (h : Acc l k x) : Value.tuple ⟨[.agg ⟨[.int .i64 x.a, .int .i64 x.b, .int .i64 x.c]⟩, .int .i64 0]⟩ = sumV l := by
  obtain ⟨rfl, _⟩ := h
  unfold sumV sumR
  rw [if_neg (by simp [h2]; omega), List.take_of_length_le hk]
theorem any_stepF {l : List Tsk} {k : Nat} (hk : k < l.length) (h : (l.take k).any badT = false) (hb : l[k].needs.amt 1 = true) : (l.take (k + 1)).any badT = false := any_take_step hk h (by simp [badT, hb])

set_option maxHeartbeats 1000000 in
set_option maxRecDepth 20000 in
theorem SumClo_ok {I : Imm} {O : Own} {tc : List Value} {t : Tsk} (ht : TskR I tc t) :
    Pure Try.prog 26 [.agg ⟨tc⟩] I O (.bool (badT t)) := by
  have ht0 := ht
  obtain ⟨tw, tb, rfl, htw, htb⟩ := ht.ex
  have htw0 := htw
  obtain ⟨wa, wcap, rfl, hw1, hw2, -⟩ := htw
  have htb0 := htb
  obtain ⟨ba, bcap, rfl, hb1, hb2, -⟩ := htb
  refine Does.enter Try.func26 rfl Try.ntmps26 rfl ?_
  refine .seq <| .region <| .on rfl <| .box rfl rfl rfl fun c1 _ _ => .e (.assign rfl) rfl rfl <| .nil <| .go ?_
  refine .seq <| .region <| .e (.fieldAddr fo25_1 rfl) rfl rfl <| .e (.loadP ag22 sz22 rfl .here rfl) rfl rfl <| .on rfl <| .callP cal24 rfl rfl rfl (amt_ok (l := t.needs) (by omega)) <| .e (.not rfl) rfl rfl ?_
  refine .e (.assign rfl) rfl rfl <| .nil <| .go <| .ret ?_
  refine .tail ?_
  refine Post.retE rfl rfl ?_
  rfl

set_option maxHeartbeats 1000000 in
set_option maxRecDepth 20000 in
theorem idxTsk_ok {I : Imm} {O : Own} {v : Value} {l : List Tsk} {p : Tsk → Bool} {g : FuncId} {us : List Value} (hl : SlR TskR 9 I v l) (hg : callee Try.prog g = true) (hf : ∀ cs x, x ∈ l → TskR I cs x → Pure Try.prog g ([.agg ⟨cs⟩] ++ us) I O (.bool (p x))) :
    Pure Try.prog 30 [v, .func (.func g) #[] ⟨us⟩] I O (.int .i64 (idxOf p l)) := by
  have hl0 := hl
  obtain ⟨la, lcap, rfl, hl1, hl2, -⟩ := hl
  refine Does.enter Try.func30 rfl Try.ntmps30 rfl ?_
  refine .seq <| .region <| .e (.assign rfl) rfl rfl <| .nil <| .go <| .seq ?_
  refine .seq <| .region <| .e (.move rfl) rfl rfl <| .e (.len sl37 rfl rfl) rfl rfl <| .e (.move rfl) rfl rfl <| .nil ?_
  refine .go <| .block ?_
  refine .loopM [4, 5, 8, 9, 10, 11, 12, 13, 14, 15, 16, 17, 18] (fun k => l.length - k) (fun k => k ≤ l.length ∧ (l.take k).any p = false) (fun k => [(8, .int .i64 k)]) (fun _ => _) (fun _ => _) (0) ⟨by omega, rfl⟩ ⟨rfl, trivial⟩ rfl rfl ?_
  intro k hk
  obtain ⟨hk, hw⟩ := hk
  refine .seq <| .region <| .e (.lss rfl rfl) rfl rfl <| .nil <| .go <| .seq ?_
  refine .split 9 rfl (fun h9 => ?_) (fun h9 => ?_)
  · skip
    replace h9 := of_decide_eq_true h9
    refine .cond_true rfl <| .skip <| .go <| .seq <| .block <| .seq ?_
    refine .region <| .e (.move rfl) rfl rfl <| .e (.assign rfl) rfl rfl <| .nil <| .go <| .seq ?_
    refine .region <| .e (.move rfl) rfl rfl <| .e (.move rfl) rfl rfl <| .e (.move rfl) rfl rfl ?_
    obtain ⟨eb14, eo14, cs14, hd14, hat14, hr14⟩ := SlR.at_ hl0 (k := k) (by omega)
    cases hd14
    refine .e (.indexAddrL sl37 rfl rfl rfl (by omega)) rfl rfl <| .e (.loadIA ag25 sz25 rfl hat14 (TskR.len hr14)) rfl rfl <| .on rfl <| .callP hg rfl rfl rfl (hf _ _ (List.getElem_mem (by omega)) hr14) <| .nil <| .go ?_
    refine .split 16 rfl (fun h16 => ?_) (fun h16 => ?_)
    · skip
      refine .cond_true rfl <| .seq <| .region <| .e (.move rfl) rfl rfl <| .e (.assign rfl) rfl rfl <| .nil ?_
      refine .go <| .ret <| .blk_ret <| .ret <| .ret <| .blk_ret ?_
      refine .ret ?_
      refine Post.retE rfl rfl ?_
      exact congrArg (Value.int .i64) (idxOf_some (by omega) hw (by simpa using h16)).symm
    · skip
      refine .cond_false rfl <| .skip <| .blk_normal <| .go <| .region <| .e (.add rfl rfl (by first | exact wrap_succ (by omega) | exact IntWalk.i64_in _ (by omega) | exact rfl)) rfl rfl ?_
      refine .e (.move rfl) rfl rfl <| .nil ?_
      exact .mid (k + 1) ⟨by omega, by omega, any_take_step (by omega) hw (by simpa using h16)⟩ ⟨rfl, trivial⟩ rfl rfl (.pre 13 rfl (.app rfl .base))
  · skip
    replace h9 := of_decide_eq_false h9
    refine .cond_false rfl <| .exit <| .exit <| .exit <| .blk_exit <| .go ?_
    refine .seq <| .region <| .e (.assign rfl) rfl rfl <| .nil <| .go <| .ret ?_
    refine Post.retE rfl rfl ?_
    exact congrArg (Value.int .i64) (idxOf_none (any_take_all (by omega) hw)).symm

set_option maxHeartbeats 1000000 in
set_option maxRecDepth 20000 in
theorem hasTsk_ok {I : Imm} {O : Own} {v : Value} {l : List Tsk} {p : Tsk → Bool} {g : FuncId} {us : List Value} (hl : SlR TskR 9 I v l) (hg : callee Try.prog g = true) (hf : ∀ cs x, x ∈ l → TskR I cs x → Pure Try.prog g ([.agg ⟨cs⟩] ++ us) I O (.bool (p x))) :
    Pure Try.prog 25 [v, .func (.func g) #[] ⟨us⟩] I O (.bool (l.any p)) := by
  refine Does.enter Try.func25 rfl Try.ntmps25 rfl ?_
  refine .seq <| .region <| .e (.assign rfl) rfl rfl <| .nil <| .go <| .seq ?_
  refine .region <| .e (.move rfl) rfl rfl <| .e (.move rfl) rfl rfl <| .on rfl <| .callP cal30 rfl rfl rfl (idxTsk_ok hl hg hf) <| .e (.geq rfl rfl) rfl rfl <| .e (.assign rfl) rfl rfl ?_
  refine .nil <| .go <| .ret ?_
  refine Post.retE rfl rfl ?_
  exact congrArg Value.bool idxOf_ge

set_option maxHeartbeats 1000000 in
set_option maxRecDepth 20000 in
theorem Sum_ok {I : Imm} {O : Own} {v : Value} {l : List Tsk} (hl : TsksR I v l) :
    Pure Try.prog 18 [v] I O (sumV l) := by
  have hl0 := hl
  obtain ⟨la, lcap, rfl, hl1, hl2, -⟩ := hl
  refine Does.enter Try.func18 rfl Try.ntmps18 rfl ?_
  refine .seq <| .region <| .on rfl <| .alloc zr22 rfl fun c1 _ _ => .e (.assign rfl) rfl rfl <| .nil <| .go ?_
  refine .seq <| .region <| .on rfl <| .alloc zr22 rfl fun c2 _ _ => .nil <| .go <| .seq ?_
  refine .seq <| .region <| .e (.move rfl) rfl rfl <| .e (.len sl37 rfl rfl) rfl rfl <| .e (.gtr rfl rfl) rfl rfl <| .e (.move rfl) rfl rfl ?_
  refine .split 11 rfl (fun h11 => ?_) (fun h11 => ?_)
  · skip
    replace h11 := of_decide_eq_true h11
    replace h11 : (l.length : Int) > 32 := h11
    refine .off rfl rfl <| .off rfl rfl <| .e (.pickT rfl rfl) rfl rfl <| .nil <| .go <| .cond_true rfl ?_
    refine .seq <| .region <| .e (.loadW ag22 sz22 rfl .here rfl) rfl rfl <| .on rfl <| .storeW sz22 rfl rfl rfl rfl rfl rfl (.there <| .here) <| .e (.assign rfl) rfl rfl <| .nil ?_
    refine .go <| .ret <| .ret ?_
    refine Post.retsE rfl (.agg rfl ag22 sz22 (.there <| .here) rfl (.tmp rfl .nil)) rfl (fun w h => h.tail.tail) ?_
    exact sumV_bad (.inl (by omega))
  · skip
    replace h11 := of_decide_eq_false h11
    refine .e (.move rfl) rfl rfl <| .on rfl <| .callP cal25 rfl rfl rfl (hasTsk_ok (p := badT) (us := []) hl0 cal26 (fun cs x _ hx => SumClo_ok hx)) <| .e (.pickF rfl rfl) rfl rfl <| .nil <| .go ?_
    refine .split 14 rfl (fun h14 => ?_) (fun h14 => ?_)
    · skip
      refine .cond_true rfl <| .seq <| .region <| .e (.loadW ag22 sz22 rfl .here rfl) rfl rfl <| .on rfl <| .storeW sz22 rfl rfl rfl rfl rfl rfl (.there <| .here) <| .e (.assign rfl) rfl rfl ?_
      refine .nil <| .go <| .ret <| .ret ?_
      refine Post.retsE rfl (.agg rfl ag22 sz22 (.there <| .here) rfl (.tmp rfl .nil)) rfl (fun w h => h.tail.tail) ?_
      exact sumV_bad (.inr h14)
    · skip
      refine .cond_false rfl <| .skip <| .go <| .seq <| .seq <| .region ?_
      refine .e (.move rfl) rfl rfl <| .e (.len sl37 rfl rfl) rfl rfl <| .e (.move rfl) rfl rfl <| .nil <| .go <| .block ?_
      refine .loopM [6, 7, 18, 19, 20, 21, 22, 23, 24, 25, 26, 27, 28, 29, 30, 31, 32, 33, 34, 35] (fun s => l.length - s.1) (fun s => s.1 ≤ l.length ∧ Acc l s.1 s.2) (fun s => [(18, .int .i64 s.1)]) (fun _ => _) (fun s => (c2, .cells ⟨[.int .i64 s.2.a, .int .i64 s.2.b, .int .i64 s.2.c]⟩ _ _) :: _) (((0, ⟨0, 0, 0⟩) : Nat × A3)) ⟨by omega, Acc.zero⟩ ⟨rfl, trivial⟩ rfl rfl ?_
      intro ⟨k, x⟩ hk
      dsimp only at hk ⊢
      obtain ⟨hk, hx⟩ := hk
      refine .seq <| .region <| .e (.lss rfl rfl) rfl rfl <| .nil <| .go <| .seq ?_
      refine .split 19 rfl (fun h19 => ?_) (fun h19 => ?_)
      · skip
        replace h19 := of_decide_eq_true h19
        refine .cond_true rfl <| .skip <| .go <| .seq <| .block <| .seq ?_
        refine .region ?_
        obtain ⟨eb20, eo20, cs20, hd20, hat20, hr20⟩ := SlR.at_ hl0 (k := k) (by omega)
        cases hd20
        obtain ⟨wv20, bv20, rfl, hwv20, hbv20⟩ := hr20.ex
        have am20 := A3.amt_out (amt_get (l := l) (k := k) (by omega) h14)
        have hx1 := hx.2
        obtain ⟨wa20, wc20, rfl, -⟩ := hwv20
        obtain ⟨ba20, bc20, rfl, -⟩ := hbv20
        refine .e (.indexAddrL sl37 rfl rfl rfl (by omega)) rfl rfl <| .e (.loadIA ag25 sz25 rfl hat20 rfl) rfl rfl <| .on rfl <| .alloc zr25 rfl fun c3 _ _ => .on rfl <| .storeW sz25 rfl rfl rfl rfl rfl rfl .here <| .nil <| .go ?_
        refine .seq <| .region <| .e (.move rfl) rfl rfl <| .nil <| .go <| .block ?_
        refine .unroll 3 <| .seq <| .region <| .e (.lss rfl rfl) rfl rfl <| .nil <| .go ?_
        refine .seq <| .cond_true rfl <| .skip <| .go <| .seq <| .block ?_
        refine .seq <| .region <| .e (.move rfl) rfl rfl <| .e (.assign rfl) rfl rfl <| .nil <| .go ?_
        refine .draw [(c3, _)] mixed (.cons .here .nil) ?_
        refine .t 0 rfl (.move rfl) rfl rfl (by kernel_rfl) <| .t 1 rfl (.indexAddrA (j := 0) ar22 rfl rfl rfl (by first | decide | omega)) rfl rfl (by kernel_rfl) <| .t 3 rfl (.move rfl) rfl rfl (by kernel_rfl) <| .t 4 rfl (.fieldAddr fo25_1 rfl) rfl rfl (by kernel_rfl) <| .t 5 rfl (.indexAddrA (j := 0) ar22 rfl rfl rfl (by first | decide | omega)) rfl rfl (by kernel_rfl) <| .t 6 rfl (.load ag2 rfl .here rfl) rfl rfl (by kernel_rfl) ?_
        refine .one (i := 2) (by kernel_rfl) rfl rfl ?_
        refine .ev (.load ag2 rfl (.there <| .here) rfl) rfl ⟨(.cons .here .nil), Imm.le_refl _, ?_⟩
        refine .t 7 rfl (.add rfl rfl (IntWalk.i64_in _ (by omega))) rfl rfl (by kernel_rfl) <| .t 8 rfl (.indexAddrA (j := 0) ar22 rfl rfl rfl (by first | decide | omega)) rfl rfl (by kernel_rfl) <| .one (i := 9) (by kernel_rfl) rfl rfl <| .store sz2 rfl rfl rfl rfl rfl rfl (.there <| .here) ?_
        refine ⟨(.cons .here .nil), Imm.le_refl _, ?_⟩
        refine .done (by kernel_rfl) <| .blk_normal <| .go <| .region <| .e (.add (c := 1) rfl rfl (by decide)) rfl rfl <| .e (.move rfl) rfl rfl ?_
        refine .nil <| .again <| .seq <| .region <| .e (.lss rfl rfl) rfl rfl <| .nil ?_
        refine .go <| .seq <| .cond_true rfl <| .skip <| .go <| .seq ?_
        refine .block <| .seq <| .region <| .e (.move rfl) rfl rfl <| .e (.assign rfl) rfl rfl <| .nil ?_
        refine .go ?_
        refine .draw [(c3, _)] mixed (.cons .here .nil) ?_
        refine .t 0 rfl (.move rfl) rfl rfl (by kernel_rfl) <| .t 1 rfl (.indexAddrA (j := 1) ar22 rfl rfl rfl (by first | decide | omega)) rfl rfl (by kernel_rfl) <| .t 3 rfl (.move rfl) rfl rfl (by kernel_rfl) <| .t 4 rfl (.fieldAddr fo25_1 rfl) rfl rfl (by kernel_rfl) <| .t 5 rfl (.indexAddrA (j := 1) ar22 rfl rfl rfl (by first | decide | omega)) rfl rfl (by kernel_rfl) <| .t 6 rfl (.load ag2 rfl .here rfl) rfl rfl (by kernel_rfl) ?_
        refine .one (i := 2) (by kernel_rfl) rfl rfl ?_
        refine .ev (.load ag2 rfl (.there <| .here) rfl) rfl ⟨(.cons .here .nil), Imm.le_refl _, ?_⟩
        refine .t 7 rfl (.add rfl rfl (IntWalk.i64_in _ (by omega))) rfl rfl (by kernel_rfl) <| .t 8 rfl (.indexAddrA (j := 1) ar22 rfl rfl rfl (by first | decide | omega)) rfl rfl (by kernel_rfl) <| .one (i := 9) (by kernel_rfl) rfl rfl <| .store sz2 rfl rfl rfl rfl rfl rfl (.there <| .here) ?_
        refine ⟨(.cons .here .nil), Imm.le_refl _, ?_⟩
        refine .done (by kernel_rfl) <| .blk_normal <| .go <| .region <| .e (.add (c := 2) rfl rfl (by decide)) rfl rfl <| .e (.move rfl) rfl rfl ?_
        refine .nil <| .again <| .seq <| .region <| .e (.lss rfl rfl) rfl rfl <| .nil ?_
        refine .go <| .seq <| .cond_true rfl <| .skip <| .go <| .seq ?_
        refine .block <| .seq <| .region <| .e (.move rfl) rfl rfl <| .e (.assign rfl) rfl rfl <| .nil ?_
        refine .go ?_
        refine .draw [(c3, _)] mixed (.cons .here .nil) ?_
        refine .t 0 rfl (.move rfl) rfl rfl (by kernel_rfl) <| .t 1 rfl (.indexAddrA (j := 2) ar22 rfl rfl rfl (by first | decide | omega)) rfl rfl (by kernel_rfl) <| .t 3 rfl (.move rfl) rfl rfl (by kernel_rfl) <| .t 4 rfl (.fieldAddr fo25_1 rfl) rfl rfl (by kernel_rfl) <| .t 5 rfl (.indexAddrA (j := 2) ar22 rfl rfl rfl (by first | decide | omega)) rfl rfl (by kernel_rfl) <| .t 6 rfl (.load ag2 rfl .here rfl) rfl rfl (by kernel_rfl) ?_
        refine .one (i := 2) (by kernel_rfl) rfl rfl ?_
        refine .ev (.load ag2 rfl (.there <| .here) rfl) rfl ⟨(.cons .here .nil), Imm.le_refl _, ?_⟩
        refine .t 7 rfl (.add rfl rfl (IntWalk.i64_in _ (by omega))) rfl rfl (by kernel_rfl) <| .t 8 rfl (.indexAddrA (j := 2) ar22 rfl rfl rfl (by first | decide | omega)) rfl rfl (by kernel_rfl) <| .one (i := 9) (by kernel_rfl) rfl rfl <| .store sz2 rfl rfl rfl rfl rfl rfl (.there <| .here) ?_
        refine ⟨(.cons .here .nil), Imm.le_refl _, ?_⟩
        refine .done (by kernel_rfl) <| .blk_normal <| .go <| .region <| .e (.add (c := 3) rfl rfl (by decide)) rfl rfl <| .e (.move rfl) rfl rfl ?_
        refine .nil <| .again <| .seq <| .region <| .e (.lss rfl rfl) rfl rfl <| .nil ?_
        refine .go <| .seq <| .cond_false rfl <| .exit <| .exit <| .exit ?_
        refine .blk_exit <| .blk_normal <| .go <| .region <| .e (.add rfl rfl (by first | exact wrap_succ (by omega) | exact IntWalk.i64_in _ (by omega) | exact rfl)) rfl rfl <| .e (.move rfl) rfl rfl ?_
        refine .nil ?_
        refine .tail ?_
        exact .mid ((k + 1, ⟨x.a + l[k].needs.a, x.b + l[k].needs.b, x.c + l[k].needs.c⟩)) ⟨by dsimp only; omega, by dsimp only; omega, hx.step (by omega) (amt_get (by omega) h14)⟩ ⟨rfl, trivial⟩ rfl rfl (.pre 51 rfl (.app rfl .base))
      · skip
        replace h19 := of_decide_eq_false h19
        refine .cond_false rfl <| .exit <| .exit <| .exit <| .blk_exit <| .go ?_
        refine .seq <| .region <| .e (.loadW ag22 sz22 rfl .here rfl) rfl rfl <| .on rfl <| .storeW sz22 rfl rfl rfl rfl rfl rfl (.there <| .here) <| .e (.assign rfl) rfl rfl <| .nil ?_
        refine .go <| .ret ?_
        refine Post.retsE rfl (.agg rfl ag22 sz22 (.there <| .here) rfl (.tmp rfl .nil)) rfl (fun w h => h.tail.tail) ?_
        exact sumV_sum (k := k) (by omega) (by omega) h14 hx

set_option maxHeartbeats 1000000 in
set_option maxRecDepth 20000 in
theorem rSum_ok {I : Imm} {O : Own} {v : Value} {l : List Tsk} (hl : TsksR I v l) :
    Pure Try.prog 19 [v] I O (sumV l) := by
  have hl0 := hl
  obtain ⟨la, lcap, rfl, hl1, hl2, -⟩ := hl
  refine Does.enter Try.func19 rfl Try.ntmps19 rfl ?_
  refine .seq <| .region <| .on rfl <| .alloc zr22 rfl fun c1 _ _ => .e (.assign rfl) rfl rfl <| .nil <| .go ?_
  refine .seq <| .region <| .on rfl <| .alloc zr22 rfl fun c2 _ _ => .nil <| .go <| .seq ?_
  refine .seq <| .region <| .e (.move rfl) rfl rfl <| .e (.len sl37 rfl rfl) rfl rfl <| .e (.gtr rfl rfl) rfl rfl <| .nil ?_
  refine .go ?_
  refine .split 11 rfl (fun h11 => ?_) (fun h11 => ?_)
  · skip
    replace h11 := of_decide_eq_true h11
    refine .cond_true rfl <| .seq <| .region <| .e (.loadW ag22 sz22 rfl .here rfl) rfl rfl <| .on rfl <| .storeW sz22 rfl rfl rfl rfl rfl rfl (.there <| .here) <| .e (.assign rfl) rfl rfl ?_
    refine .nil <| .go <| .ret <| .ret ?_
    refine Post.retsE rfl (.agg rfl ag22 sz22 (.there <| .here) rfl (.tmp rfl .nil)) rfl (fun w h => h.tail.tail) ?_
    exact sumV_bad (.inl (by omega))
  · skip
    replace h11 := of_decide_eq_false h11
    refine .cond_false rfl <| .skip <| .go <| .seq <| .seq <| .region ?_
    refine .e (.move rfl) rfl rfl <| .e (.len sl37 rfl rfl) rfl rfl <| .e (.move rfl) rfl rfl <| .nil <| .go <| .block ?_
    refine .loopM [3, 6, 7, 8, 15, 16, 17, 18, 19, 20, 21, 22, 23, 24, 25, 26, 27, 28, 29, 30, 31, 32, 33, 34, 35, 36, 37] (fun s => l.length - s.1) (fun s => s.1 ≤ l.length ∧ Acc l s.1 s.2 ∧ (l.take s.1).any badT = false) (fun s => [(15, .int .i64 s.1)]) (fun _ => _) (fun s => (c2, .cells ⟨[.int .i64 s.2.a, .int .i64 s.2.b, .int .i64 s.2.c]⟩ _ _) :: _) (((0, ⟨0, 0, 0⟩) : Nat × A3)) ⟨by omega, Acc.zero, rfl⟩ ⟨rfl, trivial⟩ rfl rfl ?_
    intro ⟨k, x⟩ hk
    dsimp only at hk ⊢
    obtain ⟨hk, hx, hbad⟩ := hk
    refine .seq <| .region <| .e (.lss rfl rfl) rfl rfl <| .nil <| .go <| .seq ?_
    refine .split 16 rfl (fun h16 => ?_) (fun h16 => ?_)
    · skip
      replace h16 := of_decide_eq_true h16
      refine .cond_true rfl <| .skip <| .go <| .seq <| .block <| .seq ?_
      refine .region ?_
      obtain ⟨eb17, eo17, cs17, hd17, hat17, hr17⟩ := SlR.at_ hl0 (k := k) (by omega)
      cases hd17
      obtain ⟨wv17, bv17, rfl, hwv17, hbv17⟩ := hr17.ex
      have hx1 := hx.2
      obtain ⟨wa17, wc17, rfl, -⟩ := hwv17
      obtain ⟨ba17, bc17, rfl, -⟩ := hbv17
      refine .e (.indexAddrL sl37 rfl rfl rfl (by omega)) rfl rfl <| .e (.loadIA ag25 sz25 rfl hat17 rfl) rfl rfl <| .on rfl <| .alloc zr25 rfl fun c3 _ _ => .on rfl <| .storeW sz25 rfl rfl rfl rfl rfl rfl .here <| .nil <| .go ?_
      refine .seq <| .seq <| .region <| .e (.fieldAddr fo25_1 rfl) rfl rfl <| .e (.loadP ag22 sz22 rfl .here rfl) rfl rfl <| .on rfl <| .callP cal27 rfl rfl rfl (ramt_ok (l := l[k].needs) (by omega)) ?_
      refine .e (.not rfl) rfl rfl <| .nil <| .go ?_
      refine .split 22 rfl (fun h22 => ?_) (fun h22 => ?_)
      · skip
        refine .cond_true rfl <| .seq <| .region <| .e (.buildA ar22 zv22 rfl rfl) rfl rfl <| .on rfl <| .storeW sz22 rfl rfl rfl rfl rfl rfl (.there <| .there <| .here) <| .e (.assign rfl) rfl rfl ?_
        refine .nil <| .go <| .ret <| .ret <| .blk_ret <| .ret ?_
        refine .ret <| .blk_ret <| .ret ?_
        refine Post.retsE rfl (.agg rfl ag22 sz22 (.there <| .there <| .here) rfl (.tmp rfl .nil)) rfl (fun w h => h.tail.tail.tail) ?_
        exact sumV_bad (.inr (List.any_eq_true.2 ⟨l[k], List.getElem_mem (by omega), h22⟩))
      · skip
        have am20 := A3.amt_out (l := l[k].needs) (t := 1) (by simpa using h22)
        refine .cond_false rfl <| .skip <| .go <| .seq <| .region <| .e (.fieldAddr fo25_1 rfl) rfl rfl ?_
        refine .e (.loadP ag22 sz22 rfl .here rfl) rfl rfl <| .e (.move rfl) rfl rfl <| .nil <| .go <| .block <| .unroll 3 ?_
        refine .seq <| .region <| .e (.lss rfl rfl) rfl rfl <| .nil <| .go <| .seq ?_
        refine .cond_true rfl <| .skip <| .go <| .seq <| .block <| .seq ?_
        refine .region <| .e (.move rfl) rfl rfl <| .e (.index (j := 0) ar22 ag2 rfl rfl rfl (by first | decide | omega) rfl) rfl rfl <| .e (.assign rfl) rfl rfl <| .e (.assign rfl) rfl rfl <| .nil ?_
        refine .go <| .region <| .e (.move rfl) rfl rfl <| .e (.indexAddrA (j := 0) ar22 rfl rfl rfl (by first | decide | omega)) rfl rfl <| .e (.load ag2 rfl (.there <| .here) rfl) rfl rfl <| .e (.move rfl) rfl rfl ?_
        refine .e (.add rfl rfl (IntWalk.i64_in _ (by omega))) rfl rfl <| .e (.indexAddrA (j := 0) ar22 rfl rfl rfl (by first | decide | omega)) rfl rfl <| .on rfl <| .store sz2 rfl rfl rfl rfl rfl rfl (.there <| .here) <| .nil <| .blk_normal <| .go ?_
        refine .region <| .e (.add (c := 1) rfl rfl (by decide)) rfl rfl <| .e (.move rfl) rfl rfl <| .nil <| .again <| .seq ?_
        refine .region <| .e (.lss rfl rfl) rfl rfl <| .nil <| .go <| .seq <| .cond_true rfl ?_
        refine .skip <| .go <| .seq <| .block <| .seq <| .region ?_
        refine .e (.move rfl) rfl rfl <| .e (.index (j := 1) ar22 ag2 rfl rfl rfl (by first | decide | omega) rfl) rfl rfl <| .e (.assign rfl) rfl rfl <| .e (.assign rfl) rfl rfl <| .nil <| .go ?_
        refine .region <| .e (.move rfl) rfl rfl <| .e (.indexAddrA (j := 1) ar22 rfl rfl rfl (by first | decide | omega)) rfl rfl <| .e (.load ag2 rfl (.there <| .here) rfl) rfl rfl <| .e (.move rfl) rfl rfl <| .e (.add rfl rfl (IntWalk.i64_in _ (by omega))) rfl rfl ?_
        refine .e (.indexAddrA (j := 1) ar22 rfl rfl rfl (by first | decide | omega)) rfl rfl <| .on rfl <| .store sz2 rfl rfl rfl rfl rfl rfl (.there <| .here) <| .nil <| .blk_normal <| .go <| .region ?_
        refine .e (.add (c := 2) rfl rfl (by decide)) rfl rfl <| .e (.move rfl) rfl rfl <| .nil <| .again <| .seq <| .region ?_
        refine .e (.lss rfl rfl) rfl rfl <| .nil <| .go <| .seq <| .cond_true rfl <| .skip ?_
        refine .go <| .seq <| .block <| .seq <| .region <| .e (.move rfl) rfl rfl ?_
        refine .e (.index (j := 2) ar22 ag2 rfl rfl rfl (by first | decide | omega) rfl) rfl rfl <| .e (.assign rfl) rfl rfl <| .e (.assign rfl) rfl rfl <| .nil <| .go <| .region ?_
        refine .e (.move rfl) rfl rfl <| .e (.indexAddrA (j := 2) ar22 rfl rfl rfl (by first | decide | omega)) rfl rfl <| .e (.load ag2 rfl (.there <| .here) rfl) rfl rfl <| .e (.move rfl) rfl rfl <| .e (.add rfl rfl (IntWalk.i64_in _ (by omega))) rfl rfl <| .e (.indexAddrA (j := 2) ar22 rfl rfl rfl (by first | decide | omega)) rfl rfl ?_
        refine .on rfl <| .store sz2 rfl rfl rfl rfl rfl rfl (.there <| .here) <| .nil <| .blk_normal <| .go <| .region <| .e (.add (c := 3) rfl rfl (by decide)) rfl rfl ?_
        refine .e (.move rfl) rfl rfl <| .nil <| .again <| .seq <| .region <| .e (.lss rfl rfl) rfl rfl ?_
        refine .nil <| .go <| .seq <| .cond_false rfl <| .exit <| .exit ?_
        refine .exit <| .blk_exit <| .blk_normal <| .go <| .region <| .e (.add rfl rfl (by first | exact wrap_succ (by omega) | exact IntWalk.i64_in _ (by omega) | exact rfl)) rfl rfl ?_
        refine .e (.move rfl) rfl rfl <| .nil ?_
        refine .tail ?_
        exact .mid ((k + 1, ⟨x.a + l[k].needs.a, x.b + l[k].needs.b, x.c + l[k].needs.c⟩)) ⟨by dsimp only; omega, by dsimp only; omega, hx.step (by omega) (by simpa using h22), any_stepF (by omega) hbad (by simpa using h22)⟩ ⟨rfl, trivial⟩ rfl rfl (.pre 55 rfl (.app rfl .base))
    · skip
      replace h16 := of_decide_eq_false h16
      refine .cond_false rfl <| .exit <| .exit <| .exit <| .blk_exit <| .go ?_
      refine .seq <| .region <| .e (.loadW ag22 sz22 rfl .here rfl) rfl rfl <| .on rfl <| .storeW sz22 rfl rfl rfl rfl rfl rfl (.there <| .here) <| .e (.assign rfl) rfl rfl <| .nil ?_
      refine .go <| .ret ?_
      refine Post.retsE rfl (.agg rfl ag22 sz22 (.there <| .here) rfl (.tmp rfl .nil)) rfl (fun w h => h.tail.tail) ?_
      exact sumV_sum (k := k) (by omega) (by omega) (by rwa [List.take_of_length_le (by omega)] at hbad) hx

theorem eqA3 {x y : A3} : EqOk Try.prog 22 (.agg ⟨[.int .i64 x.a, .int .i64 x.b, .int .i64 x.c]⟩) (.agg ⟨[.int .i64 y.a, .int .i64 y.b, .int .i64 y.c]⟩) (decide (x = y)) := by
  have e : decide (x = y) = (decide (x.a = y.a) && (decide (x.b = y.b) && decide (x.c = y.c))) := by cases x; cases y; simp
  rw [e]; exact .arr3 Try.underlying22 Try.underlying2 sz2 (by kernel_rfl)
theorem eqA3T {x : A3} : EqOk Try.prog 22 (.agg ⟨[.int .i64 x.a, .int .i64 x.b, .int .i64 x.c]⟩) (.agg ⟨[.int .i64 x.a, .int .i64 x.b, .int .i64 x.c]⟩) true := by
  have := @eqA3 x x; simpa using this

set_option maxHeartbeats 1000000 in
set_option maxRecDepth 20000 in
theorem RigRooms_ok {I : Imm} {O : Own} {nc : List Value} {n : Nod} (hn : NodR I nc n) {u d : A3} {v : Value} {l : List Tsk} (hl : TsksR I v l) :
    Pure Try.prog 8 [.agg ⟨nc⟩, .agg ⟨[.int .i64 u.a, .int .i64 u.b, .int .i64 u.c]⟩, .agg ⟨[.int .i64 d.a, .int .i64 d.b, .int .i64 d.c]⟩, v] I O (.bool true) := by
  have hl9 := hl
  have hn0 := hn
  obtain ⟨nl, nt, rfl, hnl, hnt⟩ := hn.ex
  have hnl0 := hnl
  obtain ⟨la, lcap, rfl, hl1, hl2, -⟩ := hnl
  have hnt0 := hnt
  obtain ⟨ta, tcap, rfl, ht1, ht2, -⟩ := hnt
  obtain ⟨xa, xcap, rfl, hx1, hx2, -⟩ := hl
  refine Does.enter Try.func8 rfl Try.ntmps8 rfl ?_
  refine .seq <| .region <| .on rfl <| .box rfl rfl rfl fun c1 _ _ => .on rfl <| .box rfl rfl rfl fun c2 _ _ => .on rfl <| .box rfl rfl rfl fun c3 _ _ => .e (.assign rfl) rfl rfl ?_
  refine .nil <| .go <| .seq <| .region <| .e (.move rfl) rfl rfl <| .on rfl <| .callP cal18 rfl rfl rfl (Sum_ok hl9) ?_
  refine .e (.move rfl) rfl rfl <| .e (.extract rfl rfl) rfl rfl <| .e (.extract rfl rfl) rfl rfl <| .on rfl <| .alloc zr22 rfl fun c4 _ _ => .on rfl <| .storeW sz22 rfl rfl rfl rfl rfl rfl .here <| .e (.assign rfl) rfl rfl ?_
  refine .nil <| .go <| .seq <| .region <| .e (.move rfl) rfl rfl <| .on rfl <| .callP cal19 rfl rfl rfl (rSum_ok hl9) ?_
  refine .e (.move rfl) rfl rfl <| .e (.extract rfl rfl) rfl rfl <| .e (.extract rfl rfl) rfl rfl <| .on rfl <| .alloc zr22 rfl fun c5 _ _ => .on rfl <| .storeW sz22 rfl rfl rfl rfl rfl rfl .here <| .e (.assign rfl) rfl rfl ?_
  refine .nil <| .go <| .seq ?_
  refine .draw [(c1, _), (c2, _), (c3, _), (c4, _), (c5, _)] mixed (.cons (.there <| .there <| .there <| .there <| .here) (.cons (.there <| .there <| .there <| .here) (.cons (.there <| .there <| .here) (.cons (.there <| .here) (.cons .here .nil))))) ?_
  refine .one (i := 0) (by kernel_rfl) rfl rfl <| .callP cal16 rfl rfl rfl (rooms_ok) ?_
  refine ⟨(.cons (.there <| .there <| .there <| .there <| .here) (.cons (.there <| .there <| .there <| .here) (.cons (.there <| .there <| .here) (.cons (.there <| .here) (.cons .here .nil))))), Imm.le_refl _, ?_⟩
  refine .t 1 rfl (.move rfl) rfl rfl (by kernel_rfl) <| .t 2 rfl (.loadW ag30 sz30 rfl .here rfl) rfl rfl (by kernel_rfl) <| .t 3 rfl (.loadW ag22 sz22 rfl (.there <| .here) rfl) rfl rfl (by kernel_rfl) <| .t 4 rfl (.loadW ag22 sz22 rfl (.there <| .there <| .here) rfl) rfl rfl (by kernel_rfl) <| .t 6 rfl (.loadW ag30 sz30 rfl .here rfl) rfl rfl (by kernel_rfl) <| .t 7 rfl (.loadW ag22 sz22 rfl (.there <| .here) rfl) rfl rfl (by kernel_rfl) ?_
  refine .t 8 rfl (.loadW ag22 sz22 rfl (.there <| .there <| .here) rfl) rfl rfl (by kernel_rfl) <| .one (i := 5) (by kernel_rfl) rfl rfl <| .callP cal17 rfl rfl rfl (Room_ok (u := u) (d := d) hn0) ?_
  refine ⟨(.cons (.there <| .there <| .there <| .there <| .here) (.cons (.there <| .there <| .there <| .here) (.cons (.there <| .there <| .here) (.cons (.there <| .here) (.cons .here .nil))))), Imm.le_refl _, ?_⟩
  refine .one (i := 9) (by kernel_rfl) rfl rfl <| .callP cal20 rfl rfl rfl (rRoom_ok (u := u) (d := d) hn0) ?_
  refine ⟨(.cons (.there <| .there <| .there <| .there <| .here) (.cons (.there <| .there <| .there <| .here) (.cons (.there <| .there <| .here) (.cons (.there <| .here) (.cons .here .nil))))), Imm.le_refl _, ?_⟩
  refine .t 10 rfl (.eqv (eqBoolT (by rfl)) rfl rfl) rfl rfl (by kernel_rfl) <| .t 11 rfl (.pickT rfl rfl) rfl rfl (by kernel_rfl) <| .t 12 rfl (.move rfl) rfl rfl (by kernel_rfl) <| .t 13 rfl (.loadW ag22 sz22 rfl (.there <| .there <| .there <| .here) rfl) rfl rfl (by kernel_rfl) <| .t 14 rfl (.loadW ag22 sz22 rfl (.there <| .there <| .there <| .there <| .here) rfl) rfl rfl (by kernel_rfl) <| .t 15 rfl (.eqv eqA3T rfl rfl) rfl rfl (by kernel_rfl) ?_
  refine .t 16 rfl (.pickT rfl rfl) rfl rfl (by kernel_rfl) <| .t 17 rfl (.move rfl) rfl rfl (by kernel_rfl) <| .t 18 rfl (.move rfl) rfl rfl (by kernel_rfl) <| .t 19 rfl (.move rfl) rfl rfl (by kernel_rfl) <| .t 20 rfl (.eql rfl rfl) rfl rfl (by kernel_rfl) <| .t 21 rfl (.pickT rfl rfl) rfl rfl (by kernel_rfl) ?_
  refine .t 22 rfl (.assign rfl) rfl rfl (by kernel_rfl) <| .done (by kernel_rfl) <| .go <| .ret ?_
  refine .tail <| .tail <| .tail <| .tail <| .tail ?_
  refine Post.retE rfl rfl ?_
  simp

end Go.Proofs.Ytamgiiohaojelaa
