/- Walks of functions over a symbolic memory, printed by a program of the session. -/
import Derived.Test.YtajpakifkinadaaGreatDoorBc
namespace Go.Proofs.YtajpakifkinadaaGreatDoor
open Go.Sy
set_option linter.unusedSimpArgs false
set_option linter.unusedVariables false

def shuns (a b : Tsk) : Bool := !decide (a.apart = ⟨#[]⟩) && decide (a.apart = b.group)
def bear (a b : Tsk) : Bool := !shuns a b && !shuns b a

set_option maxHeartbeats 1000000 in
set_option maxRecDepth 20000 in
theorem shuns_ok {I : Imm} {O : Own} {ac bc : List Value} {a b : Tsk} (ha : TskR I ac a) (hb : TskR I bc b) :
    Pure Tryz.prog 117 [.agg ⟨ac⟩, .agg ⟨bc⟩] I O (.bool (shuns a b)) := by
  obtain ⟨aw, ab, rfl, haw, hab⟩ := ha.ex
  obtain ⟨bw, bb, rfl, hbw, hbb⟩ := hb.ex
  refine Go.Sy.Does.enter Tryz.func117 rfl Tryz.ntmps117 rfl ?_
  refine .seq <| .region <| .on rfl <| .box rfl rfl rfl fun c1 _ _ => .on rfl <| .box rfl rfl rfl fun c2 _ _ => .e (.assign rfl) rfl rfl <| .nil ?_
  refine .go <| .seq <| .region <| .e (.fieldAddr fo34_5 rfl) rfl rfl <| .e (.load ag9 rfl (.there <| .here) rfl) rfl rfl <| .e (.strne rfl rfl) rfl rfl ?_
  refine .e (.move rfl) rfl rfl ?_
  refine .split 8 rfl (fun h8 => ?_) (fun h8 => ?_)
  · skip
    first | replace h8 := of_decide_eq_false ((Bool.not_eq_true' _).mp h8) | replace h8 := of_decide_eq_false (by simpa using h8)
    refine .e (.fieldAddr fo34_5 rfl) rfl rfl <| .e (.load ag9 rfl (.there <| .here) rfl) rfl rfl <| .e (.fieldAddr fo34_4 rfl) rfl rfl <| .e (.load ag9 rfl .here rfl) rfl rfl <| .e (.streq rfl rfl) rfl rfl <| .e (.pickT rfl rfl) rfl rfl ?_
    refine .e (.assign rfl) rfl rfl <| .nil <| .go <| .ret ?_
    refine .tail <| .tail ?_
    refine Post.retE rfl rfl ?_
    simp_all [shuns]
  · skip
    first | replace h8 := of_decide_eq_true ((Bool.not_eq_false' _).mp h8) | replace h8 := of_decide_eq_true (by simpa using h8)
    refine .off rfl rfl <| .off rfl rfl <| .off rfl rfl <| .off rfl rfl <| .off rfl rfl <| .e (.pickF rfl rfl) rfl rfl ?_
    refine .e (.assign rfl) rfl rfl <| .nil <| .go <| .ret ?_
    refine .tail <| .tail ?_
    refine Post.retE rfl rfl ?_
    simp_all [shuns]

set_option maxHeartbeats 1000000 in
set_option maxRecDepth 20000 in
theorem Bear_ok {I : Imm} {O : Own} {ac bc : List Value} {a b : Tsk} (ha : TskR I ac a) (hb : TskR I bc b) :
    Pure Tryz.prog 88 [.agg ⟨ac⟩, .agg ⟨bc⟩] I O (.bool (bear a b)) := by
  obtain ⟨aw, ab, rfl, haw, hab⟩ := ha.ex
  obtain ⟨bw, bb, rfl, hbw, hbb⟩ := hb.ex
  refine Go.Sy.Does.enter Tryz.func88 rfl Tryz.ntmps88 rfl ?_
  refine .seq <| .region <| .on rfl <| .box rfl rfl rfl fun c1 _ _ => .on rfl <| .box rfl rfl rfl fun c2 _ _ => .e (.assign rfl) rfl rfl <| .nil ?_
  refine .go <| .seq <| .region <| .e (.loadW ag34 sz34 rfl (.there <| .here) rfl) rfl rfl <| .e (.loadW ag34 sz34 rfl .here rfl) rfl rfl <| .on rfl <| .callP cal117 rfl rfl rfl (shuns_ok (by assumption) (by assumption)) ?_
  refine .e (.not rfl) rfl rfl <| .e (.move rfl) rfl rfl ?_
  refine .split 9 rfl (fun h9 => ?_) (fun h9 => ?_)
  · skip
    refine .e (.loadW ag34 sz34 rfl .here rfl) rfl rfl <| .e (.loadW ag34 sz34 rfl (.there <| .here) rfl) rfl rfl <| .on rfl <| .callP cal117 rfl rfl rfl (shuns_ok (by assumption) (by assumption)) <| .e (.not rfl) rfl rfl <| .e (.pickT rfl rfl) rfl rfl <| .e (.assign rfl) rfl rfl ?_
    refine .nil <| .go <| .ret ?_
    refine .tail <| .tail ?_
    refine Post.retE rfl rfl ?_
    simp_all [bear]
  · skip
    refine .off rfl rfl <| .off rfl rfl <| .off rfl rfl <| .off rfl rfl <| .e (.pickF rfl rfl) rfl rfl <| .e (.assign rfl) rfl rfl ?_
    refine .nil <| .go <| .ret ?_
    refine .tail <| .tail ?_
    refine Post.retE rfl rfl ?_
    simp_all [bear]

def A3.plus (x y : A3) : A3 := ⟨x.a + y.a, x.b + y.b, x.c + y.c⟩
def sumT (l : List Tsk) : A3 := l.foldl (fun x t => ⟨x.a + t.needs.a, x.b + t.needs.b, x.c + t.needs.c⟩) ⟨0, 0, 0⟩
def badT (t : Tsk) : Bool := !t.needs.amt 1
def sumR (l : List Tsk) : A3 × Int := if 32 < l.length ∨ l.any badT = true then (⟨0, 0, 0⟩, 1) else (sumT l, 0)
def sumV (l : List Tsk) : Value := .tuple ⟨[.agg ⟨[.int .i64 (sumR l).1.a, .int .i64 (sumR l).1.b, .int .i64 (sumR l).1.c]⟩, .int .i64 (sumR l).2]⟩
theorem sumT_take {l : List Tsk} {k : Nat} (hk : k < l.length) : sumT (l.take (k + 1)) = ⟨(sumT (l.take k)).a + l[k].needs.a, (sumT (l.take k)).b + l[k].needs.b, (sumT (l.take k)).c + l[k].needs.c⟩ := by
  unfold sumT
  rw [List.take_succ_eq_append_getElem hk, List.foldl_append]; rfl
theorem amt_get {l : List Tsk} {k : Nat} (hk : k < l.length) (h : l.any badT = false) : l[k].needs.amt 1 = true := by
  have := List.any_eq_false.1 h l[k] (List.getElem_mem hk)
  simpa [badT] using this
def Acc (l : List Tsk) (k : Nat) (x : A3) : Prop := x = sumT (l.take k) ∧ 0 ≤ x.a ∧ 0 ≤ x.b ∧ 0 ≤ x.c ∧ x.a ≤ 1099511627776 * (k : Int) ∧ x.b ≤ 1099511627776 * (k : Int) ∧ x.c ≤ 1099511627776 * (k : Int)
theorem Acc.step {l : List Tsk} {k : Nat} {x : A3} (hk : k < l.length) (h : Acc l k x) (hb : l[k].needs.amt 1 = true) : Acc l (k + 1) ⟨x.a + l[k].needs.a, x.b + l[k].needs.b, x.c + l[k].needs.c⟩ := by
  obtain ⟨rfl, h⟩ := h
  have hb := A3.amt_out hb
  refine ⟨(sumT_take hk).symm, ?_⟩
  dsimp only
  omega
theorem Acc.zero {l : List Tsk} : Acc l 0 ⟨0, 0, 0⟩ := ⟨rfl, by decide⟩
theorem sumV_bad {l : List Tsk} (h : 32 < l.length ∨ l.any badT = true) : Value.tuple ⟨[.agg ⟨[.int .i64 0, .int .i64 0, .int .i64 0]⟩, .int .i64 1]⟩ = sumV l := by
  unfold sumV sumR; rw [if_pos h]
theorem sumV_sum {l : List Tsk} {k : Nat} {x : A3} (hk : l.length ≤ k) (h1 : l.length ≤ 32) (h2 : l.any badT = false) (h : Acc l k x) : Value.tuple ⟨[.agg ⟨[.int .i64 x.a, .int .i64 x.b, .int .i64 x.c]⟩, .int .i64 0]⟩ = sumV l := by
  obtain ⟨rfl, _⟩ := h
  unfold sumV sumR
  rw [if_neg (by simp [h2]; omega), List.take_of_length_le hk]
theorem any_stepF {l : List Tsk} {k : Nat} (hk : k < l.length) (h : (l.take k).any badT = false) (hb : l[k].needs.amt 1 = true) : (l.take (k + 1)).any badT = false := any_take_step hk h (by simp [badT, hb])

set_option maxHeartbeats 1000000 in
set_option maxRecDepth 20000 in
theorem SumClo_ok {I : Imm} {O : Own} {tc : List Value} {t : Tsk} (ht : TskR I tc t) :
    Pure Tryz.prog 111 [.agg ⟨tc⟩] I O (.bool (badT t)) := by
  have ht0 := ht
  obtain ⟨tw, tb, rfl, htw, htb⟩ := ht.ex
  have htw0 := htw
  obtain ⟨wa, wcap, rfl, hw1, hw2, -⟩ := htw
  have htb0 := htb
  obtain ⟨ba, bcap, rfl, hb1, hb2, -⟩ := htb
  refine Go.Sy.Does.enter Tryz.func111 rfl Tryz.ntmps111 rfl ?_
  refine .seq <| .region <| .on rfl <| .box rfl rfl rfl fun c1 _ _ => .e (.assign rfl) rfl rfl <| .nil <| .go ?_
  refine .seq <| .region <| .e (.fieldAddr fo34_1 rfl) rfl rfl <| .e (.loadP ag29 sz29 rfl .here rfl) rfl rfl <| .on rfl <| .callP cal78 rfl rfl rfl (amt_ok (l := t.needs) (by omega)) <| .e (.not rfl) rfl rfl ?_
  refine .e (.assign rfl) rfl rfl <| .nil <| .go <| .ret ?_
  refine .tail ?_
  refine Post.retE rfl rfl ?_
  rfl

set_option maxHeartbeats 1000000 in
set_option maxRecDepth 20000 in
theorem idxTsk_ok {I : Imm} {O : Own} {v : Value} {l : List Tsk} {p : Tsk → Bool} {g : FuncId} {us : List Value} (hl : SlR TskR 9 I v l) (hg : callee Tryz.prog g = true) (hf : ∀ cs x, x ∈ l → TskR I cs x → Pure Tryz.prog g ([.agg ⟨cs⟩] ++ us) I O (.bool (p x))) :
    Pure Tryz.prog 65 [v, .func (.func g) #[] ⟨us⟩] I O (.int .i64 (idxOf p l)) := by
  have hl0 := hl
  obtain ⟨la, lcap, rfl, hl1, hl2, -⟩ := hl
  refine Go.Sy.Does.enter Tryz.func65 rfl Tryz.ntmps65 rfl ?_
  refine .seq <| .region <| .e (.assign rfl) rfl rfl <| .nil <| .go <| .seq ?_
  refine .seq <| .region <| .e (.move rfl) rfl rfl <| .e (.len sl23 rfl rfl) rfl rfl <| .e (.move rfl) rfl rfl <| .nil ?_
  refine .go <| .block ?_
  refine .loopM [4, 5, 8, 9, 10, 11, 12, 13, 14, 15, 16, 17, 18] (fun k => l.length - k) (fun k => k ≤ l.length ∧ (l.take k).any p = false) (fun k => [(8, .int .i64 k)]) (fun _ => _) (fun _ => _) (0) ⟨by omega, rfl⟩ ⟨rfl, trivial⟩ rfl rfl ?_
  intro k hk
  obtain ⟨hk, hw⟩ := hk
  refine .seq <| .region <| .e (.lss rfl rfl) rfl rfl <| .nil <| .go <| .seq ?_
  refine .split 9 rfl (fun h9 => ?_) (fun h9 => ?_)
  · skip
    replace h9 := of_decide_eq_true h9
    refine .cond_true rfl <| .skip <| .go <| .seq <| .block <| .seq ?_
    refine .region <| .e (.move rfl) rfl rfl <| .e (.assign rfl) rfl rfl <| .nil <| .go <| .seq ?_
    refine .region <| .e (.move rfl) rfl rfl <| .e (.move rfl) rfl rfl <| .e (.move rfl) rfl rfl ?_
    obtain ⟨eb14, eo14, cs14, hd14, hat14, hr14⟩ := SlR.at_ hl0 (k := k) (by omega)
    cases hd14
    refine .e (.indexAddrL sl23 rfl rfl rfl (by omega)) rfl rfl <| .e (.loadIA ag34 sz34 rfl hat14 (TskR.len hr14)) rfl rfl <| .on rfl <| .callP hg rfl rfl rfl (hf _ _ (List.getElem_mem (by omega)) hr14) <| .nil <| .go ?_
    refine .split 16 rfl (fun h16 => ?_) (fun h16 => ?_)
    · skip
      refine .cond_true rfl <| .seq <| .region <| .e (.move rfl) rfl rfl <| .e (.assign rfl) rfl rfl <| .nil ?_
      refine .go <| .ret <| .blk_ret <| .ret <| .ret <| .blk_ret ?_
      refine .ret ?_
      refine Post.retE rfl rfl ?_
      exact congrArg (Value.int .i64) (idxOf_some (by omega) hw (by simpa using h16)).symm
    · skip
      refine .cond_false rfl <| .skip <| .blk_normal <| .go <| .region <| .e (.add rfl rfl (by first | exact wrap_succ (by omega) | exact IntWalk.i64_in _ (by omega) | exact rfl)) rfl rfl ?_
      refine .e (.move rfl) rfl rfl <| .nil ?_
      exact .mid (k + 1) ⟨by omega, by omega, any_take_step (by omega) hw (by simpa using h16)⟩ ⟨rfl, trivial⟩ rfl rfl (.pre 13 rfl (.app rfl .base))
  · skip
    replace h9 := of_decide_eq_false h9
    refine .cond_false rfl <| .exit <| .exit <| .exit <| .blk_exit <| .go ?_
    refine .seq <| .region <| .e (.assign rfl) rfl rfl <| .nil <| .go <| .ret ?_
    refine Post.retE rfl rfl ?_
    exact congrArg (Value.int .i64) (idxOf_none (any_take_all (by omega) hw)).symm

set_option maxHeartbeats 1000000 in
set_option maxRecDepth 20000 in
theorem hasTsk_ok {I : Imm} {O : Own} {v : Value} {l : List Tsk} {p : Tsk → Bool} {g : FuncId} {us : List Value} (hl : SlR TskR 9 I v l) (hg : callee Tryz.prog g = true) (hf : ∀ cs x, x ∈ l → TskR I cs x → Pure Tryz.prog g ([.agg ⟨cs⟩] ++ us) I O (.bool (p x))) :
    Pure Tryz.prog 40 [v, .func (.func g) #[] ⟨us⟩] I O (.bool (l.any p)) := by
  refine Go.Sy.Does.enter Tryz.func40 rfl Tryz.ntmps40 rfl ?_
  refine .seq <| .region <| .e (.assign rfl) rfl rfl <| .nil <| .go <| .seq ?_
  refine .region <| .e (.move rfl) rfl rfl <| .e (.move rfl) rfl rfl <| .on rfl <| .callP cal65 rfl rfl rfl (idxTsk_ok hl hg hf) <| .e (.geq rfl rfl) rfl rfl <| .e (.assign rfl) rfl rfl ?_
  refine .nil <| .go <| .ret ?_
  refine Post.retE rfl rfl ?_
  exact congrArg Value.bool idxOf_ge

set_option maxHeartbeats 1000000 in
set_option maxRecDepth 20000 in
theorem Sum_ok {I : Imm} {O : Own} {v : Value} {l : List Tsk} (hl : TsksR I v l) :
    Pure Tryz.prog 75 [v] I O (sumV l) := by
  have hl0 := hl
  obtain ⟨la, lcap, rfl, hl1, hl2, -⟩ := hl
  refine Go.Sy.Does.enter Tryz.func75 rfl Tryz.ntmps75 rfl ?_
  refine .seq <| .region <| .on rfl <| .alloc zr29 rfl fun c1 _ _ => .e (.assign rfl) rfl rfl <| .nil <| .go ?_
  refine .seq <| .region <| .on rfl <| .alloc zr29 rfl fun c2 _ _ => .nil <| .go <| .seq ?_
  refine .seq <| .region <| .e (.move rfl) rfl rfl <| .e (.len sl23 rfl rfl) rfl rfl <| .e (.gtr rfl rfl) rfl rfl <| .e (.move rfl) rfl rfl ?_
  refine .split 11 rfl (fun h11 => ?_) (fun h11 => ?_)
  · skip
    replace h11 := of_decide_eq_true h11
    replace h11 : (l.length : Int) > 32 := h11
    refine .off rfl rfl <| .off rfl rfl <| .e (.pickT rfl rfl) rfl rfl <| .nil <| .go <| .cond_true rfl ?_
    refine .seq <| .region <| .e (.loadW ag29 sz29 rfl .here rfl) rfl rfl <| .on rfl <| .storeW sz29 rfl rfl rfl rfl rfl rfl (.there <| .here) <| .e (.assign rfl) rfl rfl <| .nil ?_
    refine .go <| .ret <| .ret ?_
    refine Post.retsE rfl (.agg rfl ag29 sz29 (.there <| .here) rfl (.tmp rfl .nil)) rfl (fun w h => h.tail.tail) ?_
    exact sumV_bad (.inl (by omega))
  · skip
    replace h11 := of_decide_eq_false h11
    refine .e (.move rfl) rfl rfl <| .on rfl <| .callP cal40 rfl rfl rfl (hasTsk_ok (p := badT) (us := []) hl0 cal111 (fun cs x _ hx => SumClo_ok hx)) <| .e (.pickF rfl rfl) rfl rfl <| .nil <| .go ?_
    refine .split 14 rfl (fun h14 => ?_) (fun h14 => ?_)
    · skip
      refine .cond_true rfl <| .seq <| .region <| .e (.loadW ag29 sz29 rfl .here rfl) rfl rfl <| .on rfl <| .storeW sz29 rfl rfl rfl rfl rfl rfl (.there <| .here) <| .e (.assign rfl) rfl rfl ?_
      refine .nil <| .go <| .ret <| .ret ?_
      refine Post.retsE rfl (.agg rfl ag29 sz29 (.there <| .here) rfl (.tmp rfl .nil)) rfl (fun w h => h.tail.tail) ?_
      exact sumV_bad (.inr h14)
    · skip
      refine .cond_false rfl <| .skip <| .go <| .seq <| .seq <| .region ?_
      refine .e (.move rfl) rfl rfl <| .e (.len sl23 rfl rfl) rfl rfl <| .e (.move rfl) rfl rfl <| .nil <| .go <| .block ?_
      refine .loopM [6, 7, 18, 19, 20, 21, 22, 23, 24, 25, 26, 27, 28, 29, 30, 31, 32, 33, 34, 35] (fun s => l.length - s.1) (fun s => s.1 ≤ l.length ∧ Acc l s.1 s.2) (fun s => [(18, .int .i64 s.1)]) (fun _ => _) (fun s => (c2, .cells ⟨[.int .i64 s.2.a, .int .i64 s.2.b, .int .i64 s.2.c]⟩ _ _) :: _) (((0, ⟨0, 0, 0⟩) : Nat × A3)) ⟨by omega, Acc.zero⟩ ⟨rfl, trivial⟩ rfl rfl ?_
      intro ⟨k, x⟩ hk
      dsimp only at hk ⊢
      obtain ⟨hk, hx⟩ := hk
      refine .seq <| .region <| .e (.lss rfl rfl) rfl rfl <| .nil <| .go <| .seq ?_
      refine .split 19 rfl (fun h19 => ?_) (fun h19 => ?_)
      · skip
        replace h19 := of_decide_eq_true h19
        refine .cond_true rfl <| .skip <| .go <| .seq <| .block <| .seq ?_
        refine .region ?_
        obtain ⟨eb20, eo20, cs20, hd20, hat20, hr20⟩ := SlR.at_ hl0 (k := k) (by omega)
        cases hd20
        obtain ⟨wv20, bv20, rfl, hwv20, hbv20⟩ := hr20.ex
        have am20 := A3.amt_out (amt_get (l := l) (k := k) (by omega) h14)
        have hx1 := hx.2
        obtain ⟨wa20, wc20, rfl, -⟩ := hwv20
        obtain ⟨ba20, bc20, rfl, -⟩ := hbv20
        refine .e (.indexAddrL sl23 rfl rfl rfl (by omega)) rfl rfl <| .e (.loadIA ag34 sz34 rfl hat20 rfl) rfl rfl <| .on rfl <| .alloc zr34 rfl fun c3 _ _ => .on rfl <| .storeW sz34 rfl rfl rfl rfl rfl rfl .here <| .nil <| .go ?_
        refine .seq <| .region <| .e (.move rfl) rfl rfl <| .nil <| .go <| .block ?_
        refine .unroll 3 <| .seq <| .region <| .e (.lss rfl rfl) rfl rfl <| .nil <| .go ?_
        refine .seq <| .cond_true rfl <| .skip <| .go <| .seq <| .block ?_
        refine .seq <| .region <| .e (.move rfl) rfl rfl <| .e (.assign rfl) rfl rfl <| .nil <| .go ?_
        refine .draw [(c2, _), (c3, _)] mixed (.cons (.there <| .here) (.cons .here .nil)) ?_
        refine .t 0 rfl (.move rfl) rfl rfl (by kernel_rfl) <| .t 1 rfl (.indexAddrA (j := 0) ar29 rfl rfl rfl (by first | decide | omega)) rfl rfl (by kernel_rfl) <| .t 2 rfl (.load ag2 rfl .here rfl) rfl rfl (by kernel_rfl) <| .t 3 rfl (.move rfl) rfl rfl (by kernel_rfl) <| .t 4 rfl (.fieldAddr fo34_1 rfl) rfl rfl (by kernel_rfl) <| .t 5 rfl (.indexAddrA (j := 0) ar29 rfl rfl rfl (by first | decide | omega)) rfl rfl (by kernel_rfl) ?_
        refine .t 6 rfl (.load ag2 rfl (.there <| .here) rfl) rfl rfl (by kernel_rfl) <| .t 7 rfl (.add rfl rfl (IntWalk.i64_in _ (by omega))) rfl rfl (by kernel_rfl) <| .t 8 rfl (.indexAddrA (j := 0) ar29 rfl rfl rfl (by first | decide | omega)) rfl rfl (by kernel_rfl) <| .late (i := 9) (by kernel_rfl) (by kernel_rfl) (by kernel_rfl) rfl rfl <| .store sz2 rfl rfl rfl rfl rfl rfl (.there <| .here) <| .blk_normal <| .go ?_
        refine .region <| .e (.add (c := 1) rfl rfl (by decide)) rfl rfl <| .e (.move rfl) rfl rfl <| .nil <| .again <| .seq ?_
        refine .region <| .e (.lss rfl rfl) rfl rfl <| .nil <| .go <| .seq <| .cond_true rfl ?_
        refine .skip <| .go <| .seq <| .block <| .seq <| .region ?_
        refine .e (.move rfl) rfl rfl <| .e (.assign rfl) rfl rfl <| .nil <| .go ?_
        refine .draw [(c2, _), (c3, _)] mixed (.cons (.there <| .here) (.cons .here .nil)) ?_
        refine .t 0 rfl (.move rfl) rfl rfl (by kernel_rfl) <| .t 1 rfl (.indexAddrA (j := 1) ar29 rfl rfl rfl (by first | decide | omega)) rfl rfl (by kernel_rfl) <| .t 2 rfl (.load ag2 rfl .here rfl) rfl rfl (by kernel_rfl) <| .t 3 rfl (.move rfl) rfl rfl (by kernel_rfl) <| .t 4 rfl (.fieldAddr fo34_1 rfl) rfl rfl (by kernel_rfl) <| .t 5 rfl (.indexAddrA (j := 1) ar29 rfl rfl rfl (by first | decide | omega)) rfl rfl (by kernel_rfl) ?_
        refine .t 6 rfl (.load ag2 rfl (.there <| .here) rfl) rfl rfl (by kernel_rfl) <| .t 7 rfl (.add rfl rfl (IntWalk.i64_in _ (by omega))) rfl rfl (by kernel_rfl) <| .t 8 rfl (.indexAddrA (j := 1) ar29 rfl rfl rfl (by first | decide | omega)) rfl rfl (by kernel_rfl) <| .late (i := 9) (by kernel_rfl) (by kernel_rfl) (by kernel_rfl) rfl rfl <| .store sz2 rfl rfl rfl rfl rfl rfl (.there <| .here) <| .blk_normal <| .go ?_
        refine .region <| .e (.add (c := 2) rfl rfl (by decide)) rfl rfl <| .e (.move rfl) rfl rfl <| .nil <| .again <| .seq ?_
        refine .region <| .e (.lss rfl rfl) rfl rfl <| .nil <| .go <| .seq <| .cond_true rfl ?_
        refine .skip <| .go <| .seq <| .block <| .seq <| .region ?_
        refine .e (.move rfl) rfl rfl <| .e (.assign rfl) rfl rfl <| .nil <| .go ?_
        refine .draw [(c2, _), (c3, _)] mixed (.cons (.there <| .here) (.cons .here .nil)) ?_
        refine .t 0 rfl (.move rfl) rfl rfl (by kernel_rfl) <| .t 1 rfl (.indexAddrA (j := 2) ar29 rfl rfl rfl (by first | decide | omega)) rfl rfl (by kernel_rfl) <| .t 2 rfl (.load ag2 rfl .here rfl) rfl rfl (by kernel_rfl) <| .t 3 rfl (.move rfl) rfl rfl (by kernel_rfl) <| .t 4 rfl (.fieldAddr fo34_1 rfl) rfl rfl (by kernel_rfl) <| .t 5 rfl (.indexAddrA (j := 2) ar29 rfl rfl rfl (by first | decide | omega)) rfl rfl (by kernel_rfl) ?_
        refine .t 6 rfl (.load ag2 rfl (.there <| .here) rfl) rfl rfl (by kernel_rfl) <| .t 7 rfl (.add rfl rfl (IntWalk.i64_in _ (by omega))) rfl rfl (by kernel_rfl) <| .t 8 rfl (.indexAddrA (j := 2) ar29 rfl rfl rfl (by first | decide | omega)) rfl rfl (by kernel_rfl) <| .late (i := 9) (by kernel_rfl) (by kernel_rfl) (by kernel_rfl) rfl rfl <| .store sz2 rfl rfl rfl rfl rfl rfl (.there <| .here) <| .blk_normal <| .go ?_
        refine .region <| .e (.add (c := 3) rfl rfl (by decide)) rfl rfl <| .e (.move rfl) rfl rfl <| .nil <| .again <| .seq ?_
        refine .region <| .e (.lss rfl rfl) rfl rfl <| .nil <| .go <| .seq <| .cond_false rfl ?_
        refine .exit <| .exit <| .exit <| .blk_exit <| .blk_normal <| .go ?_
        refine .region <| .e (.add rfl rfl (by first | exact wrap_succ (by omega) | exact IntWalk.i64_in _ (by omega) | exact rfl)) rfl rfl <| .e (.move rfl) rfl rfl <| .nil ?_
        refine .tail ?_
        exact .mid ((k + 1, ⟨x.a + l[k].needs.a, x.b + l[k].needs.b, x.c + l[k].needs.c⟩)) ⟨by dsimp only; omega, by dsimp only; omega, hx.step (by omega) (amt_get (by omega) h14)⟩ ⟨rfl, trivial⟩ rfl rfl (.pre 51 rfl (.app rfl .base))
      · skip
        replace h19 := of_decide_eq_false h19
        refine .cond_false rfl <| .exit <| .exit <| .exit <| .blk_exit <| .go ?_
        refine .seq <| .region <| .e (.loadW ag29 sz29 rfl .here rfl) rfl rfl <| .on rfl <| .storeW sz29 rfl rfl rfl rfl rfl rfl (.there <| .here) <| .e (.assign rfl) rfl rfl <| .nil ?_
        refine .go <| .ret ?_
        refine Post.retsE rfl (.agg rfl ag29 sz29 (.there <| .here) rfl (.tmp rfl .nil)) rfl (fun w h => h.tail.tail) ?_
        exact sumV_sum (k := k) (by omega) (by omega) h14 hx

end Go.Proofs.YtajpakifkinadaaGreatDoor
