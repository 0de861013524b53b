/- Walks of functions over a symbolic memory, printed by a program of the session. -/
import Derived.Test.YtajpakifkinadaaGreatDoorBd
namespace Go.Proofs.YtajpakifkinadaaGreatDoor
open Go.Sy
set_option linter.unusedSimpArgs false
set_option linter.unusedVariables false

theorem shr_half {a b : Nat} (h : a ≤ b) (hb : b ≤ 4611686018427387903) : IntKind.i64.wrap ((IntKind.u64.wrap (IntKind.i64.wrap ((a : Int) + (b : Int)))).fdiv 2) = (((a + b) / 2 : Nat) : Int) := by
  have e1 : IntKind.i64.wrap ((a : Int) + (b : Int)) = ((a + b : Nat) : Int) := (IntWalk.i64_in _ (by omega)).trans (by omega)
  have e2 : IntKind.u64.wrap ((a + b : Nat) : Int) = ((a + b : Nat) : Int) := IntWalk.u64_in _ (by omega)
  rw [e1, e2]
  have e3 : ((a + b : Nat) : Int).fdiv 2 = (((a + b) / 2 : Nat) : Int) := by
    rw [Int.fdiv_eq_ediv_of_nonneg _ (by omega)]
    omega
  rw [e3]
  exact IntWalk.i64_in _ (by omega)

theorem cmpS_lt {a b : ByteArray} : decide (cmpS a b < 0) = slt a b := by
  have h := @cmpS_ge a b
  rw [Bool.eq_iff_iff] at h ⊢
  simp only [decide_eq_true_eq, Bool.not_eq_true'] at h ⊢
  constructor
  · intro h1
    cases h2 : slt a b
    · have := h.2 h2; omega
    · rfl
  · intro h1
    apply Int.not_le.1
    intro h2
    have := h.1 h2
    rw [h1] at this; cases this
theorem cmpS_eq {a b : ByteArray} : decide (cmpS a b = 0) = decide (a = b) := decide_eq_decide.2 cmpS_zero

section
variable {α : Type} {nm : α → ByteArray}
theorem lt_upto {l : List α} {s : ByteArray} (hr : Rising nm l) {k : Nat} (hk : k < l.length) (h : slt (nm l[k]) s = true) (j : Nat) (hj : j < l.length) (hjk : j ≤ k) : slt (nm l[j]) s = true := by
  rcases Nat.eq_or_lt_of_le hjk with e | h1
  · subst e; exact h
  · exact lt_tr (hr j k hj hk h1) h
theorem lt_from {l : List α} {s : ByteArray} (hr : Rising nm l) {k : Nat} (hk : k < l.length) (h : slt (nm l[k]) s = false) (j : Nat) (hj : j < l.length) (hjk : k ≤ j) : slt (nm l[j]) s = false := by
  rcases Nat.eq_or_lt_of_le hjk with e | h1
  · subst e; exact h
  · rw [Bool.eq_false_iff]; intro h2
    have := lt_tr (hr k j hk hj h1) h2
    rw [h] at this; cases this
variable (nm) in
def risTo (l : List α) (k : Nat) : Bool := (List.range (k - 1)).all (risAt nm l)
theorem ris_step {l : List α} {k : Nat} (h1 : 1 ≤ k) (hk : k < l.length) (hw : risTo nm l k = true) (h : slt (nm (l[k - 1]'(by omega))) (nm l[k]) = true) : risTo nm l (k + 1) = true := by
  unfold risTo at *
  rw [show k + 1 - 1 = (k - 1) + 1 by omega, List.range_succ, List.all_append, hw]
  have e : l[k - 1 + 1]? = some l[k] := by rw [show k - 1 + 1 = k by omega]; exact List.getElem?_eq_getElem hk
  simp [risAt, List.getElem?_eq_getElem (show k - 1 < l.length by omega), e, h]
theorem ris_end {l : List α} {k : Nat} (h : l.length ≤ k) (h2 : k ≤ l.length ∨ k = 1) : risTo nm l k = risingB nm l := by
  unfold risTo risingB
  rcases h2 with h2 | h2
  · rw [show k = l.length by omega]
  · subst h2
    have : l.length - 1 = 0 := by omega
    rw [this]
theorem ris_bad {l : List α} {k : Nat} (h1 : 1 ≤ k) (hk : k < l.length) (h : slt (nm (l[k - 1]'(by omega))) (nm l[k]) = false) : risingB nm l = false := by
  rw [Bool.eq_false_iff]; intro h2
  unfold risingB at h2
  have h3 := List.all_eq_true.1 h2 (k - 1) (List.mem_range.2 (by omega))
  have e : l[k - 1 + 1]? = some l[k] := by rw [show k - 1 + 1 = k by omega]; exact List.getElem?_eq_getElem hk
  simp only [risAt, List.getElem?_eq_getElem (show k - 1 < l.length by omega), e] at h3
  rw [h] at h3; cases h3
theorem rising_of {l : List α} (h : risingB nm l = true) : Rising nm l := by
  intro i j hi hj hij
  have one : ∀ q (hq : q + 1 < l.length), slt (nm (l[q]'(by omega))) (nm l[q + 1]) = true := fun q hq => by
    unfold risingB at h
    have h3 := List.all_eq_true.1 h q (List.mem_range.2 (by omega))
    simp only [risAt, List.getElem?_eq_getElem (show q < l.length by omega), List.getElem?_eq_getElem hq] at h3
    exact h3
  have key : ∀ d (hd : i + 1 + d < l.length), slt (nm l[i]) (nm l[i + 1 + d]) = true := by
    intro d
    induction d with
    | zero => exact fun hd => one i hd
    | succ d ih => exact fun hd => lt_tr (ih (by omega)) (one (i + 1 + d) hd)
  obtain ⟨d, rfl⟩ : ∃ d, j = i + 1 + d := ⟨j - i - 1, by omega⟩
  exact key d hj
end

set_option maxHeartbeats 1000000 in
set_option maxRecDepth 20000 in
theorem cmpNod_ok {I : Imm} {O : Own} {cs : List Value} {x : Nod} (hx : NodR I cs x) {s : ByteArray} :
    Pure Tryz.prog 82 [.agg ⟨cs⟩, .string s] I O (.int .i64 (cmpS x.name s)) := by
  obtain ⟨xl, xt, rfl, hxl, hxt⟩ := hx.ex
  obtain ⟨xa, xb, rfl, -⟩ := hxl
  obtain ⟨xc, xd, rfl, -⟩ := hxt
  refine Go.Sy.Does.enter Tryz.func82 rfl Tryz.ntmps82 rfl ?_
  refine .seq <| .region <| .on rfl <| .box rfl rfl rfl fun c1 _ _ => .e (.assign rfl) rfl rfl <| .nil <| .go ?_
  refine .seq <| .region <| .e (.fieldAddr fo32_0 rfl) rfl rfl <| .e (.load ag9 rfl .here rfl) rfl rfl <| .e (.move rfl) rfl rfl <| .on rfl <| .callP cal74 rfl rfl rfl (cmpS_ok) ?_
  refine .e (.assign rfl) rfl rfl <| .nil <| .go <| .ret ?_
  refine .tail ?_
  refine Post.retE rfl rfl ?_
  rfl

set_option maxHeartbeats 1000000 in
set_option maxRecDepth 20000 in
theorem findNod_ok {I : Imm} {O : Own} {v : Value} {l : List Nod} (hl : SlR NodR 6 I v l) (hr : Rising (fun x : Nod => x.name) l) (hsm : l.length ≤ 4611686018427387903) {s : ByteArray} :
    Pure Tryz.prog 81 [v, .string s, .func (.func 82) #[] #[]] I O (.tuple ⟨[.int .i64 (posBy (fun x : Nod => x.name) l s : Nat), .bool (hasBy (fun x : Nod => x.name) l s)]⟩) := by
  have hl0 := hl
  obtain ⟨la, lcap, rfl, hl1, hl2, -⟩ := hl
  refine Go.Sy.Does.enter Tryz.func81 rfl Tryz.ntmps81 rfl ?_
  refine .seq <| .region <| .e (.assign rfl) rfl rfl <| .e (.assign rfl) rfl rfl <| .nil <| .go ?_
  refine .seq <| .region <| .e (.move rfl) rfl rfl <| .e (.len sl22 rfl rfl) rfl rfl <| .e (.assign rfl) rfl rfl <| .nil ?_
  refine .go <| .seq <| .region <| .e (.move rfl) rfl rfl <| .e (.assign rfl) rfl rfl <| .e (.assign rfl) rfl rfl ?_
  refine .nil <| .go <| .seq <| .block ?_
  refine .loopM [9, 10, 11, 15, 16, 17, 18, 19, 20, 21, 22, 23, 24, 25, 26, 27, 28, 29, 30, 31, 32, 33, 34] (fun p => p.2 - p.1) (fun p => p.1 ≤ p.2 ∧ p.2 ≤ l.length ∧ (∀ j (hj : j < l.length), j < p.1 → slt l[j].name s = true) ∧ (∀ j (hj : j < l.length), p.2 ≤ j → slt l[j].name s = false)) (fun p => [(9, .int .i64 p.1), (10, .int .i64 p.2)]) (fun _ => _) (fun _ => _) (((0, l.length) : Nat × Nat)) ⟨Nat.zero_le _, Nat.le_refl _, fun j _ h => absurd h (by omega), fun j hj h => absurd h (by dsimp only; omega)⟩ ⟨rfl, rfl, trivial⟩ rfl rfl ?_
  intro ⟨lo, hi⟩ hk
  dsimp only at hk ⊢
  obtain ⟨hk1, hk2, hk3, hk4⟩ := hk
  have hsh := shr_half hk1 (by omega)
  refine .seq <| .seq <| .region <| .e (.move rfl) rfl rfl <| .e (.move rfl) rfl rfl <| .e (.lss rfl rfl) rfl rfl ?_
  refine .nil <| .go ?_
  refine .split 17 rfl (fun h17 => ?_) (fun h17 => ?_)
  · skip
    replace h17 := of_decide_eq_true h17
    refine .cond_true rfl <| .skip <| .go <| .block <| .seq <| .region ?_
    refine .e (.move rfl) rfl rfl <| .e (.move rfl) rfl rfl <| .e (.add rfl rfl rfl) rfl rfl <| .e (.conv Tryz.underlying3 Tryz.underlying113 rfl) rfl rfl <| .e (.shr1 rfl rfl (by decide) rfl) rfl rfl <| .e ((EV.cast (.conv Tryz.underlying113 Tryz.underlying3 rfl) (congrArg (Value.int .i64) hsh))) rfl rfl ?_
    refine .e (.assign rfl) rfl rfl <| .nil <| .go <| .seq <| .region <| .e (.move rfl) rfl rfl ?_
    refine .e (.move rfl) rfl rfl <| .e (.move rfl) rfl rfl ?_
    obtain ⟨eb27, eo27, cs27, hd27, hat27, hr27⟩ := SlR.at_ hl0 (k := (lo + hi) / 2) (by omega)
    cases hd27
    refine .e (.indexAddrL sl22 rfl rfl rfl (by omega)) rfl rfl <| .e (.loadIA ag32 sz32 rfl hat27 (NodR.len hr27)) rfl rfl <| .e (.move rfl) rfl rfl <| .on rfl <| .callP cal82 rfl rfl rfl (cmpNod_ok hr27) <| .e (.lss rfl rfl) rfl rfl <| .nil ?_
    refine .go ?_
    refine .split 31 rfl (fun h31 => ?_) (fun h31 => ?_)
    · skip
      replace h31 := of_decide_eq_true h31
      refine .cond_true rfl <| .region <| .e (.move rfl) rfl rfl <| .e (.add rfl rfl (wrap_succ (by omega))) rfl rfl <| .e (.assign rfl) rfl rfl <| .nil ?_
      refine .blk_normal ?_
      have hlt : slt l[(lo + hi) / 2].name s = true := by rw [← cmpS_lt]; exact decide_eq_true h31
      exact .mid (((lo + hi) / 2 + 1, hi)) ⟨by dsimp only; omega, by dsimp only; omega, hk2, fun j hj h => lt_upto hr (show (lo + hi) / 2 < l.length by omega) hlt j hj (by dsimp only at h; omega), hk4⟩ ⟨rfl, rfl, trivial⟩ rfl rfl (.pre 23 rfl (.app rfl .base))
    · skip
      replace h31 := of_decide_eq_false h31
      refine .cond_false rfl <| .region <| .e (.move rfl) rfl rfl <| .e (.assign rfl) rfl rfl <| .nil <| .blk_normal ?_
      have hlt : slt l[(lo + hi) / 2].name s = false := by rw [← cmpS_lt]; exact decide_eq_false h31
      exact .mid ((lo, (lo + hi) / 2)) ⟨by dsimp only; omega, by dsimp only; omega, by dsimp only; omega, hk3, fun j hj h => lt_from hr (show (lo + hi) / 2 < l.length by omega) hlt j hj (by dsimp only at h; omega)⟩ ⟨rfl, rfl, trivial⟩ rfl rfl (.pre 22 rfl (.app rfl .base))
  · skip
    replace h17 := of_decide_eq_false h17
    refine .cond_false rfl <| .exit <| .exit <| .exit <| .blk_exit <| .go ?_
    refine .seq <| .region <| .e (.move rfl) rfl rfl <| .e (.move rfl) rfl rfl <| .e (.move rfl) rfl rfl <| .e (.lss rfl rfl) rfl rfl ?_
    refine .e (.move rfl) rfl rfl ?_
    refine .split 39 rfl (fun h39 => ?_) (fun h39 => ?_)
    · skip
      replace h39 := of_decide_eq_true h39
      refine .e (.move rfl) rfl rfl <| .e (.move rfl) rfl rfl <| .e (.move rfl) rfl rfl ?_
      obtain ⟨eb43, eo43, cs43, hd43, hat43, hr43⟩ := SlR.at_ hl0 (k := lo) (by omega)
      cases hd43
      refine .e (.indexAddrL sl22 rfl rfl rfl (by omega)) rfl rfl <| .e (.loadIA ag32 sz32 rfl hat43 (NodR.len hr43)) rfl rfl <| .e (.move rfl) rfl rfl <| .on rfl <| .callP cal82 rfl rfl rfl (cmpNod_ok hr43) <| .e (.eql rfl rfl) rfl rfl <| .e (.pickT rfl rfl) rfl rfl ?_
      refine .e (.assign rfl) rfl rfl <| .e (.assign rfl) rfl rfl <| .nil <| .go <| .ret ?_
      refine Post.retsE rfl (.tmp rfl (.tmp rfl .nil)) rfl (fun w h => h) ?_
      have hlo : lo = hi := by omega
      subst hlo
      have hp := pos_of (nm := fun x : Nod => x.name) (s := s) hk2 (fun j hj h => hk3 j hj h) (fun h => hk4 lo h (Nat.le_refl _))
      have hh := has_at (nm := fun x : Nod => x.name) (s := s) hr (by rw [hp]; omega) (fun j hj h => hk3 j hj (by rw [hp] at h; exact h))
      simp only [hp] at hh
      rw [hp, hh, ← cmpS_eq]
      rfl
    · skip
      replace h39 := of_decide_eq_false h39
      refine .off rfl rfl <| .off rfl rfl <| .off rfl rfl <| .off rfl rfl <| .off rfl rfl <| .off rfl rfl ?_
      refine .off rfl rfl <| .off rfl rfl <| .e (.pickF rfl rfl) rfl rfl <| .e (.assign rfl) rfl rfl <| .e (.assign rfl) rfl rfl <| .nil ?_
      refine .go <| .ret ?_
      refine Post.retsE rfl (.tmp rfl (.tmp rfl .nil)) rfl (fun w h => h) ?_
      have hlo : lo = hi := by omega
      subst hlo
      have hp := pos_of (nm := fun x : Nod => x.name) (s := s) hk2 (fun j hj h => hk3 j hj h) (fun h => hk4 lo h (Nat.le_refl _))
      have hh := has_none (nm := fun x : Nod => x.name) (s := s) (l := l) (fun j hj => hk3 j hj (by omega))
      rw [hp, hh]
      rfl

set_option maxHeartbeats 1000000 in
set_option maxRecDepth 20000 in
theorem cmpTsk_ok {I : Imm} {O : Own} {cs : List Value} {x : Tsk} (hx : TskR I cs x) {s : ByteArray} :
    Pure Tryz.prog 84 [.agg ⟨cs⟩, .string s] I O (.int .i64 (cmpS x.name s)) := by
  obtain ⟨xl, xt, rfl, hxl, hxt⟩ := hx.ex
  obtain ⟨xa, xb, rfl, -⟩ := hxl
  obtain ⟨xc, xd, rfl, -⟩ := hxt
  refine Go.Sy.Does.enter Tryz.func84 rfl Tryz.ntmps84 rfl ?_
  refine .seq <| .region <| .on rfl <| .box rfl rfl rfl fun c1 _ _ => .e (.assign rfl) rfl rfl <| .nil <| .go ?_
  refine .seq <| .region <| .e (.fieldAddr fo34_0 rfl) rfl rfl <| .e (.load ag9 rfl .here rfl) rfl rfl <| .e (.move rfl) rfl rfl <| .on rfl <| .callP cal74 rfl rfl rfl (cmpS_ok) ?_
  refine .e (.assign rfl) rfl rfl <| .nil <| .go <| .ret ?_
  refine .tail ?_
  refine Post.retE rfl rfl ?_
  rfl

set_option maxHeartbeats 1000000 in
set_option maxRecDepth 20000 in
theorem findTsk_ok {I : Imm} {O : Own} {v : Value} {l : List Tsk} (hl : SlR TskR 9 I v l) (hr : Rising (fun x : Tsk => x.name) l) (hsm : l.length ≤ 4611686018427387903) {s : ByteArray} :
    Pure Tryz.prog 83 [v, .string s, .func (.func 84) #[] #[]] I O (.tuple ⟨[.int .i64 (posBy (fun x : Tsk => x.name) l s : Nat), .bool (hasBy (fun x : Tsk => x.name) l s)]⟩) := by
  have hl0 := hl
  obtain ⟨la, lcap, rfl, hl1, hl2, -⟩ := hl
  refine Go.Sy.Does.enter Tryz.func83 rfl Tryz.ntmps83 rfl ?_
  refine .seq <| .region <| .e (.assign rfl) rfl rfl <| .e (.assign rfl) rfl rfl <| .nil <| .go ?_
  refine .seq <| .region <| .e (.move rfl) rfl rfl <| .e (.len sl23 rfl rfl) rfl rfl <| .e (.assign rfl) rfl rfl <| .nil ?_
  refine .go <| .seq <| .region <| .e (.move rfl) rfl rfl <| .e (.assign rfl) rfl rfl <| .e (.assign rfl) rfl rfl ?_
  refine .nil <| .go <| .seq <| .block ?_
  refine .loopM [9, 10, 11, 15, 16, 17, 18, 19, 20, 21, 22, 23, 24, 25, 26, 27, 28, 29, 30, 31, 32, 33, 34] (fun p => p.2 - p.1) (fun p => p.1 ≤ p.2 ∧ p.2 ≤ l.length ∧ (∀ j (hj : j < l.length), j < p.1 → slt l[j].name s = true) ∧ (∀ j (hj : j < l.length), p.2 ≤ j → slt l[j].name s = false)) (fun p => [(9, .int .i64 p.1), (10, .int .i64 p.2)]) (fun _ => _) (fun _ => _) (((0, l.length) : Nat × Nat)) ⟨Nat.zero_le _, Nat.le_refl _, fun j _ h => absurd h (by omega), fun j hj h => absurd h (by dsimp only; omega)⟩ ⟨rfl, rfl, trivial⟩ rfl rfl ?_
  intro ⟨lo, hi⟩ hk
  dsimp only at hk ⊢
  obtain ⟨hk1, hk2, hk3, hk4⟩ := hk
  have hsh := shr_half hk1 (by omega)
  refine .seq <| .seq <| .region <| .e (.move rfl) rfl rfl <| .e (.move rfl) rfl rfl <| .e (.lss rfl rfl) rfl rfl ?_
  refine .nil <| .go ?_
  refine .split 17 rfl (fun h17 => ?_) (fun h17 => ?_)
  · skip
    replace h17 := of_decide_eq_true h17
    refine .cond_true rfl <| .skip <| .go <| .block <| .seq <| .region ?_
    refine .e (.move rfl) rfl rfl <| .e (.move rfl) rfl rfl <| .e (.add rfl rfl rfl) rfl rfl <| .e (.conv Tryz.underlying3 Tryz.underlying113 rfl) rfl rfl <| .e (.shr1 rfl rfl (by decide) rfl) rfl rfl <| .e ((EV.cast (.conv Tryz.underlying113 Tryz.underlying3 rfl) (congrArg (Value.int .i64) hsh))) rfl rfl ?_
    refine .e (.assign rfl) rfl rfl <| .nil <| .go <| .seq <| .region <| .e (.move rfl) rfl rfl ?_
    refine .e (.move rfl) rfl rfl <| .e (.move rfl) rfl rfl ?_
    obtain ⟨eb27, eo27, cs27, hd27, hat27, hr27⟩ := SlR.at_ hl0 (k := (lo + hi) / 2) (by omega)
    cases hd27
    refine .e (.indexAddrL sl23 rfl rfl rfl (by omega)) rfl rfl <| .e (.loadIA ag34 sz34 rfl hat27 (TskR.len hr27)) rfl rfl <| .e (.move rfl) rfl rfl <| .on rfl <| .callP cal84 rfl rfl rfl (cmpTsk_ok hr27) <| .e (.lss rfl rfl) rfl rfl <| .nil ?_
    refine .go ?_
    refine .split 31 rfl (fun h31 => ?_) (fun h31 => ?_)
    · skip
      replace h31 := of_decide_eq_true h31
      refine .cond_true rfl <| .region <| .e (.move rfl) rfl rfl <| .e (.add rfl rfl (wrap_succ (by omega))) rfl rfl <| .e (.assign rfl) rfl rfl <| .nil ?_
      refine .blk_normal ?_
      have hlt : slt l[(lo + hi) / 2].name s = true := by rw [← cmpS_lt]; exact decide_eq_true h31
      exact .mid (((lo + hi) / 2 + 1, hi)) ⟨by dsimp only; omega, by dsimp only; omega, hk2, fun j hj h => lt_upto hr (show (lo + hi) / 2 < l.length by omega) hlt j hj (by dsimp only at h; omega), hk4⟩ ⟨rfl, rfl, trivial⟩ rfl rfl (.pre 23 rfl (.app rfl .base))
    · skip
      replace h31 := of_decide_eq_false h31
      refine .cond_false rfl <| .region <| .e (.move rfl) rfl rfl <| .e (.assign rfl) rfl rfl <| .nil <| .blk_normal ?_
      have hlt : slt l[(lo + hi) / 2].name s = false := by rw [← cmpS_lt]; exact decide_eq_false h31
      exact .mid ((lo, (lo + hi) / 2)) ⟨by dsimp only; omega, by dsimp only; omega, by dsimp only; omega, hk3, fun j hj h => lt_from hr (show (lo + hi) / 2 < l.length by omega) hlt j hj (by dsimp only at h; omega)⟩ ⟨rfl, rfl, trivial⟩ rfl rfl (.pre 22 rfl (.app rfl .base))
  · skip
    replace h17 := of_decide_eq_false h17
    refine .cond_false rfl <| .exit <| .exit <| .exit <| .blk_exit <| .go ?_
    refine .seq <| .region <| .e (.move rfl) rfl rfl <| .e (.move rfl) rfl rfl <| .e (.move rfl) rfl rfl <| .e (.lss rfl rfl) rfl rfl ?_
    refine .e (.move rfl) rfl rfl ?_
    refine .split 39 rfl (fun h39 => ?_) (fun h39 => ?_)
    · skip
      replace h39 := of_decide_eq_true h39
      refine .e (.move rfl) rfl rfl <| .e (.move rfl) rfl rfl <| .e (.move rfl) rfl rfl ?_
      obtain ⟨eb43, eo43, cs43, hd43, hat43, hr43⟩ := SlR.at_ hl0 (k := lo) (by omega)
      cases hd43
      refine .e (.indexAddrL sl23 rfl rfl rfl (by omega)) rfl rfl <| .e (.loadIA ag34 sz34 rfl hat43 (TskR.len hr43)) rfl rfl <| .e (.move rfl) rfl rfl <| .on rfl <| .callP cal84 rfl rfl rfl (cmpTsk_ok hr43) <| .e (.eql rfl rfl) rfl rfl <| .e (.pickT rfl rfl) rfl rfl ?_
      refine .e (.assign rfl) rfl rfl <| .e (.assign rfl) rfl rfl <| .nil <| .go <| .ret ?_
      refine Post.retsE rfl (.tmp rfl (.tmp rfl .nil)) rfl (fun w h => h) ?_
      have hlo : lo = hi := by omega
      subst hlo
      have hp := pos_of (nm := fun x : Tsk => x.name) (s := s) hk2 (fun j hj h => hk3 j hj h) (fun h => hk4 lo h (Nat.le_refl _))
      have hh := has_at (nm := fun x : Tsk => x.name) (s := s) hr (by rw [hp]; omega) (fun j hj h => hk3 j hj (by rw [hp] at h; exact h))
      simp only [hp] at hh
      rw [hp, hh, ← cmpS_eq]
      rfl
    · skip
      replace h39 := of_decide_eq_false h39
      refine .off rfl rfl <| .off rfl rfl <| .off rfl rfl <| .off rfl rfl <| .off rfl rfl <| .off rfl rfl ?_
      refine .off rfl rfl <| .off rfl rfl <| .e (.pickF rfl rfl) rfl rfl <| .e (.assign rfl) rfl rfl <| .e (.assign rfl) rfl rfl <| .nil ?_
      refine .go <| .ret ?_
      refine Post.retsE rfl (.tmp rfl (.tmp rfl .nil)) rfl (fun w h => h) ?_
      have hlo : lo = hi := by omega
      subst hlo
      have hp := pos_of (nm := fun x : Tsk => x.name) (s := s) hk2 (fun j hj h => hk3 j hj h) (fun h => hk4 lo h (Nat.le_refl _))
      have hh := has_none (nm := fun x : Tsk => x.name) (s := s) (l := l) (fun j hj => hk3 j hj (by omega))
      rw [hp, hh]
      rfl

set_option maxHeartbeats 1000000 in
set_option maxRecDepth 20000 in
theorem cmpBnd_ok {I : Imm} {O : Own} {cs : List Value} {x : Bnd} (hx : BndR I cs x) {s : ByteArray} :
    Pure Tryz.prog 95 [.agg ⟨cs⟩, .string s] I O (.int .i64 (cmpS x.task s)) := by
  obtain ⟨rfl, hx1, hx2⟩ := hx
  refine Go.Sy.Does.enter Tryz.func95 rfl Tryz.ntmps95 rfl ?_
  refine .seq <| .region <| .on rfl <| .box rfl rfl rfl fun c1 _ _ => .e (.assign rfl) rfl rfl <| .nil <| .go ?_
  refine .seq <| .region <| .e (.fieldAddr fo47_0 rfl) rfl rfl <| .e (.load ag9 rfl .here rfl) rfl rfl <| .e (.move rfl) rfl rfl <| .on rfl <| .callP cal74 rfl rfl rfl (cmpS_ok) ?_
  refine .e (.assign rfl) rfl rfl <| .nil <| .go <| .ret ?_
  refine .tail ?_
  refine Post.retE rfl rfl ?_
  rfl

set_option maxHeartbeats 1000000 in
set_option maxRecDepth 20000 in
theorem findBnd_ok {I : Imm} {O : Own} {v : Value} {l : List Bnd} (hl : SlR BndR 2 I v l) (hr : Rising (fun x : Bnd => x.task) l) (hsm : l.length ≤ 4611686018427387903) {s : ByteArray} :
    Pure Tryz.prog 94 [v, .string s, .func (.func 95) #[] #[]] I O (.tuple ⟨[.int .i64 (posBy (fun x : Bnd => x.task) l s : Nat), .bool (hasBy (fun x : Bnd => x.task) l s)]⟩) := by
  have hl0 := hl
  obtain ⟨la, lcap, rfl, hl1, hl2, -⟩ := hl
  refine Go.Sy.Does.enter Tryz.func94 rfl Tryz.ntmps94 rfl ?_
  refine .seq <| .region <| .e (.assign rfl) rfl rfl <| .e (.assign rfl) rfl rfl <| .nil <| .go ?_
  refine .seq <| .region <| .e (.move rfl) rfl rfl <| .e (.len sl24 rfl rfl) rfl rfl <| .e (.assign rfl) rfl rfl <| .nil ?_
  refine .go <| .seq <| .region <| .e (.move rfl) rfl rfl <| .e (.assign rfl) rfl rfl <| .e (.assign rfl) rfl rfl ?_
  refine .nil <| .go <| .seq <| .block ?_
  refine .loopM [9, 10, 11, 15, 16, 17, 18, 19, 20, 21, 22, 23, 24, 25, 26, 27, 28, 29, 30, 31, 32, 33, 34] (fun p => p.2 - p.1) (fun p => p.1 ≤ p.2 ∧ p.2 ≤ l.length ∧ (∀ j (hj : j < l.length), j < p.1 → slt l[j].task s = true) ∧ (∀ j (hj : j < l.length), p.2 ≤ j → slt l[j].task s = false)) (fun p => [(9, .int .i64 p.1), (10, .int .i64 p.2)]) (fun _ => _) (fun _ => _) (((0, l.length) : Nat × Nat)) ⟨Nat.zero_le _, Nat.le_refl _, fun j _ h => absurd h (by omega), fun j hj h => absurd h (by dsimp only; omega)⟩ ⟨rfl, rfl, trivial⟩ rfl rfl ?_
  intro ⟨lo, hi⟩ hk
  dsimp only at hk ⊢
  obtain ⟨hk1, hk2, hk3, hk4⟩ := hk
  have hsh := shr_half hk1 (by omega)
  refine .seq <| .seq <| .region <| .e (.move rfl) rfl rfl <| .e (.move rfl) rfl rfl <| .e (.lss rfl rfl) rfl rfl ?_
  refine .nil <| .go ?_
  refine .split 17 rfl (fun h17 => ?_) (fun h17 => ?_)
  · skip
    replace h17 := of_decide_eq_true h17
    refine .cond_true rfl <| .skip <| .go <| .block <| .seq <| .region ?_
    refine .e (.move rfl) rfl rfl <| .e (.move rfl) rfl rfl <| .e (.add rfl rfl rfl) rfl rfl <| .e (.conv Tryz.underlying3 Tryz.underlying113 rfl) rfl rfl <| .e (.shr1 rfl rfl (by decide) rfl) rfl rfl <| .e ((EV.cast (.conv Tryz.underlying113 Tryz.underlying3 rfl) (congrArg (Value.int .i64) hsh))) rfl rfl ?_
    refine .e (.assign rfl) rfl rfl <| .nil <| .go <| .seq <| .region <| .e (.move rfl) rfl rfl ?_
    refine .e (.move rfl) rfl rfl <| .e (.move rfl) rfl rfl ?_
    obtain ⟨eb27, eo27, cs27, hd27, hat27, hr27⟩ := SlR.at_ hl0 (k := (lo + hi) / 2) (by omega)
    cases hd27
    refine .e (.indexAddrL sl24 rfl rfl rfl (by omega)) rfl rfl <| .e (.loadIA ag47 sz47 rfl hat27 (BndR.len hr27)) rfl rfl <| .e (.move rfl) rfl rfl <| .on rfl <| .callP cal95 rfl rfl rfl (cmpBnd_ok hr27) <| .e (.lss rfl rfl) rfl rfl <| .nil ?_
    refine .go ?_
    refine .split 31 rfl (fun h31 => ?_) (fun h31 => ?_)
    · skip
      replace h31 := of_decide_eq_true h31
      refine .cond_true rfl <| .region <| .e (.move rfl) rfl rfl <| .e (.add rfl rfl (wrap_succ (by omega))) rfl rfl <| .e (.assign rfl) rfl rfl <| .nil ?_
      refine .blk_normal ?_
      have hlt : slt l[(lo + hi) / 2].task s = true := by rw [← cmpS_lt]; exact decide_eq_true h31
      exact .mid (((lo + hi) / 2 + 1, hi)) ⟨by dsimp only; omega, by dsimp only; omega, hk2, fun j hj h => lt_upto hr (show (lo + hi) / 2 < l.length by omega) hlt j hj (by dsimp only at h; omega), hk4⟩ ⟨rfl, rfl, trivial⟩ rfl rfl (.pre 23 rfl (.app rfl .base))
    · skip
      replace h31 := of_decide_eq_false h31
      refine .cond_false rfl <| .region <| .e (.move rfl) rfl rfl <| .e (.assign rfl) rfl rfl <| .nil <| .blk_normal ?_
      have hlt : slt l[(lo + hi) / 2].task s = false := by rw [← cmpS_lt]; exact decide_eq_false h31
      exact .mid ((lo, (lo + hi) / 2)) ⟨by dsimp only; omega, by dsimp only; omega, by dsimp only; omega, hk3, fun j hj h => lt_from hr (show (lo + hi) / 2 < l.length by omega) hlt j hj (by dsimp only at h; omega)⟩ ⟨rfl, rfl, trivial⟩ rfl rfl (.pre 22 rfl (.app rfl .base))
  · skip
    replace h17 := of_decide_eq_false h17
    refine .cond_false rfl <| .exit <| .exit <| .exit <| .blk_exit <| .go ?_
    refine .seq <| .region <| .e (.move rfl) rfl rfl <| .e (.move rfl) rfl rfl <| .e (.move rfl) rfl rfl <| .e (.lss rfl rfl) rfl rfl ?_
    refine .e (.move rfl) rfl rfl ?_
    refine .split 39 rfl (fun h39 => ?_) (fun h39 => ?_)
    · skip
      replace h39 := of_decide_eq_true h39
      refine .e (.move rfl) rfl rfl <| .e (.move rfl) rfl rfl <| .e (.move rfl) rfl rfl ?_
      obtain ⟨eb43, eo43, cs43, hd43, hat43, hr43⟩ := SlR.at_ hl0 (k := lo) (by omega)
      cases hd43
      refine .e (.indexAddrL sl24 rfl rfl rfl (by omega)) rfl rfl <| .e (.loadIA ag47 sz47 rfl hat43 (BndR.len hr43)) rfl rfl <| .e (.move rfl) rfl rfl <| .on rfl <| .callP cal95 rfl rfl rfl (cmpBnd_ok hr43) <| .e (.eql rfl rfl) rfl rfl <| .e (.pickT rfl rfl) rfl rfl ?_
      refine .e (.assign rfl) rfl rfl <| .e (.assign rfl) rfl rfl <| .nil <| .go <| .ret ?_
      refine Post.retsE rfl (.tmp rfl (.tmp rfl .nil)) rfl (fun w h => h) ?_
      have hlo : lo = hi := by omega
      subst hlo
      have hp := pos_of (nm := fun x : Bnd => x.task) (s := s) hk2 (fun j hj h => hk3 j hj h) (fun h => hk4 lo h (Nat.le_refl _))
      have hh := has_at (nm := fun x : Bnd => x.task) (s := s) hr (by rw [hp]; omega) (fun j hj h => hk3 j hj (by rw [hp] at h; exact h))
      simp only [hp] at hh
      rw [hp, hh, ← cmpS_eq]
      rfl
    · skip
      replace h39 := of_decide_eq_false h39
      refine .off rfl rfl <| .off rfl rfl <| .off rfl rfl <| .off rfl rfl <| .off rfl rfl <| .off rfl rfl ?_
      refine .off rfl rfl <| .off rfl rfl <| .e (.pickF rfl rfl) rfl rfl <| .e (.assign rfl) rfl rfl <| .e (.assign rfl) rfl rfl <| .nil ?_
      refine .go <| .ret ?_
      refine Post.retsE rfl (.tmp rfl (.tmp rfl .nil)) rfl (fun w h => h) ?_
      have hlo : lo = hi := by omega
      subst hlo
      have hp := pos_of (nm := fun x : Bnd => x.task) (s := s) hk2 (fun j hj h => hk3 j hj h) (fun h => hk4 lo h (Nat.le_refl _))
      have hh := has_none (nm := fun x : Bnd => x.task) (s := s) (l := l) (fun j hj => hk3 j hj (by omega))
      rw [hp, hh]
      rfl

set_option maxHeartbeats 1000000 in
set_option maxRecDepth 20000 in
theorem nmNod_ok {I : Imm} {O : Own} {cs : List Value} {x : Nod} (hx : NodR I cs x) :
    Pure Tryz.prog 32 [.agg ⟨cs⟩] I O (.string x.name) := by
  obtain ⟨xl, xt, rfl, hxl, hxt⟩ := hx.ex
  obtain ⟨xa, xb, rfl, -⟩ := hxl
  obtain ⟨xc, xd, rfl, -⟩ := hxt
  refine Go.Sy.Does.enter Tryz.func32 rfl Tryz.ntmps32 rfl ?_
  refine .seq <| .region <| .on rfl <| .box rfl rfl rfl fun c1 _ _ => .e (.assign rfl) rfl rfl <| .nil <| .go ?_
  refine .seq <| .region <| .e (.fieldAddr fo32_0 rfl) rfl rfl <| .e (.load ag9 rfl .here rfl) rfl rfl <| .e (.assign rfl) rfl rfl <| .nil ?_
  refine .go <| .ret ?_
  refine .tail ?_
  refine Post.retE rfl rfl ?_
  rfl

set_option maxHeartbeats 1000000 in
set_option maxRecDepth 20000 in
theorem risingNod_ok {I : Imm} {O : Own} {v : Value} {l : List Nod} (hl : SlR NodR 6 I v l) :
    Pure Tryz.prog 31 [v, .func (.func 32) #[] #[]] I O (.bool (risingB (fun x : Nod => x.name) l)) := by
  have hl0 := hl
  obtain ⟨la, lcap, rfl, hl1, hl2, -⟩ := hl
  refine Go.Sy.Does.enter Tryz.func31 rfl Tryz.ntmps31 rfl ?_
  refine .seq <| .region <| .e (.assign rfl) rfl rfl <| .nil <| .go <| .seq ?_
  refine .seq <| .region <| .e (.assign rfl) rfl rfl <| .nil <| .go <| .block ?_
  refine .loopM [4, 5, 6, 7, 8, 9, 10, 11, 12, 13, 14, 15, 16, 17, 18, 19, 20, 21, 22, 23, 24, 25] (fun k => l.length - k) (fun k => 1 ≤ k ∧ (k ≤ l.length ∨ k = 1) ∧ risTo (fun x : Nod => x.name) l k = true) (fun k => [(5, .int .i64 k)]) (fun _ => _) (fun _ => _) (1) ⟨Nat.le_refl _, .inr rfl, rfl⟩ ⟨rfl, trivial⟩ rfl rfl ?_
  intro k hk
  obtain ⟨hk1, hk2, hw⟩ := hk
  refine .seq <| .seq <| .region <| .e (.move rfl) rfl rfl <| .e (.move rfl) rfl rfl <| .e (.len sl22 rfl rfl) rfl rfl ?_
  refine .e (.lss rfl rfl) rfl rfl <| .nil <| .go ?_
  refine .split 9 rfl (fun h9 => ?_) (fun h9 => ?_)
  · skip
    replace h9 := of_decide_eq_true h9
    refine .cond_true rfl <| .skip <| .go <| .seq <| .block <| .seq ?_
    refine .draw [] mixed .nil ?_
    refine .t 0 rfl (.move rfl) rfl rfl (by kernel_rfl) <| .t 1 rfl (.move rfl) rfl rfl (by kernel_rfl) <| .t 2 rfl (.move rfl) rfl rfl (by kernel_rfl) <| .t 3 rfl (.sub rfl rfl rfl) rfl rfl (by kernel_rfl) ?_
    have hm15 : IntKind.i64.wrap ((k : Int) - 1) = ((k - 1 : Nat) : Int) := wrap_pred (by omega) (by omega)
    obtain ⟨eb16, eo16, cs16, hd16, hat16, hr16⟩ := SlR.at_ hl0 (k := k - 1) (by omega)
    cases hd16
    refine .t 4 rfl (.indexAddrL sl22 rfl rfl hm15 (by omega)) rfl rfl (by kernel_rfl) <| .t 5 rfl (.loadIA ag32 sz32 rfl hat16 (NodR.len hr16)) rfl rfl (by kernel_rfl) <| .t 7 rfl (.move rfl) rfl rfl (by kernel_rfl) <| .t 8 rfl (.move rfl) rfl rfl (by kernel_rfl) <| .t 9 rfl (.move rfl) rfl rfl (by kernel_rfl) ?_
    obtain ⟨eb22, eo22, cs22, hd22, hat22, hr22⟩ := SlR.at_ hl0 (k := k) (by omega)
    cases hd22
    refine .t 10 rfl (.indexAddrL sl22 rfl rfl rfl (by omega)) rfl rfl (by kernel_rfl) <| .t 11 rfl (.loadIA ag32 sz32 rfl hat22 (NodR.len hr22)) rfl rfl (by kernel_rfl) <| .one (i := 6) (by kernel_rfl) rfl rfl <| .callP cal32 rfl rfl rfl (nmNod_ok hr16) ?_
    refine ⟨.nil, Imm.le_refl _, ?_⟩
    refine .one (i := 12) (by kernel_rfl) rfl rfl <| .callP cal32 rfl rfl rfl (nmNod_ok hr22) ?_
    refine ⟨.nil, Imm.le_refl _, ?_⟩
    refine .t 13 rfl (.strge rfl rfl) rfl rfl (by kernel_rfl) <| .done (by kernel_rfl) <| .go ?_
    refine .split 25 rfl (fun h25 => ?_) (fun h25 => ?_)
    · skip
      refine .cond_true rfl <| .seq <| .region <| .e (.assign rfl) rfl rfl <| .nil <| .go ?_
      refine .ret <| .blk_ret <| .ret <| .ret <| .blk_ret <| .ret ?_
      refine Post.retE rfl rfl ?_
      exact congrArg Value.bool (ris_bad (k := k) (by omega) (by omega) (by simpa using h25)).symm
    · skip
      refine .cond_false rfl <| .skip <| .blk_normal <| .go <| .region <| .e (.move rfl) rfl rfl ?_
      refine .e (.add rfl rfl (by first | exact wrap_succ (by omega) | exact IntWalk.i64_in _ (by omega) | exact rfl)) rfl rfl <| .e (.assign rfl) rfl rfl <| .nil ?_
      exact .mid (k + 1) ⟨by omega, by omega, .inl (by omega), ris_step (by omega) (by omega) hw (by simpa using h25)⟩ ⟨rfl, trivial⟩ rfl rfl (.pre 23 rfl (.app rfl .base))
  · skip
    replace h9 := of_decide_eq_false h9
    refine .cond_false rfl <| .exit <| .exit <| .exit <| .blk_exit <| .go ?_
    refine .seq <| .region <| .e (.assign rfl) rfl rfl <| .nil <| .go <| .ret ?_
    refine Post.retE rfl rfl ?_
    exact congrArg Value.bool ((ris_end (k := k) (by omega) hk2).symm.trans hw).symm

set_option maxHeartbeats 1000000 in
set_option maxRecDepth 20000 in
theorem nmTsk_ok {I : Imm} {O : Own} {cs : List Value} {x : Tsk} (hx : TskR I cs x) :
    Pure Tryz.prog 34 [.agg ⟨cs⟩] I O (.string x.name) := by
  obtain ⟨xl, xt, rfl, hxl, hxt⟩ := hx.ex
  obtain ⟨xa, xb, rfl, -⟩ := hxl
  obtain ⟨xc, xd, rfl, -⟩ := hxt
  refine Go.Sy.Does.enter Tryz.func34 rfl Tryz.ntmps34 rfl ?_
  refine .seq <| .region <| .on rfl <| .box rfl rfl rfl fun c1 _ _ => .e (.assign rfl) rfl rfl <| .nil <| .go ?_
  refine .seq <| .region <| .e (.fieldAddr fo34_0 rfl) rfl rfl <| .e (.load ag9 rfl .here rfl) rfl rfl <| .e (.assign rfl) rfl rfl <| .nil ?_
  refine .go <| .ret ?_
  refine .tail ?_
  refine Post.retE rfl rfl ?_
  rfl

set_option maxHeartbeats 1000000 in
set_option maxRecDepth 20000 in
theorem risingTsk_ok {I : Imm} {O : Own} {v : Value} {l : List Tsk} (hl : SlR TskR 9 I v l) :
    Pure Tryz.prog 33 [v, .func (.func 34) #[] #[]] I O (.bool (risingB (fun x : Tsk => x.name) l)) := by
  have hl0 := hl
  obtain ⟨la, lcap, rfl, hl1, hl2, -⟩ := hl
  refine Go.Sy.Does.enter Tryz.func33 rfl Tryz.ntmps33 rfl ?_
  refine .seq <| .region <| .e (.assign rfl) rfl rfl <| .nil <| .go <| .seq ?_
  refine .seq <| .region <| .e (.assign rfl) rfl rfl <| .nil <| .go <| .block ?_
  refine .loopM [4, 5, 6, 7, 8, 9, 10, 11, 12, 13, 14, 15, 16, 17, 18, 19, 20, 21, 22, 23, 24, 25] (fun k => l.length - k) (fun k => 1 ≤ k ∧ (k ≤ l.length ∨ k = 1) ∧ risTo (fun x : Tsk => x.name) l k = true) (fun k => [(5, .int .i64 k)]) (fun _ => _) (fun _ => _) (1) ⟨Nat.le_refl _, .inr rfl, rfl⟩ ⟨rfl, trivial⟩ rfl rfl ?_
  intro k hk
  obtain ⟨hk1, hk2, hw⟩ := hk
  refine .seq <| .seq <| .region <| .e (.move rfl) rfl rfl <| .e (.move rfl) rfl rfl <| .e (.len sl23 rfl rfl) rfl rfl ?_
  refine .e (.lss rfl rfl) rfl rfl <| .nil <| .go ?_
  refine .split 9 rfl (fun h9 => ?_) (fun h9 => ?_)
  · skip
    replace h9 := of_decide_eq_true h9
    refine .cond_true rfl <| .skip <| .go <| .seq <| .block <| .seq ?_
    refine .draw [] mixed .nil ?_
    refine .t 0 rfl (.move rfl) rfl rfl (by kernel_rfl) <| .t 1 rfl (.move rfl) rfl rfl (by kernel_rfl) <| .t 2 rfl (.move rfl) rfl rfl (by kernel_rfl) <| .t 3 rfl (.sub rfl rfl rfl) rfl rfl (by kernel_rfl) ?_
    have hm15 : IntKind.i64.wrap ((k : Int) - 1) = ((k - 1 : Nat) : Int) := wrap_pred (by omega) (by omega)
    obtain ⟨eb16, eo16, cs16, hd16, hat16, hr16⟩ := SlR.at_ hl0 (k := k - 1) (by omega)
    cases hd16
    refine .t 4 rfl (.indexAddrL sl23 rfl rfl hm15 (by omega)) rfl rfl (by kernel_rfl) <| .t 5 rfl (.loadIA ag34 sz34 rfl hat16 (TskR.len hr16)) rfl rfl (by kernel_rfl) <| .t 7 rfl (.move rfl) rfl rfl (by kernel_rfl) <| .t 8 rfl (.move rfl) rfl rfl (by kernel_rfl) <| .t 9 rfl (.move rfl) rfl rfl (by kernel_rfl) ?_
    obtain ⟨eb22, eo22, cs22, hd22, hat22, hr22⟩ := SlR.at_ hl0 (k := k) (by omega)
    cases hd22
    refine .t 10 rfl (.indexAddrL sl23 rfl rfl rfl (by omega)) rfl rfl (by kernel_rfl) <| .t 11 rfl (.loadIA ag34 sz34 rfl hat22 (TskR.len hr22)) rfl rfl (by kernel_rfl) <| .one (i := 6) (by kernel_rfl) rfl rfl <| .callP cal34 rfl rfl rfl (nmTsk_ok hr16) ?_
    refine ⟨.nil, Imm.le_refl _, ?_⟩
    refine .one (i := 12) (by kernel_rfl) rfl rfl <| .callP cal34 rfl rfl rfl (nmTsk_ok hr22) ?_
    refine ⟨.nil, Imm.le_refl _, ?_⟩
    refine .t 13 rfl (.strge rfl rfl) rfl rfl (by kernel_rfl) <| .done (by kernel_rfl) <| .go ?_
    refine .split 25 rfl (fun h25 => ?_) (fun h25 => ?_)
    · skip
      refine .cond_true rfl <| .seq <| .region <| .e (.assign rfl) rfl rfl <| .nil <| .go ?_
      refine .ret <| .blk_ret <| .ret <| .ret <| .blk_ret <| .ret ?_
      refine Post.retE rfl rfl ?_
      exact congrArg Value.bool (ris_bad (k := k) (by omega) (by omega) (by simpa using h25)).symm
    · skip
      refine .cond_false rfl <| .skip <| .blk_normal <| .go <| .region <| .e (.move rfl) rfl rfl ?_
      refine .e (.add rfl rfl (by first | exact wrap_succ (by omega) | exact IntWalk.i64_in _ (by omega) | exact rfl)) rfl rfl <| .e (.assign rfl) rfl rfl <| .nil ?_
      exact .mid (k + 1) ⟨by omega, by omega, .inl (by omega), ris_step (by omega) (by omega) hw (by simpa using h25)⟩ ⟨rfl, trivial⟩ rfl rfl (.pre 23 rfl (.app rfl .base))
  · skip
    replace h9 := of_decide_eq_false h9
    refine .cond_false rfl <| .exit <| .exit <| .exit <| .blk_exit <| .go ?_
    refine .seq <| .region <| .e (.assign rfl) rfl rfl <| .nil <| .go <| .ret ?_
    refine Post.retE rfl rfl ?_
    exact congrArg Value.bool ((ris_end (k := k) (by omega) hk2).symm.trans hw).symm

set_option maxHeartbeats 1000000 in
set_option maxRecDepth 20000 in
theorem nmBnd_ok {I : Imm} {O : Own} {cs : List Value} {x : Bnd} (hx : BndR I cs x) :
    Pure Tryz.prog 36 [.agg ⟨cs⟩] I O (.string x.task) := by
  obtain ⟨rfl, hx1, hx2⟩ := hx
  refine Go.Sy.Does.enter Tryz.func36 rfl Tryz.ntmps36 rfl ?_
  refine .seq <| .region <| .on rfl <| .box rfl rfl rfl fun c1 _ _ => .e (.assign rfl) rfl rfl <| .nil <| .go ?_
  refine .seq <| .region <| .e (.fieldAddr fo47_0 rfl) rfl rfl <| .e (.load ag9 rfl .here rfl) rfl rfl <| .e (.assign rfl) rfl rfl <| .nil ?_
  refine .go <| .ret ?_
  refine .tail ?_
  refine Post.retE rfl rfl ?_
  rfl

set_option maxHeartbeats 1000000 in
set_option maxRecDepth 20000 in
theorem risingBnd_ok {I : Imm} {O : Own} {v : Value} {l : List Bnd} (hl : SlR BndR 2 I v l) :
    Pure Tryz.prog 35 [v, .func (.func 36) #[] #[]] I O (.bool (risingB (fun x : Bnd => x.task) l)) := by
  have hl0 := hl
  obtain ⟨la, lcap, rfl, hl1, hl2, -⟩ := hl
  refine Go.Sy.Does.enter Tryz.func35 rfl Tryz.ntmps35 rfl ?_
  refine .seq <| .region <| .e (.assign rfl) rfl rfl <| .nil <| .go <| .seq ?_
  refine .seq <| .region <| .e (.assign rfl) rfl rfl <| .nil <| .go <| .block ?_
  refine .loopM [4, 5, 6, 7, 8, 9, 10, 11, 12, 13, 14, 15, 16, 17, 18, 19, 20, 21, 22, 23, 24, 25] (fun k => l.length - k) (fun k => 1 ≤ k ∧ (k ≤ l.length ∨ k = 1) ∧ risTo (fun x : Bnd => x.task) l k = true) (fun k => [(5, .int .i64 k)]) (fun _ => _) (fun _ => _) (1) ⟨Nat.le_refl _, .inr rfl, rfl⟩ ⟨rfl, trivial⟩ rfl rfl ?_
  intro k hk
  obtain ⟨hk1, hk2, hw⟩ := hk
  refine .seq <| .seq <| .region <| .e (.move rfl) rfl rfl <| .e (.move rfl) rfl rfl <| .e (.len sl24 rfl rfl) rfl rfl ?_
  refine .e (.lss rfl rfl) rfl rfl <| .nil <| .go ?_
  refine .split 9 rfl (fun h9 => ?_) (fun h9 => ?_)
  · skip
    replace h9 := of_decide_eq_true h9
    refine .cond_true rfl <| .skip <| .go <| .seq <| .block <| .seq ?_
    refine .draw [] mixed .nil ?_
    refine .t 0 rfl (.move rfl) rfl rfl (by kernel_rfl) <| .t 1 rfl (.move rfl) rfl rfl (by kernel_rfl) <| .t 2 rfl (.move rfl) rfl rfl (by kernel_rfl) <| .t 3 rfl (.sub rfl rfl rfl) rfl rfl (by kernel_rfl) ?_
    have hm15 : IntKind.i64.wrap ((k : Int) - 1) = ((k - 1 : Nat) : Int) := wrap_pred (by omega) (by omega)
    obtain ⟨eb16, eo16, cs16, hd16, hat16, hr16⟩ := SlR.at_ hl0 (k := k - 1) (by omega)
    cases hd16
    refine .t 4 rfl (.indexAddrL sl24 rfl rfl hm15 (by omega)) rfl rfl (by kernel_rfl) <| .t 5 rfl (.loadIA ag47 sz47 rfl hat16 (BndR.len hr16)) rfl rfl (by kernel_rfl) <| .t 7 rfl (.move rfl) rfl rfl (by kernel_rfl) <| .t 8 rfl (.move rfl) rfl rfl (by kernel_rfl) <| .t 9 rfl (.move rfl) rfl rfl (by kernel_rfl) ?_
    obtain ⟨eb22, eo22, cs22, hd22, hat22, hr22⟩ := SlR.at_ hl0 (k := k) (by omega)
    cases hd22
    refine .t 10 rfl (.indexAddrL sl24 rfl rfl rfl (by omega)) rfl rfl (by kernel_rfl) <| .t 11 rfl (.loadIA ag47 sz47 rfl hat22 (BndR.len hr22)) rfl rfl (by kernel_rfl) <| .one (i := 6) (by kernel_rfl) rfl rfl <| .callP cal36 rfl rfl rfl (nmBnd_ok hr16) ?_
    refine ⟨.nil, Imm.le_refl _, ?_⟩
    refine .one (i := 12) (by kernel_rfl) rfl rfl <| .callP cal36 rfl rfl rfl (nmBnd_ok hr22) ?_
    refine ⟨.nil, Imm.le_refl _, ?_⟩
    refine .t 13 rfl (.strge rfl rfl) rfl rfl (by kernel_rfl) <| .done (by kernel_rfl) <| .go ?_
    refine .split 25 rfl (fun h25 => ?_) (fun h25 => ?_)
    · skip
      refine .cond_true rfl <| .seq <| .region <| .e (.assign rfl) rfl rfl <| .nil <| .go ?_
      refine .ret <| .blk_ret <| .ret <| .ret <| .blk_ret <| .ret ?_
      refine Post.retE rfl rfl ?_
      exact congrArg Value.bool (ris_bad (k := k) (by omega) (by omega) (by simpa using h25)).symm
    · skip
      refine .cond_false rfl <| .skip <| .blk_normal <| .go <| .region <| .e (.move rfl) rfl rfl ?_
      refine .e (.add rfl rfl (by first | exact wrap_succ (by omega) | exact IntWalk.i64_in _ (by omega) | exact rfl)) rfl rfl <| .e (.assign rfl) rfl rfl <| .nil ?_
      exact .mid (k + 1) ⟨by omega, by omega, .inl (by omega), ris_step (by omega) (by omega) hw (by simpa using h25)⟩ ⟨rfl, trivial⟩ rfl rfl (.pre 23 rfl (.app rfl .base))
  · skip
    replace h9 := of_decide_eq_false h9
    refine .cond_false rfl <| .exit <| .exit <| .exit <| .blk_exit <| .go ?_
    refine .seq <| .region <| .e (.assign rfl) rfl rfl <| .nil <| .go <| .ret ?_
    refine Post.retE rfl rfl ?_
    exact congrArg Value.bool ((ris_end (k := k) (by omega) hk2).symm.trans hw).symm

end Go.Proofs.YtajpakifkinadaaGreatDoor
