/- Walks of functions over a symbolic memory, printed by a program of the session. -/
import Derived.Test.YtdcblbcidjldmaaDoorSe
namespace Go.Proofs.YtdcblbcidjldmaaDoor
open Go.Sy
set_option linter.unusedSimpArgs false
set_option linter.unusedVariables false

theorem orI_zero {x y : Int} (h : orI x y = 0) : x = 0 ∧ y = 0 := by
  unfold orI at h
  split at h
  · rename_i h1; exact absurd h h1
  · rename_i h1; exact ⟨by simpa using h1, h⟩
theorem whyTo_zero {t : Tsk} {l : List Lod} : ∀ k, k ≤ l.length → whyTo t l k = 0 → tskWhy t = 0 ∧ ∀ j (hj : j < l.length), j < k → lodWhy l[j] = 0
  | 0, _, h => ⟨h, fun j _ h2 => absurd h2 (by omega)⟩
  | k + 1, hk, h => by
    rw [whyTo_succ (by omega)] at h
    obtain ⟨h1, h2⟩ := orI_zero h
    obtain ⟨h3, h4⟩ := whyTo_zero k (by omega) h1
    refine ⟨h3, fun j hj hjk => ?_⟩
    rcases Nat.lt_or_ge j k with h5 | h5
    · exact h4 j hj h5
    · obtain rfl : j = k := by omega
      exact h2
theorem orI_ne {x y c : Int} (h1 : x ≠ c) (h2 : y ≠ c) : orI x y ≠ c := by unfold orI; split <;> assumption
theorem tskWhy_ne (t : Tsk) : tskWhy t ≠ 13 := by
  unfold tskWhy
  split
  · decide
  · split
    · decide
    · split <;> decide
theorem lodWhy_ne (l : Lod) : lodWhy l ≠ 13 := by
  have h : nodWhy l.node ≠ 13 := by
    unfold nodWhy
    split
    · decide
    · split
      · decide
      · split <;> decide
  unfold lodWhy
  split
  · exact h
  · split <;> decide
theorem whyTo_ne {t : Tsk} {l : List Lod} : ∀ k, k ≤ l.length → whyTo t l k ≠ 13
  | 0, _ => tskWhy_ne t
  | k + 1, hk => by rw [whyTo_succ (by omega)]; exact orI_ne (whyTo_ne k (by omega)) (lodWhy_ne _)
theorem bestR_zero {t : Tsk} {l : List Lod} (h : ¬(bestR t l).2 = 0) : (bestR t l).1 = 0 := by
  unfold bestR at *
  split at h
  · rename_i h1; rw [if_pos h1]
  · rename_i h1; rw [if_neg h1]
    split at h
    · rename_i h2; rw [if_pos h2]
    · exact absurd rfl h
theorem bestR_why0 {t : Tsk} {l : List Lod} (h : (bestR t l).2 = 0 ∨ (bestR t l).2 = 13) : whyTo t l l.length = 0 := by
  unfold bestR at h
  split at h
  · rename_i h1
    rcases h with h | h
    · exact h
    · exact absurd h (whyTo_ne _ (Nat.le_refl _))
  · rename_i h1; simpa using h1
def Mx (t : Tsk) (l : List Lod) (k : Nat) (s : Int × Int) : Prop := (∀ j, j < k → (scoreR t (l.getD j lod0)).2 = 0 → 0 ≤ s.1 ∧ (scoreR t (l.getD j lod0)).1 ≤ s.2) ∧ (0 ≤ s.1 → s.1 < (k : Int) ∧ scoreR t (l.getD s.1.toNat lod0) = (s.2, 0))
theorem Mx_best {t : Tsk} {l : List Lod} : ∀ k, Mx t l k (bestTo t l k)
  | 0 => ⟨fun j h => absurd h (by omega), fun h => by have : (0 : Int) ≤ -1 := h; omega⟩
  | k + 1 => by
    obtain ⟨h1, h2⟩ := Mx_best (t := t) (l := l) k
    rw [bestTo_succ]
    generalize bestTo t l k = s at h1 h2 ⊢
    unfold stepB
    by_cases hz : (scoreR t (l.getD k lod0)).2 = 0
    · rw [if_neg (fun hh => hh hz)]
      by_cases hb : betterB l s k (scoreR t (l.getD k lod0)).1 = true
      · rw [if_pos hb]
        refine ⟨fun j hj h0 => ⟨by dsimp only; omega, ?_⟩, fun _ => ⟨by dsimp only; omega, ?_⟩⟩
        · rcases Nat.lt_or_ge j k with h5 | h5
          · obtain ⟨h6, h7⟩ := h1 j h5 h0
            rw [betterB_ref] at hb
            simp only [Bool.or_eq_true, Bool.and_eq_true, decide_eq_true_eq] at hb
            dsimp only
            rcases hb with hb | hb | ⟨hb, _⟩ <;> omega
          · obtain rfl : j = k := by omega
            exact Int.le_refl _
        · show scoreR t (l.getD ((k : Int).toNat) lod0) = ((scoreR t (l.getD k lod0)).1, 0)
          rw [Int.toNat_natCast]
          exact Prod.ext rfl hz
      · rw [if_neg hb]
        refine ⟨fun j hj h0 => ?_, fun h => ⟨by have := (h2 h).1; omega, (h2 h).2⟩⟩
        rcases Nat.lt_or_ge j k with h5 | h5
        · exact h1 j h5 h0
        · obtain rfl : j = k := by omega
          rw [betterB_ref] at hb
          simp only [Bool.or_eq_true, Bool.and_eq_true, decide_eq_true_eq, not_or] at hb
          exact ⟨by omega, by omega⟩
    · rw [if_pos hz]
      refine ⟨fun j hj h0 => ?_, fun h => ⟨by have := (h2 h).1; omega, (h2 h).2⟩⟩
      rcases Nat.lt_or_ge j k with h5 | h5
      · exact h1 j h5 h0
      · obtain rfl : j = k := by omega
        exact absurd h0 hz
theorem bestR_in {t : Tsk} {l : List Lod} (h : (bestR t l).2 = 0) : 0 ≤ (bestR t l).1 ∧ (bestR t l).1 < (l.length : Int) := by
  have h0 := bestR_why0 (.inl h)
  unfold bestR at *
  rw [if_neg (by simp [h0])] at *
  split at h
  · cases h
  · rename_i h1
    rw [if_neg h1]
    exact ⟨by dsimp only; omega, ((Mx_best (t := t) (l := l) l.length).2 (by omega)).1⟩
theorem best_max {t : Tsk} {l : List Lod} {k b : Nat} (h : (bestR t l).2 = 0) (hb : b = (bestR t l).1.toNat) (hbl : b < l.length) (hk : k < l.length) (hz : (scoreR t l[k]).2 = 0) : (scoreR t l[k]).1 ≤ (scoreR t l[b]).1 := by
  have h0 := bestR_why0 (.inl h)
  obtain ⟨m1, m2⟩ := Mx_best (t := t) (l := l) l.length
  have e : (bestR t l).1 = (bestTo t l l.length).1 := by
    unfold bestR at *
    rw [if_neg (by simp [h0])] at *
    split at h
    · cases h
    · rename_i h1; rw [if_neg h1]
  rw [e] at hb
  have h3 := m1 k hk (by rw [lodD hk]; exact hz)
  have h4 := (m2 h3.1).2
  rw [← hb, lodD hbl] at h4
  rw [lodD hk] at h3
  rw [h4]
  exact h3.2
theorem best_none {t : Tsk} {l : List Lod} {k : Nat} (h : (bestR t l).2 = 13) (hk : k < l.length) : ¬(scoreR t l[k]).2 = 0 := fun hz => by
  have h0 := bestR_why0 (.inr h)
  obtain ⟨m1, m2⟩ := Mx_best (t := t) (l := l) l.length
  have h3 := m1 k hk (by rw [lodD hk]; exact hz)
  unfold bestR at h
  rw [if_neg (by simp [h0]), if_neg (by omega)] at h
  cases h
theorem fit_iff {t : Tsk} {l : List Lod} {k : Nat} (h : (bestR t l).2 = 0 ∨ (bestR t l).2 = 13) (hk : k < l.length) : decide ((scoreR t l[k]).2 = 0) = (suits t l[k].node && room l[k].node l[k].used t.needs) := by
  obtain ⟨h1, h2⟩ := whyTo_zero _ (Nat.le_refl _) (bestR_why0 h)
  have h3 := or_zero h1 (h2 k hk hk)
  unfold scoreR
  rw [if_neg (by simp [h3])]
  cases suits t l[k].node && room l[k].node l[k].used t.needs <;> rfl
theorem term_bd {h u n : Int} (h0 : 0 ≤ h) (h1 : 0 ≤ u + n) (h2 : u + n ≤ h) : 0 ≤ term h u n ∧ term h u n ≤ 1000 := by
  unfold term
  split
  · omega
  · exact quo_bd (by omega) h1 h2
theorem scoreR_bd (t : Tsk) (l : Lod) : 0 ≤ (scoreR t l).1 ∧ (scoreR t l).1 ≤ 3000 := by
  by_cases h : (scoreR t l).2 = 0
  · obtain ⟨_, _, hr, e⟩ := scoreR_fits h
    rw [e]
    obtain ⟨r1, r2, r3, r4⟩ := room_out hr
    have r1 := A3.amt_out r1
    have r2 := A3.amt_out r2
    have r3 := A3.amt_out r3
    have ta := term_bd (h := l.node.has.a) (u := l.used.a) (n := t.needs.a) (by omega) (by omega) (by omega)
    have tb := term_bd (h := l.node.has.b) (u := l.used.b) (n := t.needs.b) (by omega) (by omega) (by omega)
    have tc := term_bd (h := l.node.has.c) (u := l.used.c) (n := t.needs.c) (by omega) (by omega) (by omega)
    unfold fullS
    omega
  · have e : (scoreR t l).1 = 0 := by
      unfold scoreR at *
      split at h
      · rename_i h1; rw [if_pos h1]
      · rename_i h1; rw [if_neg h1]
        split at h
        · rename_i h2; rw [if_pos h2]
        · exact absurd rfl h
    omega

set_option maxHeartbeats 4000000 in
set_option maxRecDepth 20000 in
theorem ScoreWithin_ok {I : Imm} {O : Own} {tc : List Value} {t : Tsk} (ht : TskR I tc t) {v : Value} {l : List Lod} (hl : LodsR I v l) :
    Pure Tryd.prog 5 [.agg ⟨tc⟩, v] I O (.bool true) := by
  have ht0 := ht
  obtain ⟨tw, tb, rfl, htw, htb⟩ := ht.ex
  have htw0 := htw
  obtain ⟨wa, wcap, rfl, hw1, hw2, -⟩ := htw
  have htb0 := htb
  obtain ⟨ba, bcap, rfl, hb1, hb2, -⟩ := htb
  have hl0 := hl
  obtain ⟨la, lcap, rfl, hl1, hl2, -⟩ := hl
  refine Does.enter Tryd.func5 rfl Tryd.ntmps5 rfl ?_
  refine .seq <| .region <| .on rfl <| .box rfl rfl rfl fun c1 _ _ => .e (.assign rfl) rfl rfl <| .nil <| .go ?_
  refine .seq <| .seq <| .region <| .on rfl <| .callP cal11 rfl rfl rfl (lives_ok) <| .e (.not rfl) rfl rfl <| .nil ?_
  refine .go <| .cond_false rfl <| .skip <| .go <| .seq <| .region ?_
  refine .e (.loadW ag25 sz25 rfl .here rfl) rfl rfl <| .e (.move rfl) rfl rfl <| .on rfl <| .callP cal14 rfl rfl rfl (Best_ok ht0 hl0) <| .e (.move rfl) rfl rfl <| .e (.extract rfl rfl) rfl rfl <| .e (.extract rfl rfl) rfl rfl ?_
  refine .e (.assign rfl) rfl rfl <| .e (.assign rfl) rfl rfl <| .nil <| .go <| .seq <| .seq ?_
  refine .region <| .e (.move rfl) rfl rfl <| .e (.neq rfl rfl) rfl rfl <| .e (.move rfl) rfl rfl ?_
  refine .split 23 rfl (fun h23 => ?_) (fun h23 => ?_)
  · skip
    first | replace h23 := of_decide_eq_false ((Bool.not_eq_true' _).mp h23) | replace h23 := of_decide_eq_false (by simpa using h23)
    refine .e (.move rfl) rfl rfl <| .e (.neq rfl rfl) rfl rfl <| .e (.pickT rfl rfl) rfl rfl <| .nil <| .go ?_
    refine .split 26 rfl (fun h26 => ?_) (fun h26 => ?_)
    · skip
      first | replace h26 := of_decide_eq_false ((Bool.not_eq_true' _).mp h26) | replace h26 := of_decide_eq_false (by simpa using h26)
      refine .cond_true rfl <| .seq <| .region <| .e (.move rfl) rfl rfl <| .e (.eql rfl rfl) rfl rfl <| .e (.assign rfl) rfl rfl ?_
      refine .nil <| .go <| .ret <| .ret ?_
      refine .tail ?_
      refine Post.retE rfl rfl ?_
      exact congrArg Value.bool (decide_eq_true (bestR_zero h23))
    · skip
      first | replace h26 := of_decide_eq_true ((Bool.not_eq_false' _).mp h26) | replace h26 := of_decide_eq_true (by simpa using h26)
      refine .cond_false rfl <| .skip <| .go <| .seq <| .seq <| .region ?_
      refine .e (.move rfl) rfl rfl <| .e (.eql rfl rfl) rfl rfl <| .e (.move rfl) rfl rfl ?_
      refine .split 31 rfl (fun h31 => ?_) (fun h31 => ?_)
      · skip
        replace h31 := of_decide_eq_true h31
        have hin := bestR_in h31
        omega
      · skip
        replace h31 := of_decide_eq_false h31
        refine .off rfl rfl <| .off rfl rfl <| .off rfl rfl <| .off rfl rfl <| .off rfl rfl <| .off rfl rfl ?_
        refine .off rfl rfl <| .off rfl rfl <| .e (.pickF rfl rfl) rfl rfl <| .nil <| .go <| .cond_false rfl ?_
        refine .skip <| .go <| .seq <| .region <| .e (.assign rfl) rfl rfl <| .nil ?_
        refine .go <| .seq <| .seq <| .region <| .e (.move rfl) rfl rfl <| .e ((EV.cast (u := .bool false) (.eql rfl rfl) (congrArg Value.bool (decide_eq_false h31)))) rfl rfl ?_
        refine .nil <| .go <| .cond_false rfl <| .skip <| .go <| .seq ?_
        refine .seq <| .region <| .e (.move rfl) rfl rfl <| .e (.len sl36 rfl rfl) rfl rfl <| .e (.move rfl) rfl rfl <| .nil ?_
        refine .go <| .block ?_
        refine .loopM [4, 9, 10, 11, 12, 54, 55, 56, 57, 58, 59, 60, 61, 62, 63, 64, 65, 66, 67, 68, 69, 70, 71, 72, 73, 74, 75, 76, 77, 78, 79, 80, 81, 82, 83, 84, 85, 86, 87, 88, 89, 90, 91, 92, 93, 94, 95, 96, 97, 98] (fun k => l.length - k) (fun k => k ≤ l.length) (fun k => [(54, .int .i64 k)]) (fun _ => _) (fun _ => _) (0) (by omega) ⟨rfl, trivial⟩ rfl rfl ?_
        intro k hk
        refine .seq <| .region <| .e (.lss rfl rfl) rfl rfl <| .nil <| .go <| .seq ?_
        refine .split 55 rfl (fun h55 => ?_) (fun h55 => ?_)
        · skip
          replace h55 := of_decide_eq_true h55
          refine .cond_true rfl <| .skip <| .go <| .seq <| .block <| .seq ?_
          refine .region ?_
          obtain ⟨eb56, eo56, cs56, hd56, hat56, hr56⟩ := SlR.at_ hl0 (k := k) (by omega)
          cases hd56
          have hx56 := hr56
          obtain ⟨xv56, yv56, rfl, hxv56, hyv56⟩ := hr56.ex
          have hnd56 := lodNode hx56 hxv56 hyv56
          obtain ⟨xa56, xc56, rfl, -⟩ := hxv56
          obtain ⟨ya56, yc56, rfl, -⟩ := hyv56
          refine .e (.indexAddrL sl36 rfl rfl rfl (by omega)) rfl rfl <| .e (.loadIA ag29 sz29 rfl hat56 rfl) rfl rfl <| .on rfl <| .alloc zr29 rfl fun c2 _ _ => .on rfl <| .storeW sz29 rfl rfl rfl rfl rfl rfl .here <| .nil <| .go ?_
          refine .seq <| .region <| .e (.loadW ag25 sz25 rfl (.there <| .here) rfl) rfl rfl <| .e (.loadW ag29 sz29 rfl .here rfl) rfl rfl <| .on rfl <| .callP cal9 rfl rfl rfl (Score_ok ht0 hx56) <| .e (.move rfl) rfl rfl ?_
          refine .e (.extract rfl rfl) rfl rfl <| .e (.extract rfl rfl) rfl rfl <| .e (.assign rfl) rfl rfl <| .e (.assign rfl) rfl rfl <| .nil <| .go ?_
          refine .seq <| .region <| .e (.loadW ag25 sz25 rfl (.there <| .here) rfl) rfl rfl <| .e (.fieldAddr fo29_0 rfl) rfl rfl <| .e (.loadP ag27 sz27 rfl .here rfl) rfl rfl <| .on rfl <| .callP cal16 rfl rfl rfl (Suits_ok ht0 hnd56) ?_
          refine .e (.move rfl) rfl rfl ?_
          refine .split 68 rfl (fun h68 => ?_) (fun h68 => ?_)
          · skip
            refine .e (.fieldAddr fo29_0 rfl) rfl rfl <| .e (.loadP ag27 sz27 rfl .here rfl) rfl rfl <| .e (.fieldAddr fo29_1 rfl) rfl rfl <| .e (.loadP ag22 sz22 rfl .here rfl) rfl rfl <| .e (.fieldAddr fo25_1 rfl) rfl rfl <| .e (.loadP ag22 sz22 rfl (.there <| .here) rfl) rfl rfl ?_
            refine .on rfl <| .callP cal17 rfl rfl rfl (Room_ok (u := l[k].used) (d := t.needs) hnd56) <| .e (.pickT rfl rfl) rfl rfl <| .e (.assign rfl) rfl rfl <| .nil <| .go <| .seq ?_
            refine .region <| .e (.move rfl) rfl rfl <| .e (.eql rfl rfl) rfl rfl <| .e (.move rfl) rfl rfl <| .e ((EV.cast (u := .bool false) (.nev eqBool rfl rfl) (congrArg Value.bool (by rw [fit_iff (.inr (by omega)) (show k < l.length by omega)]; simp [h68])))) rfl rfl <| .e (.move rfl) rfl rfl ?_
            refine .e (.move rfl) rfl rfl <| .e ((EV.cast (u := .bool false) (.lss rfl rfl) (congrArg Value.bool (decide_eq_false (by have := scoreR_bd t l[k]; omega))))) rfl rfl <| .e (.pickF rfl rfl) rfl rfl <| .e (.move rfl) rfl rfl <| .e (.move rfl) rfl rfl <| .e ((EV.cast (u := .bool false) (.gtr rfl rfl) (congrArg Value.bool (decide_eq_false (by have := scoreR_bd t l[k]; omega))))) rfl rfl ?_
            refine .e (.pickF rfl rfl) rfl rfl <| .e (.move rfl) rfl rfl <| .e (.move rfl) rfl rfl <| .e ((EV.cast (u := .bool false) (.eql rfl rfl) (congrArg Value.bool (decide_eq_false (best_none (by omega) (by omega)))))) rfl rfl <| .e (.move rfl) rfl rfl <| .off rfl rfl ?_
            refine .off rfl rfl <| .off rfl rfl <| .e (.pickF rfl rfl) rfl rfl <| .e (.pickF rfl rfl) rfl rfl <| .nil <| .go ?_
            refine .cond_false rfl <| .skip <| .blk_normal <| .go <| .region <| .e (.add rfl rfl (by first | exact wrap_succ (by omega) | exact IntWalk.i64_in _ (by omega) | exact rfl)) rfl rfl ?_
            refine .e (.move rfl) rfl rfl <| .nil ?_
            refine .tail ?_
            exact .mid (k + 1) ⟨by omega, by omega⟩ ⟨rfl, trivial⟩ rfl rfl (.pre 51 rfl (.app rfl .base))
          · skip
            refine .off rfl rfl <| .off rfl rfl <| .off rfl rfl <| .off rfl rfl <| .off rfl rfl <| .off rfl rfl ?_
            refine .off rfl rfl <| .e (.pickF rfl rfl) rfl rfl <| .e (.assign rfl) rfl rfl <| .nil <| .go <| .seq ?_
            refine .region <| .e (.move rfl) rfl rfl <| .e (.eql rfl rfl) rfl rfl <| .e (.move rfl) rfl rfl <| .e ((EV.cast (u := .bool false) (.nev eqBool rfl rfl) (congrArg Value.bool (by rw [fit_iff (.inr (by omega)) (show k < l.length by omega)]; simp [h68])))) rfl rfl <| .e (.move rfl) rfl rfl ?_
            refine .e (.move rfl) rfl rfl <| .e ((EV.cast (u := .bool false) (.lss rfl rfl) (congrArg Value.bool (decide_eq_false (by have := scoreR_bd t l[k]; omega))))) rfl rfl <| .e (.pickF rfl rfl) rfl rfl <| .e (.move rfl) rfl rfl <| .e (.move rfl) rfl rfl <| .e ((EV.cast (u := .bool false) (.gtr rfl rfl) (congrArg Value.bool (decide_eq_false (by have := scoreR_bd t l[k]; omega))))) rfl rfl ?_
            refine .e (.pickF rfl rfl) rfl rfl <| .e (.move rfl) rfl rfl <| .e (.move rfl) rfl rfl <| .e ((EV.cast (u := .bool false) (.eql rfl rfl) (congrArg Value.bool (decide_eq_false (best_none (by omega) (by omega)))))) rfl rfl <| .e (.move rfl) rfl rfl <| .off rfl rfl ?_
            refine .off rfl rfl <| .off rfl rfl <| .e (.pickF rfl rfl) rfl rfl <| .e (.pickF rfl rfl) rfl rfl <| .nil <| .go ?_
            refine .cond_false rfl <| .skip <| .blk_normal <| .go <| .region <| .e (.add rfl rfl (by first | exact wrap_succ (by omega) | exact IntWalk.i64_in _ (by omega) | exact rfl)) rfl rfl ?_
            refine .e (.move rfl) rfl rfl <| .nil ?_
            refine .tail ?_
            exact .mid (k + 1) ⟨by omega, by omega⟩ ⟨rfl, trivial⟩ rfl rfl (.pre 51 rfl (.app rfl .base))
        · skip
          replace h55 := of_decide_eq_false h55
          refine .cond_false rfl <| .exit <| .exit <| .exit <| .blk_exit <| .go ?_
          refine .seq <| .region <| .e (.assign rfl) rfl rfl <| .nil <| .go <| .ret ?_
          refine .tail ?_
          refine Post.retE rfl rfl ?_
          rfl
  · skip
    first | replace h23 := of_decide_eq_true ((Bool.not_eq_false' _).mp h23) | replace h23 := of_decide_eq_true (by simpa using h23)
    refine .off rfl rfl <| .off rfl rfl <| .e (.pickF rfl rfl) rfl rfl <| .nil <| .go <| .cond_false rfl ?_
    refine .skip <| .go <| .seq <| .seq <| .region <| .e (.move rfl) rfl rfl ?_
    refine .e (.eql rfl rfl) rfl rfl <| .e (.move rfl) rfl rfl ?_
    refine .split 31 rfl (fun h31 => ?_) (fun h31 => ?_)
    · skip
      replace h31 := of_decide_eq_true h31
      have hin := bestR_in h31
      refine .e (.move rfl) rfl rfl <| .e ((EV.cast (u := .bool false) (.lss rfl rfl) (congrArg Value.bool (decide_eq_false (by omega))))) rfl rfl <| .e (.move rfl) rfl rfl <| .e (.move rfl) rfl rfl <| .e (.move rfl) rfl rfl <| .e (.len sl36 rfl rfl) rfl rfl ?_
      refine .e ((EV.cast (u := .bool false) (.geq rfl rfl) (congrArg Value.bool (decide_eq_false (by omega))))) rfl rfl <| .e (.pickF rfl rfl) rfl rfl <| .e (.pickT rfl rfl) rfl rfl <| .nil <| .go <| .cond_false rfl ?_
      refine .skip <| .go <| .seq <| .region <| .e (.assign rfl) rfl rfl <| .nil ?_
      refine .go <| .seq <| .seq <| .region <| .e (.move rfl) rfl rfl <| .e ((EV.cast (u := .bool true) (.eql rfl rfl) (congrArg Value.bool (decide_eq_true h31)))) rfl rfl ?_
      refine .nil <| .go <| .cond_true rfl ?_
      refine .draw [(c1, _)] mixed (.cons .here .nil) ?_
      refine .t 0 rfl (.loadW ag25 sz25 rfl .here rfl) rfl rfl (by kernel_rfl) <| .t 1 rfl (.move rfl) rfl rfl (by kernel_rfl) <| .t 2 rfl (.move rfl) rfl rfl (by kernel_rfl) ?_
      obtain ⟨eb47, eo47, cs47, hd47, hat47, hr47⟩ := SlR.at_ hl0 (k := (bestR t l).1.toNat) (by omega)
      cases hd47
      have hx47 := hr47
      obtain ⟨xv47, yv47, rfl, hxv47, hyv47⟩ := hr47.ex
      have hnd47 := lodNode hx47 hxv47 hyv47
      obtain ⟨xa47, xc47, rfl, -⟩ := hxv47
      obtain ⟨ya47, yc47, rfl, -⟩ := hyv47
      refine .t 3 rfl (.indexAddrL sl36 rfl rfl (by omega) (by omega)) rfl rfl (by kernel_rfl) <| .t 4 rfl (.loadIA ag29 sz29 rfl hat47 rfl) rfl rfl (by kernel_rfl) <| .one (i := 5) (by kernel_rfl) rfl rfl <| .callP cal9 rfl rfl rfl (Score_ok ht0 hx47) ?_
      refine ⟨(.cons .here .nil), Imm.le_refl _, ?_⟩
      refine .t 6 rfl (.move rfl) rfl rfl (by kernel_rfl) <| .t 7 rfl (.extract rfl rfl) rfl rfl (by kernel_rfl) <| .t 8 rfl (.extract rfl rfl) rfl rfl (by kernel_rfl) <| .t 9 rfl (.assign rfl) rfl rfl (by kernel_rfl) <| .done (by kernel_rfl) <| .go ?_
      refine .seq <| .seq <| .region <| .e (.move rfl) rfl rfl <| .e (.len sl36 rfl rfl) rfl rfl <| .e (.move rfl) rfl rfl ?_
      refine .nil <| .go <| .block ?_
      refine .loopM [4, 9, 10, 11, 12, 54, 55, 56, 57, 58, 59, 60, 61, 62, 63, 64, 65, 66, 67, 68, 69, 70, 71, 72, 73, 74, 75, 76, 77, 78, 79, 80, 81, 82, 83, 84, 85, 86, 87, 88, 89, 90, 91, 92, 93, 94, 95, 96, 97, 98] (fun k => l.length - k) (fun k => k ≤ l.length) (fun k => [(54, .int .i64 k)]) (fun _ => _) (fun _ => _) (0) (by omega) ⟨rfl, trivial⟩ rfl rfl ?_
      intro k hk
      refine .seq <| .region <| .e (.lss rfl rfl) rfl rfl <| .nil <| .go <| .seq ?_
      refine .split 55 rfl (fun h55 => ?_) (fun h55 => ?_)
      · skip
        replace h55 := of_decide_eq_true h55
        refine .cond_true rfl <| .skip <| .go <| .seq <| .block <| .seq ?_
        refine .region ?_
        obtain ⟨eb56, eo56, cs56, hd56, hat56, hr56⟩ := SlR.at_ hl0 (k := k) (by omega)
        cases hd56
        have hx56 := hr56
        obtain ⟨xv56, yv56, rfl, hxv56, hyv56⟩ := hr56.ex
        have hnd56 := lodNode hx56 hxv56 hyv56
        obtain ⟨xa56, xc56, rfl, -⟩ := hxv56
        obtain ⟨ya56, yc56, rfl, -⟩ := hyv56
        refine .e (.indexAddrL sl36 rfl rfl rfl (by omega)) rfl rfl <| .e (.loadIA ag29 sz29 rfl hat56 rfl) rfl rfl <| .on rfl <| .alloc zr29 rfl fun c3 _ _ => .on rfl <| .storeW sz29 rfl rfl rfl rfl rfl rfl .here <| .nil <| .go ?_
        refine .seq <| .region <| .e (.loadW ag25 sz25 rfl (.there <| .here) rfl) rfl rfl <| .e (.loadW ag29 sz29 rfl .here rfl) rfl rfl <| .on rfl <| .callP cal9 rfl rfl rfl (Score_ok ht0 hx56) <| .e (.move rfl) rfl rfl ?_
        refine .e (.extract rfl rfl) rfl rfl <| .e (.extract rfl rfl) rfl rfl <| .e (.assign rfl) rfl rfl <| .e (.assign rfl) rfl rfl <| .nil <| .go ?_
        refine .seq <| .region <| .e (.loadW ag25 sz25 rfl (.there <| .here) rfl) rfl rfl <| .e (.fieldAddr fo29_0 rfl) rfl rfl <| .e (.loadP ag27 sz27 rfl .here rfl) rfl rfl <| .on rfl <| .callP cal16 rfl rfl rfl (Suits_ok ht0 hnd56) ?_
        refine .e (.move rfl) rfl rfl ?_
        refine .split 68 rfl (fun h68 => ?_) (fun h68 => ?_)
        · skip
          refine .e (.fieldAddr fo29_0 rfl) rfl rfl <| .e (.loadP ag27 sz27 rfl .here rfl) rfl rfl <| .e (.fieldAddr fo29_1 rfl) rfl rfl <| .e (.loadP ag22 sz22 rfl .here rfl) rfl rfl <| .e (.fieldAddr fo25_1 rfl) rfl rfl <| .e (.loadP ag22 sz22 rfl (.there <| .here) rfl) rfl rfl ?_
          refine .on rfl <| .callP cal17 rfl rfl rfl (Room_ok (u := l[k].used) (d := t.needs) hnd56) <| .e (.pickT rfl rfl) rfl rfl <| .e (.assign rfl) rfl rfl <| .nil <| .go <| .seq ?_
          refine .region <| .e (.move rfl) rfl rfl <| .e (.eql rfl rfl) rfl rfl <| .e (.move rfl) rfl rfl <| .e ((EV.cast (u := .bool false) (.nev eqBool rfl rfl) (congrArg Value.bool (by rw [fit_iff (.inl h31) (show k < l.length by omega)]; simp [h68])))) rfl rfl <| .e (.move rfl) rfl rfl ?_
          refine .e (.move rfl) rfl rfl <| .e ((EV.cast (u := .bool false) (.lss rfl rfl) (congrArg Value.bool (decide_eq_false (by have := scoreR_bd t l[k]; omega))))) rfl rfl <| .e (.pickF rfl rfl) rfl rfl <| .e (.move rfl) rfl rfl <| .e (.move rfl) rfl rfl <| .e ((EV.cast (u := .bool false) (.gtr rfl rfl) (congrArg Value.bool (decide_eq_false (by have := scoreR_bd t l[k]; omega))))) rfl rfl ?_
          refine .e (.pickF rfl rfl) rfl rfl <| .e (.move rfl) rfl rfl <| .e (.move rfl) rfl rfl <| .e (.eql rfl rfl) rfl rfl <| .e (.move rfl) rfl rfl ?_
          refine .split 92 rfl (fun h92 => ?_) (fun h92 => ?_)
          · skip
            replace h92 := of_decide_eq_true h92
            refine .e (.move rfl) rfl rfl <| .e (.move rfl) rfl rfl <| .e ((EV.cast (u := .bool false) (.gtr rfl rfl) (congrArg Value.bool (decide_eq_false (by have := best_max (k := k) h31 rfl (by omega) (by omega) h92; omega))))) rfl rfl <| .e (.pickT rfl rfl) rfl rfl <| .e (.pickF rfl rfl) rfl rfl <| .nil ?_
            refine .go <| .cond_false rfl <| .skip <| .blk_normal <| .go <| .region ?_
            refine .e (.add rfl rfl (by first | exact wrap_succ (by omega) | exact IntWalk.i64_in _ (by omega) | exact rfl)) rfl rfl <| .e (.move rfl) rfl rfl <| .nil ?_
            refine .tail ?_
            exact .mid (k + 1) ⟨by omega, by omega⟩ ⟨rfl, trivial⟩ rfl rfl (.pre 52 rfl (.app rfl .base))
          · skip
            replace h92 := of_decide_eq_false h92
            refine .off rfl rfl <| .off rfl rfl <| .off rfl rfl <| .e (.pickF rfl rfl) rfl rfl <| .e (.pickF rfl rfl) rfl rfl <| .nil ?_
            refine .go <| .cond_false rfl <| .skip <| .blk_normal <| .go <| .region ?_
            refine .e (.add rfl rfl (by first | exact wrap_succ (by omega) | exact IntWalk.i64_in _ (by omega) | exact rfl)) rfl rfl <| .e (.move rfl) rfl rfl <| .nil ?_
            refine .tail ?_
            exact .mid (k + 1) ⟨by omega, by omega⟩ ⟨rfl, trivial⟩ rfl rfl (.pre 52 rfl (.app rfl .base))
        · skip
          refine .off rfl rfl <| .off rfl rfl <| .off rfl rfl <| .off rfl rfl <| .off rfl rfl <| .off rfl rfl ?_
          refine .off rfl rfl <| .e (.pickF rfl rfl) rfl rfl <| .e (.assign rfl) rfl rfl <| .nil <| .go <| .seq ?_
          refine .region <| .e (.move rfl) rfl rfl <| .e (.eql rfl rfl) rfl rfl <| .e (.move rfl) rfl rfl <| .e ((EV.cast (u := .bool false) (.nev eqBool rfl rfl) (congrArg Value.bool (by rw [fit_iff (.inl h31) (show k < l.length by omega)]; simp [h68])))) rfl rfl <| .e (.move rfl) rfl rfl ?_
          refine .e (.move rfl) rfl rfl <| .e ((EV.cast (u := .bool false) (.lss rfl rfl) (congrArg Value.bool (decide_eq_false (by have := scoreR_bd t l[k]; omega))))) rfl rfl <| .e (.pickF rfl rfl) rfl rfl <| .e (.move rfl) rfl rfl <| .e (.move rfl) rfl rfl <| .e ((EV.cast (u := .bool false) (.gtr rfl rfl) (congrArg Value.bool (decide_eq_false (by have := scoreR_bd t l[k]; omega))))) rfl rfl ?_
          refine .e (.pickF rfl rfl) rfl rfl <| .e (.move rfl) rfl rfl <| .e (.move rfl) rfl rfl <| .e (.eql rfl rfl) rfl rfl <| .e (.move rfl) rfl rfl ?_
          refine .split 92 rfl (fun h92 => ?_) (fun h92 => ?_)
          · skip
            replace h92 := of_decide_eq_true h92
            refine .e (.move rfl) rfl rfl <| .e (.move rfl) rfl rfl <| .e ((EV.cast (u := .bool false) (.gtr rfl rfl) (congrArg Value.bool (decide_eq_false (by have := best_max (k := k) h31 rfl (by omega) (by omega) h92; omega))))) rfl rfl <| .e (.pickT rfl rfl) rfl rfl <| .e (.pickF rfl rfl) rfl rfl <| .nil ?_
            refine .go <| .cond_false rfl <| .skip <| .blk_normal <| .go <| .region ?_
            refine .e (.add rfl rfl (by first | exact wrap_succ (by omega) | exact IntWalk.i64_in _ (by omega) | exact rfl)) rfl rfl <| .e (.move rfl) rfl rfl <| .nil ?_
            refine .tail ?_
            exact .mid (k + 1) ⟨by omega, by omega⟩ ⟨rfl, trivial⟩ rfl rfl (.pre 52 rfl (.app rfl .base))
          · skip
            replace h92 := of_decide_eq_false h92
            refine .off rfl rfl <| .off rfl rfl <| .off rfl rfl <| .e (.pickF rfl rfl) rfl rfl <| .e (.pickF rfl rfl) rfl rfl <| .nil ?_
            refine .go <| .cond_false rfl <| .skip <| .blk_normal <| .go <| .region ?_
            refine .e (.add rfl rfl (by first | exact wrap_succ (by omega) | exact IntWalk.i64_in _ (by omega) | exact rfl)) rfl rfl <| .e (.move rfl) rfl rfl <| .nil ?_
            refine .tail ?_
            exact .mid (k + 1) ⟨by omega, by omega⟩ ⟨rfl, trivial⟩ rfl rfl (.pre 52 rfl (.app rfl .base))
      · skip
        replace h55 := of_decide_eq_false h55
        refine .cond_false rfl <| .exit <| .exit <| .exit <| .blk_exit <| .go ?_
        refine .seq <| .region <| .e (.assign rfl) rfl rfl <| .nil <| .go <| .ret ?_
        refine .tail ?_
        refine Post.retE rfl rfl ?_
        rfl
    · skip
      replace h31 := of_decide_eq_false h31
      omega

end Go.Proofs.YtdcblbcidjldmaaDoor
