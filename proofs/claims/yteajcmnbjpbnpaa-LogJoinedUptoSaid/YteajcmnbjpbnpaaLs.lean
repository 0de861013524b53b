/- Walks of functions over a symbolic memory, printed by a program of the session. -/
import Derived.Test.YteajcmnbjpbnpaaLq
namespace Go.Proofs.Yteajcmnbjpbnpaa
open Go.Sy
set_option linter.unusedSimpArgs false
set_option linter.unusedVariables false

structure JoinLaw (l : Lg) (i t : Int) (s : List Ent) (M : Lg) (a : Int) : Prop where
  base : M.base = l.base
  ok : logWhy M = 0
  again : joinR M i t s = (M, 0, 0)
  none : a = 0 → l = M
  some_ : ∀ k (hk : k < s.length), l.base < s[k].index → termR M s[k].index = (s[k].term, 0)
  old : ∀ k (hk : k < l.ents.length), (0 < a → ¬a ≤ l.ents[k].index) → termR M l.ents[k].index = (l.ents[k].term, 0)
theorem termR_ent {l : Lg} (h : logOk l = true) (k : Nat) (hk : k < l.ents.length) : termR l l.ents[k].index = (l.ents[k].term, 0) := by
  have hi := ent_ix (show logTo l l.ents.length = true from h) hk hk
  rw [termR_ok h, if_neg (by omega), if_neg (by unfold endOf; omega)]
  unfold termAt
  rw [if_neg (by omega), show (l.ents[k].index - l.base - 1).toNat = k by omega, entD hk]
theorem termR_some {M : Lg} {e : Ent} (h : logOk M = true) (hb : M.base ≤ e.index) (hp : parts M e = false) : termR M e.index = (e.term, 0) := by
  unfold parts at hp
  simp only [Bool.or_eq_false_iff, decide_eq_false_iff_not, Bool.not_eq_false', decide_eq_true_eq] at hp
  rw [termR_ok h, if_neg (by omega), if_neg hp.1, hp.2]
theorem some_of {l M : Lg} {i : Int} {s : List Ent} (hM : M.base = l.base) (h : logOk M = true) (hb : bOk i s = true) (ha : ¬adjI l i s < l.base) (hp : ∀ j (hj : j < (s.drop (adjN l i s)).length), parts M (s.drop (adjN l i s))[j] = false) :
    ∀ k (hk : k < s.length), l.base < s[k].index → termR M s[k].index = (s[k].term, 0) := by
  intro k hk hlt
  have hix := b_ix hb k hk
  have hN : adjN l i s ≤ k := by unfold adjN; split <;> omega
  have := hp (k - adjN l i s) (by rw [List.length_drop]; omega)
  have e : (s.drop (adjN l i s))[k - adjN l i s]'(by rw [List.length_drop]; omega) = s[k] := by
    rw [List.getElem_drop]; congr 1; omega
  rw [e] at this
  exact termR_some h (by omega) this
theorem adj_same {l M : Lg} (hM : M.base = l.base) (ht : M.term = l.term) (i t : Int) (s : List Ent) : adjN M i s = adjN l i s ∧ adjI M i s = adjI l i s ∧ adjT M i t = adjT l i t := by
  have e : adjN M i s = adjN l i s := by unfold adjN; rw [hM]
  refine ⟨e, by unfold adjI; rw [e], by unfold adjT; rw [hM, ht]⟩
theorem find_parts {p : Ent → Bool} {s : List Ent} (h : ¬s.findIdx p < s.length) : ∀ j (hj : j < s.length), p s[j] = false := by
  intro j hj
  rw [Bool.eq_false_iff]; intro hp
  have := List.findIdx_lt_length_of_exists ⟨s[j], List.getElem_mem hj, hp⟩
  exact h this
theorem join_bad {l : Lg} {i t : Int} {s : List Ent} (h : ¬(joinR l i t s).2.2 = 0) : (joinR l i t s).1 = zLg ∧ (joinR l i t s).2.1 = 0 := by
  by_cases h1 : logOk l = false
  · unfold joinR; rw [if_pos h1]; exact ⟨rfl, rfl⟩
  rw [Bool.not_eq_false] at h1
  by_cases h2 : bOk i s = false
  · rw [joinR_form h1 h2]; exact ⟨rfl, rfl⟩
  rw [Bool.not_eq_false] at h2
  by_cases h3 : adjI l i s < l.base
  · rw [joinR_old h1 h2 h3] at h; exact absurd rfl h
  by_cases h4 : endOf l < adjI l i s
  · rw [joinR_far h1 h2 h3 h4]; exact ⟨rfl, rfl⟩
  by_cases h5 : ¬termAt l (adjI l i s) = adjT l i t
  · rw [joinR_gap h1 h2 h3 h4 h5]; exact ⟨rfl, rfl⟩
  rw [Decidable.not_not] at h5
  rw [joinR_in h1 h2 h3 h4 h5] at h ⊢
  unfold joinB joinAt at *
  split at h
  · rename_i h6
    rw [if_pos h6]
    split at h
    · exact absurd rfl h
    · rename_i h7; rw [if_neg h7]; exact ⟨rfl, rfl⟩
  · exact absurd rfl h

theorem join_put {l : Lg} {i t : Int} {s S : List Ent} {k h : Nat} (hb0 : 0 ≤ l.base) (hix : ∀ j (hj : j < S.length), S[j].index = i + (j : Int) + 1) (hib : ¬i < l.base) (hie : ¬endOf l < i) (hk : k < S.length) (hh : S[k].index - l.base - 1 = (h : Int)) (hhl : h ≤ l.ents.length)
    (hp : ∀ j (hj : j < S.length), j < k → parts l S[j] = false) {M : Lg} (hM : M = ⟨l.base, l.term, l.ents.take h ++ S.drop k⟩) :
    endOf M = i + (S.length : Int) ∧ (∀ x, l.base ≤ x → x ≤ l.base + (h : Int) → termAt M x = termAt l x) ∧ ∀ j (hj : j < S.length), parts M S[j] = false := by
  have eb : M.base = l.base := by rw [hM]
  have et : M.term = l.term := by rw [hM]
  have ee : M.ents = l.ents.take h ++ S.drop k := by rw [hM]
  have hkx := hix k hk
  have hth : (l.ents.take h).length = h := by rw [List.length_take]; omega
  have hend : endOf M = i + (S.length : Int) := by
    unfold endOf
    rw [eb, ee, List.length_append, hth, List.length_drop]
    omega
  have hlow : ∀ x, l.base ≤ x → x ≤ l.base + (h : Int) → termAt M x = termAt l x := by
    intro x h1 h2
    unfold termAt
    rw [eb, et, ee]
    by_cases hx : x = l.base
    · rw [if_pos hx, if_pos hx]
    · rw [if_neg hx, if_neg hx]
      congr 1
      rw [List.getD_eq_getElem?_getD, List.getD_eq_getElem?_getD, List.getElem?_append_left (by omega), List.getElem?_take_of_lt (by omega)]
  refine ⟨hend, hlow, fun j hj => ?_⟩
  have hjx := hix j hj
  by_cases hjk : j < k
  · have h1 := hp j hj hjk
    unfold parts at h1
    simp only [Bool.or_eq_false_iff, decide_eq_false_iff_not, Bool.not_eq_false', decide_eq_true_eq] at h1
    exact parts_no (by omega) (by rw [hlow _ (by omega) (by omega)]; exact h1.2)
  · refine parts_no (by omega) ?_
    unfold termAt
    rw [eb, ee, if_neg (by omega), show (S[j].index - l.base - 1).toNat = h + (j - k) by omega]
    rw [List.getD_eq_getElem?_getD, List.getElem?_append_right (by omega), hth, List.getElem?_drop, show k + (h + (j - k) - h) = j by omega, List.getElem?_eq_getElem hj]
    rfl
theorem join_law {l : Lg} {i t : Int} {s : List Ent} (hbu : U64 l.base) (h : (joinR l i t s).2.2 = 0) : JoinLaw l i t s (joinR l i t s).1 (joinR l i t s).2.1 := by
  by_cases h1 : logOk l = false
  · unfold joinR at h; rw [if_pos h1] at h; cases h
  rw [Bool.not_eq_false] at h1
  by_cases h2 : bOk i s = false
  · rw [joinR_form h1 h2] at h; cases h
  rw [Bool.not_eq_false] at h2
  by_cases h3 : adjI l i s < l.base
  · have e := joinR_old (t := t) h1 h2 h3
    rw [e]
    refine ⟨rfl, logWhy_of h1, e, fun _ => rfl, fun k hk hlt => ?_, fun k hk _ => termR_ent h1 k hk⟩
    have hix := b_ix h2 k hk
    unfold adjI adjN at h3
    split at h3 <;> omega
  by_cases h4 : endOf l < adjI l i s
  · rw [joinR_far h1 h2 h3 h4] at h; cases h
  by_cases h5 : ¬termAt l (adjI l i s) = adjT l i t
  · rw [joinR_gap h1 h2 h3 h4 h5] at h; cases h
  rw [Decidable.not_not] at h5
  have e := joinR_in h1 h2 h3 h4 h5
  by_cases h6 : (s.drop (adjN l i s)).findIdx (parts l) < (s.drop (adjN l i s)).length
  · have e2 : joinB l (s.drop (adjN l i s)) = joinAt l (s.drop (adjN l i s)) ((s.drop (adjN l i s)).findIdx (parts l)) := by unfold joinB; rw [if_pos h6]
    rw [e, e2] at h ⊢
    by_cases h7 : logOk (joinL l (s.drop (adjN l i s)) ((s.drop (adjN l i s)).findIdx (parts l))) = true
    · have hix := adj_ix (l := l) h2
      have hpl := @List.findIdx_getElem _ (parts l) (s.drop (adjN l i s)) h6
      have hpb : ∀ j (hj : j < (s.drop (adjN l i s)).length), j < (s.drop (adjN l i s)).findIdx (parts l) → parts l (s.drop (adjN l i s))[j] = false := fun j hj hjk => by
        have := List.not_of_lt_findIdx hjk
        simpa using this
      obtain ⟨S, hS⟩ : ∃ S, s.drop (adjN l i s) = S := ⟨_, rfl⟩
      obtain ⟨k, hk⟩ : ∃ k, (s.drop (adjN l i s)).findIdx (parts l) = k := ⟨_, rfl⟩
      have hmem : ∀ (hpM : ∀ j (hj : j < (s.drop (adjN l i s)).length), parts (joinL l (s.drop (adjN l i s)) k) (s.drop (adjN l i s))[j] = false), ∀ q (hq : q < s.length), l.base < s[q].index → termR (joinL l (s.drop (adjN l i s)) k) s[q].index = (s[q].term, 0) := fun hpM => some_of rfl (by rw [← hk]; exact h7) h2 h3 hpM
      rw [hk] at h6 h7 hpb ⊢
      rw [hS] at h6 h7 hix hpb hmem e ⊢
      have hany : (S.take k).any (parts l) = false := by
        rw [Bool.eq_false_iff]; intro hx
        obtain ⟨x, hx, hp⟩ := List.any_eq_true.1 hx
        rw [List.mem_take_iff_getElem] at hx
        obtain ⟨j, hj, rfl⟩ := hx
        have := hpb j (by omega) (by omega)
        rw [this] at hp; cases hp
      have hle := part_le hix h4 h6 hany
      have hkx := hix k h6
      obtain ⟨n, hn⟩ : ∃ n : Nat, S[k].index - l.base - 1 = (n : Int) := ⟨(S[k].index - l.base - 1).toNat, by omega⟩
      have hnl : n ≤ l.ents.length := by unfold endOf at hle; omega
      unfold U64 at hbu
      obtain ⟨M, hM⟩ : ∃ M, joinL l S k = M := ⟨_, rfl⟩
      have hM2 : M = ⟨l.base, l.term, l.ents.take n ++ S.drop k⟩ := by rw [← hM, joinL_eq h6 hn]
      obtain ⟨hE, hlow, hpM⟩ := join_put (s := s) (t := t) hbu.1 hix h3 h4 h6 hn hnl hpb hM2
      have eb : M.base = l.base := by rw [hM2]
      have et : M.term = l.term := by rw [hM2]
      obtain ⟨a1, a2, a3⟩ := adj_same eb et i t s
      rw [hM] at h7 hmem
      have ej : joinAt l S k = (M, S[k].index, 0) := by unfold joinAt; rw [hM, if_pos h7, entD h6]
      rw [ej]
      dsimp only
      refine ⟨eb, logWhy_of h7, ?_, fun h0 => ?_, ?_, fun j hj hja => ?_⟩
      · rw [joinR_in h7 h2 (by rw [a2, eb]; exact h3) (by rw [a2, hE]; omega) (by rw [a2, a3, hlow _ (by omega) (by omega)]; exact h5), a1, hS]
        refine joinB_none ?_
        rw [Bool.eq_false_iff]; intro hx
        obtain ⟨x, hx, hp⟩ := List.any_eq_true.1 hx
        obtain ⟨j, hj, rfl⟩ := List.mem_iff_getElem.1 hx
        rw [hpM j hj] at hp; cases hp
      · omega
      · exact hmem hpM
      · have hjx := ent_ix (show logTo l l.ents.length = true from h1) hj hj
        have hja := hja (by omega)
        have hr := termR_ent h1 j hj
        rw [termR_ok h1, if_neg (by omega), if_neg (by unfold endOf; omega)] at hr
        rw [termR_ok h7, if_neg (by omega), if_neg (by omega), hlow _ (by omega) (by omega)]
        exact hr
    · unfold joinAt at h; rw [if_neg h7] at h; cases h
  · have e2 : joinB l (s.drop (adjN l i s)) = (l, 0, 0) := by unfold joinB; rw [if_neg h6]
    rw [e, e2]
    exact ⟨rfl, logWhy_of h1, by rw [e, e2], fun _ => rfl, some_of rfl h1 h2 h3 (find_parts h6), fun k hk _ => termR_ent h1 k hk⟩
theorem join_len {l : Lg} {i t : Int} {s : List Ent} : (joinR l i t s).1.ents.length ≤ l.ents.length + s.length ∧ ∀ e ∈ (joinR l i t s).1.ents, e ∈ l.ents ∨ e ∈ s := by
  unfold joinR joinB joinAt
  repeat' split
  all_goals first
    | (refine ⟨?_, fun e he => ?_⟩
       · unfold zLg; simp
       · unfold zLg at he; cases he)
    | exact ⟨by dsimp only; omega, fun e he => .inl he⟩
    | (refine ⟨?_, fun e he => ?_⟩
       · unfold joinL; simp; omega
       · unfold joinL at he
         rcases List.mem_append.1 he with h | h
         · exact .inl (List.mem_of_mem_take h)
         · exact .inr (List.mem_of_mem_drop (List.mem_of_mem_drop h)))

set_option maxHeartbeats 8000000 in
set_option maxRecDepth 20000 in
theorem LogJoined_ok {I : Imm} {O : Own} {lc : List Value} {l : Lg} (hl : LgR I lc l) {v : Value} {s : List Ent} (hs : EntsR I v s) {i t : Int} (hi : U64 i) (ht : U64 t) (hL : l.ents.length * 64 ≤ 140737488351232) (hM : ∀ e ∈ l.ents, e.members.length * 8 ≤ 140737488351232) (hLs : s.length * 64 ≤ 140737488351232) (hMs : ∀ e ∈ s, e.members.length * 8 ≤ 140737488351232) (hLL : (l.ents.length + s.length + s.length) * 64 ≤ 140737488351232) :
    Pure Try.prog 4 [.agg ⟨lc⟩, .int .u64 i, .int .u64 t, v] I O (.bool true) := by
  have hl0 := hl
  obtain ⟨ev, rfl, hev⟩ := hl.ex
  have hev0 := hev
  obtain ⟨va, vcap, rfl, hv1, hv2, -⟩ := hev
  have hbase := hl0.base
  have hterm := hl0.term
  unfold U64 at hbase hterm
  have hs0 := hs
  obtain ⟨sa, scap, rfl, hs1, hs2, -⟩ := hs
  refine Does.enter Try.func4 rfl Try.ntmps4 rfl ?_
  refine .seq <| .region <| .on rfl <| .box rfl rfl rfl fun c1 _ _ => .e (.assign rfl) rfl rfl <| .nil <| .go ?_
  refine .seq <| .seq <| .region <| .on rfl <| .callP cal15 rfl rfl rfl (lives_ok) <| .e (.not rfl) rfl rfl <| .nil ?_
  refine .go <| .cond_false rfl <| .skip <| .go <| .seq <| .region ?_
  refine .e (.loadW ag25 sz25 rfl .here rfl) rfl rfl <| .e (.move rfl) rfl rfl <| .e (.move rfl) rfl rfl <| .e (.move rfl) rfl rfl <| .on rfl <| .call cal11 rfl rfl rfl (lJoin_ok hl0 hs0 hi ht hL hM hLs hMs (by omega)) fun v30 I30 O30 hI30 hK30 => ?_
  obtain ⟨cs30, rfl, hm30, rfl⟩ := hK30
  have hm30' := hm30
  obtain ⟨ev30, rfl, he30⟩ := hm30.ex
  obtain ⟨a30, q30, rfl, -⟩ := he30
  refine .e (.move rfl) rfl rfl <| .e (.extract rfl rfl) rfl rfl <| .e (.extract rfl rfl) rfl rfl <| .e (.extract rfl rfl) rfl rfl <| .on rfl <| .alloc zr25 rfl fun c2 _ _ => .on rfl <| .storeW sz25 rfl rfl rfl rfl rfl rfl .here ?_
  refine .e (.assign rfl) rfl rfl <| .e (.assign rfl) rfl rfl <| .nil <| .go <| .seq <| .seq ?_
  refine .region <| .e (.move rfl) rfl rfl <| .e (.neq rfl rfl) rfl rfl <| .nil <| .go ?_
  refine .split 35 rfl (fun h35 => ?_) (fun h35 => ?_)
  · skip
    first | replace h35 := of_decide_eq_false ((Bool.not_eq_true' _).mp h35) | replace h35 := of_decide_eq_false (by simpa using h35)
    refine .cond_true rfl <| .seq <| .region <| .e (.move rfl) rfl rfl <| .e ((EV.cast (u := .bool true) (.eql rfl rfl) (congrArg Value.bool (decide_eq_true (join_bad h35).2)))) rfl rfl <| .e (.move rfl) rfl rfl ?_
    refine .e (.loadW ag25 sz25 rfl .here rfl) rfl rfl <| .e (.build bs25 zv25 rfl rfl) rfl rfl <| .on rfl <| .callP cal16 rfl rfl rfl ((sameLog_ok hm30' zLgR).cast (congrArg Value.bool (decide_eq_true (join_bad h35).1))) <| .e (.pickT rfl rfl) rfl rfl <| .e (.assign rfl) rfl rfl <| .nil ?_
    refine .go <| .ret <| .ret ?_
    refine .tail <| .tail ?_
    refine .back hI30 ?_
    refine Post.retE rfl rfl ?_
    rfl
  · skip
    first | replace h35 := of_decide_eq_true ((Bool.not_eq_false' _).mp h35) | replace h35 := of_decide_eq_true (by simpa using h35)
    have hjl := join_law (t := t) hl0.base h35
    refine .cond_false rfl <| .skip <| .go <| .seq <| .region <| .e (.loadW ag25 sz25 rfl .here rfl) rfl rfl ?_
    refine .e (.move rfl) rfl rfl <| .e (.move rfl) rfl rfl <| .e (.move rfl) rfl rfl <| .on rfl <| .call cal11 rfl rfl rfl (lJoin_ok hm30' (hs0.mono hI30) hi ht (by have := (join_len (l := l) (i := i) (t := t) (s := s)).1; omega) (fun e he => by rcases join_len.2 e he with h | h; exact hM e h; exact hMs e h) hLs hMs (by have := (join_len (l := l) (i := i) (t := t) (s := s)).1; omega)) fun v48 I48 O48 hI48 hK48 => ?_
    rw [hjl.again] at hK48
    obtain ⟨cs48, rfl, hm48, rfl⟩ := hK48
    have hm48' := hm48
    obtain ⟨ev48, rfl, he48⟩ := hm48.ex
    obtain ⟨a48, q48, rfl, -⟩ := he48
    refine .e (.move rfl) rfl rfl <| .e (.extract rfl rfl) rfl rfl <| .e (.extract rfl rfl) rfl rfl <| .e (.extract rfl rfl) rfl rfl <| .on rfl <| .alloc zr25 rfl fun c3 _ _ => .on rfl <| .storeW sz25 rfl rfl rfl rfl rfl rfl .here ?_
    refine .e (.assign rfl) rfl rfl <| .e (.assign rfl) rfl rfl <| .nil <| .go <| .seq <| .seq ?_
    refine .region ?_
    have hs48 := (hs0.mono hI30).mono hI48
    have hev48 := (hev0.mono hI30).mono hI48
    refine .e (.loadW ag25 sz25 rfl (.there <| .here) rfl) rfl rfl <| .on rfl <| .callP cal18 rfl rfl rfl ((lCheck_ok (hm30'.mono hI48)).cast (congrArg (Value.int .i64) hjl.ok)) <| .e (.neq rfl rfl) rfl rfl <| .e (.move rfl) rfl rfl <| .e (.move rfl) rfl rfl <| .e (.neq rfl rfl) rfl rfl ?_
    refine .e (.pickF rfl rfl) rfl rfl <| .e (.move rfl) rfl rfl <| .e (.move rfl) rfl rfl <| .e (.neq rfl rfl) rfl rfl <| .e (.pickF rfl rfl) rfl rfl <| .e (.move rfl) rfl rfl ?_
    refine .e (.loadW ag25 sz25 rfl (.there <| .here) rfl) rfl rfl <| .e (.loadW ag25 sz25 rfl .here rfl) rfl rfl <| .on rfl <| .callP cal16 rfl rfl rfl ((sameLog_ok (hm30'.mono hI48) hm48').cast (congrArg Value.bool (decide_eq_true rfl))) <| .e (.not rfl) rfl rfl <| .e (.pickF rfl rfl) rfl rfl <| .e (.move rfl) rfl rfl ?_
    refine .e (.move rfl) rfl rfl <| .e (.eql rfl rfl) rfl rfl <| .e (.move rfl) rfl rfl ?_
    refine .split 72 rfl (fun h72 => ?_) (fun h72 => ?_)
    · skip
      replace h72 := of_decide_eq_true h72
      refine .e (.loadW ag25 sz25 rfl (.there <| .there <| .here) rfl) rfl rfl <| .e (.loadW ag25 sz25 rfl (.there <| .here) rfl) rfl rfl <| .on rfl <| .callP cal16 rfl rfl rfl ((sameLog_ok ((hl0.mono hI30).mono hI48) (hm30'.mono hI48)).cast (congrArg Value.bool (decide_eq_true (hjl.none h72)))) <| .e (.not rfl) rfl rfl <| .e (.pickT rfl rfl) rfl rfl <| .e (.pickF rfl rfl) rfl rfl ?_
      refine .e (.move rfl) rfl rfl <| .e (.fieldAddr fo25_0 rfl) rfl rfl <| .e (.load ag22 rfl (.there <| .here) rfl) rfl rfl <| .e (.fieldAddr fo25_0 rfl) rfl rfl <| .e (.load ag22 rfl (.there <| .there <| .here) rfl) rfl rfl <| .e ((EV.cast (u := .bool false) (.neq rfl rfl) (by rw [hjl.base]; simp))) rfl rfl ?_
      refine .e (.pickF rfl rfl) rfl rfl <| .nil <| .go <| .cond_false rfl <| .skip <| .go ?_
      refine .seq <| .seq <| .region <| .e (.move rfl) rfl rfl <| .e (.len sl23 rfl rfl) rfl rfl <| .e (.move rfl) rfl rfl ?_
      refine .nil <| .go <| .block ?_
      refine .loopM [8, 16, 17, 18, 88, 89, 90, 91, 92, 93, 94, 95, 96, 97, 98, 99, 100, 101, 102, 103, 104, 105, 106, 107, 108, 109, 110, 111, 112, 113, 114] (fun k => s.length - k) (fun k => k ≤ s.length) (fun k => [(88, .int .i64 k)]) (fun _ => _) (fun _ => _) (0) (by omega) ⟨rfl, trivial⟩ rfl rfl ?_
      intro k hk
      refine .seq <| .region <| .e (.lss rfl rfl) rfl rfl <| .nil <| .go <| .seq ?_
      refine .split 89 rfl (fun h89 => ?_) (fun h89 => ?_)
      · skip
        replace h89 := of_decide_eq_true h89
        refine .cond_true rfl <| .skip <| .go <| .seq <| .block <| .seq ?_
        refine .region ?_
        obtain ⟨eb90, eo90, cs90, hd90, hat90, hr90⟩ := SlR.at_ hs48 (k := k) (by omega)
        cases hd90
        have he90 := hr90
        obtain ⟨mv90, rfl, hmv90⟩ := hr90.ex
        obtain ⟨ma90, mc90, rfl, -⟩ := hmv90
        refine .e (.indexAddrL sl23 rfl rfl rfl (by omega)) rfl rfl <| .e (.loadIA ag41 sz41 rfl hat90 rfl) rfl rfl <| .on rfl <| .alloc zr41 rfl fun c4 _ _ => .on rfl <| .storeW sz41 rfl rfl rfl rfl rfl rfl .here <| .nil <| .go ?_
        refine .seq <| .region <| .e (.loadW ag25 sz25 rfl (.there <| .there <| .here) rfl) rfl rfl <| .e (.fieldAddr fo41_0 rfl) rfl rfl <| .e (.load ag22 rfl .here rfl) rfl rfl <| .on rfl <| .callP cal19 rfl rfl rfl (lTerm_ok (hm30'.mono hI48) he90.index) ?_
        refine .e (.move rfl) rfl rfl <| .e (.extract rfl rfl) rfl rfl <| .e (.extract rfl rfl) rfl rfl <| .e (.assign rfl) rfl rfl <| .e (.assign rfl) rfl rfl <| .nil ?_
        refine .go <| .seq <| .region <| .e (.fieldAddr fo41_0 rfl) rfl rfl <| .e (.load ag22 rfl .here rfl) rfl rfl <| .e (.fieldAddr fo25_0 rfl) rfl rfl ?_
        refine .e (.load ag22 rfl (.there <| .there <| .there <| .here) rfl) rfl rfl <| .e (.gtr rfl rfl) rfl rfl <| .e (.move rfl) rfl rfl ?_
        refine .split 104 rfl (fun h104 => ?_) (fun h104 => ?_)
        · skip
          replace h104 := of_decide_eq_true h104
          have hts := hjl.some_ k (by omega) h104
          refine .e (.move rfl) rfl rfl <| .e ((EV.cast (u := .bool false) (.neq rfl rfl) (by rw [hts]; rfl))) rfl rfl <| .e (.move rfl) rfl rfl <| .e (.move rfl) rfl rfl <| .e (.fieldAddr fo41_1 rfl) rfl rfl <| .e (.load ag22 rfl .here rfl) rfl rfl ?_
          refine .e ((EV.cast (u := .bool false) (.neq rfl rfl) (by rw [hts]; simp))) rfl rfl <| .e (.pickF rfl rfl) rfl rfl <| .e (.pickT rfl rfl) rfl rfl <| .nil <| .go <| .cond_false rfl ?_
          refine .skip <| .blk_normal <| .go <| .region <| .e (.add rfl rfl (by first | exact wrap_succ (by omega) | exact IntWalk.i64_in _ (by omega) | exact rfl)) rfl rfl <| .e (.move rfl) rfl rfl ?_
          refine .nil ?_
          refine .tail ?_
          exact .mid (k + 1) ⟨by omega, by omega⟩ ⟨rfl, trivial⟩ rfl rfl (.pre 32 rfl (.app rfl .base))
        · skip
          replace h104 := of_decide_eq_false h104
          refine .off rfl rfl <| .off rfl rfl <| .off rfl rfl <| .off rfl rfl <| .off rfl rfl <| .off rfl rfl ?_
          refine .off rfl rfl <| .off rfl rfl <| .e (.pickF rfl rfl) rfl rfl <| .nil <| .go <| .cond_false rfl ?_
          refine .skip <| .blk_normal <| .go <| .region <| .e (.add rfl rfl (by first | exact wrap_succ (by omega) | exact IntWalk.i64_in _ (by omega) | exact rfl)) rfl rfl <| .e (.move rfl) rfl rfl ?_
          refine .nil ?_
          refine .tail ?_
          exact .mid (k + 1) ⟨by omega, by omega⟩ ⟨rfl, trivial⟩ rfl rfl (.pre 32 rfl (.app rfl .base))
      · skip
        replace h89 := of_decide_eq_false h89
        refine .cond_false rfl <| .exit <| .exit <| .exit <| .blk_exit <| .go ?_
        refine .seq <| .seq <| .region <| .e (.fieldAddr fo25_2 rfl) rfl rfl <| .e (.load ag23 rfl (.there <| .there <| .here) rfl) rfl rfl <| .e (.len sl23 rfl rfl) rfl rfl ?_
        refine .e (.move rfl) rfl rfl <| .nil <| .go <| .block ?_
        refine .loopM [8, 20, 21, 22, 118, 119, 120, 121, 122, 123, 124, 125, 126, 127, 128, 129, 130, 131, 132, 133, 134, 135, 136, 137, 138, 139, 140, 141, 142, 143, 144, 145] (fun k => l.ents.length - k) (fun k => k ≤ l.ents.length) (fun k => [(118, .int .i64 k)]) (fun _ => _) (fun _ => _) (0) (by omega) ⟨rfl, trivial⟩ rfl rfl ?_
        intro k hk
        refine .seq <| .region <| .e (.lss rfl rfl) rfl rfl <| .nil <| .go <| .seq ?_
        refine .split 119 rfl (fun h119 => ?_) (fun h119 => ?_)
        · skip
          replace h119 := of_decide_eq_true h119
          refine .cond_true rfl <| .skip <| .go <| .seq <| .block <| .seq ?_
          refine .region ?_
          obtain ⟨eb120, eo120, cs120, hd120, hat120, hr120⟩ := SlR.at_ hev48 (k := k) (by omega)
          cases hd120
          have he120 := hr120
          obtain ⟨mv120, rfl, hmv120⟩ := hr120.ex
          obtain ⟨ma120, mc120, rfl, -⟩ := hmv120
          refine .e (.indexAddrL sl23 rfl rfl rfl (by omega)) rfl rfl <| .e (.loadIA ag41 sz41 rfl hat120 rfl) rfl rfl <| .on rfl <| .alloc zr41 rfl fun c5 _ _ => .on rfl <| .storeW sz41 rfl rfl rfl rfl rfl rfl .here <| .nil <| .go ?_
          refine .seq <| .region <| .e (.loadW ag25 sz25 rfl (.there <| .there <| .here) rfl) rfl rfl <| .e (.fieldAddr fo41_0 rfl) rfl rfl <| .e (.load ag22 rfl .here rfl) rfl rfl <| .on rfl <| .callP cal19 rfl rfl rfl (lTerm_ok (hm30'.mono hI48) he120.index) ?_
          refine .e (.move rfl) rfl rfl <| .e (.extract rfl rfl) rfl rfl <| .e (.extract rfl rfl) rfl rfl <| .e (.assign rfl) rfl rfl <| .e (.assign rfl) rfl rfl <| .nil ?_
          refine .go <| .seq <| .seq <| .region <| .e (.move rfl) rfl rfl <| .e (.gtr rfl rfl) rfl rfl ?_
          refine .e (.move rfl) rfl rfl ?_
          refine .split 131 rfl (fun h131 => ?_) (fun h131 => ?_)
          · skip
            replace h131 := of_decide_eq_true h131
            refine .e (.fieldAddr fo41_0 rfl) rfl rfl <| .e (.load ag22 rfl .here rfl) rfl rfl <| .e (.move rfl) rfl rfl <| .e (.geq rfl rfl) rfl rfl <| .e (.pickT rfl rfl) rfl rfl <| .nil ?_
            refine .go ?_
            refine .split 136 rfl (fun h136 => ?_) (fun h136 => ?_)
            · skip
              replace h136 := of_decide_eq_true h136
              refine .cond_true rfl <| .exit <| .exit <| .blk_other rfl <| .exit <| .exit ?_
              refine .blk_exit <| .go <| .seq <| .region <| .e (.assign rfl) rfl rfl <| .nil ?_
              refine .go <| .ret ?_
              refine .tail <| .tail <| .tail <| .tail ?_
              refine .back (Imm.le_trans hI30 hI48) ?_
              refine Post.retE rfl rfl ?_
              rfl
            · skip
              replace h136 := of_decide_eq_false h136
              refine .cond_false rfl <| .skip <| .go <| .seq <| .region <| .e (.move rfl) rfl rfl ?_
              refine .e ((EV.cast (u := .bool false) (.neq rfl rfl) (by rw [hjl.old k (by omega) (by omega)]; rfl))) rfl rfl <| .e (.move rfl) rfl rfl <| .e (.move rfl) rfl rfl <| .e (.fieldAddr fo41_1 rfl) rfl rfl <| .e (.load ag22 rfl .here rfl) rfl rfl <| .e ((EV.cast (u := .bool false) (.neq rfl rfl) (by rw [hjl.old k (by omega) (by omega)]; simp))) rfl rfl ?_
              refine .e (.pickF rfl rfl) rfl rfl <| .nil <| .go <| .cond_false rfl <| .skip <| .blk_normal ?_
              refine .go <| .region <| .e (.add rfl rfl (by first | exact wrap_succ (by omega) | exact IntWalk.i64_in _ (by omega) | exact rfl)) rfl rfl <| .e (.move rfl) rfl rfl <| .nil ?_
              refine .tail ?_
              exact .mid (k + 1) ⟨by omega, by omega⟩ ⟨rfl, trivial⟩ rfl rfl (.pre 34 rfl (.app rfl .base))
          · skip
            replace h131 := of_decide_eq_false h131
            refine .off rfl rfl <| .off rfl rfl <| .off rfl rfl <| .off rfl rfl <| .e (.pickF rfl rfl) rfl rfl <| .nil ?_
            refine .go <| .cond_false rfl <| .skip <| .go <| .seq <| .region ?_
            refine .e (.move rfl) rfl rfl <| .e ((EV.cast (u := .bool false) (.neq rfl rfl) (by rw [hjl.old k (by omega) (by omega)]; rfl))) rfl rfl <| .e (.move rfl) rfl rfl <| .e (.move rfl) rfl rfl <| .e (.fieldAddr fo41_1 rfl) rfl rfl <| .e (.load ag22 rfl .here rfl) rfl rfl ?_
            refine .e ((EV.cast (u := .bool false) (.neq rfl rfl) (by rw [hjl.old k (by omega) (by omega)]; simp))) rfl rfl <| .e (.pickF rfl rfl) rfl rfl <| .nil <| .go <| .cond_false rfl <| .skip ?_
            refine .blk_normal <| .go <| .region <| .e (.add rfl rfl (by first | exact wrap_succ (by omega) | exact IntWalk.i64_in _ (by omega) | exact rfl)) rfl rfl <| .e (.move rfl) rfl rfl <| .nil ?_
            refine .tail ?_
            exact .mid (k + 1) ⟨by omega, by omega⟩ ⟨rfl, trivial⟩ rfl rfl (.pre 33 rfl (.app rfl .base))
        · skip
          replace h119 := of_decide_eq_false h119
          refine .cond_false rfl <| .exit <| .exit <| .exit <| .blk_exit <| .go ?_
          refine .seq <| .region <| .e (.assign rfl) rfl rfl <| .nil <| .go <| .ret ?_
          refine .tail <| .tail <| .tail ?_
          refine .back (Imm.le_trans hI30 hI48) ?_
          refine Post.retE rfl rfl ?_
          rfl
    · skip
      replace h72 := of_decide_eq_false h72
      refine .off rfl rfl <| .off rfl rfl <| .off rfl rfl <| .off rfl rfl <| .e (.pickF rfl rfl) rfl rfl <| .e (.pickF rfl rfl) rfl rfl ?_
      refine .e (.move rfl) rfl rfl <| .e (.fieldAddr fo25_0 rfl) rfl rfl <| .e (.load ag22 rfl (.there <| .here) rfl) rfl rfl <| .e (.fieldAddr fo25_0 rfl) rfl rfl <| .e (.load ag22 rfl (.there <| .there <| .here) rfl) rfl rfl <| .e ((EV.cast (u := .bool false) (.neq rfl rfl) (by rw [hjl.base]; simp))) rfl rfl ?_
      refine .e (.pickF rfl rfl) rfl rfl <| .nil <| .go <| .cond_false rfl <| .skip <| .go ?_
      refine .seq <| .seq <| .region <| .e (.move rfl) rfl rfl <| .e (.len sl23 rfl rfl) rfl rfl <| .e (.move rfl) rfl rfl ?_
      refine .nil <| .go <| .block ?_
      refine .loopM [8, 16, 17, 18, 88, 89, 90, 91, 92, 93, 94, 95, 96, 97, 98, 99, 100, 101, 102, 103, 104, 105, 106, 107, 108, 109, 110, 111, 112, 113, 114] (fun k => s.length - k) (fun k => k ≤ s.length) (fun k => [(88, .int .i64 k)]) (fun _ => _) (fun _ => _) (0) (by omega) ⟨rfl, trivial⟩ rfl rfl ?_
      intro k hk
      refine .seq <| .region <| .e (.lss rfl rfl) rfl rfl <| .nil <| .go <| .seq ?_
      refine .split 89 rfl (fun h89 => ?_) (fun h89 => ?_)
      · skip
        replace h89 := of_decide_eq_true h89
        refine .cond_true rfl <| .skip <| .go <| .seq <| .block <| .seq ?_
        refine .region ?_
        obtain ⟨eb90, eo90, cs90, hd90, hat90, hr90⟩ := SlR.at_ hs48 (k := k) (by omega)
        cases hd90
        have he90 := hr90
        obtain ⟨mv90, rfl, hmv90⟩ := hr90.ex
        obtain ⟨ma90, mc90, rfl, -⟩ := hmv90
        refine .e (.indexAddrL sl23 rfl rfl rfl (by omega)) rfl rfl <| .e (.loadIA ag41 sz41 rfl hat90 rfl) rfl rfl <| .on rfl <| .alloc zr41 rfl fun c6 _ _ => .on rfl <| .storeW sz41 rfl rfl rfl rfl rfl rfl .here <| .nil <| .go ?_
        refine .seq <| .region <| .e (.loadW ag25 sz25 rfl (.there <| .there <| .here) rfl) rfl rfl <| .e (.fieldAddr fo41_0 rfl) rfl rfl <| .e (.load ag22 rfl .here rfl) rfl rfl <| .on rfl <| .callP cal19 rfl rfl rfl (lTerm_ok (hm30'.mono hI48) he90.index) ?_
        refine .e (.move rfl) rfl rfl <| .e (.extract rfl rfl) rfl rfl <| .e (.extract rfl rfl) rfl rfl <| .e (.assign rfl) rfl rfl <| .e (.assign rfl) rfl rfl <| .nil ?_
        refine .go <| .seq <| .region <| .e (.fieldAddr fo41_0 rfl) rfl rfl <| .e (.load ag22 rfl .here rfl) rfl rfl <| .e (.fieldAddr fo25_0 rfl) rfl rfl ?_
        refine .e (.load ag22 rfl (.there <| .there <| .there <| .here) rfl) rfl rfl <| .e (.gtr rfl rfl) rfl rfl <| .e (.move rfl) rfl rfl ?_
        refine .split 104 rfl (fun h104 => ?_) (fun h104 => ?_)
        · skip
          replace h104 := of_decide_eq_true h104
          have hts := hjl.some_ k (by omega) h104
          refine .e (.move rfl) rfl rfl <| .e ((EV.cast (u := .bool false) (.neq rfl rfl) (by rw [hts]; rfl))) rfl rfl <| .e (.move rfl) rfl rfl <| .e (.move rfl) rfl rfl <| .e (.fieldAddr fo41_1 rfl) rfl rfl <| .e (.load ag22 rfl .here rfl) rfl rfl ?_
          refine .e ((EV.cast (u := .bool false) (.neq rfl rfl) (by rw [hts]; simp))) rfl rfl <| .e (.pickF rfl rfl) rfl rfl <| .e (.pickT rfl rfl) rfl rfl <| .nil <| .go <| .cond_false rfl ?_
          refine .skip <| .blk_normal <| .go <| .region <| .e (.add rfl rfl (by first | exact wrap_succ (by omega) | exact IntWalk.i64_in _ (by omega) | exact rfl)) rfl rfl <| .e (.move rfl) rfl rfl ?_
          refine .nil ?_
          refine .tail ?_
          exact .mid (k + 1) ⟨by omega, by omega⟩ ⟨rfl, trivial⟩ rfl rfl (.pre 32 rfl (.app rfl .base))
        · skip
          replace h104 := of_decide_eq_false h104
          refine .off rfl rfl <| .off rfl rfl <| .off rfl rfl <| .off rfl rfl <| .off rfl rfl <| .off rfl rfl ?_
          refine .off rfl rfl <| .off rfl rfl <| .e (.pickF rfl rfl) rfl rfl <| .nil <| .go <| .cond_false rfl ?_
          refine .skip <| .blk_normal <| .go <| .region <| .e (.add rfl rfl (by first | exact wrap_succ (by omega) | exact IntWalk.i64_in _ (by omega) | exact rfl)) rfl rfl <| .e (.move rfl) rfl rfl ?_
          refine .nil ?_
          refine .tail ?_
          exact .mid (k + 1) ⟨by omega, by omega⟩ ⟨rfl, trivial⟩ rfl rfl (.pre 32 rfl (.app rfl .base))
      · skip
        replace h89 := of_decide_eq_false h89
        refine .cond_false rfl <| .exit <| .exit <| .exit <| .blk_exit <| .go ?_
        refine .seq <| .seq <| .region <| .e (.fieldAddr fo25_2 rfl) rfl rfl <| .e (.load ag23 rfl (.there <| .there <| .here) rfl) rfl rfl <| .e (.len sl23 rfl rfl) rfl rfl ?_
        refine .e (.move rfl) rfl rfl <| .nil <| .go <| .block ?_
        refine .loopM [8, 20, 21, 22, 118, 119, 120, 121, 122, 123, 124, 125, 126, 127, 128, 129, 130, 131, 132, 133, 134, 135, 136, 137, 138, 139, 140, 141, 142, 143, 144, 145] (fun k => l.ents.length - k) (fun k => k ≤ l.ents.length) (fun k => [(118, .int .i64 k)]) (fun _ => _) (fun _ => _) (0) (by omega) ⟨rfl, trivial⟩ rfl rfl ?_
        intro k hk
        refine .seq <| .region <| .e (.lss rfl rfl) rfl rfl <| .nil <| .go <| .seq ?_
        refine .split 119 rfl (fun h119 => ?_) (fun h119 => ?_)
        · skip
          replace h119 := of_decide_eq_true h119
          refine .cond_true rfl <| .skip <| .go <| .seq <| .block <| .seq ?_
          refine .region ?_
          obtain ⟨eb120, eo120, cs120, hd120, hat120, hr120⟩ := SlR.at_ hev48 (k := k) (by omega)
          cases hd120
          have he120 := hr120
          obtain ⟨mv120, rfl, hmv120⟩ := hr120.ex
          obtain ⟨ma120, mc120, rfl, -⟩ := hmv120
          refine .e (.indexAddrL sl23 rfl rfl rfl (by omega)) rfl rfl <| .e (.loadIA ag41 sz41 rfl hat120 rfl) rfl rfl <| .on rfl <| .alloc zr41 rfl fun c7 _ _ => .on rfl <| .storeW sz41 rfl rfl rfl rfl rfl rfl .here <| .nil <| .go ?_
          refine .seq <| .region <| .e (.loadW ag25 sz25 rfl (.there <| .there <| .here) rfl) rfl rfl <| .e (.fieldAddr fo41_0 rfl) rfl rfl <| .e (.load ag22 rfl .here rfl) rfl rfl <| .on rfl <| .callP cal19 rfl rfl rfl (lTerm_ok (hm30'.mono hI48) he120.index) ?_
          refine .e (.move rfl) rfl rfl <| .e (.extract rfl rfl) rfl rfl <| .e (.extract rfl rfl) rfl rfl <| .e (.assign rfl) rfl rfl <| .e (.assign rfl) rfl rfl <| .nil ?_
          refine .go <| .seq <| .seq <| .region <| .e (.move rfl) rfl rfl <| .e (.gtr rfl rfl) rfl rfl ?_
          refine .e (.move rfl) rfl rfl ?_
          refine .split 131 rfl (fun h131 => ?_) (fun h131 => ?_)
          · skip
            replace h131 := of_decide_eq_true h131
            refine .e (.fieldAddr fo41_0 rfl) rfl rfl <| .e (.load ag22 rfl .here rfl) rfl rfl <| .e (.move rfl) rfl rfl <| .e (.geq rfl rfl) rfl rfl <| .e (.pickT rfl rfl) rfl rfl <| .nil ?_
            refine .go ?_
            refine .split 136 rfl (fun h136 => ?_) (fun h136 => ?_)
            · skip
              replace h136 := of_decide_eq_true h136
              refine .cond_true rfl <| .exit <| .exit <| .blk_other rfl <| .exit <| .exit ?_
              refine .blk_exit <| .go <| .seq <| .region <| .e (.assign rfl) rfl rfl <| .nil ?_
              refine .go <| .ret ?_
              refine .tail <| .tail <| .tail <| .tail ?_
              refine .back (Imm.le_trans hI30 hI48) ?_
              refine Post.retE rfl rfl ?_
              rfl
            · skip
              replace h136 := of_decide_eq_false h136
              refine .cond_false rfl <| .skip <| .go <| .seq <| .region <| .e (.move rfl) rfl rfl ?_
              refine .e ((EV.cast (u := .bool false) (.neq rfl rfl) (by rw [hjl.old k (by omega) (by omega)]; rfl))) rfl rfl <| .e (.move rfl) rfl rfl <| .e (.move rfl) rfl rfl <| .e (.fieldAddr fo41_1 rfl) rfl rfl <| .e (.load ag22 rfl .here rfl) rfl rfl <| .e ((EV.cast (u := .bool false) (.neq rfl rfl) (by rw [hjl.old k (by omega) (by omega)]; simp))) rfl rfl ?_
              refine .e (.pickF rfl rfl) rfl rfl <| .nil <| .go <| .cond_false rfl <| .skip <| .blk_normal ?_
              refine .go <| .region <| .e (.add rfl rfl (by first | exact wrap_succ (by omega) | exact IntWalk.i64_in _ (by omega) | exact rfl)) rfl rfl <| .e (.move rfl) rfl rfl <| .nil ?_
              refine .tail ?_
              exact .mid (k + 1) ⟨by omega, by omega⟩ ⟨rfl, trivial⟩ rfl rfl (.pre 34 rfl (.app rfl .base))
          · skip
            replace h131 := of_decide_eq_false h131
            refine .off rfl rfl <| .off rfl rfl <| .off rfl rfl <| .off rfl rfl <| .e (.pickF rfl rfl) rfl rfl <| .nil ?_
            refine .go <| .cond_false rfl <| .skip <| .go <| .seq <| .region ?_
            refine .e (.move rfl) rfl rfl <| .e ((EV.cast (u := .bool false) (.neq rfl rfl) (by rw [hjl.old k (by omega) (by omega)]; rfl))) rfl rfl <| .e (.move rfl) rfl rfl <| .e (.move rfl) rfl rfl <| .e (.fieldAddr fo41_1 rfl) rfl rfl <| .e (.load ag22 rfl .here rfl) rfl rfl ?_
            refine .e ((EV.cast (u := .bool false) (.neq rfl rfl) (by rw [hjl.old k (by omega) (by omega)]; simp))) rfl rfl <| .e (.pickF rfl rfl) rfl rfl <| .nil <| .go <| .cond_false rfl <| .skip ?_
            refine .blk_normal <| .go <| .region <| .e (.add rfl rfl (by first | exact wrap_succ (by omega) | exact IntWalk.i64_in _ (by omega) | exact rfl)) rfl rfl <| .e (.move rfl) rfl rfl <| .nil ?_
            refine .tail ?_
            exact .mid (k + 1) ⟨by omega, by omega⟩ ⟨rfl, trivial⟩ rfl rfl (.pre 33 rfl (.app rfl .base))
        · skip
          replace h119 := of_decide_eq_false h119
          refine .cond_false rfl <| .exit <| .exit <| .exit <| .blk_exit <| .go ?_
          refine .seq <| .region <| .e (.assign rfl) rfl rfl <| .nil <| .go <| .ret ?_
          refine .tail <| .tail <| .tail ?_
          refine .back (Imm.le_trans hI30 hI48) ?_
          refine Post.retE rfl rfl ?_
          rfl

end Go.Proofs.Yteajcmnbjpbnpaa
