/- Walks of functions over a symbolic memory, printed by a program of the session. -/
import Derived.Test.YteajcmnbjpbnpaaLo
namespace Go.Proofs.Yteajcmnbjpbnpaa
open Go.Sy
set_option linter.unusedSimpArgs false
set_option linter.unusedVariables false

theorem getD_drop (xs : List Ent) (j k : Nat) : (xs.drop j).getD k ent0 = xs.getD (j + k) ent0 := by simp [List.getD_eq_getElem?_getD]
structure TrimLaw (l M : Lg) : Prop where
  ok : logWhy M = 0
  end_ : endR M = endR l
  newer : ∀ i t, newR M i t = newR l i t
  old : ∀ i, i < M.base → (termR M i).2 = 15
  term : ∀ i, ¬i < M.base → termR l i = termR M i
theorem logWhy_of {l : Lg} (h : logOk l = true) : logWhy l = 0 := by unfold logWhy; rw [h]; rfl
theorem endR_ok {l : Lg} (h : logOk l = true) : endR l = (endOf l, prevT l l.ents.length, 0) := by unfold endR; rw [if_pos h]
theorem newR_ok {l : Lg} {i t : Int} (h : logOk l = true) : newR l i t = (decide (prevT l l.ents.length < t ∨ (t = prevT l l.ents.length ∧ endOf l ≤ i)), 0) := by unfold newR; rw [h]; rfl
theorem termR_ok {l : Lg} {i : Int} (h : logOk l = true) : termR l i = if i < l.base then (0, 15) else if endOf l < i then (0, 6) else (termAt l i, 0) := by unfold termR; rw [h]; rfl
theorem TrimLaw.self {l : Lg} (h : logOk l = true) : TrimLaw l l := ⟨logWhy_of h, rfl, fun _ _ => rfl, fun i hi => by rw [termR_ok h, if_pos hi], fun _ _ => rfl⟩
theorem trim_cut {l : Lg} {q : Int} {j : Nat} (h : logOk l = true) (hb0 : 0 ≤ l.base) (hj : q - l.base = (j : Int)) (hj0 : 0 < j) (hjl : j ≤ l.ents.length) : TrimLaw l ⟨q, termAt l q, l.ents.drop j⟩ := by
  obtain ⟨M, hM⟩ : ∃ M : Lg, M = ⟨q, termAt l q, l.ents.drop j⟩ := ⟨_, rfl⟩
  rw [← hM]
  have eb : M.base = q := by rw [hM]
  have et : M.term = termAt l q := by rw [hM]
  have ee : M.ents = l.ents.drop j := by rw [hM]
  have hlen : M.ents.length = l.ents.length - j := by rw [ee, List.length_drop]
  have hend : endOf M = endOf l := by unfold endOf; omega
  have hprev : ∀ k, prevT M k = prevT l (j + k) := by
    intro k
    unfold prevT
    rw [if_neg (show ¬j + k = 0 by omega)]
    by_cases hk : k = 0
    · rw [if_pos hk, et]
      unfold termAt
      rw [if_neg (by omega)]
      congr 2
      omega
    · rw [if_neg hk, ee, getD_drop]
      congr 2
      omega
  have hok : logOk M = true := by
    have h2 := List.all_eq_true.1 (show (List.range l.ents.length).all (eOk l) = true by unfold logOk logTo at h; rw [Bool.and_eq_true] at h; exact h.2)
    unfold logOk logTo
    rw [Bool.and_eq_true]
    refine ⟨decide_eq_true (by omega), List.all_eq_true.2 fun k hk => ?_⟩
    have hk := List.mem_range.1 hk
    have := h2 (j + k) (List.mem_range.2 (by omega))
    unfold eOk at *
    rw [hprev, ee, getD_drop, eb]
    rw [show q + (k : Int) + 1 = l.base + ((j + k : Nat) : Int) + 1 by omega]
    exact this
  have hat : ∀ i, q ≤ i → termAt M i = termAt l i := by
    intro i hi
    unfold termAt
    rw [eb, ee, et, getD_drop, if_neg (show ¬i = l.base by omega)]
    by_cases hq : i = q
    · rw [if_pos hq]
      unfold termAt
      rw [if_neg (by omega)]
      congr 2
      omega
    · rw [if_neg hq]
      congr 2
      omega
  refine ⟨logWhy_of hok, ?_, fun i t => ?_, fun i hi => by rw [termR_ok hok, if_pos hi], fun i hi => ?_⟩
  · rw [endR_ok hok, endR_ok h, hend, hprev, show j + M.ents.length = l.ents.length by omega]
  · rw [newR_ok hok, newR_ok h, hend, hprev, show j + M.ents.length = l.ents.length by omega]
  · rw [termR_ok hok, termR_ok h, if_neg hi, if_neg (by omega), hend, hat i (by omega)]
theorem trim_bad {l : Lg} {q : Int} (h : ¬(trimR l q).2 = 0) : (trimR l q).1 = zLg := by
  unfold trimR at *
  split at h
  · rename_i h1; rw [if_pos h1]
  · rename_i h1
    rw [if_neg h1]
    split at h
    · rename_i h2; rw [if_pos h2]
    · split at h <;> exact absurd rfl h
theorem trim_law {l : Lg} {q : Int} (hb : U64 l.base) (h : (trimR l q).2 = 0) : TrimLaw l (trimR l q).1 := by
  unfold U64 at hb
  unfold trimR at *
  split at h
  · cases h
  · rename_i h1
    rw [if_neg h1]
    rw [Bool.not_eq_false] at h1
    split at h
    · cases h
    · rename_i h2
      rw [if_neg h2]
      split at h
      · rename_i h3
        rw [if_pos h3]
        exact trim_cut h1 hb.1 (j := (q - l.base).toNat) (by omega) (by omega) (by unfold endOf at h2; omega)
      · rename_i h3
        rw [if_neg h3]
        exact .self h1

set_option maxHeartbeats 4000000 in
set_option maxRecDepth 20000 in
theorem LogTrimmed_ok {I : Imm} {O : Own} {lc : List Value} {l : Lg} (hl : LgR I lc l) {q i t : Int} (hq : U64 q) (hi : U64 i) (hL : l.ents.length * 64 ≤ 140737488351232) (hM : ∀ e ∈ l.ents, e.members.length * 8 ≤ 140737488351232) :
    Pure Try.prog 5 [.agg ⟨lc⟩, .int .u64 q, .int .u64 i, .int .u64 t] I O (.bool true) := by
  have hl0 := hl
  obtain ⟨ev, rfl, hev⟩ := hl.ex
  have hev0 := hev
  obtain ⟨va, vcap, rfl, hv1, hv2, -⟩ := hev
  have hbase := hl0.base
  have hterm := hl0.term
  unfold U64 at hbase hterm
  refine Does.enter Try.func5 rfl Try.ntmps5 rfl ?_
  refine .seq <| .region <| .on rfl <| .box rfl rfl rfl fun c1 _ _ => .e (.assign rfl) rfl rfl <| .nil <| .go ?_
  refine .seq <| .seq <| .region <| .on rfl <| .callP cal15 rfl rfl rfl (lives_ok) <| .e (.not rfl) rfl rfl <| .nil ?_
  refine .go <| .cond_false rfl <| .skip <| .go <| .seq <| .region ?_
  refine .e (.loadW ag25 sz25 rfl .here rfl) rfl rfl <| .e (.move rfl) rfl rfl <| .on rfl <| .call cal13 rfl rfl rfl (lTrim_ok hl0 hq hL hM) fun v30 I30 O30 hI30 hK30 => ?_
  obtain ⟨cs30, rfl, hm30, rfl⟩ := hK30
  have hm30' := hm30
  obtain ⟨ev30, rfl, he30⟩ := hm30.ex
  obtain ⟨a30, q30, rfl, -⟩ := he30
  refine .e (.move rfl) rfl rfl <| .e (.extract rfl rfl) rfl rfl <| .e (.extract rfl rfl) rfl rfl <| .on rfl <| .alloc zr25 rfl fun c2 _ _ => .on rfl <| .storeW sz25 rfl rfl rfl rfl rfl rfl .here <| .e (.assign rfl) rfl rfl ?_
  refine .nil <| .go <| .seq <| .seq <| .region <| .e (.move rfl) rfl rfl ?_
  refine .e (.neq rfl rfl) rfl rfl <| .nil <| .go ?_
  refine .split 34 rfl (fun h34 => ?_) (fun h34 => ?_)
  · skip
    first | replace h34 := of_decide_eq_false ((Bool.not_eq_true' _).mp h34) | replace h34 := of_decide_eq_false (by simpa using h34)
    refine .cond_true rfl <| .seq <| .region <| .e (.loadW ag25 sz25 rfl .here rfl) rfl rfl <| .e (.build bs25 zv25 rfl rfl) rfl rfl <| .on rfl <| .callP cal16 rfl rfl rfl ((sameLog_ok hm30' zLgR).cast (congrArg Value.bool (decide_eq_true (trim_bad h34)))) ?_
    refine .e (.assign rfl) rfl rfl <| .nil <| .go <| .ret <| .ret ?_
    refine .tail <| .tail ?_
    refine .back hI30 ?_
    refine Post.retE rfl rfl ?_
    rfl
  · skip
    first | replace h34 := of_decide_eq_true ((Bool.not_eq_false' _).mp h34) | replace h34 := of_decide_eq_true (by simpa using h34)
    have htl := trim_law hl0.base h34
    refine .cond_false rfl <| .skip <| .go <| .seq <| .region <| .e (.loadW ag25 sz25 rfl (.there <| .here) rfl) rfl rfl ?_
    refine .on rfl <| .callP cal20 rfl rfl rfl (lEnd_ok (hl0.mono hI30)) <| .e (.move rfl) rfl rfl <| .e (.extract rfl rfl) rfl rfl <| .e (.extract rfl rfl) rfl rfl <| .e (.extract rfl rfl) rfl rfl <| .e (.assign rfl) rfl rfl ?_
    refine .e (.assign rfl) rfl rfl <| .e (.assign rfl) rfl rfl <| .nil <| .go <| .seq <| .region ?_
    refine .e (.loadW ag25 sz25 rfl .here rfl) rfl rfl <| .on rfl <| .callP cal20 rfl rfl rfl (tripV_cast (lEnd_ok hm30') htl.end_) <| .e (.move rfl) rfl rfl <| .e (.extract rfl rfl) rfl rfl <| .e (.extract rfl rfl) rfl rfl <| .e (.extract rfl rfl) rfl rfl ?_
    refine .e (.assign rfl) rfl rfl <| .e (.assign rfl) rfl rfl <| .e (.assign rfl) rfl rfl <| .nil <| .go <| .seq ?_
    refine .region <| .e (.loadW ag25 sz25 rfl (.there <| .here) rfl) rfl rfl <| .e (.move rfl) rfl rfl <| .e (.move rfl) rfl rfl <| .on rfl <| .callP cal21 rfl rfl rfl (lNewer_ok (hl0.mono hI30)) <| .e (.move rfl) rfl rfl ?_
    refine .e (.extract rfl rfl) rfl rfl <| .e (.extract rfl rfl) rfl rfl <| .e (.assign rfl) rfl rfl <| .e (.assign rfl) rfl rfl <| .nil <| .go ?_
    refine .seq <| .region <| .e (.loadW ag25 sz25 rfl .here rfl) rfl rfl <| .e (.move rfl) rfl rfl <| .e (.move rfl) rfl rfl <| .on rfl <| .callP cal21 rfl rfl rfl (btV_cast (lNewer_ok hm30') (htl.newer _ _)) ?_
    refine .e (.move rfl) rfl rfl <| .e (.extract rfl rfl) rfl rfl <| .e (.extract rfl rfl) rfl rfl <| .e (.assign rfl) rfl rfl <| .e (.assign rfl) rfl rfl <| .nil ?_
    refine .go <| .seq <| .region <| .e (.loadW ag25 sz25 rfl (.there <| .here) rfl) rfl rfl <| .e (.move rfl) rfl rfl <| .on rfl <| .callP cal19 rfl rfl rfl (lTerm_ok (hl0.mono hI30) hi) ?_
    refine .e (.move rfl) rfl rfl <| .e (.extract rfl rfl) rfl rfl <| .e (.extract rfl rfl) rfl rfl <| .e (.assign rfl) rfl rfl <| .e (.assign rfl) rfl rfl <| .nil ?_
    refine .go <| .seq <| .region <| .e (.loadW ag25 sz25 rfl .here rfl) rfl rfl <| .e (.move rfl) rfl rfl <| .on rfl <| .callP cal19 rfl rfl rfl (lTerm_ok hm30' hi) ?_
    refine .e (.move rfl) rfl rfl <| .e (.extract rfl rfl) rfl rfl <| .e (.extract rfl rfl) rfl rfl <| .e (.assign rfl) rfl rfl <| .e (.assign rfl) rfl rfl <| .nil ?_
    refine .go <| .seq <| .seq <| .region <| .e (.move rfl) rfl rfl <| .e (.move rfl) rfl rfl ?_
    refine .e ((EV.cast (u := .bool false) (.neq rfl rfl) (by simp))) rfl rfl <| .e (.move rfl) rfl rfl <| .e (.move rfl) rfl rfl <| .e (.move rfl) rfl rfl <| .e ((EV.cast (u := .bool false) (.neq rfl rfl) (by simp))) rfl rfl <| .e (.pickF rfl rfl) rfl rfl ?_
    refine .e (.move rfl) rfl rfl <| .e (.move rfl) rfl rfl <| .e (.move rfl) rfl rfl <| .e ((EV.cast (u := .bool false) (.nev (EqOk.bool Try.underlying4) rfl rfl) (by simp))) rfl rfl <| .e (.pickF rfl rfl) rfl rfl <| .e (.move rfl) rfl rfl ?_
    refine .e (.loadW ag25 sz25 rfl .here rfl) rfl rfl <| .on rfl <| .callP cal18 rfl rfl rfl ((lCheck_ok hm30').cast (congrArg (Value.int .i64) htl.ok)) <| .e (.neq rfl rfl) rfl rfl <| .e (.pickF rfl rfl) rfl rfl <| .nil <| .go ?_
    refine .cond_false rfl <| .skip <| .go <| .seq <| .seq <| .region ?_
    refine .e (.move rfl) rfl rfl <| .e (.fieldAddr fo25_0 rfl) rfl rfl <| .e (.load ag22 rfl .here rfl) rfl rfl <| .e (.lss rfl rfl) rfl rfl <| .nil <| .go ?_
    refine .split 97 rfl (fun h97 => ?_) (fun h97 => ?_)
    · skip
      replace h97 := of_decide_eq_true h97
      refine .cond_true rfl <| .seq <| .region <| .e (.move rfl) rfl rfl <| .e (.eql rfl rfl) rfl rfl <| .e (.assign rfl) rfl rfl ?_
      refine .nil <| .go <| .ret <| .ret ?_
      refine .tail <| .tail ?_
      refine .back hI30 ?_
      refine Post.retE rfl rfl ?_
      exact congrArg Value.bool (decide_eq_true (htl.old _ h97))
    · skip
      replace h97 := of_decide_eq_false h97
      refine .cond_false rfl <| .skip <| .go <| .seq <| .region <| .e (.move rfl) rfl rfl ?_
      refine .e (.move rfl) rfl rfl <| .e (.eql rfl rfl) rfl rfl <| .e (.move rfl) rfl rfl ?_
      refine .split 103 rfl (fun h103 => ?_) (fun h103 => ?_)
      · skip
        replace h103 := of_decide_eq_true h103
        refine .e (.move rfl) rfl rfl <| .e (.move rfl) rfl rfl <| .e (.eql rfl rfl) rfl rfl <| .e (.pickT rfl rfl) rfl rfl <| .e (.assign rfl) rfl rfl <| .nil ?_
        refine .go <| .ret ?_
        refine .tail <| .tail ?_
        refine .back hI30 ?_
        refine Post.retE rfl rfl ?_
        exact congrArg Value.bool (decide_eq_true (congrArg Prod.snd (htl.term i h97)))
      · skip
        replace h103 := of_decide_eq_false h103
        refine .off rfl rfl <| .off rfl rfl <| .off rfl rfl <| .e (.pickF rfl rfl) rfl rfl <| .e (.assign rfl) rfl rfl <| .nil ?_
        refine .go <| .ret ?_
        refine .tail <| .tail ?_
        refine .back hI30 ?_
        refine Post.retE rfl rfl ?_
        exact absurd (congrArg Prod.fst (htl.term i h97)) h103

end Go.Proofs.Yteajcmnbjpbnpaa
