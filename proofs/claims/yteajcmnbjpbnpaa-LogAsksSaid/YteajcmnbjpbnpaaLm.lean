/- Walks of functions over a symbolic memory, printed by a program of the session. -/
import Derived.Test.YteajcmnbjpbnpaaLl
namespace Go.Proofs.Yteajcmnbjpbnpaa
open Go.Sy
set_option linter.unusedSimpArgs false
set_option linter.unusedVariables false

def adjN (l : Lg) (i : Int) (s : List Ent) : Nat := if i < l.base then (min (l.base - i) (s.length : Int)).toNat else 0
def adjI (l : Lg) (i : Int) (s : List Ent) : Int := i + (adjN l i s : Int)
def adjT (l : Lg) (i t : Int) : Int := if i < l.base then l.term else t
def parts (l : Lg) (e : Ent) : Bool := decide (endOf l < e.index) || !decide (termAt l e.index = e.term)
def joinL (l : Lg) (s : List Ent) (j : Nat) : Lg := ⟨l.base, l.term, l.ents.take ((s.getD j ent0).index - l.base - 1).toNat ++ s.drop j⟩
def joinAt (l : Lg) (s : List Ent) (j : Nat) : Lg × Int × Int := if logOk (joinL l s j) = true then (joinL l s j, (s.getD j ent0).index, 0) else (zLg, 0, 17)
def joinB (l : Lg) (s : List Ent) : Lg × Int × Int := if s.findIdx (parts l) < s.length then joinAt l s (s.findIdx (parts l)) else (l, 0, 0)
def joinR (l : Lg) (i t : Int) (s : List Ent) : Lg × Int × Int :=
  if logOk l = false then (zLg, 0, 10) else if bOk i s = false then (zLg, 0, 4) else if adjI l i s < l.base then (l, 0, 0) else if endOf l < adjI l i s then (zLg, 0, 6) else
  if ¬termAt l (adjI l i s) = adjT l i t then (zLg, 0, 18) else joinB l (s.drop (adjN l i s))
theorem adjN_le {l : Lg} {i : Int} {s : List Ent} : adjN l i s ≤ s.length := by unfold adjN; split <;> omega
theorem adj_no {l : Lg} {i t : Int} {s : List Ent} (h : ¬i < l.base) : adjN l i s = 0 ∧ adjI l i s = i ∧ adjT l i t = t := by
  have : adjN l i s = 0 := by unfold adjN; rw [if_neg h]
  refine ⟨this, by unfold adjI; rw [this]; omega, by unfold adjT; rw [if_neg h]⟩
theorem adj_yes {l : Lg} {i t : Int} {s : List Ent} (h : i < l.base) (hi : U64 i) (hb : U64 l.base) (hs : s.length ≤ 9223372036854775807) :
    (if IntKind.u64.wrap (s.length : Int) < l.base - i then IntKind.u64.wrap (s.length : Int) else l.base - i) = (adjN l i s : Int) ∧ adjT l i t = l.term ∧ IntKind.u64.wrap (i + (if IntKind.u64.wrap (s.length : Int) < l.base - i then IntKind.u64.wrap (s.length : Int) else l.base - i)) = adjI l i s := by
  unfold U64 at *
  have e : IntKind.u64.wrap (s.length : Int) = (s.length : Int) := IntWalk.u64_in _ (by omega)
  have e2 : (if IntKind.u64.wrap (s.length : Int) < l.base - i then IntKind.u64.wrap (s.length : Int) else l.base - i) = (adjN l i s : Int) := by
    rw [e]; unfold adjN; rw [if_pos h]; split <;> omega
  refine ⟨e2, by unfold adjT; rw [if_pos h], ?_⟩
  rw [e2]
  refine IntWalk.u64_in _ ?_
  unfold adjN
  rw [if_pos h]
  omega
theorem adj_ix {l : Lg} {i : Int} {s : List Ent} (h : bOk i s = true) (j : Nat) (hj : j < (s.drop (adjN l i s)).length) : (s.drop (adjN l i s))[j].index = adjI l i s + (j : Int) + 1 := by
  rw [List.getElem_drop, b_ix h]; unfold adjI; omega
theorem find_at {p : Ent → Bool} {s : List Ent} {k : Nat} (hk : k < s.length) (h : (s.take k).any p = false) (hp : p s[k] = true) : s.findIdx p = k := by
  rw [List.findIdx_eq hk]
  refine ⟨hp, fun j hj => ?_⟩
  rw [Bool.eq_false_iff]
  intro hjp
  have : (s.take k).any p = true := List.any_eq_true.2 ⟨s[j], by rw [List.mem_take_iff_getElem]; exact ⟨j, by omega, rfl⟩, hjp⟩
  rw [h] at this; cases this
theorem find_none {p : Ent → Bool} {s : List Ent} (h : s.any p = false) : s.findIdx p = s.length := by
  rw [List.findIdx_eq_length]
  intro x hx
  rw [Bool.eq_false_iff]; intro h2
  have := List.any_eq_true.2 ⟨x, hx, h2⟩
  rw [h] at this; cases this
theorem joinB_none {l : Lg} {s : List Ent} (h : s.any (parts l) = false) : joinB l s = (l, 0, 0) := by
  unfold joinB; rw [find_none h, if_neg (Nat.lt_irrefl _)]
theorem joinB_at {l : Lg} {s : List Ent} {k : Nat} (hk : k < s.length) (h : (s.take k).any (parts l) = false) (hp : parts l s[k] = true) : joinB l s = joinAt l s k := by
  unfold joinB; rw [find_at hk h hp, if_pos hk]
theorem parts_far {l : Lg} {e : Ent} (h : endOf l < e.index) : parts l e = true := by unfold parts; rw [decide_eq_true h]; rfl
theorem parts_term {l : Lg} {e : Ent} (h : ¬termAt l e.index = e.term) : parts l e = true := by unfold parts; rw [decide_eq_false h]; simp
theorem parts_no {l : Lg} {e : Ent} (h : ¬endOf l < e.index) (h2 : termAt l e.index = e.term) : parts l e = false := by unfold parts; rw [decide_eq_false h, decide_eq_true h2]; rfl
theorem part_le {l : Lg} {s : List Ent} {i : Int} {k : Nat} (hix : ∀ j (hj : j < s.length), s[j].index = i + (j : Int) + 1) (hi : ¬endOf l < i) (hk : k < s.length) (h : (s.take k).any (parts l) = false) : s[k].index ≤ endOf l + 1 := by
  rcases Nat.eq_zero_or_pos k with h0 | h0
  · have := hix k hk; omega
  · have h1 := hix k hk
    have h2 := hix (k - 1) (by omega)
    have h3 : parts l s[k - 1] = false := by
      rw [Bool.eq_false_iff]; intro hp
      have : (s.take k).any (parts l) = true := List.any_eq_true.2 ⟨s[k - 1], by rw [List.mem_take_iff_getElem]; exact ⟨k - 1, by omega, rfl⟩, hp⟩
      rw [h] at this; cases this
    unfold parts at h3
    rw [Bool.or_eq_false_iff] at h3
    have h4 := of_decide_eq_false h3.1
    omega
theorem any_nil_of {p : Ent → Bool} {s : List Ent} {k : Nat} (hk : k = s.length) (h : (s.take k).any p = false) : s.any p = false := by subst hk; rwa [List.take_length] at h
theorem joinR_no {l : Lg} {i t w : Int} {s : List Ent} (h : ¬logWhy l = 0) (hw : w = 10) : joinR l i t s = (zLg, 0, w) := by subst hw; unfold joinR; rw [(logNo_why h).1]; rfl
theorem joinR_form {l : Lg} {i t : Int} {s : List Ent} (h : logOk l = true) (h2 : bOk i s = false) : joinR l i t s = (zLg, 0, 4) := by unfold joinR; rw [h, h2]; rfl
theorem joinR_old {l : Lg} {i t : Int} {s : List Ent} (h : logOk l = true) (h2 : bOk i s = true) (h3 : adjI l i s < l.base) : joinR l i t s = (l, 0, 0) := by
  unfold joinR; rw [h, h2, if_neg (by simp), if_neg (by simp), if_pos h3]
theorem joinR_far {l : Lg} {i t : Int} {s : List Ent} (h : logOk l = true) (h2 : bOk i s = true) (h3 : ¬adjI l i s < l.base) (h4 : endOf l < adjI l i s) : joinR l i t s = (zLg, 0, 6) := by
  unfold joinR; rw [h, h2, if_neg (by simp), if_neg (by simp), if_neg h3, if_pos h4]
theorem joinR_gap {l : Lg} {i t : Int} {s : List Ent} (h : logOk l = true) (h2 : bOk i s = true) (h3 : ¬adjI l i s < l.base) (h4 : ¬endOf l < adjI l i s) (h5 : ¬termAt l (adjI l i s) = adjT l i t) : joinR l i t s = (zLg, 0, 18) := by
  unfold joinR; rw [h, h2, if_neg (by simp), if_neg (by simp), if_neg h3, if_neg h4, if_pos h5]
theorem joinR_in {l : Lg} {i t : Int} {s : List Ent} (h : logOk l = true) (h2 : bOk i s = true) (h3 : ¬adjI l i s < l.base) (h4 : ¬endOf l < adjI l i s) (h5 : termAt l (adjI l i s) = adjT l i t) : joinR l i t s = joinB l (s.drop (adjN l i s)) := by
  unfold joinR; rw [h, h2, if_neg (by simp), if_neg (by simp), if_neg h3, if_neg h4, if_neg (by simp [h5])]
theorem joinAt_yes {l : Lg} {s : List Ent} {k : Nat} (h : logWhy (joinL l s k) = 0) : joinAt l s k = (joinL l s k, (s.getD k ent0).index, 0) := by
  unfold joinAt logOk; rw [logOk_why h, if_pos rfl]
theorem joinAt_no {l : Lg} {s : List Ent} {k : Nat} (h : ¬logWhy (joinL l s k) = 0) : joinAt l s k = (zLg, 0, 17) := by
  unfold joinAt; rw [(logNo_why h).1, if_neg (by simp)]
theorem joinL_eq {l : Lg} {s : List Ent} {k h : Nat} (hk : k < s.length) (hh : s[k].index - l.base - 1 = (h : Int)) : joinL l s k = ⟨l.base, l.term, l.ents.take h ++ s.drop k⟩ := by
  unfold joinL; rw [entD hk, show (s[k].index - l.base - 1).toNat = h by omega]

set_option maxHeartbeats 8000000 in
set_option maxRecDepth 20000 in
theorem lJoin_ok {I : Imm} {O : Own} {lc : List Value} {l : Lg} (hl : LgR I lc l) {v : Value} {s : List Ent} (hs : EntsR I v s) {i t : Int} (hi : U64 i) (ht : U64 t) (hL : l.ents.length * 64 ≤ 140737488351232) (hM : ∀ e ∈ l.ents, e.members.length * 8 ≤ 140737488351232) (hLs : s.length * 64 ≤ 140737488351232) (hMs : ∀ e ∈ s, e.members.length * 8 ≤ 140737488351232) (hLL : (l.ents.length + s.length) * 64 ≤ 140737488351232) :
    Go.Sy.Does Try.prog 11 [.agg ⟨lc⟩, .int .u64 i, .int .u64 t, v] I O (fun u I' O' => ∃ cs, u = .tuple ⟨[.agg ⟨cs⟩, .int .u64 (joinR l i t s).2.1, .int .i64 (joinR l i t s).2.2]⟩ ∧ LgR I' cs (joinR l i t s).1 ∧ O' = O) := by
  have hl0 := hl
  obtain ⟨ev, rfl, hev⟩ := hl.ex
  have hev0 := hev
  obtain ⟨va, vcap, rfl, hv1, hv2, -⟩ := hev
  have hbase := hl0.base
  have hterm := hl0.term
  unfold U64 at hbase hterm
  have hu : ∀ j (hj : j < l.ents.length), U64 l.ents[j].index := fun j hj => by
    obtain ⟨_, _, _, _, _, hr⟩ := SlR.at_ hev0 hj
    exact hr.index
  have hut : ∀ j (hj : j < l.ents.length), U64 l.ents[j].term := fun j hj => by
    obtain ⟨_, _, _, _, _, hr⟩ := SlR.at_ hev0 hj
    exact hr.term
  have hs0 := hs
  obtain ⟨sa, scap, rfl, hs1, hs2, -⟩ := hs
  have hi0 := hi
  have ht0 := ht
  unfold U64 at hi0 ht0
  refine Go.Sy.Does.enter Try.func11 rfl Try.ntmps11 rfl ?_
  refine .seq <| .region <| .on rfl <| .box rfl rfl rfl fun c1 _ _ => .on rfl <| .alloc zr25 rfl fun c2 _ _ => .e (.assign rfl) rfl rfl <| .e (.assign rfl) rfl rfl ?_
  refine .nil <| .go <| .scope <| .seq <| .seq <| .region ?_
  refine .e (.loadW ag25 sz25 rfl (.there <| .here) rfl) rfl rfl <| .on rfl <| .callP cal18 rfl rfl rfl (lCheck_ok hl0) <| .e (.assign rfl) rfl rfl <| .nil <| .go <| .seq ?_
  refine .region <| .e (.move rfl) rfl rfl <| .e (.neq rfl rfl) rfl rfl <| .nil <| .go ?_
  refine .split 19 rfl (fun h19 => ?_) (fun h19 => ?_)
  · skip
    first | replace h19 := of_decide_eq_false ((Bool.not_eq_true' _).mp h19) | replace h19 := of_decide_eq_false (by simpa using h19)
    refine .cond_true rfl <| .seq <| .region <| .e (.build bs25 zv25 rfl rfl) rfl rfl <| .e (.move rfl) rfl rfl <| .on rfl <| .storeW sz25 rfl rfl rfl rfl rfl rfl .here ?_
    refine .e (.assign rfl) rfl rfl <| .e (.assign rfl) rfl rfl <| .nil <| .go <| .ret <| .ret ?_
    refine .sc_ret ?_
    refine Post.rets rfl (.agg rfl ag25 sz25 .here rfl (.tmp rfl (.tmp rfl .nil))) rfl (Imm.le_refl _) (fun w h => (Sat.tail (Sat.tail h))) ?_
    rw [joinR_no h19 (logNo_why h19).2]
    exact ⟨_, rfl, zLgR, rfl⟩
  · skip
    first | replace h19 := of_decide_eq_true ((Bool.not_eq_false' _).mp h19) | replace h19 := of_decide_eq_true (by simpa using h19)
    have hok := logOk_why h19
    have hlok : logOk l = true := hok
    have hle := logTo_le hl0.base hu (Nat.le_refl _) hok
    have hae := at_end hl0.base (show endOf l ≤ 18446744073709551615 by unfold endOf; omega)
    have heo : endOf l = l.base + (l.ents.length : Int) := rfl
    refine .cond_false rfl <| .skip <| .go <| .seq <| .seq <| .region ?_
    refine .e (.move rfl) rfl rfl <| .e (.move rfl) rfl rfl <| .on rfl <| .callP cal31 rfl rfl rfl (behind_ok hs0 hi) <| .e (.not rfl) rfl rfl <| .nil <| .go ?_
    refine .split 25 rfl (fun h25 => ?_) (fun h25 => ?_)
    · skip
      refine .cond_true rfl <| .seq <| .region <| .e (.build bs25 zv25 rfl rfl) rfl rfl <| .on rfl <| .storeW sz25 rfl rfl rfl rfl rfl rfl .here <| .e (.assign rfl) rfl rfl ?_
      refine .e (.assign rfl) rfl rfl <| .nil <| .go <| .ret <| .ret <| .sc_ret ?_
      refine Post.rets rfl (.agg rfl ag25 sz25 .here rfl (.tmp rfl (.tmp rfl .nil))) rfl (Imm.le_refl _) (fun w h => (Sat.tail (Sat.tail h))) ?_
      rw [joinR_form hlok (by simpa using h25)]
      exact ⟨_, rfl, zLgR, rfl⟩
    · skip
      have hbok : bOk i s = true := by simpa using h25
      refine .cond_false rfl <| .skip <| .go <| .seq <| .region <| .e (.loadW ag25 sz25 rfl (.there <| .here) rfl) rfl rfl ?_
      refine .on rfl <| .call cal32 rfl rfl rfl (Own_ok hl0 hL hM) fun v28 I28 O28 hI28 hK28 => ?_
      obtain ⟨ev28, ws28, ob28, rfl, ho28, hd28, rfl⟩ := hK28
      obtain ⟨ad28, cap28, rfl⟩ := ho28.form
      refine .lend ho28 fun K hK hKs hKt => ?_
      have hek : EntsR K _ l.ents := hKs (R := EntR) (hd28.mono fun _ _ h => h.mono hK) rfl
      have hlk : LgR K (l.cells (.slice ad28 l.ents.length cap28)) l := ⟨⟨_, rfl, hek⟩, hl0.base, hl0.term⟩
      have hs28 := hs0.mono hI28
      refine .on rfl <| .storeW sz25 rfl rfl rfl rfl rfl rfl (.there <| .here) <| .nil <| .go ?_
      refine .meetO (σ := Value) [1, 2, 3, 12, 29, 30, 31, 32, 33, 34, 35, 36, 37, 38, 39, 40, 41, 42, 43, 44, 45, 46, 47, 48] (fun v => EntsR I28 v (s.drop (adjN l i s))) (fun v => [(1, .int .u64 (adjI l i s)), (2, .int .u64 (adjT l i t)), (3, v)]) (fun _ => K) (fun R _ => R) ?_ ?_
      · skip
        refine .seq <| .region <| .e (.move rfl) rfl rfl <| .e (.fieldAddr fo25_0 rfl) rfl rfl <| .e (.load ag22 rfl (.there <| .here) rfl) rfl rfl <| .e (.lss rfl rfl) rfl rfl ?_
        refine .nil <| .go ?_
        refine .split 32 rfl (fun h32 => ?_) (fun h32 => ?_)
        · skip
          replace h32 := of_decide_eq_true h32
          have hadj := adj_yes (t := t) (s := s) h32 hi hl0.base (by omega)
          refine .cond_true rfl <| .seq <| .region <| .e (.fieldAddr fo25_0 rfl) rfl rfl <| .e (.load ag22 rfl (.there <| .here) rfl) rfl rfl <| .e (.move rfl) rfl rfl ?_
          refine .e (.sub rfl rfl (IntWalk.u64_in _ (by omega))) rfl rfl <| .e (.move rfl) rfl rfl <| .e (.len sl23 rfl rfl) rfl rfl <| .e (.conv Try.underlying3 Try.underlying22 rfl) rfl rfl <| .e (.min2 rfl rfl rfl) rfl rfl <| .e (.assign rfl) rfl rfl ?_
          refine .nil <| .go ?_
          refine .draw [(c1, _)] mixed (.cons (.there <| .here) .nil) ?_
          refine .t 0 rfl (.move rfl) rfl rfl (by kernel_rfl) <| .t 1 rfl (.move rfl) rfl rfl (by kernel_rfl) <| .t 2 rfl (.add rfl rfl hadj.2.2) rfl rfl (by kernel_rfl) <| .t 3 rfl (.fieldAddr fo25_1 rfl) rfl rfl (by kernel_rfl) <| .t 4 rfl (.load ag22 rfl .here rfl) rfl rfl (by kernel_rfl) <| .t 5 rfl (.move rfl) rfl rfl (by kernel_rfl) ?_
          refine .t 6 rfl (.move rfl) rfl rfl (by kernel_rfl) <| .t 7 rfl (.sliceL sl23 rfl rfl hadj.1 adjN_le) rfl rfl (by kernel_rfl) <| .t 8 rfl (.assign rfl) rfl rfl (by kernel_rfl) <| .t 9 rfl (.assign rfl) rfl rfl (by kernel_rfl) <| .t 10 rfl (.assign rfl) rfl rfl (by kernel_rfl) <| .done (by kernel_rfl) ?_
          exact .mid (_) (SlR.from hs28 adjN_le) ⟨rfl, congrArg (fun x => some (Value.int .u64 x)) hadj.2.1.symm, rfl, trivial⟩ rfl rfl (.pre 25 rfl .self)
        · skip
          replace h32 := of_decide_eq_false h32
          refine .cond_false rfl <| .skip ?_
          exact .mid (_) (by rw [(adj_no (t := t) h32).1, List.drop_zero]; exact hs28) ⟨congrArg (fun x => some (Value.int .u64 x)) (adj_no (t := t) (s := s) h32).2.1.symm, congrArg (fun x => some (Value.int .u64 x)) (adj_no (s := s) h32).2.2.symm, rfl, trivial⟩ rfl rfl (.pre 5 rfl .self)
      · intro v3 hv3
        have hv30 := hv3
        obtain ⟨ta, tcap, rfl, hv31, hv32, -⟩ := hv3
        obtain ⟨S, hS⟩ : ∃ S, s.drop (adjN l i s) = S := ⟨_, rfl⟩
        have hix := adj_ix (l := l) hbok
        have hSl : S.length ≤ s.length := by rw [← hS, List.length_drop]; omega
        have hSm : ∀ e ∈ S, e.members.length * 8 ≤ 140737488351232 := fun e he => hMs e (List.mem_of_mem_drop (hS ▸ he))
        have hjB := @joinR_in l i t s hlok hbok
        rw [hS] at hv30 hv31 hix hjB
        rw [hS]
        obtain ⟨i', hi'⟩ : ∃ x, adjI l i s = x := ⟨_, rfl⟩
        obtain ⟨t', ht'⟩ : ∃ x, adjT l i t = x := ⟨_, rfl⟩
        have hold := @joinR_old l i t s hlok hbok
        have hfar := @joinR_far l i t s hlok hbok
        have hgap := @joinR_gap l i t s hlok hbok
        rw [hi'] at hix hold
        simp only [hi', ht'] at hfar hgap hjB
        rw [hi', ht']
        have hv3K := hv30.mono hK
        refine .seq <| .block <| .seq <| .region <| .e (.move rfl) rfl rfl <| .e (.fieldAddr fo25_0 rfl) rfl rfl ?_
        refine .e (.load ag22 rfl (.there <| .here) rfl) rfl rfl <| .e (.lss rfl rfl) rfl rfl <| .e (.assign rfl) rfl rfl <| .nil <| .go ?_
        refine .split 49 rfl (fun h49 => ?_) (fun h49 => ?_)
        · skip
          replace h49 := of_decide_eq_true h49
          refine .cond_true rfl <| .seq <| .region <| .e (.loadW ag25 sz25 rfl (.there <| .here) rfl) rfl rfl <| .on rfl <| .storeW sz25 rfl rfl rfl rfl rfl rfl .here <| .e (.assign rfl) rfl rfl ?_
          refine .e (.assign rfl) rfl rfl <| .nil <| .go <| .ret <| .blk_ret <| .ret ?_
          refine .sc_ret ?_
          refine Post.rets rfl (.agg rfl ag25 sz25 .here rfl (.tmp rfl (.tmp rfl .nil))) rfl (Imm.le_trans hI28 hK) (fun w h => (Sat.tail (Sat.tail h))) ?_
          rw [hold h49]
          exact ⟨_, rfl, hlk, rfl⟩
        · skip
          replace h49 := of_decide_eq_false h49
          refine .cond_false rfl <| .seq <| .region <| .e (.move rfl) rfl rfl <| .e (.loadW ag25 sz25 rfl (.there <| .here) rfl) rfl rfl <| .on rfl <| .callP cal33 rfl rfl rfl (lend_ok hlk) ?_
          refine .e (.gtr rfl rfl) rfl rfl <| .e (.assign rfl) rfl rfl <| .nil <| .go ?_
          refine .split 55 rfl (fun h55 => ?_) (fun h55 => ?_)
          · skip
            replace h55 := of_decide_eq_true h55
            refine .cond_true rfl <| .seq <| .region <| .e (.build bs25 zv25 rfl rfl) rfl rfl <| .on rfl <| .storeW sz25 rfl rfl rfl rfl rfl rfl .here <| .e (.assign rfl) rfl rfl ?_
            refine .e (.assign rfl) rfl rfl <| .nil <| .go <| .ret <| .blk_ret <| .ret ?_
            refine .sc_ret ?_
            refine Post.rets rfl (.agg rfl ag25 sz25 .here rfl (.tmp rfl (.tmp rfl .nil))) rfl (Imm.le_trans hI28 hK) (fun w h => (Sat.tail (Sat.tail h))) ?_
            rw [hfar h49 (by omega)]
            exact ⟨_, rfl, zLgR, rfl⟩
          · skip
            replace h55 := of_decide_eq_false h55
            refine .cond_false rfl <| .seq <| .region <| .e (.loadW ag25 sz25 rfl (.there <| .here) rfl) rfl rfl <| .e (.move rfl) rfl rfl <| .on rfl <| .callP cal34 rfl rfl rfl (lterm_ok hlk (by omega) (by omega)) ?_
            refine .e (.move rfl) rfl rfl <| .e (.neq rfl rfl) rfl rfl <| .e (.assign rfl) rfl rfl <| .nil <| .go ?_
            refine .split 61 rfl (fun h61 => ?_) (fun h61 => ?_)
            · skip
              first | replace h61 := of_decide_eq_false ((Bool.not_eq_true' _).mp h61) | replace h61 := of_decide_eq_false (by simpa using h61)
              refine .cond_true rfl <| .seq <| .region <| .e (.build bs25 zv25 rfl rfl) rfl rfl <| .on rfl <| .storeW sz25 rfl rfl rfl rfl rfl rfl .here <| .e (.assign rfl) rfl rfl ?_
              refine .e (.assign rfl) rfl rfl <| .nil <| .go <| .ret <| .blk_ret <| .ret ?_
              refine .sc_ret ?_
              refine Post.rets rfl (.agg rfl ag25 sz25 .here rfl (.tmp rfl (.tmp rfl .nil))) rfl (Imm.le_trans hI28 hK) (fun w h => (Sat.tail (Sat.tail h))) ?_
              rw [hgap h49 (by omega) h61]
              exact ⟨_, rfl, zLgR, rfl⟩
            · skip
              first | replace h61 := of_decide_eq_true ((Bool.not_eq_false' _).mp h61) | replace h61 := of_decide_eq_true (by simpa using h61)
              refine .cond_false rfl <| .skip <| .blk_normal <| .go <| .seq <| .label ?_
              refine .go <| .seq <| .seq <| .region <| .e (.move rfl) rfl rfl <| .e (.len sl23 rfl rfl) rfl rfl ?_
              refine .e (.move rfl) rfl rfl <| .nil <| .go <| .block ?_
              refine .loopM [3, 9, 10, 13, 14, 70, 71, 72, 73, 74, 75, 76, 77, 78, 79, 80, 81, 82, 83, 84, 85, 86, 87, 88, 89, 90, 91, 92, 93, 94, 95, 96, 97, 98] (fun k => S.length - k) (fun k => k ≤ S.length ∧ (k = S.length → S.length = 0) ∧ (S.take k).any (parts l) = false) (fun k => [(70, .int .i64 k), (3, .slice ta S.length tcap)]) (fun _ => _) (fun _ => _) (0) ⟨by omega, fun h => h.symm, rfl⟩ ⟨rfl, rfl, trivial⟩ rfl rfl ?_
              intro k hk
              obtain ⟨hk, hkn, hany⟩ := hk
              refine .seq <| .region <| .e (.lss rfl rfl) rfl rfl <| .nil <| .go <| .seq ?_
              refine .split 71 rfl (fun h71 => ?_) (fun h71 => ?_)
              · skip
                replace h71 := of_decide_eq_true h71
                refine .cond_true rfl <| .skip <| .go <| .seq <| .block <| .seq ?_
                refine .region <| .e (.move rfl) rfl rfl ?_
                obtain ⟨eb73, eo73, cs73, hd73, hat73, hr73⟩ := SlR.at_ hv3K (k := k) (by omega)
                cases hd73
                have he73 := hr73
                obtain ⟨mv73, rfl, hmv73⟩ := hr73.ex
                obtain ⟨ma73, mc73, rfl, -⟩ := hmv73
                refine .e (.indexAddrL sl23 rfl rfl rfl (by omega)) rfl rfl <| .e (.loadIA ag41 sz41 rfl hat73 rfl) rfl rfl <| .on rfl <| .alloc zr41 rfl fun c3 _ _ => .e (.assign rfl) rfl rfl <| .on rfl <| .storeW sz41 rfl rfl rfl rfl rfl rfl .here <| .nil ?_
                refine .go <| .block <| .seq <| .seq ?_
                refine .draw [(c3, _), (c1, _)] mixed (.cons .here (.cons (.there <| .there <| .here) .nil)) ?_
                refine .t 0 rfl (.fieldAddr fo41_0 rfl) rfl rfl (by kernel_rfl) <| .t 1 rfl (.load ag22 rfl .here rfl) rfl rfl (by kernel_rfl) <| .t 2 rfl (.loadW ag25 sz25 rfl (.there <| .here) rfl) rfl rfl (by kernel_rfl) <| .one (i := 3) (by kernel_rfl) rfl rfl <| .callP cal33 rfl rfl rfl (lend_ok hlk) ?_
                refine ⟨(.cons .here (.cons (.there <| .there <| .here) .nil)), Imm.le_refl _, ?_⟩
                refine .t 4 rfl (.gtr rfl rfl) rfl rfl (by kernel_rfl) <| .t 5 rfl (.assign rfl) rfl rfl (by kernel_rfl) <| .done (by kernel_rfl) <| .go ?_
                refine .split 75 rfl (fun h75 => ?_) (fun h75 => ?_)
                · skip
                  replace h75 := of_decide_eq_true h75
                  have hkS : k < S.length := by omega
                  have hpart : parts l S[k] = true := parts_far (by omega)
                  refine .cond_true rfl <| .skip <| .go <| .cond_true rfl <| .seq <| .region ?_
                  refine .e (.move rfl) rfl rfl <| .e (.move rfl) rfl rfl <| .e (.sliceLs sl23 rfl rfl rfl (by omega) (by omega)) rfl rfl <| .e (.assign rfl) rfl rfl <| .nil <| .go ?_
                  refine .exit <| .blk_other rfl <| .blk_other rfl <| .exit <| .exit <| .blk_exit ?_
                  refine .go <| .seq <| .seq <| .region <| .e (.move rfl) rfl rfl <| .e (.len sl23 rfl rfl) rfl rfl ?_
                  refine .e (.eql rfl rfl) rfl rfl <| .nil <| .go ?_
                  refine .split 101 rfl (fun h101 => ?_) (fun h101 => ?_)
                  · skip
                    replace h101 := of_decide_eq_true h101
                    exact absurd h101 (by omega)
                  · skip
                    replace h101 := of_decide_eq_false h101
                    obtain ⟨h, hh⟩ : ∃ h : Nat, S[k].index - l.base - 1 = (h : Int) := ⟨(S[k].index - l.base - 1).toNat, by have := hix k (by omega); omega⟩
                    have hhl : h ≤ l.ents.length := by have := part_le hix (by omega) hkS hany; omega
                    have ho28s := OwnS.take (q := 5) ho28 hhl
                    have hc28 := ho28.capLe
                    have hsd := SlR.fromS hv30 hkS
                    have hdl : (S.drop k).length = S.length - k := List.length_drop
                    refine .cond_false rfl <| .skip <| .go <| .seq <| .region ?_
                    refine .thaw hKt ?_
                    refine .e (.move rfl) rfl rfl ?_
                    obtain ⟨eb104, eo104, cs104, hd104, hat104, hr104⟩ := SlR.at_ hsd (k := 0) (by omega)
                    cases hd104
                    have e0 : (S.drop k)[0]'(by omega) = S[k] := by simp
                    rw [e0] at hr104
                    have he104 := hr104
                    obtain ⟨mv104, rfl, hmv104⟩ := hr104.ex
                    obtain ⟨ma104, mc104, rfl, -⟩ := hmv104
                    refine .e (.indexAddrL sl23 rfl rfl (show (0 : Int) = ((0 : Nat) : Int) from rfl) (by omega)) rfl rfl <| .e (.fieldAddr fo41_0 rfl) rfl rfl <| .e (.loadI ag22 rfl (hat104.cell (j := 0) rfl)) rfl rfl <| .e (.assign rfl) rfl rfl <| .nil <| .go ?_
                    refine .seq ?_
                    refine .draw [(c1, _)] mixed (.cons (.app <| .there <| .there <| .here) .nil) ?_
                    refine .t 0 rfl (.fieldAddr fo25_2 rfl) rfl rfl (by kernel_rfl) <| .t 1 rfl (.load ag23 rfl .here rfl) rfl rfl (by kernel_rfl) <| .t 2 rfl (.move rfl) rfl rfl (by kernel_rfl) <| .t 3 rfl (.fieldAddr fo25_0 rfl) rfl rfl (by kernel_rfl) <| .t 4 rfl (.load ag22 rfl .here rfl) rfl rfl (by kernel_rfl) <| .t 5 rfl (.sub rfl rfl (IntWalk.u64_in _ (by have := hix k (by omega); omega))) rfl rfl (by kernel_rfl) ?_
                    refine .t 6 rfl (.sub rfl rfl (IntWalk.u64_in _ (by have := hix k (by omega); omega))) rfl rfl (by kernel_rfl) <| .t 7 rfl (.sliceH sl23 rfl rfl hh (by omega)) rfl rfl (by kernel_rfl) <| .t 8 rfl (.move rfl) rfl rfl (by kernel_rfl) <| .one (i := 9) (by kernel_rfl) rfl rfl <| .call cal35 rfl rfl rfl (own_ok hsd (by have := List.length_drop (i := k) (l := S); omega) (fun e he => hSm e (List.mem_of_mem_drop he))) fun v116 I116 O116 hI116 hK116 => ?_
                    obtain ⟨ws116, ob116, ho116, hd116, rfl⟩ := hK116
                    obtain ⟨ad116, cap116, rfl⟩ := ho116.form
                    refine ⟨(.cons (.app <| .app <| .there <| .there <| .here) .nil), hI116, ?_⟩
                    refine .one (i := 10) (by kernel_rfl) rfl rfl <| .append Try.underlying23 Try.underlying23 sz41 by41 zv41 rfl rfl rfl (.app <| .front) ho28s (ho116.src (I := _) .front) hd116.1 (hd116.ones (by decide) fun _ _ h => EntR.ones h) (by omega) (by omega) rfl fun v117 ob117 ho117 => ?_
                    refine ⟨(.cons (.app <| .app <| .there <| .there <| .here) .nil), hI116, ?_⟩
                    refine .t 11 rfl (.fieldAddr fo25_2 rfl) rfl rfl (by kernel_rfl) ?_
                    obtain ⟨ad117, cap117, rfl⟩ := ho117.form
                    refine .late (i := 12) (by kernel_rfl) (by kernel_rfl) (by kernel_rfl) rfl rfl <| .store sz23 rfl rfl rfl rfl rfl rfl (.app <| .app <| .there <| .there <| .here) <| .go <| .seq <| .seq <| .region ?_
                    refine .freezeS ho117 fun K2 hK2 hK2s => ?_
                    have hek2 : EntsR K2 _ (l.ents.take h ++ S.drop k) := hK2s (R := EntR) (((hd28.take hhl).mono fun _ _ hx => (hx.mono hI116).mono hK2).append (hd116.mono fun _ _ hx => hx.mono hK2)) (by simp; omega)
                    have hl2 : LgR K2 (Lg.cells ⟨l.base, l.term, l.ents.take h ++ S.drop k⟩ (.slice ad117 (h + (S.drop k).length) cap117)) ⟨l.base, l.term, l.ents.take h ++ S.drop k⟩ := ⟨⟨_, rfl, hek2⟩, hl0.base, hl0.term⟩
                    refine .e (.loadW ag25 sz25 rfl (.app <| .there <| .there <| .here) rfl) rfl rfl <| .on rfl <| .callP cal18 rfl rfl rfl (lCheck_ok hl2) <| .e (.neq rfl rfl) rfl rfl <| .nil <| .go ?_
                    refine .split 121 rfl (fun h121 => ?_) (fun h121 => ?_)
                    · skip
                      first | replace h121 := of_decide_eq_false ((Bool.not_eq_true' _).mp h121) | replace h121 := of_decide_eq_false (by simpa using h121)
                      refine .cond_true rfl <| .seq <| .region <| .e (.build bs25 zv25 rfl rfl) rfl rfl <| .on rfl <| .storeW sz25 rfl rfl rfl rfl rfl rfl (.app <| .there <| .here) <| .e (.assign rfl) rfl rfl ?_
                      refine .e (.assign rfl) rfl rfl <| .nil <| .go <| .ret <| .ret <| .sc_ret ?_
                      refine Post.rets rfl (.agg rfl ag25 sz25 (.app <| .there <| .here) rfl (.tmp rfl (.tmp rfl .nil))) rfl (Imm.le_trans (Imm.le_trans hI28 hI116) hK2) (fun w h => (Sat.tail (Sat.tail (Sat.tail (Sat.drop h))))) ?_
                      rw [hjB h49 (by omega) h61, joinB_at hkS hany hpart, joinAt_no (by rw [joinL_eq hkS hh]; exact h121)]
                      exact ⟨_, rfl, zLgR, rfl⟩
                    · skip
                      first | replace h121 := of_decide_eq_true ((Bool.not_eq_false' _).mp h121) | replace h121 := of_decide_eq_true (by simpa using h121)
                      refine .cond_false rfl <| .skip <| .go <| .seq <| .region <| .e (.loadW ag25 sz25 rfl (.app <| .there <| .there <| .here) rfl) rfl rfl ?_
                      refine .e (.move rfl) rfl rfl <| .on rfl <| .storeW sz25 rfl rfl rfl rfl rfl rfl (.app <| .there <| .here) <| .e (.assign rfl) rfl rfl <| .e (.assign rfl) rfl rfl <| .nil <| .go ?_
                      refine .ret <| .sc_ret ?_
                      refine Post.rets rfl (.agg rfl ag25 sz25 (.app <| .there <| .here) rfl (.tmp rfl (.tmp rfl .nil))) rfl (Imm.le_trans (Imm.le_trans hI28 hI116) hK2) (fun w h => (Sat.tail (Sat.tail (Sat.tail (Sat.drop h))))) ?_
                      rw [hjB h49 (by omega) h61, joinB_at hkS hany hpart, joinAt_yes (by rw [joinL_eq hkS hh]; exact h121), joinL_eq hkS hh, entD hkS]
                      exact ⟨_, rfl, hl2, rfl⟩
                · skip
                  replace h75 := of_decide_eq_false h75
                  refine .cond_false rfl ?_
                  refine .draw [(c1, _), (c3, _)] mixed (.cons (.there <| .there <| .here) (.cons .here .nil)) ?_
                  refine .t 0 rfl (.loadW ag25 sz25 rfl .here rfl) rfl rfl (by kernel_rfl) <| .t 1 rfl (.fieldAddr fo41_0 rfl) rfl rfl (by kernel_rfl) <| .t 2 rfl (.load ag22 rfl (.there <| .here) rfl) rfl rfl (by kernel_rfl) <| .t 4 rfl (.fieldAddr fo41_1 rfl) rfl rfl (by kernel_rfl) <| .t 5 rfl (.load ag22 rfl (.there <| .here) rfl) rfl rfl (by kernel_rfl) <| .one (i := 3) (by kernel_rfl) rfl rfl ?_
                  refine .callP cal34 rfl rfl rfl (lterm_ok hlk (by have := hix k (by omega); omega) (by omega)) ?_
                  refine ⟨(.cons (.there <| .there <| .here) (.cons .here .nil)), Imm.le_refl _, ?_⟩
                  refine .t 6 rfl (.neq rfl rfl) rfl rfl (by kernel_rfl) <| .t 7 rfl (.assign rfl) rfl rfl (by kernel_rfl) <| .done (by kernel_rfl) <| .go ?_
                  refine .split 75 rfl (fun h75_2 => ?_) (fun h75_2 => ?_)
                  · skip
                    first | replace h75_2 := of_decide_eq_false ((Bool.not_eq_true' _).mp h75_2) | replace h75_2 := of_decide_eq_false (by simpa using h75_2)
                    have hkS : k < S.length := by omega
                    have hpart : parts l S[k] = true := parts_term h75_2
                    refine .cond_true rfl <| .seq <| .region <| .e (.move rfl) rfl rfl <| .e (.move rfl) rfl rfl <| .e (.sliceLs sl23 rfl rfl rfl (by omega) (by omega)) rfl rfl ?_
                    refine .e (.assign rfl) rfl rfl <| .nil <| .go <| .exit <| .blk_other rfl <| .blk_other rfl ?_
                    refine .exit <| .exit <| .blk_exit <| .go <| .seq <| .seq ?_
                    refine .region <| .e (.move rfl) rfl rfl <| .e (.len sl23 rfl rfl) rfl rfl <| .e (.eql rfl rfl) rfl rfl <| .nil <| .go ?_
                    refine .split 101 rfl (fun h101 => ?_) (fun h101 => ?_)
                    · skip
                      replace h101 := of_decide_eq_true h101
                      exact absurd h101 (by omega)
                    · skip
                      replace h101 := of_decide_eq_false h101
                      obtain ⟨h, hh⟩ : ∃ h : Nat, S[k].index - l.base - 1 = (h : Int) := ⟨(S[k].index - l.base - 1).toNat, by have := hix k (by omega); omega⟩
                      have hhl : h ≤ l.ents.length := by have := part_le hix (by omega) hkS hany; omega
                      have ho28s := OwnS.take (q := 5) ho28 hhl
                      have hc28 := ho28.capLe
                      have hsd := SlR.fromS hv30 hkS
                      have hdl : (S.drop k).length = S.length - k := List.length_drop
                      refine .cond_false rfl <| .skip <| .go <| .seq <| .region ?_
                      refine .thaw hKt ?_
                      refine .e (.move rfl) rfl rfl ?_
                      obtain ⟨eb104, eo104, cs104, hd104, hat104, hr104⟩ := SlR.at_ hsd (k := 0) (by omega)
                      cases hd104
                      have e0 : (S.drop k)[0]'(by omega) = S[k] := by simp
                      rw [e0] at hr104
                      have he104 := hr104
                      obtain ⟨mv104, rfl, hmv104⟩ := hr104.ex
                      obtain ⟨ma104, mc104, rfl, -⟩ := hmv104
                      refine .e (.indexAddrL sl23 rfl rfl (show (0 : Int) = ((0 : Nat) : Int) from rfl) (by omega)) rfl rfl <| .e (.fieldAddr fo41_0 rfl) rfl rfl <| .e (.loadI ag22 rfl (hat104.cell (j := 0) rfl)) rfl rfl <| .e (.assign rfl) rfl rfl <| .nil <| .go ?_
                      refine .seq ?_
                      refine .draw [(c1, _)] mixed (.cons (.app <| .there <| .there <| .here) .nil) ?_
                      refine .t 0 rfl (.fieldAddr fo25_2 rfl) rfl rfl (by kernel_rfl) <| .t 1 rfl (.load ag23 rfl .here rfl) rfl rfl (by kernel_rfl) <| .t 2 rfl (.move rfl) rfl rfl (by kernel_rfl) <| .t 3 rfl (.fieldAddr fo25_0 rfl) rfl rfl (by kernel_rfl) <| .t 4 rfl (.load ag22 rfl .here rfl) rfl rfl (by kernel_rfl) <| .t 5 rfl (.sub rfl rfl (IntWalk.u64_in _ (by have := hix k (by omega); omega))) rfl rfl (by kernel_rfl) ?_
                      refine .t 6 rfl (.sub rfl rfl (IntWalk.u64_in _ (by have := hix k (by omega); omega))) rfl rfl (by kernel_rfl) <| .t 7 rfl (.sliceH sl23 rfl rfl hh (by omega)) rfl rfl (by kernel_rfl) <| .t 8 rfl (.move rfl) rfl rfl (by kernel_rfl) <| .one (i := 9) (by kernel_rfl) rfl rfl <| .call cal35 rfl rfl rfl (own_ok hsd (by have := List.length_drop (i := k) (l := S); omega) (fun e he => hSm e (List.mem_of_mem_drop he))) fun v116 I116 O116 hI116 hK116 => ?_
                      obtain ⟨ws116, ob116, ho116, hd116, rfl⟩ := hK116
                      obtain ⟨ad116, cap116, rfl⟩ := ho116.form
                      refine ⟨(.cons (.app <| .app <| .there <| .there <| .here) .nil), hI116, ?_⟩
                      refine .one (i := 10) (by kernel_rfl) rfl rfl <| .append Try.underlying23 Try.underlying23 sz41 by41 zv41 rfl rfl rfl (.app <| .front) ho28s (ho116.src (I := _) .front) hd116.1 (hd116.ones (by decide) fun _ _ h => EntR.ones h) (by omega) (by omega) rfl fun v117 ob117 ho117 => ?_
                      refine ⟨(.cons (.app <| .app <| .there <| .there <| .here) .nil), hI116, ?_⟩
                      refine .t 11 rfl (.fieldAddr fo25_2 rfl) rfl rfl (by kernel_rfl) ?_
                      obtain ⟨ad117, cap117, rfl⟩ := ho117.form
                      refine .late (i := 12) (by kernel_rfl) (by kernel_rfl) (by kernel_rfl) rfl rfl <| .store sz23 rfl rfl rfl rfl rfl rfl (.app <| .app <| .there <| .there <| .here) <| .go <| .seq <| .seq <| .region ?_
                      refine .freezeS ho117 fun K2 hK2 hK2s => ?_
                      have hek2 : EntsR K2 _ (l.ents.take h ++ S.drop k) := hK2s (R := EntR) (((hd28.take hhl).mono fun _ _ hx => (hx.mono hI116).mono hK2).append (hd116.mono fun _ _ hx => hx.mono hK2)) (by simp; omega)
                      have hl2 : LgR K2 (Lg.cells ⟨l.base, l.term, l.ents.take h ++ S.drop k⟩ (.slice ad117 (h + (S.drop k).length) cap117)) ⟨l.base, l.term, l.ents.take h ++ S.drop k⟩ := ⟨⟨_, rfl, hek2⟩, hl0.base, hl0.term⟩
                      refine .e (.loadW ag25 sz25 rfl (.app <| .there <| .there <| .here) rfl) rfl rfl <| .on rfl <| .callP cal18 rfl rfl rfl (lCheck_ok hl2) <| .e (.neq rfl rfl) rfl rfl <| .nil <| .go ?_
                      refine .split 121 rfl (fun h121 => ?_) (fun h121 => ?_)
                      · skip
                        first | replace h121 := of_decide_eq_false ((Bool.not_eq_true' _).mp h121) | replace h121 := of_decide_eq_false (by simpa using h121)
                        refine .cond_true rfl <| .seq <| .region <| .e (.build bs25 zv25 rfl rfl) rfl rfl <| .on rfl <| .storeW sz25 rfl rfl rfl rfl rfl rfl (.app <| .there <| .here) <| .e (.assign rfl) rfl rfl ?_
                        refine .e (.assign rfl) rfl rfl <| .nil <| .go <| .ret <| .ret <| .sc_ret ?_
                        refine Post.rets rfl (.agg rfl ag25 sz25 (.app <| .there <| .here) rfl (.tmp rfl (.tmp rfl .nil))) rfl (Imm.le_trans (Imm.le_trans hI28 hI116) hK2) (fun w h => (Sat.tail (Sat.tail (Sat.tail (Sat.drop h))))) ?_
                        rw [hjB h49 (by omega) h61, joinB_at hkS hany hpart, joinAt_no (by rw [joinL_eq hkS hh]; exact h121)]
                        exact ⟨_, rfl, zLgR, rfl⟩
                      · skip
                        first | replace h121 := of_decide_eq_true ((Bool.not_eq_false' _).mp h121) | replace h121 := of_decide_eq_true (by simpa using h121)
                        refine .cond_false rfl <| .skip <| .go <| .seq <| .region <| .e (.loadW ag25 sz25 rfl (.app <| .there <| .there <| .here) rfl) rfl rfl ?_
                        refine .e (.move rfl) rfl rfl <| .on rfl <| .storeW sz25 rfl rfl rfl rfl rfl rfl (.app <| .there <| .here) <| .e (.assign rfl) rfl rfl <| .e (.assign rfl) rfl rfl <| .nil <| .go ?_
                        refine .ret <| .sc_ret ?_
                        refine Post.rets rfl (.agg rfl ag25 sz25 (.app <| .there <| .here) rfl (.tmp rfl (.tmp rfl .nil))) rfl (Imm.le_trans (Imm.le_trans hI28 hI116) hK2) (fun w h => (Sat.tail (Sat.tail (Sat.tail (Sat.drop h))))) ?_
                        rw [hjB h49 (by omega) h61, joinB_at hkS hany hpart, joinAt_yes (by rw [joinL_eq hkS hh]; exact h121), joinL_eq hkS hh, entD hkS]
                        exact ⟨_, rfl, hl2, rfl⟩
                  · skip
                    first | replace h75_2 := of_decide_eq_true ((Bool.not_eq_false' _).mp h75_2) | replace h75_2 := of_decide_eq_true (by simpa using h75_2)
                    refine .cond_false rfl <| .seq <| .region <| .e (.move rfl) rfl rfl <| .e (.move rfl) rfl rfl <| .e (.len sl23 rfl rfl) rfl rfl ?_
                    refine .e (.sub rfl rfl (wrap_pred (by omega) (by omega))) rfl rfl <| .e (.eql rfl rfl) rfl rfl <| .e (.assign rfl) rfl rfl <| .nil <| .go ?_
                    refine .split 91 rfl (fun h91 => ?_) (fun h91 => ?_)
                    · skip
                      replace h91 := of_decide_eq_true h91
                      refine .cond_true rfl <| .seq <| .region <| .e (.loadW ag25 sz25 rfl (.there <| .there <| .here) rfl) rfl rfl <| .on rfl <| .storeW sz25 rfl rfl rfl rfl rfl rfl (.there <| .here) <| .e (.assign rfl) rfl rfl ?_
                      refine .e (.assign rfl) rfl rfl <| .nil <| .go <| .ret <| .blk_ret <| .blk_ret ?_
                      refine .ret <| .ret <| .blk_ret <| .ret <| .sc_ret ?_
                      refine Post.rets rfl (.agg rfl ag25 sz25 (.there <| .here) rfl (.tmp rfl (.tmp rfl .nil))) rfl (Imm.le_trans hI28 hK) (fun w h => (Sat.tail (Sat.tail (Sat.tail h)))) ?_
                      rw [hjB h49 (by omega) h61, joinB_none (any_nil_of (k := k + 1) (by omega) (any_take_step (by omega) hany (parts_no (by omega) (by omega))))]
                      exact ⟨_, rfl, hlk, rfl⟩
                    · skip
                      replace h91 := of_decide_eq_false h91
                      refine .cond_false rfl <| .skip <| .blk_normal <| .blk_normal <| .go <| .region ?_
                      refine .e (.add rfl rfl (by first | exact wrap_succ (by omega) | exact IntWalk.i64_in _ (by omega) | exact rfl)) rfl rfl <| .e (.move rfl) rfl rfl <| .nil ?_
                      refine .tail ?_
                      exact .mid (k + 1) ⟨by omega, by omega, by omega, any_take_step (by omega) hany (parts_no (by omega) (by omega))⟩ ⟨rfl, rfl, trivial⟩ rfl rfl (.pre 32 rfl (.app rfl .base))
              · skip
                replace h71 := of_decide_eq_false h71
                refine .cond_false rfl <| .exit <| .exit <| .exit <| .blk_exit <| .go ?_
                refine .seq <| .seq <| .region <| .e (.move rfl) rfl rfl <| .e (.len sl23 rfl rfl) rfl rfl <| .e (.eql rfl rfl) rfl rfl ?_
                refine .nil <| .go ?_
                refine .split 101 rfl (fun h101 => ?_) (fun h101 => ?_)
                · skip
                  replace h101 := of_decide_eq_true h101
                  refine .cond_true rfl <| .seq <| .region <| .e (.loadW ag25 sz25 rfl (.there <| .here) rfl) rfl rfl <| .on rfl <| .storeW sz25 rfl rfl rfl rfl rfl rfl .here <| .e (.assign rfl) rfl rfl ?_
                  refine .e (.assign rfl) rfl rfl <| .nil <| .go <| .ret <| .ret <| .sc_ret ?_
                  refine Post.rets rfl (.agg rfl ag25 sz25 .here rfl (.tmp rfl (.tmp rfl .nil))) rfl (Imm.le_trans hI28 hK) (fun w h => (Sat.tail (Sat.tail h))) ?_
                  rw [hjB h49 (by omega) h61, joinB_none (any_nil_of (k := k) (by omega) hany)]
                  exact ⟨_, rfl, hlk, rfl⟩
                · skip
                  replace h101 := of_decide_eq_false h101
                  exact absurd (hkn (by omega)) (by omega)

end Go.Proofs.Yteajcmnbjpbnpaa
