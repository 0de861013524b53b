/- Walks of functions over a symbolic memory, printed by a program of the session. -/
import Derived.Test.YteajcmnbjpbnpaaLt
namespace Go.Proofs.Yteajcmnbjpbnpaa
open Go.Sy
set_option linter.unusedSimpArgs false
set_option linter.unusedVariables false

set_option maxHeartbeats 1000000 in
set_option maxRecDepth 20000 in
theorem lFromF_ok {I : Imm} {O : Own} {lc : List Value} {l : Lg} (hl : LgR I lc l) {i most : Int} (hi : U64 i) (hmo : I64 most) (hL : l.ents.length * 64 ≤ 140737488351232) (hM : ∀ e ∈ l.ents, e.members.length * 8 ≤ 140737488351232) :
    Go.Sy.Does Try.prog 22 [.agg ⟨lc⟩, .int .u64 i, .int .i64 most] I O (fun u I' O' => ∃ v ws ob, u = .tuple ⟨[v, .int .i64 (fromR l i most).2]⟩ ∧ OwnS 5 v (fromR l i most).1.length ws ob ∧ DR (EntF I) 5 I' ws (fromR l i most).1 ∧ O' = ob ++ O) := by
  have hl0 := hl
  obtain ⟨ev, rfl, hev⟩ := hl.ex
  have hev0 := hev
  obtain ⟨va, vcap, rfl, hv1, hv2, -⟩ := hev
  have hbase := hl0.base
  have hterm := hl0.term
  unfold U64 at hbase hterm
  have hu : ∀ j (hj : j < l.ents.length), U64 l.ents[j].index := fun j hj => by
    obtain ⟨_, _, _, _, _, hr⟩ := SlR.at_ hev0 hj
    exact hr.index
  have hut : ∀ j (hj : j < l.ents.length), U64 l.ents[j].term := fun j hj => by
    obtain ⟨_, _, _, _, _, hr⟩ := SlR.at_ hev0 hj
    exact hr.term
  unfold U64 at hi
  unfold I64 at hmo
  refine Go.Sy.Does.enter Try.func22 rfl Try.ntmps22 rfl ?_
  refine .seq <| .region <| .on rfl <| .box rfl rfl rfl fun c1 _ _ => .e (.assign rfl) rfl rfl <| .e (.assign rfl) rfl rfl <| .nil ?_
  refine .go <| .seq <| .seq <| .region <| .e (.loadW ag25 sz25 rfl .here rfl) rfl rfl <| .on rfl <| .callP cal18 rfl rfl rfl (lCheck_ok hl0) ?_
  refine .e (.assign rfl) rfl rfl <| .nil <| .go <| .block <| .seq <| .region ?_
  refine .e (.move rfl) rfl rfl <| .e (.neq rfl rfl) rfl rfl <| .e (.assign rfl) rfl rfl <| .nil <| .go ?_
  refine .split 13 rfl (fun h13 => ?_) (fun h13 => ?_)
  · skip
    first | replace h13 := of_decide_eq_false ((Bool.not_eq_true' _).mp h13) | replace h13 := of_decide_eq_false (by simpa using h13)
    refine .cond_true rfl <| .seq <| .region <| .e (.move rfl) rfl rfl <| .e (.assign rfl) rfl rfl <| .e (.assign rfl) rfl rfl ?_
    refine .nil <| .go <| .ret <| .blk_ret <| .ret ?_
    refine Post.rets rfl (.tmp rfl (.tmp rfl .nil)) rfl (Imm.le_refl _) (fun w h => (Sat.tail h)) ?_
    rw [fromR_no h13 (logNo_why h13).2]
    exact ⟨_, [], [], rfl, OwnS.nil, DR.nil, rfl⟩
  · skip
    first | replace h13 := of_decide_eq_true ((Bool.not_eq_false' _).mp h13) | replace h13 := of_decide_eq_true (by simpa using h13)
    have hok := logOk_why h13
    have hlok : logOk l = true := hok
    have hle := logTo_le hl0.base hu (Nat.le_refl _) hok
    have hae := at_end hl0.base (show endOf l ≤ 18446744073709551615 by unfold endOf; omega)
    have heo : endOf l = l.base + (l.ents.length : Int) := rfl
    refine .cond_false rfl <| .seq <| .region <| .e (.move rfl) rfl rfl <| .e (.fieldAddr fo25_0 rfl) rfl rfl <| .e (.load ag22 rfl .here rfl) rfl rfl ?_
    refine .e (.leq rfl rfl) rfl rfl <| .e (.assign rfl) rfl rfl <| .nil <| .go ?_
    refine .split 17 rfl (fun h17 => ?_) (fun h17 => ?_)
    · skip
      replace h17 := of_decide_eq_true h17
      refine .cond_true rfl <| .seq <| .region <| .e (.assign rfl) rfl rfl <| .e (.assign rfl) rfl rfl <| .nil ?_
      refine .go <| .ret <| .blk_ret <| .ret ?_
      refine Post.rets rfl (.tmp rfl (.tmp rfl .nil)) rfl (Imm.le_refl _) (fun w h => (Sat.tail h)) ?_
      rw [fromR_stale hlok h17]
      exact ⟨_, [], [], rfl, OwnS.nil, DR.nil, rfl⟩
    · skip
      replace h17 := of_decide_eq_false h17
      refine .cond_false rfl <| .seq <| .region <| .e (.move rfl) rfl rfl <| .e (.loadW ag25 sz25 rfl .here rfl) rfl rfl <| .on rfl <| .callP cal33 rfl rfl rfl (lend_ok hl0) ?_
      refine .e (.gtr rfl rfl) rfl rfl <| .e (.assign rfl) rfl rfl <| .nil <| .go ?_
      refine .split 22 rfl (fun h22 => ?_) (fun h22 => ?_)
      · skip
        replace h22 := of_decide_eq_true h22
        refine .cond_true rfl <| .seq <| .region <| .e (.assign rfl) rfl rfl <| .e (.assign rfl) rfl rfl <| .nil ?_
        refine .go <| .ret <| .blk_ret <| .ret ?_
        refine Post.rets rfl (.tmp rfl (.tmp rfl .nil)) rfl (Imm.le_refl _) (fun w h => (Sat.tail h)) ?_
        rw [fromR_far hlok h17 (by omega)]
        exact ⟨_, [], [], rfl, OwnS.nil, DR.nil, rfl⟩
      · skip
        replace h22 := of_decide_eq_false h22
        obtain ⟨j, hj⟩ : ∃ j : Nat, i - l.base - 1 = (j : Int) := ⟨(i - l.base - 1).toNat, by omega⟩
        have hjl : j ≤ l.ents.length := by omega
        obtain ⟨n, hn, hnl, hfr⟩ := from_n (most := most) hlok h17 hj hjl
        refine .cond_false rfl <| .skip <| .blk_normal <| .go <| .seq <| .region ?_
        refine .e (.fieldAddr fo25_2 rfl) rfl rfl <| .e (.load ag23 rfl .here rfl) rfl rfl <| .e (.move rfl) rfl rfl <| .e (.fieldAddr fo25_0 rfl) rfl rfl <| .e (.load ag22 rfl .here rfl) rfl rfl <| .e (.sub rfl rfl (IntWalk.u64_in _ (by omega))) rfl rfl ?_
        refine .e (.sub rfl rfl (IntWalk.u64_in _ (by omega))) rfl rfl <| .e (.sliceL sl23 rfl rfl hj hjl) rfl rfl <| .e (.assign rfl) rfl rfl <| .nil <| .go <| .seq ?_
        refine .region <| .e (.move rfl) rfl rfl <| .e (.len sl23 rfl rfl) rfl rfl <| .e (.move rfl) rfl rfl <| .e (.max2 rfl rfl rfl) rfl rfl <| .e (.min2 rfl rfl rfl) rfl rfl ?_
        refine .e (.assign rfl) rfl rfl <| .nil <| .go <| .seq <| .region <| .e (.move rfl) rfl rfl ?_
        refine .e (.move rfl) rfl rfl <| .e (.move rfl) rfl rfl <| .e (.slice3 sl23 rfl rfl rfl hn hn (Nat.le_refl _) (by omega)) rfl rfl <| .on rfl <| .call cal35 rfl rfl rfl (ownF_ok (SlR.take3 (m := n) (q := 5) (SlR.from hev0 hjl) (by rw [List.length_drop]; exact hnl) (Nat.le_refl _) (by omega)) (by have := List.length_take_le n (l.ents.drop j); have := List.length_drop (i := j) (l := l.ents); omega) (fun e he => hM e (List.mem_of_mem_drop (List.mem_of_mem_take he)))) fun v44 I44 O44 hI44 hK44 => ?_
        obtain ⟨ws44, ob44, ho44, hd44, rfl⟩ := hK44
        obtain ⟨ad44, cap44, rfl⟩ := ho44.form
        refine .e (.assign rfl) rfl rfl <| .e (.assign rfl) rfl rfl <| .nil <| .go <| .ret ?_
        refine Post.rets rfl (.tmp rfl (.tmp rfl .nil)) rfl hI44 (fun w h => (Sat.tail (Sat.rem h (Rem.app <| Rem.here)))) ?_
        rw [hfr]
        exact ⟨_, ws44, ob44, rfl, ho44, hd44, rfl⟩

set_option maxHeartbeats 8000000 in
set_option maxRecDepth 20000 in
theorem lJoinF_ok {I : Imm} {O : Own} {lc : List Value} {l : Lg} (hl : LgR I lc l) {v : Value} {s : List Ent} (hs : EntsR I v s) {i t : Int} (hi : U64 i) (ht : U64 t) (hL : l.ents.length * 64 ≤ 140737488351232) (hM : ∀ e ∈ l.ents, e.members.length * 8 ≤ 140737488351232) (hLs : s.length * 64 ≤ 140737488351232) (hMs : ∀ e ∈ s, e.members.length * 8 ≤ 140737488351232) (hLL : (l.ents.length + s.length) * 64 ≤ 140737488351232) :
    Go.Sy.Does Try.prog 11 [.agg ⟨lc⟩, .int .u64 i, .int .u64 t, v] I O (fun u I' O' => ∃ v ws ob, u = .tuple ⟨[.agg ⟨(joinR l i t s).1.cells v⟩, .int .u64 (joinR l i t s).2.1, .int .i64 (joinR l i t s).2.2]⟩ ∧ OwnS 5 v (joinR l i t s).1.ents.length ws ob ∧ DR (EntF I) 5 I' ws (joinR l i t s).1.ents ∧ O' = ob ++ O) := by
  have hl0 := hl
  obtain ⟨ev, rfl, hev⟩ := hl.ex
  have hev0 := hev
  obtain ⟨va, vcap, rfl, hv1, hv2, -⟩ := hev
  have hbase := hl0.base
  have hterm := hl0.term
  unfold U64 at hbase hterm
  have hu : ∀ j (hj : j < l.ents.length), U64 l.ents[j].index := fun j hj => by
    obtain ⟨_, _, _, _, _, hr⟩ := SlR.at_ hev0 hj
    exact hr.index
  have hut : ∀ j (hj : j < l.ents.length), U64 l.ents[j].term := fun j hj => by
    obtain ⟨_, _, _, _, _, hr⟩ := SlR.at_ hev0 hj
    exact hr.term
  have hs0 := hs
  obtain ⟨sa, scap, rfl, hs1, hs2, -⟩ := hs
  have hi0 := hi
  have ht0 := ht
  unfold U64 at hi0 ht0
  refine Go.Sy.Does.enter Try.func11 rfl Try.ntmps11 rfl ?_
  refine .seq <| .region <| .on rfl <| .box rfl rfl rfl fun c1 _ _ => .on rfl <| .alloc zr25 rfl fun c2 _ _ => .e (.assign rfl) rfl rfl <| .e (.assign rfl) rfl rfl ?_
  refine .nil <| .go <| .scope <| .seq <| .seq <| .region ?_
  refine .e (.loadW ag25 sz25 rfl (.there <| .here) rfl) rfl rfl <| .on rfl <| .callP cal18 rfl rfl rfl (lCheck_ok hl0) <| .e (.assign rfl) rfl rfl <| .nil <| .go <| .seq ?_
  refine .region <| .e (.move rfl) rfl rfl <| .e (.neq rfl rfl) rfl rfl <| .nil <| .go ?_
  refine .split 19 rfl (fun h19 => ?_) (fun h19 => ?_)
  · skip
    first | replace h19 := of_decide_eq_false ((Bool.not_eq_true' _).mp h19) | replace h19 := of_decide_eq_false (by simpa using h19)
    refine .cond_true rfl <| .seq <| .region <| .e (.build bs25 zv25 rfl rfl) rfl rfl <| .e (.move rfl) rfl rfl <| .on rfl <| .storeW sz25 rfl rfl rfl rfl rfl rfl .here ?_
    refine .e (.assign rfl) rfl rfl <| .e (.assign rfl) rfl rfl <| .nil <| .go <| .ret <| .ret ?_
    refine .sc_ret ?_
    refine Post.rets rfl (.agg rfl ag25 sz25 .here rfl (.tmp rfl (.tmp rfl .nil))) rfl (Imm.le_refl _) (fun w h => (Sat.tail (Sat.tail h))) ?_
    rw [joinR_no h19 (logNo_why h19).2]
    exact ⟨_, [], [], rfl, OwnS.nil, DR.nil, rfl⟩
  · skip
    first | replace h19 := of_decide_eq_true ((Bool.not_eq_false' _).mp h19) | replace h19 := of_decide_eq_true (by simpa using h19)
    have hok := logOk_why h19
    have hlok : logOk l = true := hok
    have hle := logTo_le hl0.base hu (Nat.le_refl _) hok
    have hae := at_end hl0.base (show endOf l ≤ 18446744073709551615 by unfold endOf; omega)
    have heo : endOf l = l.base + (l.ents.length : Int) := rfl
    refine .cond_false rfl <| .skip <| .go <| .seq <| .seq <| .region ?_
    refine .e (.move rfl) rfl rfl <| .e (.move rfl) rfl rfl <| .on rfl <| .callP cal31 rfl rfl rfl (behind_ok hs0 hi) <| .e (.not rfl) rfl rfl <| .nil <| .go ?_
    refine .split 25 rfl (fun h25 => ?_) (fun h25 => ?_)
    · skip
      refine .cond_true rfl <| .seq <| .region <| .e (.build bs25 zv25 rfl rfl) rfl rfl <| .on rfl <| .storeW sz25 rfl rfl rfl rfl rfl rfl .here <| .e (.assign rfl) rfl rfl ?_
      refine .e (.assign rfl) rfl rfl <| .nil <| .go <| .ret <| .ret <| .sc_ret ?_
      refine Post.rets rfl (.agg rfl ag25 sz25 .here rfl (.tmp rfl (.tmp rfl .nil))) rfl (Imm.le_refl _) (fun w h => (Sat.tail (Sat.tail h))) ?_
      rw [joinR_form hlok (by simpa using h25)]
      exact ⟨_, [], [], rfl, OwnS.nil, DR.nil, rfl⟩
    · skip
      have hbok : bOk i s = true := by simpa using h25
      refine .cond_false rfl <| .skip <| .go <| .seq <| .region <| .e (.loadW ag25 sz25 rfl (.there <| .here) rfl) rfl rfl ?_
      refine .on rfl <| .call cal32 rfl rfl rfl (OwnF_ok hl0 hL hM) fun v28 I28 O28 hI28 hK28 => ?_
      obtain ⟨ev28, ws28, ob28, rfl, ho28, hd28, rfl⟩ := hK28
      obtain ⟨ad28, cap28, rfl⟩ := ho28.form
      refine .lend ho28 fun K hK hKs hKt => ?_
      have hek : EntsR K _ l.ents := hKs (R := EntR) (hd28.to fun _ _ h => h.ent.mono hK) rfl
      have hlk : LgR K (l.cells (.slice ad28 l.ents.length cap28)) l := ⟨⟨_, rfl, hek⟩, hl0.base, hl0.term⟩
      have hs28 := hs0.mono hI28
      refine .on rfl <| .storeW sz25 rfl rfl rfl rfl rfl rfl (.there <| .here) <| .nil <| .go ?_
      refine .meetO (σ := Value) [1, 2, 3, 12, 29, 30, 31, 32, 33, 34, 35, 36, 37, 38, 39, 40, 41, 42, 43, 44, 45, 46, 47, 48] (fun v => EntsR I28 v (s.drop (adjN l i s))) (fun v => [(1, .int .u64 (adjI l i s)), (2, .int .u64 (adjT l i t)), (3, v)]) (fun _ => K) (fun R _ => R) ?_ ?_
      · skip
        refine .seq <| .region <| .e (.move rfl) rfl rfl <| .e (.fieldAddr fo25_0 rfl) rfl rfl <| .e (.load ag22 rfl (.there <| .here) rfl) rfl rfl <| .e (.lss rfl rfl) rfl rfl ?_
        refine .nil <| .go ?_
        refine .split 32 rfl (fun h32 => ?_) (fun h32 => ?_)
        · skip
          replace h32 := of_decide_eq_true h32
          have hadj := adj_yes (t := t) (s := s) h32 hi hl0.base (by omega)
          refine .cond_true rfl <| .seq <| .region <| .e (.fieldAddr fo25_0 rfl) rfl rfl <| .e (.load ag22 rfl (.there <| .here) rfl) rfl rfl <| .e (.move rfl) rfl rfl ?_
          refine .e (.sub rfl rfl (IntWalk.u64_in _ (by omega))) rfl rfl <| .e (.move rfl) rfl rfl <| .e (.len sl23 rfl rfl) rfl rfl <| .e (.conv Try.underlying3 Try.underlying22 rfl) rfl rfl <| .e (.min2 rfl rfl rfl) rfl rfl <| .e (.assign rfl) rfl rfl ?_
          refine .nil <| .go ?_
          refine .draw [(c1, _)] mixed (.cons (.there <| .here) .nil) ?_
          refine .t 0 rfl (.move rfl) rfl rfl (by kernel_rfl) <| .t 1 rfl (.move rfl) rfl rfl (by kernel_rfl) <| .t 2 rfl (.add rfl rfl hadj.2.2) rfl rfl (by kernel_rfl) <| .t 3 rfl (.fieldAddr fo25_1 rfl) rfl rfl (by kernel_rfl) <| .t 4 rfl (.load ag22 rfl .here rfl) rfl rfl (by kernel_rfl) <| .t 5 rfl (.move rfl) rfl rfl (by kernel_rfl) ?_
          refine .t 6 rfl (.move rfl) rfl rfl (by kernel_rfl) <| .t 7 rfl (.sliceL sl23 rfl rfl hadj.1 adjN_le) rfl rfl (by kernel_rfl) <| .t 8 rfl (.assign rfl) rfl rfl (by kernel_rfl) <| .t 9 rfl (.assign rfl) rfl rfl (by kernel_rfl) <| .t 10 rfl (.assign rfl) rfl rfl (by kernel_rfl) <| .done (by kernel_rfl) ?_
          exact .mid (_) (SlR.from hs28 adjN_le) ⟨rfl, congrArg (fun x => some (Value.int .u64 x)) hadj.2.1.symm, rfl, trivial⟩ rfl rfl (.pre 25 rfl .self)
        · skip
          replace h32 := of_decide_eq_false h32
          refine .cond_false rfl <| .skip ?_
          exact .mid (_) (by rw [(adj_no (t := t) h32).1, List.drop_zero]; exact hs28) ⟨congrArg (fun x => some (Value.int .u64 x)) (adj_no (t := t) (s := s) h32).2.1.symm, congrArg (fun x => some (Value.int .u64 x)) (adj_no (s := s) h32).2.2.symm, rfl, trivial⟩ rfl rfl (.pre 5 rfl .self)
      · intro v3 hv3
        have hv30 := hv3
        obtain ⟨ta, tcap, rfl, hv31, hv32, -⟩ := hv3
        obtain ⟨S, hS⟩ : ∃ S, s.drop (adjN l i s) = S := ⟨_, rfl⟩
        have hix := adj_ix (l := l) hbok
        have hSl : S.length ≤ s.length := by rw [← hS, List.length_drop]; omega
        have hSm : ∀ e ∈ S, e.members.length * 8 ≤ 140737488351232 := fun e he => hMs e (List.mem_of_mem_drop (hS ▸ he))
        have hjB := @joinR_in l i t s hlok hbok
        rw [hS] at hv30 hv31 hix hjB
        rw [hS]
        obtain ⟨i', hi'⟩ : ∃ x, adjI l i s = x := ⟨_, rfl⟩
        obtain ⟨t', ht'⟩ : ∃ x, adjT l i t = x := ⟨_, rfl⟩
        have hold := @joinR_old l i t s hlok hbok
        have hfar := @joinR_far l i t s hlok hbok
        have hgap := @joinR_gap l i t s hlok hbok
        rw [hi'] at hix hold
        simp only [hi', ht'] at hfar hgap hjB
        rw [hi', ht']
        have hv3K := hv30.mono hK
        refine .seq <| .block <| .seq <| .region <| .e (.move rfl) rfl rfl <| .e (.fieldAddr fo25_0 rfl) rfl rfl ?_
        refine .e (.load ag22 rfl (.there <| .here) rfl) rfl rfl <| .e (.lss rfl rfl) rfl rfl <| .e (.assign rfl) rfl rfl <| .nil <| .go ?_
        refine .split 49 rfl (fun h49 => ?_) (fun h49 => ?_)
        · skip
          replace h49 := of_decide_eq_true h49
          refine .cond_true rfl <| .seq <| .region <| .e (.loadW ag25 sz25 rfl (.there <| .here) rfl) rfl rfl <| .on rfl <| .storeW sz25 rfl rfl rfl rfl rfl rfl .here <| .e (.assign rfl) rfl rfl ?_
          refine .e (.assign rfl) rfl rfl <| .nil <| .go <| .ret <| .blk_ret <| .ret ?_
          refine .sc_ret ?_
          refine .thaw hKt ?_
          refine Post.rets rfl (.agg rfl ag25 sz25 (.app <| .here) rfl (.tmp rfl (.tmp rfl .nil))) rfl hI28 (fun w h => (Sat.tail (Sat.rem (Sat.tail (Sat.rem h (Rem.app <| Rem.here))) (Rem.app <| Rem.here)))) ?_
          rw [hold h49]
          exact ⟨_, ws28, ob28, rfl, ho28, hd28, rfl⟩
        · skip
          replace h49 := of_decide_eq_false h49
          refine .cond_false rfl <| .seq <| .region <| .e (.move rfl) rfl rfl <| .e (.loadW ag25 sz25 rfl (.there <| .here) rfl) rfl rfl <| .on rfl <| .callP cal33 rfl rfl rfl (lend_ok hlk) ?_
          refine .e (.gtr rfl rfl) rfl rfl <| .e (.assign rfl) rfl rfl <| .nil <| .go ?_
          refine .split 55 rfl (fun h55 => ?_) (fun h55 => ?_)
          · skip
            replace h55 := of_decide_eq_true h55
            refine .cond_true rfl <| .seq <| .region <| .e (.build bs25 zv25 rfl rfl) rfl rfl <| .on rfl <| .storeW sz25 rfl rfl rfl rfl rfl rfl .here <| .e (.assign rfl) rfl rfl ?_
            refine .e (.assign rfl) rfl rfl <| .nil <| .go <| .ret <| .blk_ret <| .ret ?_
            refine .sc_ret ?_
            refine Post.rets rfl (.agg rfl ag25 sz25 .here rfl (.tmp rfl (.tmp rfl .nil))) rfl (Imm.le_trans hI28 hK) (fun w h => (Sat.tail (Sat.tail h))) ?_
            rw [hfar h49 (by omega)]
            exact ⟨_, [], [], rfl, OwnS.nil, DR.nil, rfl⟩
          · skip
            replace h55 := of_decide_eq_false h55
            refine .cond_false rfl <| .seq <| .region <| .e (.loadW ag25 sz25 rfl (.there <| .here) rfl) rfl rfl <| .e (.move rfl) rfl rfl <| .on rfl <| .callP cal34 rfl rfl rfl (lterm_ok hlk (by omega) (by omega)) ?_
            refine .e (.move rfl) rfl rfl <| .e (.neq rfl rfl) rfl rfl <| .e (.assign rfl) rfl rfl <| .nil <| .go ?_
            refine .split 61 rfl (fun h61 => ?_) (fun h61 => ?_)
            · skip
              first | replace h61 := of_decide_eq_false ((Bool.not_eq_true' _).mp h61) | replace h61 := of_decide_eq_false (by simpa using h61)
              refine .cond_true rfl <| .seq <| .region <| .e (.build bs25 zv25 rfl rfl) rfl rfl <| .on rfl <| .storeW sz25 rfl rfl rfl rfl rfl rfl .here <| .e (.assign rfl) rfl rfl ?_
              refine .e (.assign rfl) rfl rfl <| .nil <| .go <| .ret <| .blk_ret <| .ret ?_
              refine .sc_ret ?_
              refine Post.rets rfl (.agg rfl ag25 sz25 .here rfl (.tmp rfl (.tmp rfl .nil))) rfl (Imm.le_trans hI28 hK) (fun w h => (Sat.tail (Sat.tail h))) ?_
              rw [hgap h49 (by omega) h61]
              exact ⟨_, [], [], rfl, OwnS.nil, DR.nil, rfl⟩
            · skip
              first | replace h61 := of_decide_eq_true ((Bool.not_eq_false' _).mp h61) | replace h61 := of_decide_eq_true (by simpa using h61)
              refine .cond_false rfl <| .skip <| .blk_normal <| .go <| .seq <| .label ?_
              refine .go <| .seq <| .seq <| .region <| .e (.move rfl) rfl rfl <| .e (.len sl23 rfl rfl) rfl rfl ?_
              refine .e (.move rfl) rfl rfl <| .nil <| .go <| .block ?_
              refine .loopM [3, 9, 10, 13, 14, 70, 71, 72, 73, 74, 75, 76, 77, 78, 79, 80, 81, 82, 83, 84, 85, 86, 87, 88, 89, 90, 91, 92, 93, 94, 95, 96, 97, 98] (fun k => S.length - k) (fun k => k ≤ S.length ∧ (k = S.length → S.length = 0) ∧ (S.take k).any (parts l) = false) (fun k => [(70, .int .i64 k), (3, .slice ta S.length tcap)]) (fun _ => _) (fun _ => _) (0) ⟨by omega, fun h => h.symm, rfl⟩ ⟨rfl, rfl, trivial⟩ rfl rfl ?_
              intro k hk
              obtain ⟨hk, hkn, hany⟩ := hk
              refine .seq <| .region <| .e (.lss rfl rfl) rfl rfl <| .nil <| .go <| .seq ?_
              refine .split 71 rfl (fun h71 => ?_) (fun h71 => ?_)
              · skip
                replace h71 := of_decide_eq_true h71
                refine .cond_true rfl <| .skip <| .go <| .seq <| .block <| .seq ?_
                refine .region <| .e (.move rfl) rfl rfl ?_
                obtain ⟨eb73, eo73, cs73, hd73, hat73, hr73⟩ := SlR.at_ hv3K (k := k) (by omega)
                cases hd73
                have he73 := hr73
                obtain ⟨mv73, rfl, hmv73⟩ := hr73.ex
                obtain ⟨ma73, mc73, rfl, -⟩ := hmv73
                refine .e (.indexAddrL sl23 rfl rfl rfl (by omega)) rfl rfl <| .e (.loadIA ag41 sz41 rfl hat73 rfl) rfl rfl <| .on rfl <| .alloc zr41 rfl fun c3 _ _ => .e (.assign rfl) rfl rfl <| .on rfl <| .storeW sz41 rfl rfl rfl rfl rfl rfl .here <| .nil ?_
                refine .go <| .block <| .seq <| .seq ?_
                refine .draw [(c3, _), (c1, _)] mixed (.cons .here (.cons (.there <| .there <| .here) .nil)) ?_
                refine .t 0 rfl (.fieldAddr fo41_0 rfl) rfl rfl (by kernel_rfl) <| .t 1 rfl (.load ag22 rfl .here rfl) rfl rfl (by kernel_rfl) <| .t 2 rfl (.loadW ag25 sz25 rfl (.there <| .here) rfl) rfl rfl (by kernel_rfl) <| .one (i := 3) (by kernel_rfl) rfl rfl <| .callP cal33 rfl rfl rfl (lend_ok hlk) ?_
                refine ⟨(.cons .here (.cons (.there <| .there <| .here) .nil)), Imm.le_refl _, ?_⟩
                refine .t 4 rfl (.gtr rfl rfl) rfl rfl (by kernel_rfl) <| .t 5 rfl (.assign rfl) rfl rfl (by kernel_rfl) <| .done (by kernel_rfl) <| .go ?_
                refine .split 75 rfl (fun h75 => ?_) (fun h75 => ?_)
                · skip
                  replace h75 := of_decide_eq_true h75
                  have hkS : k < S.length := by omega
                  have hpart : parts l S[k] = true := parts_far (by omega)
                  refine .cond_true rfl <| .skip <| .go <| .cond_true rfl <| .seq <| .region ?_
                  refine .e (.move rfl) rfl rfl <| .e (.move rfl) rfl rfl <| .e (.sliceLs sl23 rfl rfl rfl (by omega) (by omega)) rfl rfl <| .e (.assign rfl) rfl rfl <| .nil <| .go ?_
                  refine .exit <| .blk_other rfl <| .blk_other rfl <| .exit <| .exit <| .blk_exit ?_
                  refine .go <| .seq <| .seq <| .region <| .e (.move rfl) rfl rfl <| .e (.len sl23 rfl rfl) rfl rfl ?_
                  refine .e (.eql rfl rfl) rfl rfl <| .nil <| .go ?_
                  refine .split 101 rfl (fun h101 => ?_) (fun h101 => ?_)
                  · skip
                    replace h101 := of_decide_eq_true h101
                    exact absurd h101 (by omega)
                  · skip
                    replace h101 := of_decide_eq_false h101
                    obtain ⟨h, hh⟩ : ∃ h : Nat, S[k].index - l.base - 1 = (h : Int) := ⟨(S[k].index - l.base - 1).toNat, by have := hix k (by omega); omega⟩
                    have hhl : h ≤ l.ents.length := by have := part_le hix (by omega) hkS hany; omega
                    have ho28s := OwnS.take (q := 5) ho28 hhl
                    have hc28 := ho28.capLe
                    have hsd := SlR.fromS hv30 hkS
                    have hdl : (S.drop k).length = S.length - k := List.length_drop
                    refine .cond_false rfl <| .skip <| .go <| .seq <| .region ?_
                    refine .thaw hKt ?_
                    refine .e (.move rfl) rfl rfl ?_
                    obtain ⟨eb104, eo104, cs104, hd104, hat104, hr104⟩ := SlR.at_ hsd (k := 0) (by omega)
                    cases hd104
                    have e0 : (S.drop k)[0]'(by omega) = S[k] := by simp
                    rw [e0] at hr104
                    have he104 := hr104
                    obtain ⟨mv104, rfl, hmv104⟩ := hr104.ex
                    obtain ⟨ma104, mc104, rfl, -⟩ := hmv104
                    refine .e (.indexAddrL sl23 rfl rfl (show (0 : Int) = ((0 : Nat) : Int) from rfl) (by omega)) rfl rfl <| .e (.fieldAddr fo41_0 rfl) rfl rfl <| .e (.loadI ag22 rfl (hat104.cell (j := 0) rfl)) rfl rfl <| .e (.assign rfl) rfl rfl <| .nil <| .go ?_
                    refine .seq ?_
                    refine .draw [(c1, _)] mixed (.cons (.app <| .there <| .there <| .here) .nil) ?_
                    refine .t 0 rfl (.fieldAddr fo25_2 rfl) rfl rfl (by kernel_rfl) <| .t 1 rfl (.load ag23 rfl .here rfl) rfl rfl (by kernel_rfl) <| .t 2 rfl (.move rfl) rfl rfl (by kernel_rfl) <| .t 3 rfl (.fieldAddr fo25_0 rfl) rfl rfl (by kernel_rfl) <| .t 4 rfl (.load ag22 rfl .here rfl) rfl rfl (by kernel_rfl) <| .t 5 rfl (.sub rfl rfl (IntWalk.u64_in _ (by have := hix k (by omega); omega))) rfl rfl (by kernel_rfl) ?_
                    refine .t 6 rfl (.sub rfl rfl (IntWalk.u64_in _ (by have := hix k (by omega); omega))) rfl rfl (by kernel_rfl) <| .t 7 rfl (.sliceH sl23 rfl rfl hh (by omega)) rfl rfl (by kernel_rfl) <| .t 8 rfl (.move rfl) rfl rfl (by kernel_rfl) <| .one (i := 9) (by kernel_rfl) rfl rfl <| .call cal35 rfl rfl rfl (ownF_ok hsd (by have := List.length_drop (i := k) (l := S); omega) (fun e he => hSm e (List.mem_of_mem_drop he))) fun v116 I116 O116 hI116 hK116 => ?_
                    obtain ⟨ws116, ob116, ho116, hd116, rfl⟩ := hK116
                    obtain ⟨ad116, cap116, rfl⟩ := ho116.form
                    refine ⟨(.cons (.app <| .app <| .there <| .there <| .here) .nil), hI116, ?_⟩
                    refine .one (i := 10) (by kernel_rfl) rfl rfl <| .append Try.underlying23 Try.underlying23 sz41 by41 zv41 rfl rfl rfl (.app <| .front) ho28s (ho116.src (I := _) .front) hd116.1 (hd116.ones (by decide) fun _ _ h => h.ent.ones) (by omega) (by omega) rfl fun v117 ob117 ho117 => ?_
                    refine ⟨(.cons (.app <| .app <| .there <| .there <| .here) .nil), hI116, ?_⟩
                    refine .t 11 rfl (.fieldAddr fo25_2 rfl) rfl rfl (by kernel_rfl) ?_
                    obtain ⟨ad117, cap117, rfl⟩ := ho117.form
                    refine .late (i := 12) (by kernel_rfl) (by kernel_rfl) (by kernel_rfl) rfl rfl <| .store sz23 rfl rfl rfl rfl rfl rfl (.app <| .app <| .there <| .there <| .here) <| .go <| .seq <| .seq <| .region ?_
                    have hlJ : (l.ents.take h ++ S.drop k).length = h + (S.drop k).length := by simp; omega
                    have hdJ := ((hd28.take hhl).mono fun _ _ hx => hx.mono hI116).append (hd116.to fun _ _ hx => EntF.back hI28 hx)
                    refine .lend ho117 fun K2 hK2 hK2s hK2t => ?_
                    have hek2 : EntsR K2 _ (l.ents.take h ++ S.drop k) := hK2s (R := EntR) (hdJ.to fun _ _ hx => hx.ent.mono hK2) (by simp; omega)
                    have hl2 : LgR K2 (Lg.cells ⟨l.base, l.term, l.ents.take h ++ S.drop k⟩ (.slice ad117 (h + (S.drop k).length) cap117)) ⟨l.base, l.term, l.ents.take h ++ S.drop k⟩ := ⟨⟨_, rfl, hek2⟩, hl0.base, hl0.term⟩
                    refine .e (.loadW ag25 sz25 rfl (.app <| .there <| .there <| .here) rfl) rfl rfl <| .on rfl <| .callP cal18 rfl rfl rfl (lCheck_ok hl2) <| .e (.neq rfl rfl) rfl rfl <| .nil <| .go ?_
                    refine .split 121 rfl (fun h121 => ?_) (fun h121 => ?_)
                    · skip
                      first | replace h121 := of_decide_eq_false ((Bool.not_eq_true' _).mp h121) | replace h121 := of_decide_eq_false (by simpa using h121)
                      refine .cond_true rfl <| .seq <| .region <| .e (.build bs25 zv25 rfl rfl) rfl rfl <| .on rfl <| .storeW sz25 rfl rfl rfl rfl rfl rfl (.app <| .there <| .here) <| .e (.assign rfl) rfl rfl ?_
                      refine .e (.assign rfl) rfl rfl <| .nil <| .go <| .ret <| .ret <| .sc_ret ?_
                      refine Post.rets rfl (.agg rfl ag25 sz25 (.app <| .there <| .here) rfl (.tmp rfl (.tmp rfl .nil))) rfl (Imm.le_trans (Imm.le_trans hI28 hI116) hK2) (fun w h => (Sat.tail (Sat.tail (Sat.tail (Sat.drop h))))) ?_
                      rw [hjB h49 (by omega) h61, joinB_at hkS hany hpart, joinAt_no (by rw [joinL_eq hkS hh]; exact h121)]
                      exact ⟨_, [], [], rfl, OwnS.nil, DR.nil, rfl⟩
                    · skip
                      first | replace h121 := of_decide_eq_true ((Bool.not_eq_false' _).mp h121) | replace h121 := of_decide_eq_true (by simpa using h121)
                      refine .cond_false rfl <| .skip <| .go <| .seq <| .region <| .e (.loadW ag25 sz25 rfl (.app <| .there <| .there <| .here) rfl) rfl rfl ?_
                      refine .e (.move rfl) rfl rfl <| .on rfl <| .storeW sz25 rfl rfl rfl rfl rfl rfl (.app <| .there <| .here) <| .e (.assign rfl) rfl rfl <| .e (.assign rfl) rfl rfl <| .nil <| .go ?_
                      refine .ret <| .sc_ret ?_
                      refine .thaw hK2t ?_
                      refine Post.rets rfl (.agg rfl ag25 sz25 (.app <| .app <| .there <| .here) rfl (.tmp rfl (.tmp rfl .nil))) rfl (Imm.le_trans hI28 hI116) (fun w h => (Sat.tail (Sat.rem (Sat.tail (Sat.rem (Sat.tail (Sat.rem (Sat.drop (Sat.rem h (Rem.app <| Rem.front))) (Rem.app <| Rem.here))) (Rem.app <| Rem.here))) (Rem.app <| Rem.here)))) ?_
                      rw [hjB h49 (by omega) h61, joinB_at hkS hany hpart, joinAt_yes (by rw [joinL_eq hkS hh]; exact h121), joinL_eq hkS hh, entD hkS]
                      exact ⟨_, _, ob117, rfl, (show OwnS 5 _ (l.ents.take h ++ S.drop k).length _ _ by rw [hlJ]; exact ho117), hdJ, rfl⟩
                · skip
                  replace h75 := of_decide_eq_false h75
                  refine .cond_false rfl ?_
                  refine .draw [(c1, _), (c3, _)] mixed (.cons (.there <| .there <| .here) (.cons .here .nil)) ?_
                  refine .t 0 rfl (.loadW ag25 sz25 rfl .here rfl) rfl rfl (by kernel_rfl) <| .t 1 rfl (.fieldAddr fo41_0 rfl) rfl rfl (by kernel_rfl) <| .t 2 rfl (.load ag22 rfl (.there <| .here) rfl) rfl rfl (by kernel_rfl) <| .t 4 rfl (.fieldAddr fo41_1 rfl) rfl rfl (by kernel_rfl) <| .t 5 rfl (.load ag22 rfl (.there <| .here) rfl) rfl rfl (by kernel_rfl) <| .one (i := 3) (by kernel_rfl) rfl rfl ?_
                  refine .callP cal34 rfl rfl rfl (lterm_ok hlk (by have := hix k (by omega); omega) (by omega)) ?_
                  refine ⟨(.cons (.there <| .there <| .here) (.cons .here .nil)), Imm.le_refl _, ?_⟩
                  refine .t 6 rfl (.neq rfl rfl) rfl rfl (by kernel_rfl) <| .t 7 rfl (.assign rfl) rfl rfl (by kernel_rfl) <| .done (by kernel_rfl) <| .go ?_
                  refine .split 75 rfl (fun h75_2 => ?_) (fun h75_2 => ?_)
                  · skip
                    first | replace h75_2 := of_decide_eq_false ((Bool.not_eq_true' _).mp h75_2) | replace h75_2 := of_decide_eq_false (by simpa using h75_2)
                    have hkS : k < S.length := by omega
                    have hpart : parts l S[k] = true := parts_term h75_2
                    refine .cond_true rfl <| .seq <| .region <| .e (.move rfl) rfl rfl <| .e (.move rfl) rfl rfl <| .e (.sliceLs sl23 rfl rfl rfl (by omega) (by omega)) rfl rfl ?_
                    refine .e (.assign rfl) rfl rfl <| .nil <| .go <| .exit <| .blk_other rfl <| .blk_other rfl ?_
                    refine .exit <| .exit <| .blk_exit <| .go <| .seq <| .seq ?_
                    refine .region <| .e (.move rfl) rfl rfl <| .e (.len sl23 rfl rfl) rfl rfl <| .e (.eql rfl rfl) rfl rfl <| .nil <| .go ?_
                    refine .split 101 rfl (fun h101 => ?_) (fun h101 => ?_)
                    · skip
                      replace h101 := of_decide_eq_true h101
                      exact absurd h101 (by omega)
                    · skip
                      replace h101 := of_decide_eq_false h101
                      obtain ⟨h, hh⟩ : ∃ h : Nat, S[k].index - l.base - 1 = (h : Int) := ⟨(S[k].index - l.base - 1).toNat, by have := hix k (by omega); omega⟩
                      have hhl : h ≤ l.ents.length := by have := part_le hix (by omega) hkS hany; omega
                      have ho28s := OwnS.take (q := 5) ho28 hhl
                      have hc28 := ho28.capLe
                      have hsd := SlR.fromS hv30 hkS
                      have hdl : (S.drop k).length = S.length - k := List.length_drop
                      refine .cond_false rfl <| .skip <| .go <| .seq <| .region ?_
                      refine .thaw hKt ?_
                      refine .e (.move rfl) rfl rfl ?_
                      obtain ⟨eb104, eo104, cs104, hd104, hat104, hr104⟩ := SlR.at_ hsd (k := 0) (by omega)
                      cases hd104
                      have e0 : (S.drop k)[0]'(by omega) = S[k] := by simp
                      rw [e0] at hr104
                      have he104 := hr104
                      obtain ⟨mv104, rfl, hmv104⟩ := hr104.ex
                      obtain ⟨ma104, mc104, rfl, -⟩ := hmv104
                      refine .e (.indexAddrL sl23 rfl rfl (show (0 : Int) = ((0 : Nat) : Int) from rfl) (by omega)) rfl rfl <| .e (.fieldAddr fo41_0 rfl) rfl rfl <| .e (.loadI ag22 rfl (hat104.cell (j := 0) rfl)) rfl rfl <| .e (.assign rfl) rfl rfl <| .nil <| .go ?_
                      refine .seq ?_
                      refine .draw [(c1, _)] mixed (.cons (.app <| .there <| .there <| .here) .nil) ?_
                      refine .t 0 rfl (.fieldAddr fo25_2 rfl) rfl rfl (by kernel_rfl) <| .t 1 rfl (.load ag23 rfl .here rfl) rfl rfl (by kernel_rfl) <| .t 2 rfl (.move rfl) rfl rfl (by kernel_rfl) <| .t 3 rfl (.fieldAddr fo25_0 rfl) rfl rfl (by kernel_rfl) <| .t 4 rfl (.load ag22 rfl .here rfl) rfl rfl (by kernel_rfl) <| .t 5 rfl (.sub rfl rfl (IntWalk.u64_in _ (by have := hix k (by omega); omega))) rfl rfl (by kernel_rfl) ?_
                      refine .t 6 rfl (.sub rfl rfl (IntWalk.u64_in _ (by have := hix k (by omega); omega))) rfl rfl (by kernel_rfl) <| .t 7 rfl (.sliceH sl23 rfl rfl hh (by omega)) rfl rfl (by kernel_rfl) <| .t 8 rfl (.move rfl) rfl rfl (by kernel_rfl) <| .one (i := 9) (by kernel_rfl) rfl rfl <| .call cal35 rfl rfl rfl (ownF_ok hsd (by have := List.length_drop (i := k) (l := S); omega) (fun e he => hSm e (List.mem_of_mem_drop he))) fun v116 I116 O116 hI116 hK116 => ?_
                      obtain ⟨ws116, ob116, ho116, hd116, rfl⟩ := hK116
                      obtain ⟨ad116, cap116, rfl⟩ := ho116.form
                      refine ⟨(.cons (.app <| .app <| .there <| .there <| .here) .nil), hI116, ?_⟩
                      refine .one (i := 10) (by kernel_rfl) rfl rfl <| .append Try.underlying23 Try.underlying23 sz41 by41 zv41 rfl rfl rfl (.app <| .front) ho28s (ho116.src (I := _) .front) hd116.1 (hd116.ones (by decide) fun _ _ h => h.ent.ones) (by omega) (by omega) rfl fun v117 ob117 ho117 => ?_
                      refine ⟨(.cons (.app <| .app <| .there <| .there <| .here) .nil), hI116, ?_⟩
                      refine .t 11 rfl (.fieldAddr fo25_2 rfl) rfl rfl (by kernel_rfl) ?_
                      obtain ⟨ad117, cap117, rfl⟩ := ho117.form
                      refine .late (i := 12) (by kernel_rfl) (by kernel_rfl) (by kernel_rfl) rfl rfl <| .store sz23 rfl rfl rfl rfl rfl rfl (.app <| .app <| .there <| .there <| .here) <| .go <| .seq <| .seq <| .region ?_
                      have hlJ : (l.ents.take h ++ S.drop k).length = h + (S.drop k).length := by simp; omega
                      have hdJ := ((hd28.take hhl).mono fun _ _ hx => hx.mono hI116).append (hd116.to fun _ _ hx => EntF.back hI28 hx)
                      refine .lend ho117 fun K2 hK2 hK2s hK2t => ?_
                      have hek2 : EntsR K2 _ (l.ents.take h ++ S.drop k) := hK2s (R := EntR) (hdJ.to fun _ _ hx => hx.ent.mono hK2) (by simp; omega)
                      have hl2 : LgR K2 (Lg.cells ⟨l.base, l.term, l.ents.take h ++ S.drop k⟩ (.slice ad117 (h + (S.drop k).length) cap117)) ⟨l.base, l.term, l.ents.take h ++ S.drop k⟩ := ⟨⟨_, rfl, hek2⟩, hl0.base, hl0.term⟩
                      refine .e (.loadW ag25 sz25 rfl (.app <| .there <| .there <| .here) rfl) rfl rfl <| .on rfl <| .callP cal18 rfl rfl rfl (lCheck_ok hl2) <| .e (.neq rfl rfl) rfl rfl <| .nil <| .go ?_
                      refine .split 121 rfl (fun h121 => ?_) (fun h121 => ?_)
                      · skip
                        first | replace h121 := of_decide_eq_false ((Bool.not_eq_true' _).mp h121) | replace h121 := of_decide_eq_false (by simpa using h121)
                        refine .cond_true rfl <| .seq <| .region <| .e (.build bs25 zv25 rfl rfl) rfl rfl <| .on rfl <| .storeW sz25 rfl rfl rfl rfl rfl rfl (.app <| .there <| .here) <| .e (.assign rfl) rfl rfl ?_
                        refine .e (.assign rfl) rfl rfl <| .nil <| .go <| .ret <| .ret <| .sc_ret ?_
                        refine Post.rets rfl (.agg rfl ag25 sz25 (.app <| .there <| .here) rfl (.tmp rfl (.tmp rfl .nil))) rfl (Imm.le_trans (Imm.le_trans hI28 hI116) hK2) (fun w h => (Sat.tail (Sat.tail (Sat.tail (Sat.drop h))))) ?_
                        rw [hjB h49 (by omega) h61, joinB_at hkS hany hpart, joinAt_no (by rw [joinL_eq hkS hh]; exact h121)]
                        exact ⟨_, [], [], rfl, OwnS.nil, DR.nil, rfl⟩
                      · skip
                        first | replace h121 := of_decide_eq_true ((Bool.not_eq_false' _).mp h121) | replace h121 := of_decide_eq_true (by simpa using h121)
                        refine .cond_false rfl <| .skip <| .go <| .seq <| .region <| .e (.loadW ag25 sz25 rfl (.app <| .there <| .there <| .here) rfl) rfl rfl ?_
                        refine .e (.move rfl) rfl rfl <| .on rfl <| .storeW sz25 rfl rfl rfl rfl rfl rfl (.app <| .there <| .here) <| .e (.assign rfl) rfl rfl <| .e (.assign rfl) rfl rfl <| .nil <| .go ?_
                        refine .ret <| .sc_ret ?_
                        refine .thaw hK2t ?_
                        refine Post.rets rfl (.agg rfl ag25 sz25 (.app <| .app <| .there <| .here) rfl (.tmp rfl (.tmp rfl .nil))) rfl (Imm.le_trans hI28 hI116) (fun w h => (Sat.tail (Sat.rem (Sat.tail (Sat.rem (Sat.tail (Sat.rem (Sat.drop (Sat.rem h (Rem.app <| Rem.front))) (Rem.app <| Rem.here))) (Rem.app <| Rem.here))) (Rem.app <| Rem.here)))) ?_
                        rw [hjB h49 (by omega) h61, joinB_at hkS hany hpart, joinAt_yes (by rw [joinL_eq hkS hh]; exact h121), joinL_eq hkS hh, entD hkS]
                        exact ⟨_, _, ob117, rfl, (show OwnS 5 _ (l.ents.take h ++ S.drop k).length _ _ by rw [hlJ]; exact ho117), hdJ, rfl⟩
                  · skip
                    first | replace h75_2 := of_decide_eq_true ((Bool.not_eq_false' _).mp h75_2) | replace h75_2 := of_decide_eq_true (by simpa using h75_2)
                    refine .cond_false rfl <| .seq <| .region <| .e (.move rfl) rfl rfl <| .e (.move rfl) rfl rfl <| .e (.len sl23 rfl rfl) rfl rfl ?_
                    refine .e (.sub rfl rfl (wrap_pred (by omega) (by omega))) rfl rfl <| .e (.eql rfl rfl) rfl rfl <| .e (.assign rfl) rfl rfl <| .nil <| .go ?_
                    refine .split 91 rfl (fun h91 => ?_) (fun h91 => ?_)
                    · skip
                      replace h91 := of_decide_eq_true h91
                      refine .cond_true rfl <| .seq <| .region <| .e (.loadW ag25 sz25 rfl (.there <| .there <| .here) rfl) rfl rfl <| .on rfl <| .storeW sz25 rfl rfl rfl rfl rfl rfl (.there <| .here) <| .e (.assign rfl) rfl rfl ?_
                      refine .e (.assign rfl) rfl rfl <| .nil <| .go <| .ret <| .blk_ret <| .blk_ret ?_
                      refine .ret <| .ret <| .blk_ret <| .ret <| .sc_ret ?_
                      refine .thaw hKt ?_
                      refine Post.rets rfl (.agg rfl ag25 sz25 (.app <| .there <| .here) rfl (.tmp rfl (.tmp rfl .nil))) rfl hI28 (fun w h => (Sat.tail (Sat.rem (Sat.tail (Sat.rem (Sat.tail (Sat.rem h (Rem.app <| Rem.here))) (Rem.app <| Rem.here))) (Rem.app <| Rem.here)))) ?_
                      rw [hjB h49 (by omega) h61, joinB_none (any_nil_of (k := k + 1) (by omega) (any_take_step (by omega) hany (parts_no (by omega) (by omega))))]
                      exact ⟨_, ws28, ob28, rfl, ho28, hd28, rfl⟩
                    · skip
                      replace h91 := of_decide_eq_false h91
                      refine .cond_false rfl <| .skip <| .blk_normal <| .blk_normal <| .go <| .region ?_
                      refine .e (.add rfl rfl (by first | exact wrap_succ (by omega) | exact IntWalk.i64_in _ (by omega) | exact rfl)) rfl rfl <| .e (.move rfl) rfl rfl <| .nil ?_
                      refine .tail ?_
                      exact .mid (k + 1) ⟨by omega, by omega, by omega, any_take_step (by omega) hany (parts_no (by omega) (by omega))⟩ ⟨rfl, rfl, trivial⟩ rfl rfl (.pre 32 rfl (.app rfl .base))
              · skip
                replace h71 := of_decide_eq_false h71
                refine .cond_false rfl <| .exit <| .exit <| .exit <| .blk_exit <| .go ?_
                refine .seq <| .seq <| .region <| .e (.move rfl) rfl rfl <| .e (.len sl23 rfl rfl) rfl rfl <| .e (.eql rfl rfl) rfl rfl ?_
                refine .nil <| .go ?_
                refine .split 101 rfl (fun h101 => ?_) (fun h101 => ?_)
                · skip
                  replace h101 := of_decide_eq_true h101
                  refine .cond_true rfl <| .seq <| .region <| .e (.loadW ag25 sz25 rfl (.there <| .here) rfl) rfl rfl <| .on rfl <| .storeW sz25 rfl rfl rfl rfl rfl rfl .here <| .e (.assign rfl) rfl rfl ?_
                  refine .e (.assign rfl) rfl rfl <| .nil <| .go <| .ret <| .ret <| .sc_ret ?_
                  refine .thaw hKt ?_
                  refine Post.rets rfl (.agg rfl ag25 sz25 (.app <| .here) rfl (.tmp rfl (.tmp rfl .nil))) rfl hI28 (fun w h => (Sat.tail (Sat.rem (Sat.tail (Sat.rem h (Rem.app <| Rem.here))) (Rem.app <| Rem.here)))) ?_
                  rw [hjB h49 (by omega) h61, joinB_none (any_nil_of (k := k) (by omega) hany)]
                  exact ⟨_, ws28, ob28, rfl, ho28, hd28, rfl⟩
                · skip
                  replace h101 := of_decide_eq_false h101
                  exact absurd (hkn (by omega)) (by omega)

end Go.Proofs.Yteajcmnbjpbnpaa
