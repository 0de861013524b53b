/- Walks of functions over a symbolic memory, printed by a program of the session. -/
import Derived.Test.YteajcmnbjpbnpaaLm
namespace Go.Proofs.Yteajcmnbjpbnpaa
open Go.Sy
set_option linter.unusedSimpArgs false
set_option linter.unusedVariables false

theorem ref_ix {x i : Int} {k : Nat} (hx : U64 x) (hi : U64 i) (hk : k < 9223372036854775808) : (IntKind.u64.wrap (IntKind.u64.wrap (x - IntKind.u64.wrap (k : Int)) - 1) = i ∧ ¬x ≤ i) ↔ x = i + (k : Int) + 1 := by
  have e : IntKind.u64.wrap (k : Int) = (k : Int) := IntWalk.u64_in _ (by omega)
  rw [e]
  unfold U64 at *
  simp [IntKind.wrap, IntKind.bits, IntKind.signed]
  omega
theorem adj_k {l : Lg} {i : Int} {s : List Ent} {k : Nat} (hb : bOk i s = true) (hk : k ≤ s.length) (h1 : k = 0 ∨ i + (k : Int) ≤ l.base) (h2 : k = s.length ∨ ∃ h : k < s.length, ¬s[k].index ≤ l.base) : adjN l i s = k := by
  have h3 : k = s.length ∨ l.base < i + (k : Int) + 1 := by
    rcases h2 with h | ⟨h, h2⟩
    · exact .inl h
    · have := b_ix hb k h; exact .inr (by omega)
  clear h2
  unfold adjN
  split <;> omega
theorem adj_t {l : Lg} {i t : Int} {s : List Ent} (h : ¬adjI l i s < l.base) : (if adjN l i s = 0 then t else l.term) = adjT l i t := by
  unfold adjI adjN at h
  unfold adjN adjT
  by_cases hb : i < l.base
  · rw [if_pos hb] at h
    rw [if_pos hb, if_pos hb, if_neg (by omega)]
  · rw [if_neg hb, if_neg hb, if_pos rfl]

set_option maxHeartbeats 8000000 in
set_option maxRecDepth 20000 in
theorem rJoin_ok {I : Imm} {O : Own} {lc : List Value} {l : Lg} (hl : LgR I lc l) {v : Value} {s : List Ent} (hs : EntsR I v s) {i t : Int} (hi : U64 i) (ht : U64 t) (hL : l.ents.length * 64 ≤ 140737488351232) (hM : ∀ e ∈ l.ents, e.members.length * 8 ≤ 140737488351232) (hLs : s.length * 64 ≤ 140737488351232) (hMs : ∀ e ∈ s, e.members.length * 8 ≤ 140737488351232) (hLL : (l.ents.length + s.length) * 64 ≤ 140737488351232) :
    Go.Sy.Does Try.prog 12 [.agg ⟨lc⟩, .int .u64 i, .int .u64 t, v] I O (fun u I' O' => ∃ cs, u = .tuple ⟨[.agg ⟨cs⟩, .int .u64 (joinR l i t s).2.1, .int .i64 (joinR l i t s).2.2]⟩ ∧ LgR I' cs (joinR l i t s).1 ∧ O' = O) := by
  have hl0 := hl
  obtain ⟨ev, rfl, hev⟩ := hl.ex
  have hev0 := hev
  obtain ⟨va, vcap, rfl, hv1, hv2, -⟩ := hev
  have hbase := hl0.base
  have hterm := hl0.term
  unfold U64 at hbase hterm
  have hu : ∀ j (hj : j < l.ents.length), U64 l.ents[j].index := fun j hj => by
    obtain ⟨_, _, _, _, _, hr⟩ := SlR.at_ hev0 hj
    exact hr.index
  have hut : ∀ j (hj : j < l.ents.length), U64 l.ents[j].term := fun j hj => by
    obtain ⟨_, _, _, _, _, hr⟩ := SlR.at_ hev0 hj
    exact hr.term
  have hs0 := hs
  obtain ⟨sa, scap, rfl, hs1, hs2, -⟩ := hs
  have hi0 := hi
  have ht0 := ht
  unfold U64 at hi0 ht0
  refine Go.Sy.Does.enter Try.func12 rfl Try.ntmps12 rfl ?_
  refine .seq <| .region <| .on rfl <| .box rfl rfl rfl fun c1 _ _ => .on rfl <| .alloc zr25 rfl fun c2 _ _ => .e (.assign rfl) rfl rfl <| .e (.assign rfl) rfl rfl ?_
  refine .nil <| .go <| .seq <| .seq <| .region <| .e (.loadW ag25 sz25 rfl (.there <| .here) rfl) rfl rfl ?_
  refine .on rfl <| .callP cal30 rfl rfl rfl (rlCheck_ok hl0) <| .e (.neq rfl rfl) rfl rfl <| .nil <| .go ?_
  refine .split 19 rfl (fun h19 => ?_) (fun h19 => ?_)
  · skip
    first | replace h19 := of_decide_eq_false ((Bool.not_eq_true' _).mp h19) | replace h19 := of_decide_eq_false (by simpa using h19)
    refine .cond_true rfl <| .seq <| .region <| .e (.build bs25 zv25 rfl rfl) rfl rfl <| .on rfl <| .storeW sz25 rfl rfl rfl rfl rfl rfl .here <| .e (.assign rfl) rfl rfl ?_
    refine .e (.assign rfl) rfl rfl <| .nil <| .go <| .ret <| .ret ?_
    refine Post.rets rfl (.agg rfl ag25 sz25 .here rfl (.tmp rfl (.tmp rfl .nil))) rfl (Imm.le_refl _) (fun w h => (Sat.tail (Sat.tail h))) ?_
    rw [joinR_no h19 rfl]
    exact ⟨_, rfl, zLgR, rfl⟩
  · skip
    first | replace h19 := of_decide_eq_true ((Bool.not_eq_false' _).mp h19) | replace h19 := of_decide_eq_true (by simpa using h19)
    have hok := logOk_why h19
    have hlok : logOk l = true := hok
    have hle := logTo_le hl0.base hu (Nat.le_refl _) hok
    have hae := at_end hl0.base (show endOf l ≤ 18446744073709551615 by unfold endOf; omega)
    have heo : endOf l = l.base + (l.ents.length : Int) := rfl
    refine .cond_false rfl <| .skip <| .go <| .seq <| .seq <| .region ?_
    refine .e (.move rfl) rfl rfl <| .e (.len sl23 rfl rfl) rfl rfl <| .e (.move rfl) rfl rfl <| .nil <| .go <| .block ?_
    refine .loopM [9, 10, 11, 12, 23, 24, 25, 26, 27, 28, 29, 30, 31, 32, 33, 34, 35, 36, 37, 38, 39, 40, 41, 42, 43, 44, 45, 46, 47, 48] (fun k => s.length - k) (fun k => k ≤ s.length ∧ bTo i s k = true) (fun k => [(23, .int .i64 k)]) (fun _ => _) (fun _ => _) (0) ⟨by omega, rfl⟩ ⟨rfl, trivial⟩ rfl rfl ?_
    intro k hk
    obtain ⟨hk, hb⟩ := hk
    refine .seq <| .region <| .e (.lss rfl rfl) rfl rfl <| .nil <| .go <| .seq ?_
    refine .split 24 rfl (fun h24 => ?_) (fun h24 => ?_)
    · skip
      replace h24 := of_decide_eq_true h24
      refine .cond_true rfl <| .skip <| .go <| .seq <| .block <| .seq ?_
      refine .region <| .e (.move rfl) rfl rfl ?_
      obtain ⟨eb26, eo26, cs26, hd26, hat26, hr26⟩ := SlR.at_ hs0 (k := k) (by omega)
      cases hd26
      have he26 := hr26
      obtain ⟨mv26, rfl, hmv26⟩ := hr26.ex
      obtain ⟨ma26, mc26, rfl, -⟩ := hmv26
      have hx26 := he26.index
      refine .e (.indexAddrL sl23 rfl rfl rfl (by omega)) rfl rfl <| .e (.loadIA ag41 sz41 rfl hat26 rfl) rfl rfl <| .on rfl <| .alloc zr41 rfl fun c3 _ _ => .e (.assign rfl) rfl rfl <| .on rfl <| .storeW sz41 rfl rfl rfl rfl rfl rfl .here <| .nil ?_
      refine .go <| .seq <| .region <| .e (.loadW ag41 sz41 rfl .here rfl) rfl rfl <| .on rfl <| .callP cal36 rfl rfl rfl (r3Check_ok he26) <| .e (.neq rfl rfl) rfl rfl ?_
      refine .e (.move rfl) rfl rfl ?_
      refine .split 31 rfl (fun h31 => ?_) (fun h31 => ?_)
      · skip
        first | replace h31 := of_decide_eq_false ((Bool.not_eq_true' _).mp h31) | replace h31 := of_decide_eq_false (by simpa using h31)
        refine .off rfl rfl <| .off rfl rfl <| .off rfl rfl <| .off rfl rfl <| .off rfl rfl <| .off rfl rfl ?_
        refine .off rfl rfl <| .off rfl rfl <| .e (.pickT rfl rfl) rfl rfl <| .e (.move rfl) rfl rfl <| .off rfl rfl <| .off rfl rfl ?_
        refine .off rfl rfl <| .off rfl rfl <| .e (.pickT rfl rfl) rfl rfl <| .nil <| .go <| .cond_true rfl ?_
        refine .seq <| .region <| .e (.build bs25 zv25 rfl rfl) rfl rfl <| .on rfl <| .storeW sz25 rfl rfl rfl rfl rfl rfl (.there <| .here) <| .e (.assign rfl) rfl rfl <| .e (.assign rfl) rfl rfl ?_
        refine .nil <| .go <| .ret <| .blk_ret <| .ret <| .ret ?_
        refine .blk_ret <| .ret ?_
        refine Post.rets rfl (.agg rfl ag25 sz25 (.there <| .here) rfl (.tmp rfl (.tmp rfl .nil))) rfl (Imm.le_refl _) (fun w h => (Sat.tail (Sat.tail (Sat.tail h)))) ?_
        rw [joinR_form hlok (bTo_bad (k := k) (by omega) (bAt_no (by omega) (.inl (ent_no h31))))]
        exact ⟨_, rfl, zLgR, rfl⟩
      · skip
        first | replace h31 := of_decide_eq_true ((Bool.not_eq_false' _).mp h31) | replace h31 := of_decide_eq_true (by simpa using h31)
        refine .e (.fieldAddr fo41_0 rfl) rfl rfl <| .e (.load ag22 rfl .here rfl) rfl rfl <| .e (.move rfl) rfl rfl <| .e (.conv Try.underlying3 Try.underlying22 rfl) rfl rfl <| .e (.sub rfl rfl (by first | exact wrap_succ (by omega) | exact IntWalk.i64_in _ (by omega) | exact rfl)) rfl rfl <| .e (.sub rfl rfl (by first | exact wrap_succ (by omega) | exact IntWalk.i64_in _ (by omega) | exact rfl)) rfl rfl ?_
        refine .e (.move rfl) rfl rfl <| .e (.neq rfl rfl) rfl rfl <| .e (.pickF rfl rfl) rfl rfl <| .e (.move rfl) rfl rfl ?_
        refine .split 41 rfl (fun h41 => ?_) (fun h41 => ?_)
        · skip
          first | replace h41 := of_decide_eq_false ((Bool.not_eq_true' _).mp h41) | replace h41 := of_decide_eq_false (by simpa using h41)
          refine .off rfl rfl <| .off rfl rfl <| .off rfl rfl <| .off rfl rfl <| .e (.pickT rfl rfl) rfl rfl <| .nil ?_
          refine .go <| .cond_true rfl <| .seq <| .region <| .e (.build bs25 zv25 rfl rfl) rfl rfl <| .on rfl <| .storeW sz25 rfl rfl rfl rfl rfl rfl (.there <| .here) ?_
          refine .e (.assign rfl) rfl rfl <| .e (.assign rfl) rfl rfl <| .nil <| .go <| .ret <| .blk_ret ?_
          refine .ret <| .ret <| .blk_ret <| .ret ?_
          refine Post.rets rfl (.agg rfl ag25 sz25 (.there <| .here) rfl (.tmp rfl (.tmp rfl .nil))) rfl (Imm.le_refl _) (fun w h => (Sat.tail (Sat.tail (Sat.tail h)))) ?_
          rw [joinR_form hlok (bTo_bad (k := k) (by omega) (bAt_no (by omega) (.inr fun e => h41 ((ref_ix (k := k) hx26 hi (by omega)).2 e).1)))]
          exact ⟨_, rfl, zLgR, rfl⟩
        · skip
          first | replace h41 := of_decide_eq_true ((Bool.not_eq_false' _).mp h41) | replace h41 := of_decide_eq_true (by simpa using h41)
          refine .e (.fieldAddr fo41_0 rfl) rfl rfl <| .e (.load ag22 rfl .here rfl) rfl rfl <| .e (.move rfl) rfl rfl <| .e (.leq rfl rfl) rfl rfl <| .e (.pickF rfl rfl) rfl rfl <| .nil ?_
          refine .go ?_
          refine .split 46 rfl (fun h46 => ?_) (fun h46 => ?_)
          · skip
            replace h46 := of_decide_eq_true h46
            refine .cond_true rfl <| .seq <| .region <| .e (.build bs25 zv25 rfl rfl) rfl rfl <| .on rfl <| .storeW sz25 rfl rfl rfl rfl rfl rfl (.there <| .here) <| .e (.assign rfl) rfl rfl ?_
            refine .e (.assign rfl) rfl rfl <| .nil <| .go <| .ret <| .blk_ret <| .ret ?_
            refine .ret <| .blk_ret <| .ret ?_
            refine Post.rets rfl (.agg rfl ag25 sz25 (.there <| .here) rfl (.tmp rfl (.tmp rfl .nil))) rfl (Imm.le_refl _) (fun w h => (Sat.tail (Sat.tail (Sat.tail h)))) ?_
            rw [joinR_form hlok (bTo_bad (k := k) (by omega) (bAt_no (by omega) (.inr fun e => ((ref_ix (k := k) hx26 hi (by omega)).2 e).2 h46)))]
            exact ⟨_, rfl, zLgR, rfl⟩
          · skip
            replace h46 := of_decide_eq_false h46
            refine .cond_false rfl <| .skip <| .blk_normal <| .go <| .region <| .e (.add rfl rfl (by first | exact wrap_succ (by omega) | exact IntWalk.i64_in _ (by omega) | exact rfl)) rfl rfl ?_
            refine .e (.move rfl) rfl rfl <| .nil ?_
            refine .tail ?_
            exact .mid (k + 1) ⟨by omega, by omega, by rw [bTo_succ, hb, bAt_yes (by omega) (ent_of h31) ((ref_ix (k := k) hx26 hi (by omega)).1 ⟨h41, h46⟩)]; rfl⟩ ⟨rfl, trivial⟩ rfl rfl (.pre 31 rfl (.app rfl .base))
    · skip
      replace h24 := of_decide_eq_false h24
      have hbok : bOk i s = true := (show bOk i s = bTo i s k by unfold bOk; rw [show k = s.length by omega]).trans hb
      refine .cond_false rfl <| .exit <| .exit <| .exit <| .blk_exit <| .go ?_
      refine .seq <| .region <| .e (.loadW ag25 sz25 rfl (.there <| .here) rfl) rfl rfl <| .on rfl <| .call cal9 rfl rfl rfl (rCopy_ok hl0 hL hM) fun v50 I50 O50 hI50 hK50 => ?_
      obtain ⟨ev50, ws50, ob50, rfl, ho50, hd50, rfl⟩ := hK50
      obtain ⟨ad50, cap50, rfl⟩ := ho50.form
      refine .lend ho50 fun K hK hKs hKt => ?_
      have hek : EntsR K _ l.ents := hKs (R := EntR) (hd50.mono fun _ _ h => h.mono hK) rfl
      have hlk : LgR K (l.cells (.slice ad50 l.ents.length cap50)) l := ⟨⟨_, rfl, hek⟩, hl0.base, hl0.term⟩
      refine .on rfl <| .storeW sz25 rfl rfl rfl rfl rfl rfl (.there <| .here) <| .nil <| .go ?_
      refine .meetO (σ := Value) [1, 2, 3, 51, 52, 53, 54, 55, 56, 57, 58, 59, 60, 61, 62, 63, 64, 65, 66, 67, 68, 69, 70] (fun v => EntsR I50 v (s.drop (adjN l i s))) (fun v => [(1, .int .u64 (adjI l i s)), (2, .int .u64 (if adjN l i s = 0 then t else l.term)), (3, v)]) (fun _ => K) (fun R _ => R) ?_ ?_
      · skip
        refine .block ?_
        refine .loopM [1, 2, 3, 51, 52, 53, 54, 55, 56, 57, 58, 59, 60, 61, 62, 63, 64, 65, 66, 67, 68, 69, 70] (fun p => s.length - p.1) (fun p => p.1 ≤ s.length ∧ EntsR I50 p.2 (s.drop p.1) ∧ (p.1 = 0 ∨ i + (p.1 : Int) ≤ l.base)) (fun p => [(1, .int .u64 (i + (p.1 : Int))), (2, .int .u64 (if p.1 = 0 then t else l.term)), (3, p.2)]) (fun _ => _) (fun _ => _) (((0, .slice sa s.length scap) : Nat × Value)) ⟨Nat.zero_le _, hs0.mono hI50, .inl rfl⟩ ⟨congrArg (fun x => some (Value.int .u64 x)) (show i = i + ((0 : Nat) : Int) by omega), rfl, rfl, trivial⟩ rfl rfl ?_
        intro ⟨k, vk⟩ hk
        dsimp only at hk ⊢
        obtain ⟨hk, hv, hb⟩ := hk
        have hv0 := hv
        obtain ⟨va3, vc3, rfl, hw1, hw2, -⟩ := hv
        have hvK := hv0.mono hK
        have hdl := List.length_drop (i := k) (l := s)
        refine .seq <| .seq ?_
        refine .draw [(c1, _)] mixed (.cons (.there <| .here) .nil) ?_
        refine .t 0 rfl (.move rfl) rfl rfl (by kernel_rfl) <| .t 1 rfl (.len sl23 rfl rfl) rfl rfl (by kernel_rfl) <| .t 2 rfl (.gtr rfl rfl) rfl rfl (by kernel_rfl) <| .t 3 rfl (.move rfl) rfl rfl (by kernel_rfl) ?_
        refine .split 54 rfl (fun h54 => ?_) (fun h54 => ?_)
        · skip
          replace h54 := of_decide_eq_true h54
          refine .t 4 rfl (.move rfl) rfl rfl (by kernel_rfl) ?_
          obtain ⟨eb56, eo56, cs56, hd56, hat56, hr56⟩ := SlR.at_ hvK (k := 0) (by omega)
          cases hd56
          have e56 : (s.drop k)[0]'(by rw [List.length_drop]; omega) = s[k]'(by omega) := by simp
          rw [e56] at hr56
          have he56 := hr56
          obtain ⟨mv56, rfl, hmv56⟩ := hr56.ex
          obtain ⟨ma56, mc56, rfl, -⟩ := hmv56
          refine .t 5 rfl (.indexAddrL sl23 rfl rfl (show (0 : Int) = ((0 : Nat) : Int) from rfl) (by omega)) rfl rfl (by kernel_rfl) <| .t 6 rfl (.fieldAddr fo41_0 rfl) rfl rfl (by kernel_rfl) <| .t 7 rfl (.loadI ag22 rfl (hat56.cell (j := 0) rfl)) rfl rfl (by kernel_rfl) <| .t 8 rfl (.fieldAddr fo25_0 rfl) rfl rfl (by kernel_rfl) <| .t 9 rfl (.load ag22 rfl .here rfl) rfl rfl (by kernel_rfl) <| .t 10 rfl (.leq rfl rfl) rfl rfl (by kernel_rfl) ?_
          refine .t 11 rfl (.pickT rfl rfl) rfl rfl (by kernel_rfl) <| .done (by kernel_rfl) <| .go ?_
          refine .split 62 rfl (fun h62 => ?_) (fun h62 => ?_)
          · skip
            replace h62 := of_decide_eq_true h62
            refine .cond_true rfl <| .skip <| .go <| .block <| .seq <| .region ?_
            refine .e (.move rfl) rfl rfl ?_
            obtain ⟨eb64, eo64, cs64, hd64, hat64, hr64⟩ := SlR.at_ hvK (k := 0) (by omega)
            cases hd64
            have e64 : (s.drop k)[0]'(by rw [List.length_drop]; omega) = s[k]'(by omega) := by simp
            rw [e64] at hr64
            have he64 := hr64
            obtain ⟨mv64, rfl, hmv64⟩ := hr64.ex
            obtain ⟨ma64, mc64, rfl, -⟩ := hmv64
            refine .e (.indexAddrL sl23 rfl rfl (show (0 : Int) = ((0 : Nat) : Int) from rfl) (by omega)) rfl rfl <| .e (.fieldAddr fo41_0 rfl) rfl rfl <| .e (.loadI ag22 rfl (hat64.cell (j := 0) rfl)) rfl rfl <| .e (.assign rfl) rfl rfl <| .nil <| .go ?_
            refine .seq <| .region <| .e (.fieldAddr fo25_1 rfl) rfl rfl <| .e (.load ag22 rfl (.there <| .here) rfl) rfl rfl <| .e (.assign rfl) rfl rfl <| .nil ?_
            refine .go <| .region <| .e (.move rfl) rfl rfl <| .e (.sliceL sl23 rfl rfl (show (1 : Int) = ((1 : Nat) : Int) from rfl) (by omega)) rfl rfl <| .e (.assign rfl) rfl rfl <| .nil ?_
            refine .blk_normal ?_
            have hbk := b_ix hbok k (by omega)
            have hvn := SlR.from hv0 (show 1 ≤ (s.drop k).length by omega)
            rw [List.drop_drop] at hvn
            exact .mid ((k + 1, _)) ⟨by dsimp only; omega, by dsimp only; omega, hvn, .inr (by dsimp only; omega)⟩ ⟨congrArg (fun x => some (Value.int .u64 x)) (show _ = i + ((k + 1 : Nat) : Int) by omega), congrArg (fun x => some (Value.int .u64 x)) (if_neg (Nat.succ_ne_zero k)).symm, rfl, trivial⟩ rfl rfl (.pre 25 rfl (.app rfl .base))
          · skip
            replace h62 := of_decide_eq_false h62
            refine .cond_false rfl <| .exit <| .exit <| .exit <| .blk_exit ?_
            have hkN := adj_k (l := l) hbok hk hb (.inr ⟨by omega, by omega⟩)
            exact .mid (_) (by rw [hkN]; exact hv0) ⟨congrArg (fun x => some (Value.int .u64 x)) (show i + (k : Int) = adjI l i s by unfold adjI; rw [hkN]), congrArg (fun x => some (Value.int .u64 x)) (show (if k = 0 then t else l.term) = (if adjN l i s = 0 then t else l.term) by rw [hkN]), rfl, trivial⟩ rfl rfl (.pre 14 rfl (.app rfl (.del rfl .self)))
        · skip
          replace h54 := of_decide_eq_false h54
          refine .s 4 rfl rfl rfl (by kernel_rfl) <| .s 5 rfl rfl rfl (by kernel_rfl) <| .s 6 rfl rfl rfl (by kernel_rfl) <| .s 7 rfl rfl rfl (by kernel_rfl) <| .s 8 rfl rfl rfl (by kernel_rfl) <| .s 9 rfl rfl rfl (by kernel_rfl) ?_
          refine .s 10 rfl rfl rfl (by kernel_rfl) <| .t 11 rfl (.pickF rfl rfl) rfl rfl (by kernel_rfl) <| .done (by kernel_rfl) <| .go <| .cond_false rfl <| .exit ?_
          refine .exit <| .exit <| .blk_exit ?_
          have hkN := adj_k (l := l) hbok hk hb (.inl (by omega))
          exact .mid (_) (by rw [hkN]; exact hv0) ⟨congrArg (fun x => some (Value.int .u64 x)) (show i + (k : Int) = adjI l i s by unfold adjI; rw [hkN]), congrArg (fun x => some (Value.int .u64 x)) (show (if k = 0 then t else l.term) = (if adjN l i s = 0 then t else l.term) by rw [hkN]), rfl, trivial⟩ rfl rfl (.pre 13 rfl (.app rfl (.del rfl .self)))
      · intro v3 hv3
        have hv30 := hv3
        obtain ⟨ta, tcap, rfl, hv31, hv32, -⟩ := hv3
        obtain ⟨S, hS⟩ : ∃ S, s.drop (adjN l i s) = S := ⟨_, rfl⟩
        have hix := adj_ix (l := l) hbok
        have hSl : S.length ≤ s.length := by rw [← hS, List.length_drop]; omega
        have hSm : ∀ e ∈ S, e.members.length * 8 ≤ 140737488351232 := fun e he => hMs e (List.mem_of_mem_drop (hS ▸ he))
        have hjB := @joinR_in l i t s hlok hbok
        have hat := @adj_t l i t s
        rw [hS] at hv30 hv31 hix hjB
        rw [hS]
        obtain ⟨T2, hT2⟩ : ∃ x, (if adjN l i s = 0 then t else l.term) = x := ⟨_, rfl⟩
        obtain ⟨i', hi'⟩ : ∃ x, adjI l i s = x := ⟨_, rfl⟩
        obtain ⟨t', ht'⟩ : ∃ x, adjT l i t = x := ⟨_, rfl⟩
        have hold := @joinR_old l i t s hlok hbok
        have hfar := @joinR_far l i t s hlok hbok
        have hgap := @joinR_gap l i t s hlok hbok
        rw [hi'] at hix hold
        simp only [hi', ht'] at hfar hgap hjB
        rw [hT2, hi', ht'] at hat
        rw [hi', hT2]
        have hv3K := hv30.mono hK
        refine .seq <| .seq <| .region <| .e (.move rfl) rfl rfl <| .e (.fieldAddr fo25_0 rfl) rfl rfl <| .e (.load ag22 rfl (.there <| .here) rfl) rfl rfl ?_
        refine .e (.lss rfl rfl) rfl rfl <| .nil <| .go ?_
        refine .split 74 rfl (fun h74 => ?_) (fun h74 => ?_)
        · skip
          replace h74 := of_decide_eq_true h74
          refine .cond_true rfl <| .seq <| .region <| .e (.loadW ag25 sz25 rfl (.there <| .here) rfl) rfl rfl <| .on rfl <| .storeW sz25 rfl rfl rfl rfl rfl rfl .here <| .e (.assign rfl) rfl rfl ?_
          refine .e (.assign rfl) rfl rfl <| .nil <| .go <| .ret <| .ret ?_
          refine Post.rets rfl (.agg rfl ag25 sz25 .here rfl (.tmp rfl (.tmp rfl .nil))) rfl (Imm.le_trans hI50 hK) (fun w h => (Sat.tail (Sat.tail h))) ?_
          rw [hold h74]
          exact ⟨_, rfl, hlk, rfl⟩
        · skip
          replace h74 := of_decide_eq_false h74
          refine .cond_false rfl <| .skip <| .go <| .seq <| .region <| .e (.loadW ag25 sz25 rfl (.there <| .here) rfl) rfl rfl ?_
          refine .on rfl <| .callP cal37 rfl rfl rfl (rLast_ok hlk hok) <| .e (.move rfl) rfl rfl <| .e (.extract rfl rfl) rfl rfl <| .e (.extract rfl rfl) rfl rfl <| .e (.assign rfl) rfl rfl <| .e (.assign rfl) rfl rfl ?_
          refine .nil <| .go <| .seq <| .seq <| .region <| .e (.move rfl) rfl rfl ?_
          refine .e (.move rfl) rfl rfl <| .e (.gtr rfl rfl) rfl rfl <| .nil <| .go ?_
          refine .split 83 rfl (fun h83 => ?_) (fun h83 => ?_)
          · skip
            replace h83 := of_decide_eq_true h83
            refine .cond_true rfl <| .seq <| .region <| .e (.build bs25 zv25 rfl rfl) rfl rfl <| .on rfl <| .storeW sz25 rfl rfl rfl rfl rfl rfl .here <| .e (.assign rfl) rfl rfl ?_
            refine .e (.assign rfl) rfl rfl <| .nil <| .go <| .ret <| .ret ?_
            refine Post.rets rfl (.agg rfl ag25 sz25 .here rfl (.tmp rfl (.tmp rfl .nil))) rfl (Imm.le_trans hI50 hK) (fun w h => (Sat.tail (Sat.tail h))) ?_
            rw [hfar h74 (by omega)]
            exact ⟨_, rfl, zLgR, rfl⟩
          · skip
            replace h83 := of_decide_eq_false h83
            refine .cond_false rfl <| .skip <| .go <| .seq <| .seq <| .region ?_
            refine .e (.loadW ag25 sz25 rfl (.there <| .here) rfl) rfl rfl <| .e (.move rfl) rfl rfl <| .on rfl <| .callP cal38 rfl rfl rfl (rat_ok hlk (by omega) (by omega)) <| .e (.move rfl) rfl rfl <| .e (.neq rfl rfl) rfl rfl <| .nil ?_
            refine .go ?_
            refine .split 89 rfl (fun h89 => ?_) (fun h89 => ?_)
            · skip
              first | replace h89 := of_decide_eq_false ((Bool.not_eq_true' _).mp h89) | replace h89 := of_decide_eq_false (by simpa using h89)
              refine .cond_true rfl <| .seq <| .region <| .e (.build bs25 zv25 rfl rfl) rfl rfl <| .on rfl <| .storeW sz25 rfl rfl rfl rfl rfl rfl .here <| .e (.assign rfl) rfl rfl ?_
              refine .e (.assign rfl) rfl rfl <| .nil <| .go <| .ret <| .ret ?_
              refine Post.rets rfl (.agg rfl ag25 sz25 .here rfl (.tmp rfl (.tmp rfl .nil))) rfl (Imm.le_trans hI50 hK) (fun w h => (Sat.tail (Sat.tail h))) ?_
              rw [hgap h74 (by omega) (by rw [← hat h74]; exact h89)]
              exact ⟨_, rfl, zLgR, rfl⟩
            · skip
              first | replace h89 := of_decide_eq_true ((Bool.not_eq_false' _).mp h89) | replace h89 := of_decide_eq_true (by simpa using h89)
              refine .cond_false rfl <| .skip <| .go <| .seq <| .seq <| .region ?_
              refine .e (.move rfl) rfl rfl <| .e (.len sl23 rfl rfl) rfl rfl <| .e (.move rfl) rfl rfl <| .nil <| .go <| .block ?_
              refine .loopM [9, 10, 13, 15, 16, 93, 94, 95, 96, 97, 98, 99, 100, 101, 102, 103, 104, 105, 106, 107, 108, 109, 110, 111, 112, 113, 114, 115, 116, 117, 118, 119, 120, 121, 122, 123, 124, 125, 126, 127, 128, 129, 130, 131, 132, 133, 134, 135, 136, 137, 138] (fun k => S.length - k) (fun k => k ≤ S.length ∧ (S.take k).any (parts l) = false) (fun k => [(93, .int .i64 k)]) (fun _ => _) (fun _ => _) (0) ⟨by omega, rfl⟩ ⟨rfl, trivial⟩ rfl rfl ?_
              intro k hk
              obtain ⟨hk, hany⟩ := hk
              refine .seq <| .region <| .e (.lss rfl rfl) rfl rfl <| .nil <| .go <| .seq ?_
              refine .split 94 rfl (fun h94 => ?_) (fun h94 => ?_)
              · skip
                replace h94 := of_decide_eq_true h94
                refine .cond_true rfl <| .skip <| .go <| .seq <| .block <| .seq ?_
                refine .region <| .e (.move rfl) rfl rfl ?_
                obtain ⟨eb96, eo96, cs96, hd96, hat96, hr96⟩ := SlR.at_ hv3K (k := k) (by omega)
                cases hd96
                have he96 := hr96
                obtain ⟨mv96, rfl, hmv96⟩ := hr96.ex
                obtain ⟨ma96, mc96, rfl, -⟩ := hmv96
                refine .e (.indexAddrL sl23 rfl rfl rfl (by omega)) rfl rfl <| .e (.loadIA ag41 sz41 rfl hat96 rfl) rfl rfl <| .on rfl <| .alloc zr41 rfl fun c4 _ _ => .e (.assign rfl) rfl rfl <| .on rfl <| .storeW sz41 rfl rfl rfl rfl rfl rfl .here <| .nil ?_
                refine .go <| .seq <| .region <| .e (.loadW ag25 sz25 rfl (.there <| .there <| .here) rfl) rfl rfl <| .on rfl <| .callP cal37 rfl rfl rfl (rLast_ok hlk hok) <| .e (.move rfl) rfl rfl ?_
                refine .e (.extract rfl rfl) rfl rfl <| .e (.extract rfl rfl) rfl rfl <| .e (.assign rfl) rfl rfl <| .nil <| .go <| .seq ?_
                refine .seq ?_
                refine .draw [(c4, _), (c1, _)] mixed (.cons .here (.cons (.there <| .there <| .here) .nil)) ?_
                refine .t 0 rfl (.fieldAddr fo41_0 rfl) rfl rfl (by kernel_rfl) <| .t 1 rfl (.load ag22 rfl .here rfl) rfl rfl (by kernel_rfl) <| .t 2 rfl (.move rfl) rfl rfl (by kernel_rfl) <| .t 3 rfl (.leq rfl rfl) rfl rfl (by kernel_rfl) <| .t 4 rfl (.move rfl) rfl rfl (by kernel_rfl) ?_
                refine .split 107 rfl (fun h107 => ?_) (fun h107 => ?_)
                · skip
                  replace h107 := of_decide_eq_true h107
                  refine .t 5 rfl (.loadW ag25 sz25 rfl (.there <| .here) rfl) rfl rfl (by kernel_rfl) <| .t 6 rfl (.fieldAddr fo41_0 rfl) rfl rfl (by kernel_rfl) <| .t 7 rfl (.load ag22 rfl .here rfl) rfl rfl (by kernel_rfl) <| .t 9 rfl (.fieldAddr fo41_1 rfl) rfl rfl (by kernel_rfl) <| .t 10 rfl (.load ag22 rfl .here rfl) rfl rfl (by kernel_rfl) <| .one (i := 8) (by kernel_rfl) rfl rfl ?_
                  refine .callP cal38 rfl rfl rfl (rat_ok hlk (by have := hix k (by omega); omega) (by omega)) ?_
                  refine ⟨(.cons .here (.cons (.there <| .there <| .here) .nil)), Imm.le_refl _, ?_⟩
                  refine .t 11 rfl (.eql rfl rfl) rfl rfl (by kernel_rfl) <| .t 12 rfl (.pickT rfl rfl) rfl rfl (by kernel_rfl) <| .done (by kernel_rfl) <| .go ?_
                  refine .split 115 rfl (fun h115 => ?_) (fun h115 => ?_)
                  · skip
                    replace h115 := of_decide_eq_true h115
                    refine .cond_true rfl <| .exit <| .exit <| .blk_exit <| .go <| .region ?_
                    refine .e (.add rfl rfl (by first | exact wrap_succ (by omega) | exact IntWalk.i64_in _ (by omega) | exact rfl)) rfl rfl <| .e (.move rfl) rfl rfl <| .nil ?_
                    refine .tail ?_
                    exact .mid (k + 1) ⟨by omega, by omega, any_take_step (by omega) hany (parts_no (by omega) (by omega))⟩ ⟨rfl, trivial⟩ rfl rfl (.pre 30 rfl (.app rfl .base))
                  · skip
                    replace h115 := of_decide_eq_false h115
                    refine .cond_false rfl <| .skip <| .go <| .seq ?_
                    refine .thaw hKt ?_
                    have hkS : k < S.length := by omega
                    have hpart : parts l S[k] = true := parts_term h115
                    obtain ⟨h, hh⟩ : ∃ h : Nat, S[k].index - l.base - 1 = (h : Int) := ⟨(S[k].index - l.base - 1).toNat, by have := hix k (by omega); omega⟩
                    have hhl : h ≤ l.ents.length := by have := part_le hix (by omega) hkS hany; omega
                    have ho50s := OwnS.take (q := 5) ho50 hhl
                    have hc50 := ho50.capLe
                    have hsd := SlR.fromS hv30 hkS
                    have hdl : (S.drop k).length = S.length - k := List.length_drop
                    refine .draw [(c1, _), (c4, _)] mixed (.cons (.app <| .there <| .there <| .here) (.cons (.app <| .here) .nil)) ?_
                    refine .t 0 rfl (.fieldAddr fo25_2 rfl) rfl rfl (by kernel_rfl) <| .t 1 rfl (.load ag23 rfl .here rfl) rfl rfl (by kernel_rfl) <| .t 2 rfl (.fieldAddr fo41_0 rfl) rfl rfl (by kernel_rfl) <| .t 3 rfl (.load ag22 rfl (.there <| .here) rfl) rfl rfl (by kernel_rfl) <| .t 4 rfl (.fieldAddr fo25_0 rfl) rfl rfl (by kernel_rfl) <| .t 5 rfl (.load ag22 rfl .here rfl) rfl rfl (by kernel_rfl) ?_
                    refine .t 6 rfl (.sub rfl rfl (IntWalk.u64_in _ (by have := hix k (by omega); omega))) rfl rfl (by kernel_rfl) <| .t 7 rfl (.sub rfl rfl (IntWalk.u64_in _ (by have := hix k (by omega); omega))) rfl rfl (by kernel_rfl) <| .t 8 rfl (.sliceH sl23 rfl rfl hh (by omega)) rfl rfl (by kernel_rfl) <| .t 9 rfl (.move rfl) rfl rfl (by kernel_rfl) <| .t 10 rfl (.move rfl) rfl rfl (by kernel_rfl) <| .t 11 rfl (.sliceLs sl23 rfl rfl rfl (by omega) (by omega)) rfl rfl (by kernel_rfl) ?_
                    refine .one (i := 12) (by kernel_rfl) rfl rfl <| .call cal10 rfl rfl rfl (copy_ok hsd (by have := List.length_drop (i := k) (l := S); omega) (fun e he => hSm e (List.mem_of_mem_drop he))) fun v128 I128 O128 hI128 hK128 => ?_
                    obtain ⟨ws128, ob128, ho128, hd128, rfl⟩ := hK128
                    obtain ⟨ad128, cap128, rfl⟩ := ho128.form
                    refine ⟨(.cons (.app <| .app <| .there <| .there <| .here) (.cons (.app <| .app <| .here) .nil)), hI128, ?_⟩
                    refine .one (i := 13) (by kernel_rfl) rfl rfl <| .append Try.underlying23 Try.underlying23 sz41 by41 zv41 rfl rfl rfl (.app <| .front) ho50s (ho128.src (I := _) .front) hd128.1 (hd128.ones (by decide) fun _ _ h => EntR.ones h) (by omega) (by omega) rfl fun v129 ob129 ho129 => ?_
                    refine ⟨(.cons (.app <| .app <| .there <| .there <| .here) (.cons (.app <| .app <| .here) .nil)), hI128, ?_⟩
                    refine .t 14 rfl (.fieldAddr fo25_2 rfl) rfl rfl (by kernel_rfl) ?_
                    obtain ⟨ad129, cap129, rfl⟩ := ho129.form
                    refine .late (i := 15) (by kernel_rfl) (by kernel_rfl) (by kernel_rfl) rfl rfl <| .store sz23 rfl rfl rfl rfl rfl rfl (.app <| .app <| .there <| .there <| .here) <| .go <| .seq <| .seq <| .region ?_
                    refine .freezeS ho129 fun K2 hK2 hK2s => ?_
                    have hek2 : EntsR K2 _ (l.ents.take h ++ S.drop k) := hK2s (R := EntR) (((hd50.take hhl).mono fun _ _ hx => (hx.mono hI128).mono hK2).append (hd128.mono fun _ _ hx => hx.mono hK2)) (by simp; omega)
                    have hl2 : LgR K2 (Lg.cells ⟨l.base, l.term, l.ents.take h ++ S.drop k⟩ (.slice ad129 (h + (S.drop k).length) cap129)) ⟨l.base, l.term, l.ents.take h ++ S.drop k⟩ := ⟨⟨_, rfl, hek2⟩, hl0.base, hl0.term⟩
                    refine .e (.loadW ag25 sz25 rfl (.app <| .there <| .there <| .here) rfl) rfl rfl <| .on rfl <| .callP cal30 rfl rfl rfl (rlCheck_ok hl2) <| .e (.neq rfl rfl) rfl rfl <| .nil <| .go ?_
                    refine .split 133 rfl (fun h133 => ?_) (fun h133 => ?_)
                    · skip
                      first | replace h133 := of_decide_eq_false ((Bool.not_eq_true' _).mp h133) | replace h133 := of_decide_eq_false (by simpa using h133)
                      refine .cond_true rfl <| .seq <| .region <| .e (.build bs25 zv25 rfl rfl) rfl rfl <| .on rfl <| .storeW sz25 rfl rfl rfl rfl rfl rfl (.app <| .there <| .here) <| .e (.assign rfl) rfl rfl ?_
                      refine .e (.assign rfl) rfl rfl <| .nil <| .go <| .ret <| .ret <| .blk_ret ?_
                      refine .ret <| .ret <| .blk_ret <| .ret ?_
                      refine Post.rets rfl (.agg rfl ag25 sz25 (.app <| .there <| .here) rfl (.tmp rfl (.tmp rfl .nil))) rfl (Imm.le_trans (Imm.le_trans hI50 hI128) hK2) (fun w h => (Sat.tail (Sat.tail (Sat.tail (Sat.drop h))))) ?_
                      rw [hjB h74 (by omega) (h89.trans (hat h74)), joinB_at hkS hany hpart, joinAt_no (by rw [joinL_eq hkS hh]; exact h133)]
                      exact ⟨_, rfl, zLgR, rfl⟩
                    · skip
                      first | replace h133 := of_decide_eq_true ((Bool.not_eq_false' _).mp h133) | replace h133 := of_decide_eq_true (by simpa using h133)
                      refine .cond_false rfl <| .skip <| .go <| .seq ?_
                      refine .draw [(c1, _), (c4, _)] mixed (.cons (.app <| .there <| .there <| .here) (.cons (.app <| .here) .nil)) ?_
                      refine .t 0 rfl (.loadW ag25 sz25 rfl .here rfl) rfl rfl (by kernel_rfl) <| .t 1 rfl (.fieldAddr fo41_0 rfl) rfl rfl (by kernel_rfl) <| .t 2 rfl (.load ag22 rfl (.there <| .here) rfl) rfl rfl (by kernel_rfl) <| .one (i := 3) (by kernel_rfl) rfl rfl <| .storeW sz25 rfl rfl rfl rfl rfl rfl (.app <| .there <| .here) ?_
                      refine ⟨(.cons (.app <| .there <| .there <| .here) (.cons (.app <| .here) .nil)), Imm.le_refl _, ?_⟩
                      refine .t 4 rfl (.assign rfl) rfl rfl (by kernel_rfl) <| .t 5 rfl (.assign rfl) rfl rfl (by kernel_rfl) <| .done (by kernel_rfl) <| .go <| .ret <| .blk_ret ?_
                      refine .ret <| .ret <| .blk_ret <| .ret ?_
                      refine Post.rets rfl (.agg rfl ag25 sz25 (.app <| .there <| .here) rfl (.tmp rfl (.tmp rfl .nil))) rfl (Imm.le_trans (Imm.le_trans hI50 hI128) hK2) (fun w h => (Sat.tail (Sat.tail (Sat.tail (Sat.drop h))))) ?_
                      rw [hjB h74 (by omega) (h89.trans (hat h74)), joinB_at hkS hany hpart, joinAt_yes (by rw [joinL_eq hkS hh]; exact h133), joinL_eq hkS hh, entD hkS]
                      exact ⟨_, rfl, hl2, rfl⟩
                · skip
                  replace h107 := of_decide_eq_false h107
                  refine .s 5 rfl rfl rfl (by kernel_rfl) <| .s 6 rfl rfl rfl (by kernel_rfl) <| .s 7 rfl rfl rfl (by kernel_rfl) <| .s 9 rfl rfl rfl (by kernel_rfl) <| .s 10 rfl rfl rfl (by kernel_rfl) <| .none_ (i := 8) (by kernel_rfl) rfl rfl rfl ?_
                  refine .s 11 rfl rfl rfl (by kernel_rfl) <| .t 12 rfl (.pickF rfl rfl) rfl rfl (by kernel_rfl) <| .done (by kernel_rfl) <| .go <| .cond_false rfl <| .skip ?_
                  refine .go <| .seq ?_
                  refine .thaw hKt ?_
                  have hkS : k < S.length := by omega
                  have hpart : parts l S[k] = true := parts_far (by omega)
                  obtain ⟨h, hh⟩ : ∃ h : Nat, S[k].index - l.base - 1 = (h : Int) := ⟨(S[k].index - l.base - 1).toNat, by have := hix k (by omega); omega⟩
                  have hhl : h ≤ l.ents.length := by have := part_le hix (by omega) hkS hany; omega
                  have ho50s := OwnS.take (q := 5) ho50 hhl
                  have hc50 := ho50.capLe
                  have hsd := SlR.fromS hv30 hkS
                  have hdl : (S.drop k).length = S.length - k := List.length_drop
                  refine .draw [(c1, _), (c4, _)] mixed (.cons (.app <| .there <| .there <| .here) (.cons (.app <| .here) .nil)) ?_
                  refine .t 0 rfl (.fieldAddr fo25_2 rfl) rfl rfl (by kernel_rfl) <| .t 1 rfl (.load ag23 rfl .here rfl) rfl rfl (by kernel_rfl) <| .t 2 rfl (.fieldAddr fo41_0 rfl) rfl rfl (by kernel_rfl) <| .t 3 rfl (.load ag22 rfl (.there <| .here) rfl) rfl rfl (by kernel_rfl) <| .t 4 rfl (.fieldAddr fo25_0 rfl) rfl rfl (by kernel_rfl) <| .t 5 rfl (.load ag22 rfl .here rfl) rfl rfl (by kernel_rfl) ?_
                  refine .t 6 rfl (.sub rfl rfl (IntWalk.u64_in _ (by have := hix k (by omega); omega))) rfl rfl (by kernel_rfl) <| .t 7 rfl (.sub rfl rfl (IntWalk.u64_in _ (by have := hix k (by omega); omega))) rfl rfl (by kernel_rfl) <| .t 8 rfl (.sliceH sl23 rfl rfl hh (by omega)) rfl rfl (by kernel_rfl) <| .t 9 rfl (.move rfl) rfl rfl (by kernel_rfl) <| .t 10 rfl (.move rfl) rfl rfl (by kernel_rfl) <| .t 11 rfl (.sliceLs sl23 rfl rfl rfl (by omega) (by omega)) rfl rfl (by kernel_rfl) ?_
                  refine .one (i := 12) (by kernel_rfl) rfl rfl <| .call cal10 rfl rfl rfl (copy_ok hsd (by have := List.length_drop (i := k) (l := S); omega) (fun e he => hSm e (List.mem_of_mem_drop he))) fun v128 I128 O128 hI128 hK128 => ?_
                  obtain ⟨ws128, ob128, ho128, hd128, rfl⟩ := hK128
                  obtain ⟨ad128, cap128, rfl⟩ := ho128.form
                  refine ⟨(.cons (.app <| .app <| .there <| .there <| .here) (.cons (.app <| .app <| .here) .nil)), hI128, ?_⟩
                  refine .one (i := 13) (by kernel_rfl) rfl rfl <| .append Try.underlying23 Try.underlying23 sz41 by41 zv41 rfl rfl rfl (.app <| .front) ho50s (ho128.src (I := _) .front) hd128.1 (hd128.ones (by decide) fun _ _ h => EntR.ones h) (by omega) (by omega) rfl fun v129 ob129 ho129 => ?_
                  refine ⟨(.cons (.app <| .app <| .there <| .there <| .here) (.cons (.app <| .app <| .here) .nil)), hI128, ?_⟩
                  refine .t 14 rfl (.fieldAddr fo25_2 rfl) rfl rfl (by kernel_rfl) ?_
                  obtain ⟨ad129, cap129, rfl⟩ := ho129.form
                  refine .late (i := 15) (by kernel_rfl) (by kernel_rfl) (by kernel_rfl) rfl rfl <| .store sz23 rfl rfl rfl rfl rfl rfl (.app <| .app <| .there <| .there <| .here) <| .go <| .seq <| .seq <| .region ?_
                  refine .freezeS ho129 fun K2 hK2 hK2s => ?_
                  have hek2 : EntsR K2 _ (l.ents.take h ++ S.drop k) := hK2s (R := EntR) (((hd50.take hhl).mono fun _ _ hx => (hx.mono hI128).mono hK2).append (hd128.mono fun _ _ hx => hx.mono hK2)) (by simp; omega)
                  have hl2 : LgR K2 (Lg.cells ⟨l.base, l.term, l.ents.take h ++ S.drop k⟩ (.slice ad129 (h + (S.drop k).length) cap129)) ⟨l.base, l.term, l.ents.take h ++ S.drop k⟩ := ⟨⟨_, rfl, hek2⟩, hl0.base, hl0.term⟩
                  refine .e (.loadW ag25 sz25 rfl (.app <| .there <| .there <| .here) rfl) rfl rfl <| .on rfl <| .callP cal30 rfl rfl rfl (rlCheck_ok hl2) <| .e (.neq rfl rfl) rfl rfl <| .nil <| .go ?_
                  refine .split 133 rfl (fun h133 => ?_) (fun h133 => ?_)
                  · skip
                    first | replace h133 := of_decide_eq_false ((Bool.not_eq_true' _).mp h133) | replace h133 := of_decide_eq_false (by simpa using h133)
                    refine .cond_true rfl <| .seq <| .region <| .e (.build bs25 zv25 rfl rfl) rfl rfl <| .on rfl <| .storeW sz25 rfl rfl rfl rfl rfl rfl (.app <| .there <| .here) <| .e (.assign rfl) rfl rfl ?_
                    refine .e (.assign rfl) rfl rfl <| .nil <| .go <| .ret <| .ret <| .blk_ret ?_
                    refine .ret <| .ret <| .blk_ret <| .ret ?_
                    refine Post.rets rfl (.agg rfl ag25 sz25 (.app <| .there <| .here) rfl (.tmp rfl (.tmp rfl .nil))) rfl (Imm.le_trans (Imm.le_trans hI50 hI128) hK2) (fun w h => (Sat.tail (Sat.tail (Sat.tail (Sat.drop h))))) ?_
                    rw [hjB h74 (by omega) (h89.trans (hat h74)), joinB_at hkS hany hpart, joinAt_no (by rw [joinL_eq hkS hh]; exact h133)]
                    exact ⟨_, rfl, zLgR, rfl⟩
                  · skip
                    first | replace h133 := of_decide_eq_true ((Bool.not_eq_false' _).mp h133) | replace h133 := of_decide_eq_true (by simpa using h133)
                    refine .cond_false rfl <| .skip <| .go <| .seq ?_
                    refine .draw [(c1, _), (c4, _)] mixed (.cons (.app <| .there <| .there <| .here) (.cons (.app <| .here) .nil)) ?_
                    refine .t 0 rfl (.loadW ag25 sz25 rfl .here rfl) rfl rfl (by kernel_rfl) <| .t 1 rfl (.fieldAddr fo41_0 rfl) rfl rfl (by kernel_rfl) <| .t 2 rfl (.load ag22 rfl (.there <| .here) rfl) rfl rfl (by kernel_rfl) <| .one (i := 3) (by kernel_rfl) rfl rfl <| .storeW sz25 rfl rfl rfl rfl rfl rfl (.app <| .there <| .here) ?_
                    refine ⟨(.cons (.app <| .there <| .there <| .here) (.cons (.app <| .here) .nil)), Imm.le_refl _, ?_⟩
                    refine .t 4 rfl (.assign rfl) rfl rfl (by kernel_rfl) <| .t 5 rfl (.assign rfl) rfl rfl (by kernel_rfl) <| .done (by kernel_rfl) <| .go <| .ret <| .blk_ret ?_
                    refine .ret <| .ret <| .blk_ret <| .ret ?_
                    refine Post.rets rfl (.agg rfl ag25 sz25 (.app <| .there <| .here) rfl (.tmp rfl (.tmp rfl .nil))) rfl (Imm.le_trans (Imm.le_trans hI50 hI128) hK2) (fun w h => (Sat.tail (Sat.tail (Sat.tail (Sat.drop h))))) ?_
                    rw [hjB h74 (by omega) (h89.trans (hat h74)), joinB_at hkS hany hpart, joinAt_yes (by rw [joinL_eq hkS hh]; exact h133), joinL_eq hkS hh, entD hkS]
                    exact ⟨_, rfl, hl2, rfl⟩
              · skip
                replace h94 := of_decide_eq_false h94
                refine .cond_false rfl <| .exit <| .exit <| .exit <| .blk_exit <| .go ?_
                refine .seq <| .region <| .e (.loadW ag25 sz25 rfl (.there <| .here) rfl) rfl rfl <| .on rfl <| .storeW sz25 rfl rfl rfl rfl rfl rfl .here <| .e (.assign rfl) rfl rfl <| .e (.assign rfl) rfl rfl ?_
                refine .nil <| .go <| .ret ?_
                refine Post.rets rfl (.agg rfl ag25 sz25 .here rfl (.tmp rfl (.tmp rfl .nil))) rfl (Imm.le_trans hI50 hK) (fun w h => (Sat.tail (Sat.tail h))) ?_
                rw [hjB h74 (by omega) (h89.trans (hat h74)), joinB_none (any_nil_of (k := k) (by omega) hany)]
                exact ⟨_, rfl, hlk, rfl⟩

end Go.Proofs.Yteajcmnbjpbnpaa
