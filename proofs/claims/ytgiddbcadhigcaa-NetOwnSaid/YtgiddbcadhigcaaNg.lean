/- Walks of functions over a symbolic memory, printed by a program of the session. -/
import Derived.Test.YtgiddbcadhigcaaNe
namespace Go.Proofs.Ytgiddbcadhigcaa
open Go.Sy
set_option linter.unusedSimpArgs false
set_option linter.unusedVariables false

theorem OwnS.anySet {k n cap b off : Nat} {cs vs : List Value} {T : TypeId} (hn : n ≤ cap) (hc : cs.length = cap * k) (ho : off + vs.length ≤ cs.length) (hm : cap ≤ 9223372036854775807) :
    ∃ ws, OwnS k (.slice (some ⟨b, 0, none⟩) n cap) n ws [(b, .cells ⟨setL cs off vs⟩ T (0, 0))] :=
  ⟨_, .inr ⟨b, cap, _, T, rfl, rfl, hn, by rw [setL_length ho, hc], rfl, by
    rw [List.length_take, setL_length ho, hc]
    exact Nat.min_eq_left (Nat.mul_le_mul_right k hn), hm⟩⟩

set_option maxHeartbeats 8000000 in
set_option maxRecDepth 20000 in
theorem NetOwn_ok {I : Imm} {O : Own} {cs : List Value} {n : List Pkt} (hn : NetR I cs n) {v : Value} {l : List Pkt} (hl : PktsR I v l) {i : Int} (hi : I64 i) (hL : n.length * 32 ≤ 140737488351232) :
    Pure Try.prog 5 [.agg ⟨cs⟩, v, .int .i64 i] I O (.bool true) := by
  have hn0' := hn
  obtain ⟨nv, rfl, hnv⟩ := hn
  have hn0 := hnv
  obtain ⟨na, ncap, rfl, hn1, hn2, -⟩ := hnv
  have hl0 := hl
  obtain ⟨la, lcap, rfl, hl1, hl2, -⟩ := hl
  refine Go.Sy.Does.enter Try.func5 rfl Try.ntmps5 rfl ?_
  refine .seq <| .region <| .on rfl <| .box rfl rfl rfl fun c1 _ _ => .e (.assign rfl) rfl rfl <| .nil <| .go ?_
  refine .seq <| .seq <| .region <| .on rfl <| .callP cal12 rfl rfl rfl (lives_ok) <| .e (.not rfl) rfl rfl <| .nil ?_
  refine .go <| .cond_false rfl <| .skip <| .go <| .seq <| .region ?_
  refine .e (.loadW ag24 sz24 rfl .here rfl) rfl rfl <| .on rfl <| .call cal7 rfl rfl rfl (copyF hn0' hL) fun v25 I25 O25 hI25 hK25 => ?_
  obtain ⟨rfl, v25, rfl, hp25⟩ := hK25
  have hp25' := hp25
  obtain ⟨a25, q25, rfl, -⟩ := hp25'
  refine .on rfl <| .alloc zr24 rfl fun c2 _ _ => .on rfl <| .storeW sz24 rfl rfl rfl rfl rfl rfl .here <| .nil <| .go <| .seq <| .region ?_
  refine .e (.loadW ag24 sz24 rfl (.there <| .here) rfl) rfl rfl <| .e (.move rfl) rfl rfl <| .on rfl <| .call cal8 rfl rfl rfl (nSend_ok (hn0'.mono hI25) (hl0.mono hI25)) fun v29 I29 O29 hI29 hK29 => ?_
  obtain ⟨hq29, w29, ws29, ob29, rfl, ho29, hd29, rfl⟩ := hK29
  replace hq29 := hq29.symm
  subst hq29
  obtain ⟨ad29, cap29, rfl⟩ := ho29.form
  refine .e (.move rfl) rfl rfl <| .e (.extract rfl rfl) rfl rfl <| .e (.extract rfl rfl) rfl rfl <| .e (.extract rfl rfl) rfl rfl <| .on rfl <| .alloc zr24 rfl fun c3 _ _ => .on rfl <| .storeW sz24 rfl rfl rfl rfl rfl rfl .here ?_
  refine .e (.assign rfl) rfl rfl <| .e (.assign rfl) rfl rfl <| .nil <| .go <| .seq <| .region ?_
  refine .e (.loadW ag24 sz24 rfl (.there <| .app <| .there <| .here) rfl) rfl rfl <| .e (.move rfl) rfl rfl <| .on rfl <| .call cal10 rfl rfl rfl (nGive_ok (hn0'.mono hI25) hi) fun v36 I36 O36 hI36 hK36 => ?_
  obtain ⟨hq36, w36, ws36, ob36, rfl, hX36, ho36, hd36, rfl⟩ := hK36
  replace hq36 := hq36.symm
  subst hq36
  obtain ⟨ad36, cap36, rfl⟩ := ho36.form
  refine .e (.move rfl) rfl rfl <| .e (.extract rfl rfl) rfl rfl <| .e (.extract rfl rfl) rfl rfl <| .e (.extract rfl rfl) rfl rfl <| .on rfl <| .alloc zr24 rfl fun c4 _ _ => .on rfl <| .alloc zr30 rfl fun c5 _ _ => ?_
  refine .on rfl <| .storeW sz24 rfl rfl rfl rfl rfl rfl (.there <| .here) <| .on rfl <| .storeW sz30 rfl rfl rfl rfl rfl rfl .here <| .e (.assign rfl) rfl rfl <| .nil <| .go <| .seq ?_
  refine .region <| .e (.loadW ag24 sz24 rfl (.there <| .there <| .app <| .there <| .app <| .there <| .here) rfl) rfl rfl <| .e (.move rfl) rfl rfl <| .on rfl <| .call cal14 rfl rfl rfl (nTwice_ok (hn0'.mono hI25) hi) fun v43 I43 O43 hI43 hK43 => ?_
  obtain ⟨hq43, w43, ws43, ob43, rfl, ho43, hd43, rfl⟩ := hK43
  replace hq43 := hq43.symm
  subst hq43
  obtain ⟨ad43, cap43, rfl⟩ := ho43.form
  refine .e (.move rfl) rfl rfl <| .e (.extract rfl rfl) rfl rfl <| .e (.extract rfl rfl) rfl rfl <| .on rfl <| .alloc zr24 rfl fun c6 _ _ => .on rfl <| .storeW sz24 rfl rfl rfl rfl rfl rfl .here <| .e (.assign rfl) rfl rfl ?_
  refine .nil <| .go <| .seq <| .region <| .e (.loadW ag24 sz24 rfl (.there <| .app <| .there <| .there <| .app <| .there <| .app <| .there <| .here) rfl) rfl rfl <| .on rfl <| .call cal16 rfl rfl rfl (nTake_ok (hn0'.mono hI25)) fun v48 I48 O48 hI48 hK48 => ?_
  obtain ⟨hq48, w48, ws48, ob48, rfl, ho48, hd48, rfl⟩ := hK48
  replace hq48 := hq48.symm
  subst hq48
  obtain ⟨ad48, cap48, rfl⟩ := ho48.form
  refine .e (.move rfl) rfl rfl <| .e (.extract rfl rfl) rfl rfl <| .e (.extract rfl rfl) rfl rfl <| .e (.extract rfl rfl) rfl rfl <| .on rfl <| .alloc zr24 rfl fun c7 _ _ => .e (.assign rfl) rfl rfl ?_
  refine .on rfl <| .storeW sz24 rfl rfl rfl rfl rfl rfl .here <| .e (.assign rfl) rfl rfl <| .nil <| .go <| .seq <| .seq ?_
  refine .region ?_
  obtain ⟨N29, hN29⟩ : ∃ N, (sendR n l).1.length = N := ⟨_, rfl⟩
  obtain ⟨N36, hN36⟩ : ∃ N, (giveR n i).1.length = N := ⟨_, rfl⟩
  obtain ⟨N43, hN43⟩ : ∃ N, (twiceR n i).1.length = N := ⟨_, rfl⟩
  obtain ⟨N48, hN48⟩ : ∃ N, (takeR n).1.length = N := ⟨_, rfl⟩
  rw [hN29] at ho29
  rw [hN36] at ho36
  rw [hN43] at ho43
  rw [hN48] at ho48
  rw [hN29, hN36, hN43, hN48]
  have hz29 : N29 ≤ 9223372036854775807 := ho29.lenLe
  have hz36 : N36 ≤ 9223372036854775807 := ho36.lenLe
  have hz43 : N43 ≤ 9223372036854775807 := ho43.lenLe
  have hz48 : N48 ≤ 9223372036854775807 := ho48.lenLe
  refine .e (.fieldAddr fo24_0 rfl) rfl rfl <| .e (.load ag22 rfl (.there <| .app <| .there <| .app <| .there <| .there <| .app <| .here) rfl) rfl rfl <| .e (.fieldAddr fo24_0 rfl) rfl rfl <| .e (.load ag22 rfl (.there <| .app <| .there <| .app <| .there <| .here) rfl) rfl rfl <| .e (.fieldAddr fo24_0 rfl) rfl rfl <| .e (.load ag22 rfl (.there <| .app <| .here) rfl) rfl rfl ?_
  refine .e (.move rfl) rfl rfl <| .on rfl <| .buildSlice Try.underlying44 sz22 (by decide) (by decide) zv22 rfl rfl rfl rfl rfl fun c8 _ _ => .e (.len sl44 rfl rfl) rfl rfl <| .e (.move rfl) rfl rfl <| .nil <| .go ?_
  refine .block <| .unroll 4 <| .seq <| .region <| .e (.lss rfl rfl) rfl rfl <| .nil ?_
  refine .go <| .seq <| .cond_true rfl <| .skip <| .go <| .seq ?_
  refine .block <| .seq <| .region <| .e (.indexAddrL (j := 0) sl44 rfl rfl rfl (by decide)) rfl rfl <| .e (.load ag22 rfl .here rfl) rfl rfl <| .e (.assign rfl) rfl rfl ?_
  refine .nil <| .go <| .seq <| .region <| .e (.move rfl) rfl rfl <| .e (.len sl22 rfl rfl) rfl rfl ?_
  refine .e (.move rfl) rfl rfl <| .nil <| .go <| .block ?_
  refine .front (.there <| .there <| .app <| .there <| .app <| .there <| .there <| .app <| .there <| .front) ?_
  refine .loopM [21, 67, 68, 69, 70, 71, 72, 73, 74] (fun s => N29 - s.1) (fun s => s.1 ≤ N29 ∧ OwnS 3 (.slice ad29 N29 cap29) N29 s.2.1 s.2.2) (fun s => [(67, .int .i64 s.1)]) (fun _ => _) (fun s => s.2.2 ++ _) (((0, ws29, ob29) : Nat × List Value × Own)) ⟨Nat.zero_le _, ho29⟩ ⟨rfl, trivial⟩ rfl rfl ?_
  intro ⟨k, wsL29, obL29⟩ hk
  dsimp only at hk ⊢
  obtain ⟨hk, hoL29⟩ := hk
  refine .seq <| .region <| .e (.lss rfl rfl) rfl rfl <| .nil <| .go <| .seq ?_
  refine .split 68 rfl (fun h68 => ?_) (fun h68 => ?_)
  · skip
    replace h68 := of_decide_eq_true h68
    refine .cond_true rfl <| .skip <| .go <| .seq <| .block <| .seq ?_
    refine .region <| .e (.move rfl) rfl rfl <| .e (.assign rfl) rfl rfl <| .nil <| .go <| .region ?_
    refine .e (.move rfl) rfl rfl <| .e (.move rfl) rfl rfl ?_
    obtain ⟨_, h0, _, _⟩ | ⟨bL29, capL29, csL29, TL29, hv5, rfl, hc1, hc2, hc3, hc4, hc5⟩ := hoL29
    · omega
    cases hv5
    refine .e (.indexAddrL sl22 rfl rfl rfl (by omega)) rfl rfl <| .e (.fieldAddr fo30_2 rfl) rfl rfl <| .on rfl <| .store sz9 rfl rfl rfl rfl rfl (Nat.ble_eq_true_of_le (by simp; omega)) .here <| .nil <| .blk_normal <| .go ?_
    refine .region <| .e (.add rfl rfl (by first | exact wrap_succ (by omega) | exact IntWalk.i64_in _ (by omega) | exact rfl)) rfl rfl <| .e (.move rfl) rfl rfl <| .nil ?_
    obtain ⟨wsN, hoN⟩ := OwnS.anySet (k := 3) (b := bL29) (T := TL29) (off := 0 + k * 3 + 2) (vs := [.string ⟨#[115, 112, 111, 105, 108, 116]⟩]) hc1 hc2 (by simp; omega) hc5
    exact .mid ((k + 1, _, _)) ⟨by dsimp only; omega, by dsimp only; omega, hoN⟩ ⟨rfl, trivial⟩ rfl rfl (.pre 10 rfl (.app rfl .base))
  · skip
    replace h68 := of_decide_eq_false h68
    refine .cond_false rfl <| .exit <| .exit <| .exit <| .blk_exit <| .blk_normal ?_
    refine .go <| .region <| .e (.add (c := 1) rfl rfl (by decide)) rfl rfl <| .e (.move rfl) rfl rfl <| .nil <| .again ?_
    refine .seq <| .region <| .e (.lss rfl rfl) rfl rfl <| .nil <| .go <| .seq ?_
    refine .cond_true rfl <| .skip <| .go <| .seq <| .block <| .seq ?_
    refine .region <| .e (.indexAddrL (j := 1) sl44 rfl rfl rfl (by decide)) rfl rfl <| .e (.load ag22 rfl (.app <| .here) rfl) rfl rfl <| .e (.assign rfl) rfl rfl <| .nil <| .go ?_
    refine .seq <| .region <| .e (.move rfl) rfl rfl <| .e (.len sl22 rfl rfl) rfl rfl <| .e (.move rfl) rfl rfl <| .nil ?_
    refine .go <| .block ?_
    refine .front (.app <| .there <| .there <| .app <| .there <| .app <| .there <| .there <| .front) ?_
    refine .loopM [21, 67, 68, 69, 70, 71, 72, 73, 74] (fun s => N36 - s.1) (fun s => s.1 ≤ N36 ∧ OwnS 3 (.slice ad36 N36 cap36) N36 s.2.1 s.2.2) (fun s => [(67, .int .i64 s.1)]) (fun _ => _) (fun s => s.2.2 ++ _) (((0, ws36, ob36) : Nat × List Value × Own)) ⟨Nat.zero_le _, ho36⟩ ⟨rfl, trivial⟩ rfl rfl ?_
    intro ⟨k, wsL36, obL36⟩ hk
    dsimp only at hk ⊢
    obtain ⟨hk, hoL36⟩ := hk
    refine .seq <| .region <| .e (.lss rfl rfl) rfl rfl <| .nil <| .go <| .seq ?_
    refine .split 68 rfl (fun h68_2 => ?_) (fun h68_2 => ?_)
    · skip
      replace h68_2 := of_decide_eq_true h68_2
      refine .cond_true rfl <| .skip <| .go <| .seq <| .block <| .seq ?_
      refine .region <| .e (.move rfl) rfl rfl <| .e (.assign rfl) rfl rfl <| .nil <| .go <| .region ?_
      refine .e (.move rfl) rfl rfl <| .e (.move rfl) rfl rfl ?_
      obtain ⟨_, h0, _, _⟩ | ⟨bL36, capL36, csL36, TL36, hv5, rfl, hc1, hc2, hc3, hc4, hc5⟩ := hoL36
      · omega
      cases hv5
      refine .e (.indexAddrL sl22 rfl rfl rfl (by omega)) rfl rfl <| .e (.fieldAddr fo30_2 rfl) rfl rfl <| .on rfl <| .store sz9 rfl rfl rfl rfl rfl (Nat.ble_eq_true_of_le (by simp; omega)) .here <| .nil <| .blk_normal <| .go ?_
      refine .region <| .e (.add rfl rfl (by first | exact wrap_succ (by omega) | exact IntWalk.i64_in _ (by omega) | exact rfl)) rfl rfl <| .e (.move rfl) rfl rfl <| .nil ?_
      obtain ⟨wsN, hoN⟩ := OwnS.anySet (k := 3) (b := bL36) (T := TL36) (off := 0 + k * 3 + 2) (vs := [.string ⟨#[115, 112, 111, 105, 108, 116]⟩]) hc1 hc2 (by simp; omega) hc5
      exact .mid ((k + 1, _, _)) ⟨by dsimp only; omega, by dsimp only; omega, hoN⟩ ⟨rfl, trivial⟩ rfl rfl (.pre 10 rfl (.app rfl .base))
    · skip
      replace h68_2 := of_decide_eq_false h68_2
      refine .cond_false rfl <| .exit <| .exit <| .exit <| .blk_exit <| .blk_normal ?_
      refine .go <| .region <| .e (.add (c := 2) rfl rfl (by decide)) rfl rfl <| .e (.move rfl) rfl rfl <| .nil <| .again ?_
      refine .seq <| .region <| .e (.lss rfl rfl) rfl rfl <| .nil <| .go <| .seq ?_
      refine .cond_true rfl <| .skip <| .go <| .seq <| .block <| .seq ?_
      refine .region <| .e (.indexAddrL (j := 2) sl44 rfl rfl rfl (by decide)) rfl rfl <| .e (.load ag22 rfl (.app <| .app <| .here) rfl) rfl rfl <| .e (.assign rfl) rfl rfl <| .nil <| .go ?_
      refine .seq <| .region <| .e (.move rfl) rfl rfl <| .e (.len sl22 rfl rfl) rfl rfl <| .e (.move rfl) rfl rfl <| .nil ?_
      refine .go <| .block ?_
      refine .front (.app <| .app <| .there <| .there <| .app <| .there <| .front) ?_
      refine .loopM [21, 67, 68, 69, 70, 71, 72, 73, 74] (fun s => N43 - s.1) (fun s => s.1 ≤ N43 ∧ OwnS 3 (.slice ad43 N43 cap43) N43 s.2.1 s.2.2) (fun s => [(67, .int .i64 s.1)]) (fun _ => _) (fun s => s.2.2 ++ _) (((0, ws43, ob43) : Nat × List Value × Own)) ⟨Nat.zero_le _, ho43⟩ ⟨rfl, trivial⟩ rfl rfl ?_
      intro ⟨k, wsL43, obL43⟩ hk
      dsimp only at hk ⊢
      obtain ⟨hk, hoL43⟩ := hk
      refine .seq <| .region <| .e (.lss rfl rfl) rfl rfl <| .nil <| .go <| .seq ?_
      refine .split 68 rfl (fun h68_3 => ?_) (fun h68_3 => ?_)
      · skip
        replace h68_3 := of_decide_eq_true h68_3
        refine .cond_true rfl <| .skip <| .go <| .seq <| .block <| .seq ?_
        refine .region <| .e (.move rfl) rfl rfl <| .e (.assign rfl) rfl rfl <| .nil <| .go <| .region ?_
        refine .e (.move rfl) rfl rfl <| .e (.move rfl) rfl rfl ?_
        obtain ⟨_, h0, _, _⟩ | ⟨bL43, capL43, csL43, TL43, hv5, rfl, hc1, hc2, hc3, hc4, hc5⟩ := hoL43
        · omega
        cases hv5
        refine .e (.indexAddrL sl22 rfl rfl rfl (by omega)) rfl rfl <| .e (.fieldAddr fo30_2 rfl) rfl rfl <| .on rfl <| .store sz9 rfl rfl rfl rfl rfl (Nat.ble_eq_true_of_le (by simp; omega)) .here <| .nil <| .blk_normal <| .go ?_
        refine .region <| .e (.add rfl rfl (by first | exact wrap_succ (by omega) | exact IntWalk.i64_in _ (by omega) | exact rfl)) rfl rfl <| .e (.move rfl) rfl rfl <| .nil ?_
        obtain ⟨wsN, hoN⟩ := OwnS.anySet (k := 3) (b := bL43) (T := TL43) (off := 0 + k * 3 + 2) (vs := [.string ⟨#[115, 112, 111, 105, 108, 116]⟩]) hc1 hc2 (by simp; omega) hc5
        exact .mid ((k + 1, _, _)) ⟨by dsimp only; omega, by dsimp only; omega, hoN⟩ ⟨rfl, trivial⟩ rfl rfl (.pre 10 rfl (.app rfl .base))
      · skip
        replace h68_3 := of_decide_eq_false h68_3
        refine .cond_false rfl <| .exit <| .exit <| .exit <| .blk_exit <| .blk_normal ?_
        refine .go <| .region <| .e (.add (c := 3) rfl rfl (by decide)) rfl rfl <| .e (.move rfl) rfl rfl <| .nil <| .again ?_
        refine .seq <| .region <| .e (.lss rfl rfl) rfl rfl <| .nil <| .go <| .seq ?_
        refine .cond_true rfl <| .skip <| .go <| .seq <| .block <| .seq ?_
        refine .region <| .e (.indexAddrL (j := 3) sl44 rfl rfl rfl (by decide)) rfl rfl <| .e (.load ag22 rfl (.app <| .app <| .app <| .here) rfl) rfl rfl <| .e (.assign rfl) rfl rfl <| .nil <| .go ?_
        refine .seq <| .region <| .e (.move rfl) rfl rfl <| .e (.len sl22 rfl rfl) rfl rfl <| .e (.move rfl) rfl rfl <| .nil ?_
        refine .go <| .block ?_
        refine .front (.app <| .app <| .app <| .there <| .there <| .front) ?_
        refine .loopM [21, 67, 68, 69, 70, 71, 72, 73, 74] (fun s => N48 - s.1) (fun s => s.1 ≤ N48 ∧ OwnS 3 (.slice ad48 N48 cap48) N48 s.2.1 s.2.2) (fun s => [(67, .int .i64 s.1)]) (fun _ => _) (fun s => s.2.2 ++ _) (((0, ws48, ob48) : Nat × List Value × Own)) ⟨Nat.zero_le _, ho48⟩ ⟨rfl, trivial⟩ rfl rfl ?_
        intro ⟨k, wsL48, obL48⟩ hk
        dsimp only at hk ⊢
        obtain ⟨hk, hoL48⟩ := hk
        refine .seq <| .region <| .e (.lss rfl rfl) rfl rfl <| .nil <| .go <| .seq ?_
        refine .split 68 rfl (fun h68_4 => ?_) (fun h68_4 => ?_)
        · skip
          replace h68_4 := of_decide_eq_true h68_4
          refine .cond_true rfl <| .skip <| .go <| .seq <| .block <| .seq ?_
          refine .region <| .e (.move rfl) rfl rfl <| .e (.assign rfl) rfl rfl <| .nil <| .go <| .region ?_
          refine .e (.move rfl) rfl rfl <| .e (.move rfl) rfl rfl ?_
          obtain ⟨_, h0, _, _⟩ | ⟨bL48, capL48, csL48, TL48, hv5, rfl, hc1, hc2, hc3, hc4, hc5⟩ := hoL48
          · omega
          cases hv5
          refine .e (.indexAddrL sl22 rfl rfl rfl (by omega)) rfl rfl <| .e (.fieldAddr fo30_2 rfl) rfl rfl <| .on rfl <| .store sz9 rfl rfl rfl rfl rfl (Nat.ble_eq_true_of_le (by simp; omega)) .here <| .nil <| .blk_normal <| .go ?_
          refine .region <| .e (.add rfl rfl (by first | exact wrap_succ (by omega) | exact IntWalk.i64_in _ (by omega) | exact rfl)) rfl rfl <| .e (.move rfl) rfl rfl <| .nil ?_
          obtain ⟨wsN, hoN⟩ := OwnS.anySet (k := 3) (b := bL48) (T := TL48) (off := 0 + k * 3 + 2) (vs := [.string ⟨#[115, 112, 111, 105, 108, 116]⟩]) hc1 hc2 (by simp; omega) hc5
          exact .mid ((k + 1, _, _)) ⟨by dsimp only; omega, by dsimp only; omega, hoN⟩ ⟨rfl, trivial⟩ rfl rfl (.pre 10 rfl (.app rfl .base))
        · skip
          replace h68_4 := of_decide_eq_false h68_4
          refine .cond_false rfl <| .exit <| .exit <| .exit <| .blk_exit <| .blk_normal ?_
          refine .go <| .region <| .e (.add (c := 4) rfl rfl (by decide)) rfl rfl <| .e (.move rfl) rfl rfl <| .nil <| .again ?_
          refine .seq <| .region <| .e (.lss rfl rfl) rfl rfl <| .nil <| .go <| .seq ?_
          refine .cond_false rfl <| .exit <| .exit <| .exit <| .blk_exit <| .go ?_
          refine .seq <| .region <| .e (.loadW ag24 sz24 rfl (.app <| .app <| .app <| .app <| .there <| .there <| .there <| .there <| .there <| .there <| .there <| .here) rfl) rfl rfl <| .e (.loadW ag24 sz24 rfl (.app <| .app <| .app <| .app <| .there <| .there <| .there <| .there <| .there <| .there <| .here) rfl) rfl rfl <| .on rfl <| .callP cal13 rfl rfl rfl ((sameNet_ok (hn0'.mono hI25) (netMk hp25)).cast (congrArg Value.bool (decide_eq_true rfl))) <| .e (.assign rfl) rfl rfl ?_
          refine .nil <| .go <| .ret ?_
          refine .drop <| .drop <| .drop <| .drop <| .tail <| .tail ?_
          refine .tail <| .tail <| .tail <| .tail <| .tail <| .tail ?_
          refine .back hI25 ?_
          refine Post.retE rfl rfl ?_
          rfl

end Go.Proofs.Ytgiddbcadhigcaa
