/- Walks of functions over a symbolic memory, printed by a program of the session. -/
import Derived.Test.YtgiddbcadhigcaaNc
namespace Go.Proofs.Ytgiddbcadhigcaa
open Go.Sy
set_option linter.unusedSimpArgs false
set_option linter.unusedVariables false

def sendTo (n l : List Pkt) (k : Nat) : List Pkt := ((l.take k).filter rightP).take (4096 - n.length)
theorem sendTo_end {n l : List Pkt} : sendTo n l l.length = sendP n l := by unfold sendTo sendP; rw [List.take_length]
theorem sendTo_yes {n l : List Pkt} {k : Nat} (hk : k < l.length) (h : rightP l[k] = true) (h2 : ((n ++ sendTo n l k).length : Int) < 4096) : sendTo n l (k + 1) = sendTo n l k ++ [l[k]] := by
  unfold sendTo at *
  rw [List.length_append, List.length_take] at h2
  rw [filter_yes hk h, List.take_append]
  have e : ((l.take k).filter rightP).length < 4096 - n.length := by omega
  rw [List.take_of_length_le (show [l[k]].length ≤ _ by simp; omega)]
theorem sendTo_no {n l : List Pkt} {k : Nat} (hk : k < l.length) (h : rightP l[k] = false ∨ ¬((n ++ sendTo n l k).length : Int) < 4096) : sendTo n l (k + 1) = sendTo n l k := by
  unfold sendTo at *
  by_cases hr : rightP l[k] = true
  · rcases h with h | h
    · rw [hr] at h; cases h
    · rw [List.length_append, List.length_take] at h
      rw [filter_yes hk hr, List.take_append_of_le_length (by omega)]
  · rw [filter_no hk (by simpa using hr)]
theorem sendTo_len {n l : List Pkt} {k : Nat} : (sendTo n l k).length ≤ 4096 - n.length := by unfold sendTo; rw [List.length_take]; omega
theorem part_eq {cs ws : List Value} {m j : Nat} {p : Pkt} (hw : cs.take (m * 3) = ws) (hj : j < m) (h : (ws.drop (j * 3)).take 3 = p.cells) : (cs.drop (0 + j * 3)).take 3 = p.cells := by
  rw [← h, ← hw, Nat.zero_add, List.drop_take, List.take_take]
  congr 1
  omega

set_option maxHeartbeats 4000000 in
set_option maxRecDepth 20000 in
theorem rnSend_ok {I : Imm} {O : Own} {cs : List Value} {n : List Pkt} (hn : NetR I cs n) {v : Value} {l : List Pkt} (hl : PktsR I v l) :
    Go.Sy.Does Try.prog 9 [.agg ⟨cs⟩, v] I O (fun u I' O' => I' = I ∧ ∃ v ws ob, u = .tuple ⟨[.agg ⟨[v]⟩, .int .i64 (sendR n l).2.1, .int .i64 (sendR n l).2.2]⟩ ∧ OwnS 3 v (sendR n l).1.length ws ob ∧ DR PktR 3 I ws (sendR n l).1 ∧ O' = ob ++ O) := by
  have hn0' := hn
  obtain ⟨nv, rfl, hnv⟩ := hn
  have hn0 := hnv
  obtain ⟨na, ncap, rfl, hn1, hn2, -⟩ := hnv
  have hl0 := hl
  obtain ⟨la, lcap, rfl, hl1, hl2, -⟩ := hl
  refine Go.Sy.Does.enter Try.func9 rfl Try.ntmps9 rfl ?_
  refine .seq <| .region <| .on rfl <| .box rfl rfl rfl fun c1 _ _ => .on rfl <| .alloc zr24 rfl fun c2 _ _ => .e (.assign rfl) rfl rfl <| .e (.assign rfl) rfl rfl ?_
  refine .nil <| .go <| .seq <| .seq <| .region <| .e (.loadW ag24 sz24 rfl (.there <| .here) rfl) rfl rfl ?_
  refine .on rfl <| .callP cal19 rfl rfl rfl (rnCheck_ok hn0') <| .e (.neq rfl rfl) rfl rfl <| .nil <| .go ?_
  refine .split 12 rfl (fun h12 => ?_) (fun h12 => ?_)
  · skip
    first | replace h12 := of_decide_eq_false ((Bool.not_eq_true' _).mp h12) | replace h12 := of_decide_eq_false (by simpa using h12)
    refine .cond_true rfl <| .seq <| .region <| .e (.build bs24 zv24 rfl rfl) rfl rfl <| .on rfl <| .storeW sz24 rfl rfl rfl rfl rfl rfl .here <| .e (.assign rfl) rfl rfl ?_
    refine .e (.assign rfl) rfl rfl <| .nil <| .go <| .ret <| .ret ?_
    refine Post.rets rfl (.agg rfl ag24 sz24 .here rfl (.tmp rfl (.tmp rfl .nil))) rfl (Imm.le_refl _) (fun w h => (Sat.tail (Sat.tail h))) ?_
    rw [sendR_no h12 rfl]
    exact ⟨rfl, _, [], [], rfl, OwnS.nil, DR.nil, rfl⟩
  · skip
    first | replace h12 := of_decide_eq_true ((Bool.not_eq_false' _).mp h12) | replace h12 := of_decide_eq_true (by simpa using h12)
    have hnl := netOk_len (netOk_why h12)
    refine .cond_false rfl <| .skip <| .go <| .seq <| .region <| .e (.loadW ag24 sz24 rfl (.there <| .here) rfl) rfl rfl ?_
    refine .on rfl <| .call cal7 rfl rfl rfl (copyNet_ok hn0' (by omega)) fun v15 I15 O15 hI15 hK15 => ?_
    obtain ⟨hq15, w15, ws15, ob15, rfl, ho15, hd15, rfl⟩ := hK15
    replace hq15 := hq15.symm
    subst hq15
    obtain ⟨ad15, cap15, rfl⟩ := ho15.form
    refine .on rfl <| .storeW sz24 rfl rfl rfl rfl rfl rfl (.app <| .there <| .here) <| .nil <| .go <| .seq <| .region <| .e (.assign rfl) rfl rfl ?_
    refine .nil <| .go <| .seq <| .seq <| .region <| .e (.move rfl) rfl rfl ?_
    refine .e (.len sl22 rfl rfl) rfl rfl <| .e (.move rfl) rfl rfl <| .nil <| .go <| .block ?_
    refine .loopM [7, 9, 18, 19, 20, 21, 22, 23, 24, 25, 26, 27, 28, 29, 30, 31, 32, 33, 34, 35, 36, 37, 38] (fun s => l.length - s.1) (fun s => s.1 ≤ l.length ∧ OwnS 3 s.2.1 (n ++ sendTo n l s.1).length s.2.2.1 s.2.2.2 ∧ DR PktR 3 I s.2.2.1 (n ++ sendTo n l s.1)) (fun s => [(18, .int .i64 s.1), (7, .int .i64 (sendTo n l s.1).length)]) (fun _ => _) (fun s => s.2.2.2 ++ (c2, .cells ⟨[.slice none 0 0]⟩ 24 (0, 0)) :: (c1, .cells ⟨[s.2.1]⟩ 24 (0, 0)) :: O) (((0, .slice ad15 n.length cap15, ws15, ob15) : Nat × Value × List Value × Own)) ⟨Nat.zero_le _, by simpa [sendTo] using ho15, by simpa [sendTo] using hd15⟩ ⟨rfl, congrArg (fun x => some (Value.int .i64 x)) (by simp [sendTo]), trivial⟩ rfl rfl ?_
    intro ⟨k, vL, wsL, obL⟩ hk
    dsimp only at hk ⊢
    obtain ⟨hk, hoL, hdL⟩ := hk
    obtain ⟨adL, capL, rfl⟩ := hoL.form
    have hst := sendTo_len (n := n) (l := l) (k := k)
    have hla : (n ++ sendTo n l k).length = n.length + (sendTo n l k).length := List.length_append
    refine .seq <| .region <| .e (.lss rfl rfl) rfl rfl <| .nil <| .go <| .seq ?_
    refine .split 19 rfl (fun h19 => ?_) (fun h19 => ?_)
    · skip
      replace h19 := of_decide_eq_true h19
      refine .cond_true rfl <| .skip <| .go <| .seq <| .block <| .seq ?_
      refine .region ?_
      obtain ⟨eb20, eo20, cs20, hd20, hat20, hr20⟩ := SlR.at_ hl0 (k := k) (by omega)
      cases hd20
      have hp20 := hr20
      obtain ⟨rfl, hx20, hy20, hz20⟩ := hr20
      refine .e (.indexAddrL sl22 rfl rfl rfl (by omega)) rfl rfl <| .e (.loadIA ag30 sz30 rfl hat20 rfl) rfl rfl <| .on rfl <| .alloc zr30 rfl fun c3 _ _ => .on rfl <| .storeW sz30 rfl rfl rfl rfl rfl rfl .here <| .nil <| .go ?_
      refine .seq <| .region <| .e (.loadW ag30 sz30 rfl .here rfl) rfl rfl <| .on rfl <| .callP cal23 rfl rfl rfl (rright_ok hp20) <| .e (.move rfl) rfl rfl ?_
      refine .split 24 rfl (fun h24 => ?_) (fun h24 => ?_)
      · skip
        refine .e (.fieldAddr fo24_0 rfl) rfl rfl <| .e (.load ag22 rfl (.there <| .app <| .there <| .here) rfl) rfl rfl <| .e (.len sl22 rfl rfl) rfl rfl <| .e (.lss rfl rfl) rfl rfl <| .e (.pickT rfl rfl) rfl rfl <| .nil ?_
        refine .go ?_
        refine .split 29 rfl (fun h29 => ?_) (fun h29 => ?_)
        · skip
          replace h29 := of_decide_eq_true h29
          refine .cond_true rfl <| .seq <| .region <| .e (.fieldAddr fo24_0 rfl) rfl rfl <| .e (.load ag22 rfl (.there <| .app <| .there <| .here) rfl) rfl rfl <| .e (.loadW ag30 sz30 rfl .here rfl) rfl rfl ?_
          refine .on rfl <| .buildSlice Try.underlying22 sz30 (by decide) (by decide) zv30 rfl rfl rfl rfl rfl fun c4 _ _ => .on rfl <| .append Try.underlying22 Try.underlying22 sz30 by30 zv30 rfl rfl rfl (.there <| .there <| .front) hoL ((OwnS.made (k := 3) rfl (by decide)).src (I := _) .here) rfl rfl (by omega) (by omega) rfl fun v34 ob34 ho34 => .e (.fieldAddr fo24_0 rfl) rfl rfl ?_
          obtain ⟨ad34, cap34, rfl⟩ := ho34.form
          refine .on rfl <| .storeW sz22 rfl rfl rfl rfl rfl rfl (.app <| .there <| .there <| .there <| .here) <| .nil <| .go <| .region <| .e (.move rfl) rfl rfl <| .e (.add rfl rfl (wrap_succ (by omega))) rfl rfl ?_
          refine .e (.assign rfl) rfl rfl <| .nil <| .blk_normal <| .go <| .region <| .e (.add rfl rfl (by first | exact wrap_succ (by omega) | exact IntWalk.i64_in _ (by omega) | exact rfl)) rfl rfl ?_
          refine .e (.move rfl) rfl rfl <| .nil ?_
          refine .front (.app <| .here) ?_
          refine .tail ?_
          refine .front (.app <| .here) ?_
          refine .tail ?_
          have e5 := sendTo_yes (n := n) (l := l) (k := k) (by omega) (by simpa using h24) (by omega)
          have e6 : n ++ sendTo n l (k + 1) = (n ++ sendTo n l k) ++ [l[k]] := by rw [e5, List.append_assoc]
          have e7 : (n ++ sendTo n l (k + 1)).length = (n ++ sendTo n l k).length + 1 := by rw [e6, List.length_append]; rfl
          exact .mid ((k + 1, _, _, _)) ⟨by dsimp only; omega, by dsimp only; omega, by dsimp only; rw [e7]; exact ho34, by dsimp only; rw [e6]; exact hdL.append (DR.single rfl hp20)⟩ ⟨rfl, congrArg (fun x => some (Value.int .i64 x)) (by dsimp only; rw [e5, List.length_append]; rfl), trivial⟩ rfl rfl (.pre 26 rfl (.app rfl .base))
        · skip
          replace h29 := of_decide_eq_false h29
          refine .cond_false rfl <| .skip <| .blk_normal <| .go <| .region <| .e (.add rfl rfl (by first | exact wrap_succ (by omega) | exact IntWalk.i64_in _ (by omega) | exact rfl)) rfl rfl ?_
          refine .e (.move rfl) rfl rfl <| .nil ?_
          refine .tail ?_
          have e5 := sendTo_no (n := n) (l := l) (k := k) (by omega) (by first | exact .inl (by simpa using h24) | exact .inr (by omega))
          exact .mid ((k + 1, _, wsL, obL)) ⟨by dsimp only; omega, by dsimp only; omega, by dsimp only; rw [e5]; exact hoL, by dsimp only; rw [e5]; exact hdL⟩ ⟨rfl, congrArg (fun x => some (Value.int .i64 x)) (by dsimp only; rw [e5]), trivial⟩ rfl rfl (.pre 17 rfl (.app rfl .base))
      · skip
        refine .off rfl rfl <| .off rfl rfl <| .off rfl rfl <| .off rfl rfl <| .e (.pickF rfl rfl) rfl rfl <| .nil ?_
        refine .go <| .cond_false rfl <| .skip <| .blk_normal <| .go <| .region ?_
        refine .e (.add rfl rfl (by first | exact wrap_succ (by omega) | exact IntWalk.i64_in _ (by omega) | exact rfl)) rfl rfl <| .e (.move rfl) rfl rfl <| .nil ?_
        refine .tail ?_
        have e5 := sendTo_no (n := n) (l := l) (k := k) (by omega) (by first | exact .inl (by simpa using h24) | exact .inr (by omega))
        exact .mid ((k + 1, _, wsL, obL)) ⟨by dsimp only; omega, by dsimp only; omega, by dsimp only; rw [e5]; exact hoL, by dsimp only; rw [e5]; exact hdL⟩ ⟨rfl, congrArg (fun x => some (Value.int .i64 x)) (by dsimp only; rw [e5]), trivial⟩ rfl rfl (.pre 16 rfl (.app rfl .base))
    · skip
      replace h19 := of_decide_eq_false h19
      refine .cond_false rfl <| .exit <| .exit <| .exit <| .blk_exit <| .go ?_
      refine .seq <| .region <| .e (.loadW ag24 sz24 rfl (.app <| .there <| .here) rfl) rfl rfl <| .e (.move rfl) rfl rfl <| .on rfl <| .storeW sz24 rfl rfl rfl rfl rfl rfl (.app <| .here) <| .e (.assign rfl) rfl rfl ?_
      refine .e (.assign rfl) rfl rfl <| .nil <| .go <| .ret ?_
      refine Post.rets rfl (.agg rfl ag24 sz24 (.app <| .here) rfl (.tmp rfl (.tmp rfl .nil))) rfl (Imm.le_refl _) (fun w h => (Sat.tail (Sat.rem (Sat.tail (Sat.rem h (Rem.app <| Rem.here))) (Rem.app <| Rem.here)))) ?_
      have ek : k = l.length := by omega
      subst ek
      rw [sendR_ok h12, ← sendTo_end]
      exact ⟨rfl, _, wsL, obL, rfl, hoL, hdL, rfl⟩

set_option maxHeartbeats 4000000 in
set_option maxRecDepth 20000 in
theorem nGive_ok {I : Imm} {O : Own} {cs : List Value} {n : List Pkt} (hn : NetR I cs n) {i : Int} (hi : I64 i) :
    Go.Sy.Does Try.prog 10 [.agg ⟨cs⟩, .int .i64 i] I O (fun u I' O' => I' = I ∧ ∃ v ws ob, u = .tuple ⟨[.agg ⟨[v]⟩, .agg ⟨(giveR n i).2.1.cells⟩, .int .i64 (giveR n i).2.2]⟩ ∧ PktR I (giveR n i).2.1.cells (giveR n i).2.1 ∧ OwnS 3 v (giveR n i).1.length ws ob ∧ DR PktR 3 I ws (giveR n i).1 ∧ O' = ob ++ O) := by
  have hn0' := hn
  obtain ⟨nv, rfl, hnv⟩ := hn
  have hn0 := hnv
  obtain ⟨na, ncap, rfl, hn1, hn2, -⟩ := hnv
  unfold I64 at hi
  refine Go.Sy.Does.enter Try.func10 rfl Try.ntmps10 rfl ?_
  refine .seq <| .region <| .on rfl <| .box rfl rfl rfl fun c1 _ _ => .on rfl <| .alloc zr24 rfl fun c2 _ _ => .on rfl <| .alloc zr30 rfl fun c3 _ _ => .e (.assign rfl) rfl rfl ?_
  refine .nil <| .go <| .seq <| .seq <| .region <| .e (.loadW ag24 sz24 rfl (.there <| .there <| .here) rfl) rfl rfl ?_
  refine .on rfl <| .callP cal18 rfl rfl rfl (nCheck_ok hn0') <| .e (.assign rfl) rfl rfl <| .nil <| .go <| .block <| .seq ?_
  refine .region <| .e (.move rfl) rfl rfl <| .e (.neq rfl rfl) rfl rfl <| .e (.assign rfl) rfl rfl <| .nil <| .go ?_
  refine .split 10 rfl (fun h10 => ?_) (fun h10 => ?_)
  · skip
    first | replace h10 := of_decide_eq_false ((Bool.not_eq_true' _).mp h10) | replace h10 := of_decide_eq_false (by simpa using h10)
    refine .cond_true rfl <| .seq <| .region <| .e (.build bs24 zv24 rfl rfl) rfl rfl <| .e (.build bs30 zv30 rfl rfl) rfl rfl <| .e (.move rfl) rfl rfl ?_
    refine .on rfl <| .storeW sz24 rfl rfl rfl rfl rfl rfl (.there <| .here) <| .on rfl <| .storeW sz30 rfl rfl rfl rfl rfl rfl .here <| .e (.assign rfl) rfl rfl <| .nil <| .go <| .ret ?_
    refine .blk_ret <| .ret ?_
    refine Post.rets rfl (.agg rfl ag24 sz24 (.there <| .here) rfl (.agg rfl ag30 sz30 .here rfl (.tmp rfl .nil))) rfl (Imm.le_refl _) (fun w h => (Sat.tail (Sat.tail (Sat.tail h)))) ?_
    rw [giveR_no h10 (netNo_why h10).2]
    exact ⟨rfl, _, [], [], rfl, pkt0R, OwnS.nil, DR.nil, rfl⟩
  · skip
    first | replace h10 := of_decide_eq_true ((Bool.not_eq_false' _).mp h10) | replace h10 := of_decide_eq_true (by simpa using h10)
    have hnl := netOk_len (netOk_why h10)
    refine .cond_false rfl <| .seq <| .region <| .e (.move rfl) rfl rfl <| .e (.lss rfl rfl) rfl rfl <| .e (.move rfl) rfl rfl ?_
    refine .split 19 rfl (fun h19 => ?_) (fun h19 => ?_)
    · skip
      replace h19 := of_decide_eq_true h19
      refine .off rfl rfl <| .off rfl rfl <| .off rfl rfl <| .off rfl rfl <| .off rfl rfl <| .e (.pickT rfl rfl) rfl rfl ?_
      refine .e (.assign rfl) rfl rfl <| .nil <| .go <| .cond_true rfl <| .seq <| .region ?_
      refine .e (.build bs24 zv24 rfl rfl) rfl rfl <| .e (.build bs30 zv30 rfl rfl) rfl rfl <| .on rfl <| .storeW sz24 rfl rfl rfl rfl rfl rfl (.there <| .here) <| .on rfl <| .storeW sz30 rfl rfl rfl rfl rfl rfl .here <| .e (.assign rfl) rfl rfl <| .nil ?_
      refine .go <| .ret <| .blk_ret <| .ret ?_
      refine Post.rets rfl (.agg rfl ag24 sz24 (.there <| .here) rfl (.agg rfl ag30 sz30 .here rfl (.tmp rfl .nil))) rfl (Imm.le_refl _) (fun w h => (Sat.tail (Sat.tail (Sat.tail h)))) ?_
      rw [giveR_out h10 (by omega)]
      exact ⟨rfl, _, [], [], rfl, pkt0R, OwnS.nil, DR.nil, rfl⟩
    · skip
      replace h19 := of_decide_eq_false h19
      refine .e (.move rfl) rfl rfl <| .e (.fieldAddr fo24_0 rfl) rfl rfl <| .e (.load ag22 rfl (.there <| .there <| .here) rfl) rfl rfl <| .e (.len sl22 rfl rfl) rfl rfl <| .e (.geq rfl rfl) rfl rfl <| .e (.pickF rfl rfl) rfl rfl ?_
      refine .e (.assign rfl) rfl rfl <| .nil <| .go ?_
      refine .split 16 rfl (fun h16 => ?_) (fun h16 => ?_)
      · skip
        replace h16 := of_decide_eq_true h16
        refine .cond_true rfl <| .seq <| .region <| .e (.build bs24 zv24 rfl rfl) rfl rfl <| .e (.build bs30 zv30 rfl rfl) rfl rfl <| .on rfl <| .storeW sz24 rfl rfl rfl rfl rfl rfl (.there <| .here) ?_
        refine .on rfl <| .storeW sz30 rfl rfl rfl rfl rfl rfl .here <| .e (.assign rfl) rfl rfl <| .nil <| .go <| .ret <| .blk_ret ?_
        refine .ret ?_
        refine Post.rets rfl (.agg rfl ag24 sz24 (.there <| .here) rfl (.agg rfl ag30 sz30 .here rfl (.tmp rfl .nil))) rfl (Imm.le_refl _) (fun w h => (Sat.tail (Sat.tail (Sat.tail h)))) ?_
        rw [giveR_out h10 (by omega)]
        exact ⟨rfl, _, [], [], rfl, pkt0R, OwnS.nil, DR.nil, rfl⟩
      · skip
        replace h16 := of_decide_eq_false h16
        refine .cond_false rfl <| .skip <| .blk_normal <| .go <| .seq ?_
        obtain ⟨j, hj⟩ : ∃ j : Nat, i = (j : Int) := ⟨i.toNat, by omega⟩
        have hjn : j < n.length := by omega
        have hw33 : IntKind.i64.wrap (i + 1) = ((j + 1 : Nat) : Int) := (IntWalk.i64_in _ (by omega)).trans (by omega)
        refine .draw [(c1, _)] mixed (.cons (.there <| .there <| .here) .nil) ?_
        refine .t 0 rfl (.fieldAddr fo24_0 rfl) rfl rfl (by kernel_rfl) <| .t 1 rfl (.load ag22 rfl .here rfl) rfl rfl (by kernel_rfl) <| .t 3 rfl (.move rfl) rfl rfl (by kernel_rfl) <| .t 4 rfl (.move rfl) rfl rfl (by kernel_rfl) <| .t 5 rfl (.add rfl rfl hw33) rfl rfl (by kernel_rfl) <| .t 8 rfl (.fieldAddr fo24_0 rfl) rfl rfl (by kernel_rfl) ?_
        refine .t 9 rfl (.load ag22 rfl .here rfl) rfl rfl (by kernel_rfl) <| .t 10 rfl (.move rfl) rfl rfl (by kernel_rfl) ?_
        obtain ⟨eb39, eo39, cs39, hd39, hat39, hr39⟩ := SlR.at_ hn0 (k := j) (by omega)
        cases hd39
        have hp39 := hr39
        obtain ⟨rfl, hx39, hy39, hz39⟩ := hr39
        refine .t 11 rfl (.indexAddrL sl22 rfl rfl hj (by omega)) rfl rfl (by kernel_rfl) <| .t 12 rfl (.loadIA ag30 sz30 rfl hat39 rfl) rfl rfl (by kernel_rfl) <| .one (i := 2) (by kernel_rfl) rfl rfl <| .call cal22 rfl rfl rfl (clonePkt_ok hn0 (by omega)) fun v30 I30 O30 hI30 hK30 => ?_
        obtain ⟨hq30, ws30, ob30, ho30, hd30, rfl⟩ := hK30
        replace hq30 := hq30.symm
        subst hq30
        obtain ⟨ad30, cap30, rfl⟩ := ho30.form
        refine ⟨(.cons (.app <| .there <| .there <| .here) .nil), Imm.le_refl _, ?_⟩
        refine .one (i := 6) (by kernel_rfl) rfl rfl <| .call cal24 rfl rfl rfl (del_ok (j := j + 1) ho30 hd30 (Nat.lt_succ_self j) (by omega) hj rfl) fun v34 I34 O34 hI34 hK34 => ?_
        obtain ⟨hq34, ws34, ob34, ho34, hd34, rfl⟩ := hK34
        replace hq34 := hq34.symm
        subst hq34
        obtain ⟨ad34, cap34, rfl⟩ := ho34.form
        refine ⟨(.cons (.app <| .there <| .there <| .here) .nil), Imm.le_refl _, ?_⟩
        refine .t 7 rfl (.build bs24 zv24 rfl rfl) rfl rfl (by kernel_rfl) <| .one (i := 13) (by kernel_rfl) rfl rfl <| .storeW sz24 rfl rfl rfl rfl rfl rfl (.app <| .there <| .here) ?_
        refine ⟨(.cons (.app <| .there <| .there <| .here) .nil), Imm.le_refl _, ?_⟩
        refine .one (i := 14) (by kernel_rfl) rfl rfl <| .storeW sz30 rfl rfl rfl rfl rfl rfl (.app <| .here) ?_
        refine ⟨(.cons (.app <| .there <| .there <| .here) .nil), Imm.le_refl _, ?_⟩
        refine .t 15 rfl (.assign rfl) rfl rfl (by kernel_rfl) <| .done (by kernel_rfl) <| .go <| .ret ?_
        refine Post.rets rfl (.agg rfl ag24 sz24 (.app <| .there <| .here) rfl (.agg rfl ag30 sz30 (.app <| .here) rfl (.tmp rfl .nil))) rfl (Imm.le_refl _) (fun w h => (Sat.tail (Sat.rem (Sat.tail (Sat.rem (Sat.tail (Sat.rem h (Rem.app <| Rem.here))) (Rem.app <| Rem.here))) (Rem.app <| Rem.here)))) ?_
        rw [giveR_in h10 hj hjn]
        exact ⟨rfl, _, _, ob34, rfl, hp39, ho34, hd34, rfl⟩

set_option maxHeartbeats 4000000 in
set_option maxRecDepth 20000 in
theorem rnGive_ok {I : Imm} {O : Own} {cs : List Value} {n : List Pkt} (hn : NetR I cs n) {i : Int} (hi : I64 i) :
    Go.Sy.Does Try.prog 11 [.agg ⟨cs⟩, .int .i64 i] I O (fun u I' O' => I' = I ∧ ∃ v ws ob, u = .tuple ⟨[.agg ⟨[v]⟩, .agg ⟨(giveR n i).2.1.cells⟩, .int .i64 (giveR n i).2.2]⟩ ∧ PktR I (giveR n i).2.1.cells (giveR n i).2.1 ∧ OwnS 3 v (giveR n i).1.length ws ob ∧ DR PktR 3 I ws (giveR n i).1 ∧ O' = ob ++ O) := by
  have hn0' := hn
  obtain ⟨nv, rfl, hnv⟩ := hn
  have hn0 := hnv
  obtain ⟨na, ncap, rfl, hn1, hn2, -⟩ := hnv
  unfold I64 at hi
  refine Go.Sy.Does.enter Try.func11 rfl Try.ntmps11 rfl ?_
  refine .seq <| .region <| .on rfl <| .box rfl rfl rfl fun c1 _ _ => .on rfl <| .alloc zr24 rfl fun c2 _ _ => .on rfl <| .alloc zr30 rfl fun c3 _ _ => .e (.assign rfl) rfl rfl ?_
  refine .nil <| .go <| .seq <| .seq <| .region <| .e (.loadW ag24 sz24 rfl (.there <| .there <| .here) rfl) rfl rfl ?_
  refine .on rfl <| .callP cal19 rfl rfl rfl (rnCheck_ok hn0') <| .e (.neq rfl rfl) rfl rfl <| .nil <| .go ?_
  refine .split 10 rfl (fun h10 => ?_) (fun h10 => ?_)
  · skip
    first | replace h10 := of_decide_eq_false ((Bool.not_eq_true' _).mp h10) | replace h10 := of_decide_eq_false (by simpa using h10)
    refine .cond_true rfl <| .seq <| .region <| .e (.build bs24 zv24 rfl rfl) rfl rfl <| .e (.build bs30 zv30 rfl rfl) rfl rfl <| .on rfl <| .storeW sz24 rfl rfl rfl rfl rfl rfl (.there <| .here) ?_
    refine .on rfl <| .storeW sz30 rfl rfl rfl rfl rfl rfl .here <| .e (.assign rfl) rfl rfl <| .nil <| .go <| .ret <| .ret ?_
    refine Post.rets rfl (.agg rfl ag24 sz24 (.there <| .here) rfl (.agg rfl ag30 sz30 .here rfl (.tmp rfl .nil))) rfl (Imm.le_refl _) (fun w h => (Sat.tail (Sat.tail (Sat.tail h)))) ?_
    rw [giveR_no h10 rfl]
    exact ⟨rfl, _, [], [], rfl, pkt0R, OwnS.nil, DR.nil, rfl⟩
  · skip
    first | replace h10 := of_decide_eq_true ((Bool.not_eq_false' _).mp h10) | replace h10 := of_decide_eq_true (by simpa using h10)
    have hnl := netOk_len (netOk_why h10)
    refine .cond_false rfl <| .skip <| .go <| .seq <| .seq <| .region ?_
    refine .e (.move rfl) rfl rfl <| .e (.lss rfl rfl) rfl rfl <| .e (.move rfl) rfl rfl ?_
    refine .split 15 rfl (fun h15 => ?_) (fun h15 => ?_)
    · skip
      replace h15 := of_decide_eq_true h15
      refine .off rfl rfl <| .off rfl rfl <| .off rfl rfl <| .off rfl rfl <| .off rfl rfl <| .e (.pickT rfl rfl) rfl rfl ?_
      refine .nil <| .go <| .cond_true rfl <| .seq <| .region <| .e (.build bs24 zv24 rfl rfl) rfl rfl ?_
      refine .e (.build bs30 zv30 rfl rfl) rfl rfl <| .on rfl <| .storeW sz24 rfl rfl rfl rfl rfl rfl (.there <| .here) <| .on rfl <| .storeW sz30 rfl rfl rfl rfl rfl rfl .here <| .e (.assign rfl) rfl rfl <| .nil <| .go ?_
      refine .ret <| .ret ?_
      refine Post.rets rfl (.agg rfl ag24 sz24 (.there <| .here) rfl (.agg rfl ag30 sz30 .here rfl (.tmp rfl .nil))) rfl (Imm.le_refl _) (fun w h => (Sat.tail (Sat.tail (Sat.tail h)))) ?_
      rw [giveR_out h10 (by omega)]
      exact ⟨rfl, _, [], [], rfl, pkt0R, OwnS.nil, DR.nil, rfl⟩
    · skip
      replace h15 := of_decide_eq_false h15
      refine .e (.move rfl) rfl rfl <| .e (.fieldAddr fo24_0 rfl) rfl rfl <| .e (.load ag22 rfl (.there <| .there <| .here) rfl) rfl rfl <| .e (.len sl22 rfl rfl) rfl rfl <| .e (.geq rfl rfl) rfl rfl <| .e (.pickF rfl rfl) rfl rfl ?_
      refine .nil <| .go ?_
      refine .split 21 rfl (fun h21 => ?_) (fun h21 => ?_)
      · skip
        replace h21 := of_decide_eq_true h21
        refine .cond_true rfl <| .seq <| .region <| .e (.build bs24 zv24 rfl rfl) rfl rfl <| .e (.build bs30 zv30 rfl rfl) rfl rfl <| .on rfl <| .storeW sz24 rfl rfl rfl rfl rfl rfl (.there <| .here) ?_
        refine .on rfl <| .storeW sz30 rfl rfl rfl rfl rfl rfl .here <| .e (.assign rfl) rfl rfl <| .nil <| .go <| .ret <| .ret ?_
        refine Post.rets rfl (.agg rfl ag24 sz24 (.there <| .here) rfl (.agg rfl ag30 sz30 .here rfl (.tmp rfl .nil))) rfl (Imm.le_refl _) (fun w h => (Sat.tail (Sat.tail (Sat.tail h)))) ?_
        rw [giveR_out h10 (by omega)]
        exact ⟨rfl, _, [], [], rfl, pkt0R, OwnS.nil, DR.nil, rfl⟩
      · skip
        replace h21 := of_decide_eq_false h21
        refine .cond_false rfl <| .skip <| .go <| .seq <| .region ?_
        obtain ⟨j, hj⟩ : ∃ j : Nat, i = (j : Int) := ⟨i.toNat, by omega⟩
        have hjn : j < n.length := by omega
        have hw33 : IntKind.i64.wrap (i + 1) = ((j + 1 : Nat) : Int) := (IntWalk.i64_in _ (by omega)).trans (by omega)
        refine .e (.fieldAddr fo24_0 rfl) rfl rfl <| .e (.load ag22 rfl (.there <| .there <| .here) rfl) rfl rfl <| .e (.move rfl) rfl rfl ?_
        obtain ⟨eb27, eo27, cs27, hd27, hat27, hr27⟩ := SlR.at_ hn0 (k := j) (by omega)
        cases hd27
        have hp27 := hr27
        obtain ⟨rfl, hx27, hy27, hz27⟩ := hr27
        refine .e (.indexAddrL sl22 rfl rfl hj (by omega)) rfl rfl <| .e (.loadIA ag30 sz30 rfl hat27 rfl) rfl rfl <| .on rfl <| .alloc zr30 rfl fun c4 _ _ => .on rfl <| .storeW sz30 rfl rfl rfl rfl rfl rfl .here <| .nil <| .go ?_
        refine .seq ?_
        refine .draw [(c1, _), (c4, _)] mixed (.cons (.there <| .there <| .there <| .here) (.cons .here .nil)) ?_
        refine .t 1 rfl (.fieldAddr fo24_0 rfl) rfl rfl (by kernel_rfl) <| .t 2 rfl (.load ag22 rfl .here rfl) rfl rfl (by kernel_rfl) <| .t 3 rfl (.move rfl) rfl rfl (by kernel_rfl) <| .t 4 rfl (.sliceHn sl22 rfl rfl hj (by omega)) rfl rfl (by kernel_rfl) <| .t 6 rfl (.fieldAddr fo24_0 rfl) rfl rfl (by kernel_rfl) <| .t 7 rfl (.load ag22 rfl .here rfl) rfl rfl (by kernel_rfl) ?_
        refine .t 8 rfl (.move rfl) rfl rfl (by kernel_rfl) <| .t 9 rfl (.add rfl rfl hw33) rfl rfl (by kernel_rfl) <| .t 10 rfl (.sliceL sl22 rfl rfl rfl (by omega)) rfl rfl (by kernel_rfl) <| .t 13 rfl (.loadW ag30 sz30 rfl (.there <| .here) rfl) rfl rfl (by kernel_rfl) <| .one (i := 0) (by kernel_rfl) rfl rfl <| .buildSlice Try.underlying22 sz30 (by decide) (by decide) zv30 rfl rfl rfl rfl rfl fun c5 _ _ => ?_
        refine ⟨(.cons (.there <| .there <| .there <| .there <| .here) (.cons (.there <| .here) .nil)), Imm.le_refl _, ?_⟩
        obtain ⟨ws33, hs33, hd33⟩ := SlR.src (B := []) (fun _ _ h => PktR.len h) (SlR.takeN (h := j) hn0 (by omega))
        have hl33 : (n.take j).length = j := by rw [List.length_take]; omega
        refine .one (i := 5) (by kernel_rfl) rfl rfl <| .append Try.underlying22 Try.underlying22 sz30 by30 zv30 rfl rfl rfl .here (OwnS.made rfl (by decide)) hs33.any hd33.1 (hd33.ones (by decide) fun _ _ h => PktR.ones h) (by omega) (by omega) rfl fun v34 ob34 ho34 => ?_
        refine ⟨(.cons (.app <| .there <| .there <| .there <| .here) (.cons (.app <| .here) .nil)), Imm.le_refl _, ?_⟩
        obtain ⟨ws39, hs39, hd39⟩ := SlR.src (B := []) (fun _ _ h => PktR.len h) (SlR.from (l := j + 1) hn0 (by omega))
        have hl39 : (n.drop (j + 1)).length = n.length - (j + 1) := List.length_drop
        refine .one (i := 11) (by kernel_rfl) rfl rfl <| .append Try.underlying22 Try.underlying22 sz30 by30 zv30 rfl rfl rfl .front ho34 hs39.any hd39.1 (hd39.ones (by decide) fun _ _ h => PktR.ones h) (by omega) (by omega) rfl fun v40 ob40 ho40 => ?_
        refine ⟨(.cons (.app <| .there <| .there <| .there <| .here) (.cons (.app <| .here) .nil)), Imm.le_refl _, ?_⟩
        obtain ⟨ad40, cap40, rfl⟩ := ho40.form
        have hd40 := hd33.append hd39
        have ho40' : OwnS 3 (.slice ad40 (0 + (n.take j).length + (n.drop (j + 1)).length) cap40) (n.take j ++ n.drop (j + 1)).length (ws33 ++ ws39) ob40 := by rw [List.length_append]; simpa [repL] using ho40
        refine .t 12 rfl (.build bs24 zv24 rfl rfl) rfl rfl (by kernel_rfl) <| .one (i := 14) (by kernel_rfl) rfl rfl <| .storeW sz24 rfl rfl rfl rfl rfl rfl (.app <| .there <| .there <| .here) ?_
        refine ⟨(.cons (.app <| .there <| .there <| .there <| .here) (.cons (.app <| .here) .nil)), Imm.le_refl _, ?_⟩
        refine .one (i := 15) (by kernel_rfl) rfl rfl <| .storeW sz30 rfl rfl rfl rfl rfl rfl (.app <| .there <| .here) ?_
        refine ⟨(.cons (.app <| .there <| .there <| .there <| .here) (.cons (.app <| .here) .nil)), Imm.le_refl _, ?_⟩
        refine .t 16 rfl (.assign rfl) rfl rfl (by kernel_rfl) <| .done (by kernel_rfl) <| .go <| .ret ?_
        refine Post.rets rfl (.agg rfl ag24 sz24 (.app <| .there <| .there <| .here) rfl (.agg rfl ag30 sz30 (.app <| .there <| .here) rfl (.tmp rfl .nil))) rfl (Imm.le_refl _) (fun w h => (Sat.tail (Sat.rem (Sat.tail (Sat.rem (Sat.tail (Sat.rem (Sat.tail (Sat.rem h (Rem.app <| Rem.here))) (Rem.app <| Rem.here))) (Rem.app <| Rem.here))) (Rem.app <| Rem.here)))) ?_
        rw [giveR_in h10 hj hjn]
        exact ⟨rfl, _, _, ob40, rfl, hp27, ho40', hd40, rfl⟩

set_option maxHeartbeats 4000000 in
set_option maxRecDepth 20000 in
theorem nTwice_ok {I : Imm} {O : Own} {cs : List Value} {n : List Pkt} (hn : NetR I cs n) {i : Int} (hi : I64 i) :
    Go.Sy.Does Try.prog 14 [.agg ⟨cs⟩, .int .i64 i] I O (fun u I' O' => I' = I ∧ ∃ v ws ob, u = .tuple ⟨[.agg ⟨[v]⟩, .int .i64 (twiceR n i).2]⟩ ∧ OwnS 3 v (twiceR n i).1.length ws ob ∧ DR PktR 3 I ws (twiceR n i).1 ∧ O' = ob ++ O) := by
  have hn0' := hn
  obtain ⟨nv, rfl, hnv⟩ := hn
  have hn0 := hnv
  obtain ⟨na, ncap, rfl, hn1, hn2, -⟩ := hnv
  unfold I64 at hi
  refine Go.Sy.Does.enter Try.func14 rfl Try.ntmps14 rfl ?_
  refine .seq <| .region <| .on rfl <| .box rfl rfl rfl fun c1 _ _ => .on rfl <| .alloc zr24 rfl fun c2 _ _ => .e (.assign rfl) rfl rfl <| .nil ?_
  refine .go <| .seq <| .seq <| .region <| .e (.loadW ag24 sz24 rfl (.there <| .here) rfl) rfl rfl <| .on rfl <| .callP cal18 rfl rfl rfl (nCheck_ok hn0') ?_
  refine .e (.assign rfl) rfl rfl <| .nil <| .go <| .block <| .seq <| .region ?_
  refine .e (.move rfl) rfl rfl <| .e (.neq rfl rfl) rfl rfl <| .e (.assign rfl) rfl rfl <| .nil <| .go ?_
  refine .split 9 rfl (fun h9 => ?_) (fun h9 => ?_)
  · skip
    first | replace h9 := of_decide_eq_false ((Bool.not_eq_true' _).mp h9) | replace h9 := of_decide_eq_false (by simpa using h9)
    refine .cond_true rfl <| .seq <| .region <| .e (.build bs24 zv24 rfl rfl) rfl rfl <| .e (.move rfl) rfl rfl <| .on rfl <| .storeW sz24 rfl rfl rfl rfl rfl rfl .here ?_
    refine .e (.assign rfl) rfl rfl <| .nil <| .go <| .ret <| .blk_ret <| .ret ?_
    refine Post.rets rfl (.agg rfl ag24 sz24 .here rfl (.tmp rfl .nil)) rfl (Imm.le_refl _) (fun w h => (Sat.tail (Sat.tail h))) ?_
    rw [twiceR_no h9 (netNo_why h9).2]
    exact ⟨rfl, _, [], [], rfl, OwnS.nil, DR.nil, rfl⟩
  · skip
    first | replace h9 := of_decide_eq_true ((Bool.not_eq_false' _).mp h9) | replace h9 := of_decide_eq_true (by simpa using h9)
    have hnl := netOk_len (netOk_why h9)
    refine .cond_false rfl <| .seq <| .region <| .e (.move rfl) rfl rfl <| .e (.lss rfl rfl) rfl rfl <| .e (.move rfl) rfl rfl ?_
    refine .split 17 rfl (fun h17 => ?_) (fun h17 => ?_)
    · skip
      replace h17 := of_decide_eq_true h17
      refine .off rfl rfl <| .off rfl rfl <| .off rfl rfl <| .off rfl rfl <| .off rfl rfl <| .e (.pickT rfl rfl) rfl rfl ?_
      refine .e (.assign rfl) rfl rfl <| .nil <| .go <| .cond_true rfl <| .seq <| .region ?_
      refine .e (.build bs24 zv24 rfl rfl) rfl rfl <| .on rfl <| .storeW sz24 rfl rfl rfl rfl rfl rfl .here <| .e (.assign rfl) rfl rfl <| .nil <| .go <| .ret ?_
      refine .blk_ret <| .ret ?_
      refine Post.rets rfl (.agg rfl ag24 sz24 .here rfl (.tmp rfl .nil)) rfl (Imm.le_refl _) (fun w h => (Sat.tail (Sat.tail h))) ?_
      rw [twiceR_out h9 (by omega)]
      exact ⟨rfl, _, [], [], rfl, OwnS.nil, DR.nil, rfl⟩
    · skip
      replace h17 := of_decide_eq_false h17
      refine .e (.move rfl) rfl rfl <| .e (.fieldAddr fo24_0 rfl) rfl rfl <| .e (.load ag22 rfl (.there <| .here) rfl) rfl rfl <| .e (.len sl22 rfl rfl) rfl rfl <| .e (.geq rfl rfl) rfl rfl <| .e (.pickF rfl rfl) rfl rfl ?_
      refine .e (.assign rfl) rfl rfl <| .nil <| .go ?_
      refine .split 14 rfl (fun h14 => ?_) (fun h14 => ?_)
      · skip
        replace h14 := of_decide_eq_true h14
        refine .cond_true rfl <| .seq <| .region <| .e (.build bs24 zv24 rfl rfl) rfl rfl <| .on rfl <| .storeW sz24 rfl rfl rfl rfl rfl rfl .here <| .e (.assign rfl) rfl rfl ?_
        refine .nil <| .go <| .ret <| .blk_ret <| .ret ?_
        refine Post.rets rfl (.agg rfl ag24 sz24 .here rfl (.tmp rfl .nil)) rfl (Imm.le_refl _) (fun w h => (Sat.tail (Sat.tail h))) ?_
        rw [twiceR_out h9 (by omega)]
        exact ⟨rfl, _, [], [], rfl, OwnS.nil, DR.nil, rfl⟩
      · skip
        replace h14 := of_decide_eq_false h14
        refine .cond_false rfl <| .seq <| .region <| .e (.fieldAddr fo24_0 rfl) rfl rfl <| .e (.load ag22 rfl (.there <| .here) rfl) rfl rfl <| .e (.len sl22 rfl rfl) rfl rfl ?_
        refine .e (.geq rfl rfl) rfl rfl <| .e (.assign rfl) rfl rfl <| .nil <| .go ?_
        refine .split 25 rfl (fun h25 => ?_) (fun h25 => ?_)
        · skip
          replace h25 := of_decide_eq_true h25
          refine .cond_true rfl <| .seq <| .region <| .e (.build bs24 zv24 rfl rfl) rfl rfl <| .on rfl <| .storeW sz24 rfl rfl rfl rfl rfl rfl .here <| .e (.assign rfl) rfl rfl ?_
          refine .nil <| .go <| .ret <| .blk_ret <| .ret ?_
          refine Post.rets rfl (.agg rfl ag24 sz24 .here rfl (.tmp rfl .nil)) rfl (Imm.le_refl _) (fun w h => (Sat.tail (Sat.tail h))) ?_
          rw [twiceR_full h9 (by omega) h25]
          exact ⟨rfl, _, [], [], rfl, OwnS.nil, DR.nil, rfl⟩
        · skip
          replace h25 := of_decide_eq_false h25
          refine .cond_false rfl <| .skip <| .blk_normal <| .go <| .seq ?_
          obtain ⟨j, hj⟩ : ∃ j : Nat, i = (j : Int) := ⟨i.toNat, by omega⟩
          have hjn : j < n.length := by omega
          refine .draw [(c1, _)] mixed (.cons (.there <| .here) .nil) ?_
          refine .t 0 rfl (.fieldAddr fo24_0 rfl) rfl rfl (by kernel_rfl) <| .t 1 rfl (.load ag22 rfl .here rfl) rfl rfl (by kernel_rfl) <| .t 3 rfl (.fieldAddr fo24_0 rfl) rfl rfl (by kernel_rfl) <| .t 4 rfl (.load ag22 rfl .here rfl) rfl rfl (by kernel_rfl) <| .t 5 rfl (.move rfl) rfl rfl (by kernel_rfl) ?_
          obtain ⟨eb37, eo37, cs37, hd37, hat37, hr37⟩ := SlR.at_ hn0 (k := j) (by omega)
          cases hd37
          have hp37 := hr37
          obtain ⟨rfl, hx37, hy37, hz37⟩ := hr37
          refine .t 6 rfl (.indexAddrL sl22 rfl rfl hj (by omega)) rfl rfl (by kernel_rfl) <| .t 7 rfl (.loadIA ag30 sz30 rfl hat37 rfl) rfl rfl (by kernel_rfl) ?_
          refine .all (rs := [2, 8]) (by kernel_rfl) (by simp) ⟨⟨_, rfl, .inl ⟨rfl, ?_⟩⟩, ⟨⟨_, rfl, .inl ⟨rfl, ?_⟩⟩, trivial⟩⟩
          · skip
            refine .call cal22 rfl rfl rfl (clonePkt_ok hn0 (by omega)) fun v33 I33 O33 hI33 hK33 => ?_
            obtain ⟨hq33, ws33, ob33, ho33, hd33, rfl⟩ := hK33
            replace hq33 := hq33.symm
            subst hq33
            obtain ⟨ad33, cap33, rfl⟩ := ho33.form
            refine ⟨(.cons (.app <| .there <| .here) .nil), Imm.le_refl _, ?_⟩
            refine .one (i := 8) (by kernel_rfl) rfl rfl <| .buildSlice Try.underlying22 sz30 (by decide) (by decide) zv30 rfl rfl rfl rfl rfl fun c3 _ _ => ?_
            refine ⟨(.cons (.there <| .app <| .there <| .here) .nil), Imm.le_refl _, ?_⟩
            refine .one (i := 9) (by kernel_rfl) rfl rfl <| .append Try.underlying22 Try.underlying22 sz30 by30 zv30 rfl rfl rfl (.there <| .front) ho33 ((OwnS.made (k := 3) rfl (by decide)).src (I := _) .here) rfl rfl (by omega) (by omega) rfl fun v40 ob40 ho40 => ?_
            refine ⟨(.cons (.app <| .there <| .there <| .here) .nil), Imm.le_refl _, ?_⟩
            obtain ⟨ad40, cap40, rfl⟩ := ho40.form
            refine .t 10 rfl (.build bs24 zv24 rfl rfl) rfl rfl (by kernel_rfl) <| .one (i := 11) (by kernel_rfl) rfl rfl <| .storeW sz24 rfl rfl rfl rfl rfl rfl (.app <| .there <| .here) ?_
            refine ⟨(.cons (.app <| .there <| .there <| .here) .nil), Imm.le_refl _, ?_⟩
            refine .t 12 rfl (.assign rfl) rfl rfl (by kernel_rfl) <| .done (by kernel_rfl) <| .go <| .ret ?_
            refine Post.rets rfl (.agg rfl ag24 sz24 (.app <| .there <| .here) rfl (.tmp rfl .nil)) rfl (Imm.le_refl _) (fun w h => (Sat.tail (Sat.rem (Sat.tail (Sat.rem (Sat.tail (Sat.rem h (Rem.app <| Rem.here))) (Rem.app <| Rem.here))) (Rem.app <| Rem.here)))) ?_
            rw [twiceR_in h9 hj hjn h25]
            refine ⟨rfl, _, _, ob40, rfl, ?_, hd33.append (DR.single rfl hp37), rfl⟩
            rw [List.length_append]
            exact ho40
          · skip
            refine .buildSlice Try.underlying22 sz30 (by decide) (by decide) zv30 rfl rfl rfl rfl rfl fun c4 _ _ => ?_
            refine ⟨(.cons (.there <| .there <| .here) .nil), Imm.le_refl _, ?_⟩
            refine .one (i := 2) (by kernel_rfl) rfl rfl <| .call cal22 rfl rfl rfl (clonePkt_ok hn0 (by omega)) fun v33 I33 O33 hI33 hK33 => ?_
            obtain ⟨hq33, ws33, ob33, ho33, hd33, rfl⟩ := hK33
            replace hq33 := hq33.symm
            subst hq33
            obtain ⟨ad33, cap33, rfl⟩ := ho33.form
            refine ⟨(.cons (.app <| .there <| .there <| .here) .nil), Imm.le_refl _, ?_⟩
            refine .one (i := 9) (by kernel_rfl) rfl rfl <| .append Try.underlying22 Try.underlying22 sz30 by30 zv30 rfl rfl rfl .front ho33 ((OwnS.made (k := 3) rfl (by decide)).src (I := _) (.app <| .here)) rfl rfl (by omega) (by omega) rfl fun v40 ob40 ho40 => ?_
            refine ⟨(.cons (.app <| .there <| .there <| .here) .nil), Imm.le_refl _, ?_⟩
            obtain ⟨ad40, cap40, rfl⟩ := ho40.form
            refine .t 10 rfl (.build bs24 zv24 rfl rfl) rfl rfl (by kernel_rfl) <| .one (i := 11) (by kernel_rfl) rfl rfl <| .storeW sz24 rfl rfl rfl rfl rfl rfl (.app <| .there <| .here) ?_
            refine ⟨(.cons (.app <| .there <| .there <| .here) .nil), Imm.le_refl _, ?_⟩
            refine .t 12 rfl (.assign rfl) rfl rfl (by kernel_rfl) <| .done (by kernel_rfl) <| .go <| .ret ?_
            refine Post.rets rfl (.agg rfl ag24 sz24 (.app <| .there <| .here) rfl (.tmp rfl .nil)) rfl (Imm.le_refl _) (fun w h => (Sat.tail (Sat.rem (Sat.tail (Sat.rem (Sat.tail (Sat.rem h (Rem.app <| Rem.here))) (Rem.app <| Rem.here))) (Rem.app <| Rem.here)))) ?_
            rw [twiceR_in h9 hj hjn h25]
            refine ⟨rfl, _, _, ob40, rfl, ?_, hd33.append (DR.single rfl hp37), rfl⟩
            rw [List.length_append]
            exact ho40

set_option maxHeartbeats 4000000 in
set_option maxRecDepth 20000 in
theorem rnTwice_ok {I : Imm} {O : Own} {cs : List Value} {n : List Pkt} (hn : NetR I cs n) {i : Int} (hi : I64 i) :
    Go.Sy.Does Try.prog 15 [.agg ⟨cs⟩, .int .i64 i] I O (fun u I' O' => I' = I ∧ ∃ v ws ob, u = .tuple ⟨[.agg ⟨[v]⟩, .int .i64 (twiceR n i).2]⟩ ∧ OwnS 3 v (twiceR n i).1.length ws ob ∧ DR PktR 3 I ws (twiceR n i).1 ∧ O' = ob ++ O) := by
  have hn0' := hn
  obtain ⟨nv, rfl, hnv⟩ := hn
  have hn0 := hnv
  obtain ⟨na, ncap, rfl, hn1, hn2, -⟩ := hnv
  unfold I64 at hi
  refine Go.Sy.Does.enter Try.func15 rfl Try.ntmps15 rfl ?_
  refine .seq <| .region <| .on rfl <| .box rfl rfl rfl fun c1 _ _ => .on rfl <| .alloc zr24 rfl fun c2 _ _ => .e (.assign rfl) rfl rfl <| .nil ?_
  refine .go <| .seq <| .block <| .seq <| .region <| .e (.loadW ag24 sz24 rfl (.there <| .here) rfl) rfl rfl ?_
  refine .on rfl <| .callP cal19 rfl rfl rfl (rnCheck_ok hn0') <| .e (.neq rfl rfl) rfl rfl <| .e (.assign rfl) rfl rfl <| .nil <| .go ?_
  refine .split 6 rfl (fun h6 => ?_) (fun h6 => ?_)
  · skip
    first | replace h6 := of_decide_eq_false ((Bool.not_eq_true' _).mp h6) | replace h6 := of_decide_eq_false (by simpa using h6)
    refine .cond_true rfl <| .seq <| .region <| .e (.build bs24 zv24 rfl rfl) rfl rfl <| .on rfl <| .storeW sz24 rfl rfl rfl rfl rfl rfl .here <| .e (.assign rfl) rfl rfl ?_
    refine .nil <| .go <| .ret <| .blk_ret <| .ret ?_
    refine Post.rets rfl (.agg rfl ag24 sz24 .here rfl (.tmp rfl .nil)) rfl (Imm.le_refl _) (fun w h => (Sat.tail (Sat.tail h))) ?_
    rw [twiceR_no h6 rfl]
    exact ⟨rfl, _, [], [], rfl, OwnS.nil, DR.nil, rfl⟩
  · skip
    first | replace h6 := of_decide_eq_true ((Bool.not_eq_false' _).mp h6) | replace h6 := of_decide_eq_true (by simpa using h6)
    have hnl := netOk_len (netOk_why h6)
    refine .cond_false rfl <| .seq <| .region <| .e (.move rfl) rfl rfl <| .e (.lss rfl rfl) rfl rfl <| .e (.move rfl) rfl rfl ?_
    refine .split 14 rfl (fun h14 => ?_) (fun h14 => ?_)
    · skip
      replace h14 := of_decide_eq_true h14
      refine .off rfl rfl <| .off rfl rfl <| .off rfl rfl <| .off rfl rfl <| .off rfl rfl <| .e (.pickT rfl rfl) rfl rfl ?_
      refine .e (.assign rfl) rfl rfl <| .nil <| .go <| .cond_true rfl <| .seq <| .region ?_
      refine .e (.build bs24 zv24 rfl rfl) rfl rfl <| .on rfl <| .storeW sz24 rfl rfl rfl rfl rfl rfl .here <| .e (.assign rfl) rfl rfl <| .nil <| .go <| .ret ?_
      refine .blk_ret <| .ret ?_
      refine Post.rets rfl (.agg rfl ag24 sz24 .here rfl (.tmp rfl .nil)) rfl (Imm.le_refl _) (fun w h => (Sat.tail (Sat.tail h))) ?_
      rw [twiceR_out h6 (by omega)]
      exact ⟨rfl, _, [], [], rfl, OwnS.nil, DR.nil, rfl⟩
    · skip
      replace h14 := of_decide_eq_false h14
      refine .e (.move rfl) rfl rfl <| .e (.fieldAddr fo24_0 rfl) rfl rfl <| .e (.load ag22 rfl (.there <| .here) rfl) rfl rfl <| .e (.len sl22 rfl rfl) rfl rfl <| .e (.geq rfl rfl) rfl rfl <| .e (.pickF rfl rfl) rfl rfl ?_
      refine .e (.assign rfl) rfl rfl <| .nil <| .go ?_
      refine .split 11 rfl (fun h11 => ?_) (fun h11 => ?_)
      · skip
        replace h11 := of_decide_eq_true h11
        refine .cond_true rfl <| .seq <| .region <| .e (.build bs24 zv24 rfl rfl) rfl rfl <| .on rfl <| .storeW sz24 rfl rfl rfl rfl rfl rfl .here <| .e (.assign rfl) rfl rfl ?_
        refine .nil <| .go <| .ret <| .blk_ret <| .ret ?_
        refine Post.rets rfl (.agg rfl ag24 sz24 .here rfl (.tmp rfl .nil)) rfl (Imm.le_refl _) (fun w h => (Sat.tail (Sat.tail h))) ?_
        rw [twiceR_out h6 (by omega)]
        exact ⟨rfl, _, [], [], rfl, OwnS.nil, DR.nil, rfl⟩
      · skip
        replace h11 := of_decide_eq_false h11
        refine .cond_false rfl <| .seq <| .region <| .e (.fieldAddr fo24_0 rfl) rfl rfl <| .e (.load ag22 rfl (.there <| .here) rfl) rfl rfl <| .e (.len sl22 rfl rfl) rfl rfl ?_
        refine .e (.geq rfl rfl) rfl rfl <| .e (.assign rfl) rfl rfl <| .nil <| .go ?_
        refine .split 22 rfl (fun h22 => ?_) (fun h22 => ?_)
        · skip
          replace h22 := of_decide_eq_true h22
          refine .cond_true rfl <| .seq <| .region <| .e (.build bs24 zv24 rfl rfl) rfl rfl <| .on rfl <| .storeW sz24 rfl rfl rfl rfl rfl rfl .here <| .e (.assign rfl) rfl rfl ?_
          refine .nil <| .go <| .ret <| .blk_ret <| .ret ?_
          refine Post.rets rfl (.agg rfl ag24 sz24 .here rfl (.tmp rfl .nil)) rfl (Imm.le_refl _) (fun w h => (Sat.tail (Sat.tail h))) ?_
          rw [twiceR_full h6 (by omega) h22]
          exact ⟨rfl, _, [], [], rfl, OwnS.nil, DR.nil, rfl⟩
        · skip
          replace h22 := of_decide_eq_false h22
          refine .cond_false rfl <| .skip <| .blk_normal <| .go <| .seq <| .region ?_
          refine .e (.loadW ag24 sz24 rfl (.there <| .here) rfl) rfl rfl <| .on rfl <| .call cal7 rfl rfl rfl (copyNet_ok hn0' (by omega)) fun v29 I29 O29 hI29 hK29 => ?_
          obtain ⟨hq29, w29, ws29, ob29, rfl, ho29, hd29, rfl⟩ := hK29
          replace hq29 := hq29.symm
          subst hq29
          obtain ⟨ad29, cap29, rfl⟩ := ho29.form
          refine .on rfl <| .storeW sz24 rfl rfl rfl rfl rfl rfl (.app <| .there <| .here) <| .nil <| .go <| .seq ?_
          obtain ⟨j, hj⟩ : ∃ j : Nat, i = (j : Int) := ⟨i.toNat, by omega⟩
          have hjn : j < n.length := by omega
          have hnp := hd29.2 j n[j] (List.getElem?_eq_getElem hjn)
          obtain ⟨_, h0, _, _⟩ | ⟨bL, capL, csL, TL, hv5, rfl, hc1, hc2, hc3, hc4, hc5⟩ := ho29
          · omega
          cases hv5
          have ho29 : OwnS 3 (.slice (some ⟨bL, 0, none⟩) n.length cap29) n.length ws29 [(bL, .cells ⟨csL⟩ TL (0, 0))] := .inr ⟨bL, cap29, csL, TL, rfl, rfl, hc1, hc2, hc3, hc4, hc5⟩
          have hpe := part_eq hc3 hjn hnp.1
          refine .draw [] mixed .nil ?_
          refine .t 0 rfl (.fieldAddr fo24_0 rfl) rfl rfl (by kernel_rfl) <| .t 2 rfl (.fieldAddr fo24_0 rfl) rfl rfl (by kernel_rfl) <| .t 4 rfl (.move rfl) rfl rfl (by kernel_rfl) ?_
          refine .all (rs := [1, 3]) (by kernel_rfl) (by simp) ⟨⟨_, rfl, .inl ⟨rfl, ?_⟩⟩, ⟨⟨_, rfl, .inl ⟨rfl, ?_⟩⟩, trivial⟩⟩
          · skip
            refine .ev (.load ag22 rfl (.there <| .there <| .here) rfl) rfl ⟨.nil, Imm.le_refl _, ?_⟩
            refine .one (i := 3) (by kernel_rfl) rfl rfl ?_
            refine .ev (.load ag22 rfl (.there <| .there <| .here) rfl) rfl ⟨.nil, Imm.le_refl _, ?_⟩
            refine .t 5 rfl (.indexAddrL sl22 rfl rfl hj hjn) rfl rfl (by kernel_rfl) <| .one (i := 6) (by kernel_rfl) rfl rfl ?_
            refine .ev ((EV.cast (.loadP ag30 sz30 rfl .here (Nat.ble_eq_true_of_le (by omega))) (congrArg (fun x => Value.agg ⟨x⟩) hpe))) rfl ⟨.nil, Imm.le_refl _, ?_⟩
            refine .one (i := 7) (by kernel_rfl) rfl rfl <| .buildSlice Try.underlying22 sz30 (by decide) (by decide) zv30 rfl rfl rfl rfl rfl fun c3 _ _ => ?_
            refine ⟨.nil, Imm.le_refl _, ?_⟩
            refine .one (i := 8) (by kernel_rfl) rfl rfl <| .append Try.underlying22 Try.underlying22 sz30 by30 zv30 rfl rfl rfl (.there <| .here) ho29 ((OwnS.made (k := 3) rfl (by decide)).src (I := _) .here) rfl rfl (by omega) (by omega) rfl fun v38 ob38 ho38 => ?_
            refine ⟨.nil, Imm.le_refl _, ?_⟩
            refine .t 9 rfl (.fieldAddr fo24_0 rfl) rfl rfl (by kernel_rfl) ?_
            obtain ⟨ad38, cap38, rfl⟩ := ho38.form
            refine .one (i := 10) (by kernel_rfl) rfl rfl <| .storeW sz22 rfl rfl rfl rfl rfl rfl (.app <| .there <| .there <| .here) ?_
            refine ⟨.nil, Imm.le_refl _, ?_⟩
            refine .done (by kernel_rfl) <| .go <| .seq <| .region <| .e (.loadW ag24 sz24 rfl (.app <| .there <| .there <| .here) rfl) rfl rfl <| .on rfl <| .storeW sz24 rfl rfl rfl rfl rfl rfl (.app <| .there <| .here) ?_
            refine .e (.assign rfl) rfl rfl <| .nil <| .go <| .ret ?_
            refine Post.rets rfl (.agg rfl ag24 sz24 (.app <| .there <| .here) rfl (.tmp rfl .nil)) rfl (Imm.le_refl _) (fun w h => (Sat.tail (Sat.rem (Sat.tail (Sat.rem (Sat.tail (Sat.rem h (Rem.app <| Rem.here))) (Rem.app <| Rem.here))) (Rem.app <| Rem.here)))) ?_
            rw [twiceR_in h6 hj hjn h22]
            refine ⟨rfl, _, _, ob38, rfl, ?_, hd29.append (DR.single rfl ⟨rfl, hnp.2⟩), rfl⟩
            rw [List.length_append]
            exact ho38
          · skip
            refine .ev (.load ag22 rfl (.there <| .there <| .here) rfl) rfl ⟨.nil, Imm.le_refl _, ?_⟩
            refine .t 5 rfl (.indexAddrL sl22 rfl rfl hj hjn) rfl rfl (by kernel_rfl) ?_
            refine .all (rs := [1, 6]) (by kernel_rfl) (by simp) ⟨⟨_, rfl, .inl ⟨rfl, ?_⟩⟩, ⟨⟨_, rfl, .inl ⟨rfl, ?_⟩⟩, trivial⟩⟩
            · skip
              refine .ev (.load ag22 rfl (.there <| .there <| .here) rfl) rfl ⟨.nil, Imm.le_refl _, ?_⟩
              refine .one (i := 6) (by kernel_rfl) rfl rfl ?_
              refine .ev ((EV.cast (.loadP ag30 sz30 rfl .here (Nat.ble_eq_true_of_le (by omega))) (congrArg (fun x => Value.agg ⟨x⟩) hpe))) rfl ⟨.nil, Imm.le_refl _, ?_⟩
              refine .one (i := 7) (by kernel_rfl) rfl rfl <| .buildSlice Try.underlying22 sz30 (by decide) (by decide) zv30 rfl rfl rfl rfl rfl fun c4 _ _ => ?_
              refine ⟨.nil, Imm.le_refl _, ?_⟩
              refine .one (i := 8) (by kernel_rfl) rfl rfl <| .append Try.underlying22 Try.underlying22 sz30 by30 zv30 rfl rfl rfl (.there <| .here) ho29 ((OwnS.made (k := 3) rfl (by decide)).src (I := _) .here) rfl rfl (by omega) (by omega) rfl fun v38 ob38 ho38 => ?_
              refine ⟨.nil, Imm.le_refl _, ?_⟩
              refine .t 9 rfl (.fieldAddr fo24_0 rfl) rfl rfl (by kernel_rfl) ?_
              obtain ⟨ad38, cap38, rfl⟩ := ho38.form
              refine .one (i := 10) (by kernel_rfl) rfl rfl <| .storeW sz22 rfl rfl rfl rfl rfl rfl (.app <| .there <| .there <| .here) ?_
              refine ⟨.nil, Imm.le_refl _, ?_⟩
              refine .done (by kernel_rfl) <| .go <| .seq <| .region <| .e (.loadW ag24 sz24 rfl (.app <| .there <| .there <| .here) rfl) rfl rfl <| .on rfl <| .storeW sz24 rfl rfl rfl rfl rfl rfl (.app <| .there <| .here) ?_
              refine .e (.assign rfl) rfl rfl <| .nil <| .go <| .ret ?_
              refine Post.rets rfl (.agg rfl ag24 sz24 (.app <| .there <| .here) rfl (.tmp rfl .nil)) rfl (Imm.le_refl _) (fun w h => (Sat.tail (Sat.rem (Sat.tail (Sat.rem (Sat.tail (Sat.rem h (Rem.app <| Rem.here))) (Rem.app <| Rem.here))) (Rem.app <| Rem.here)))) ?_
              rw [twiceR_in h6 hj hjn h22]
              refine ⟨rfl, _, _, ob38, rfl, ?_, hd29.append (DR.single rfl ⟨rfl, hnp.2⟩), rfl⟩
              rw [List.length_append]
              exact ho38
            · skip
              refine .ev ((EV.cast (.loadP ag30 sz30 rfl .here (Nat.ble_eq_true_of_le (by omega))) (congrArg (fun x => Value.agg ⟨x⟩) hpe))) rfl ⟨.nil, Imm.le_refl _, ?_⟩
              refine .all (rs := [1, 7]) (by kernel_rfl) (by simp) ⟨⟨_, rfl, .inl ⟨rfl, ?_⟩⟩, ⟨⟨_, rfl, .inl ⟨rfl, ?_⟩⟩, trivial⟩⟩
              · skip
                refine .ev (.load ag22 rfl (.there <| .there <| .here) rfl) rfl ⟨.nil, Imm.le_refl _, ?_⟩
                refine .one (i := 7) (by kernel_rfl) rfl rfl <| .buildSlice Try.underlying22 sz30 (by decide) (by decide) zv30 rfl rfl rfl rfl rfl fun c5 _ _ => ?_
                refine ⟨.nil, Imm.le_refl _, ?_⟩
                refine .one (i := 8) (by kernel_rfl) rfl rfl <| .append Try.underlying22 Try.underlying22 sz30 by30 zv30 rfl rfl rfl (.there <| .here) ho29 ((OwnS.made (k := 3) rfl (by decide)).src (I := _) .here) rfl rfl (by omega) (by omega) rfl fun v38 ob38 ho38 => ?_
                refine ⟨.nil, Imm.le_refl _, ?_⟩
                refine .t 9 rfl (.fieldAddr fo24_0 rfl) rfl rfl (by kernel_rfl) ?_
                obtain ⟨ad38, cap38, rfl⟩ := ho38.form
                refine .one (i := 10) (by kernel_rfl) rfl rfl <| .storeW sz22 rfl rfl rfl rfl rfl rfl (.app <| .there <| .there <| .here) ?_
                refine ⟨.nil, Imm.le_refl _, ?_⟩
                refine .done (by kernel_rfl) <| .go <| .seq <| .region <| .e (.loadW ag24 sz24 rfl (.app <| .there <| .there <| .here) rfl) rfl rfl <| .on rfl <| .storeW sz24 rfl rfl rfl rfl rfl rfl (.app <| .there <| .here) ?_
                refine .e (.assign rfl) rfl rfl <| .nil <| .go <| .ret ?_
                refine Post.rets rfl (.agg rfl ag24 sz24 (.app <| .there <| .here) rfl (.tmp rfl .nil)) rfl (Imm.le_refl _) (fun w h => (Sat.tail (Sat.rem (Sat.tail (Sat.rem (Sat.tail (Sat.rem h (Rem.app <| Rem.here))) (Rem.app <| Rem.here))) (Rem.app <| Rem.here)))) ?_
                rw [twiceR_in h6 hj hjn h22]
                refine ⟨rfl, _, _, ob38, rfl, ?_, hd29.append (DR.single rfl ⟨rfl, hnp.2⟩), rfl⟩
                rw [List.length_append]
                exact ho38
              · skip
                refine .buildSlice Try.underlying22 sz30 (by decide) (by decide) zv30 rfl rfl rfl rfl rfl fun c6 _ _ => ?_
                refine ⟨.nil, Imm.le_refl _, ?_⟩
                refine .one (i := 1) (by kernel_rfl) rfl rfl ?_
                refine .ev (.load ag22 rfl (.there <| .there <| .there <| .here) rfl) rfl ⟨.nil, Imm.le_refl _, ?_⟩
                refine .one (i := 8) (by kernel_rfl) rfl rfl <| .append Try.underlying22 Try.underlying22 sz30 by30 zv30 rfl rfl rfl (.there <| .here) ho29 ((OwnS.made (k := 3) rfl (by decide)).src (I := _) .here) rfl rfl (by omega) (by omega) rfl fun v38 ob38 ho38 => ?_
                refine ⟨.nil, Imm.le_refl _, ?_⟩
                refine .t 9 rfl (.fieldAddr fo24_0 rfl) rfl rfl (by kernel_rfl) ?_
                obtain ⟨ad38, cap38, rfl⟩ := ho38.form
                refine .one (i := 10) (by kernel_rfl) rfl rfl <| .storeW sz22 rfl rfl rfl rfl rfl rfl (.app <| .there <| .there <| .here) ?_
                refine ⟨.nil, Imm.le_refl _, ?_⟩
                refine .done (by kernel_rfl) <| .go <| .seq <| .region <| .e (.loadW ag24 sz24 rfl (.app <| .there <| .there <| .here) rfl) rfl rfl <| .on rfl <| .storeW sz24 rfl rfl rfl rfl rfl rfl (.app <| .there <| .here) ?_
                refine .e (.assign rfl) rfl rfl <| .nil <| .go <| .ret ?_
                refine Post.rets rfl (.agg rfl ag24 sz24 (.app <| .there <| .here) rfl (.tmp rfl .nil)) rfl (Imm.le_refl _) (fun w h => (Sat.tail (Sat.rem (Sat.tail (Sat.rem (Sat.tail (Sat.rem h (Rem.app <| Rem.here))) (Rem.app <| Rem.here))) (Rem.app <| Rem.here)))) ?_
                rw [twiceR_in h6 hj hjn h22]
                refine ⟨rfl, _, _, ob38, rfl, ?_, hd29.append (DR.single rfl ⟨rfl, hnp.2⟩), rfl⟩
                rw [List.length_append]
                exact ho38

set_option maxHeartbeats 1000000 in
set_option maxRecDepth 20000 in
theorem nTake_ok {I : Imm} {O : Own} {cs : List Value} {n : List Pkt} (hn : NetR I cs n) :
    Go.Sy.Does Try.prog 16 [.agg ⟨cs⟩] I O (fun u I' O' => I' = I ∧ ∃ v ws ob, u = .tuple ⟨[v, .agg ⟨[.slice none 0 0]⟩, .int .i64 (takeR n).2]⟩ ∧ OwnS 3 v (takeR n).1.length ws ob ∧ DR PktR 3 I ws (takeR n).1 ∧ O' = ob ++ O) := by
  have hn0' := hn
  obtain ⟨nv, rfl, hnv⟩ := hn
  have hn0 := hnv
  obtain ⟨na, ncap, rfl, hn1, hn2, -⟩ := hnv
  refine Go.Sy.Does.enter Try.func16 rfl Try.ntmps16 rfl ?_
  refine .seq <| .region <| .on rfl <| .box rfl rfl rfl fun c1 _ _ => .e (.assign rfl) rfl rfl <| .on rfl <| .alloc zr24 rfl fun c2 _ _ => .e (.assign rfl) rfl rfl ?_
  refine .nil <| .go <| .seq <| .seq <| .region <| .e (.loadW ag24 sz24 rfl (.there <| .here) rfl) rfl rfl ?_
  refine .on rfl <| .callP cal18 rfl rfl rfl (nCheck_ok hn0') <| .e (.assign rfl) rfl rfl <| .nil <| .go <| .seq <| .region ?_
  refine .e (.move rfl) rfl rfl <| .e (.neq rfl rfl) rfl rfl <| .nil <| .go ?_
  refine .split 9 rfl (fun h9 => ?_) (fun h9 => ?_)
  · skip
    first | replace h9 := of_decide_eq_false ((Bool.not_eq_true' _).mp h9) | replace h9 := of_decide_eq_false (by simpa using h9)
    refine .cond_true rfl <| .seq <| .region <| .e (.build bs24 zv24 rfl rfl) rfl rfl <| .e (.move rfl) rfl rfl <| .e (.assign rfl) rfl rfl ?_
    refine .on rfl <| .storeW sz24 rfl rfl rfl rfl rfl rfl .here <| .e (.assign rfl) rfl rfl <| .nil <| .go <| .ret <| .ret ?_
    refine Post.rets rfl (.tmp rfl (.agg rfl ag24 sz24 .here rfl (.tmp rfl .nil))) rfl (Imm.le_refl _) (fun w h => (Sat.tail (Sat.tail h))) ?_
    rw [takeR_no h9 (netNo_why h9).2]
    exact ⟨rfl, _, [], [], rfl, OwnS.nil, DR.nil, rfl⟩
  · skip
    first | replace h9 := of_decide_eq_true ((Bool.not_eq_false' _).mp h9) | replace h9 := of_decide_eq_true (by simpa using h9)
    have hnl := netOk_len (netOk_why h9)
    refine .cond_false rfl <| .skip <| .go <| .seq <| .region <| .e (.fieldAddr fo24_0 rfl) rfl rfl ?_
    refine .e (.load ag22 rfl (.there <| .here) rfl) rfl rfl <| .on rfl <| .call cal22 rfl rfl rfl (clonePkt_ok hn0 (by omega)) fun v14 I14 O14 hI14 hK14 => ?_
    obtain ⟨hq14, ws14, ob14, ho14, hd14, rfl⟩ := hK14
    replace hq14 := hq14.symm
    subst hq14
    obtain ⟨ad14, cap14, rfl⟩ := ho14.form
    refine .e (.build bs24 zv24 rfl rfl) rfl rfl <| .e (.assign rfl) rfl rfl <| .on rfl <| .storeW sz24 rfl rfl rfl rfl rfl rfl (.app <| .here) <| .e (.assign rfl) rfl rfl <| .nil <| .go ?_
    refine .ret ?_
    refine Post.rets rfl (.tmp rfl (.agg rfl ag24 sz24 (.app <| .here) rfl (.tmp rfl .nil))) rfl (Imm.le_refl _) (fun w h => (Sat.tail (Sat.rem (Sat.tail (Sat.rem h (Rem.app <| Rem.here))) (Rem.app <| Rem.here)))) ?_
    rw [takeR_ok h9]
    exact ⟨rfl, _, _, ob14, rfl, ho14, hd14, rfl⟩

set_option maxHeartbeats 1000000 in
set_option maxRecDepth 20000 in
theorem rnTake_ok {I : Imm} {O : Own} {cs : List Value} {n : List Pkt} (hn : NetR I cs n) :
    Go.Sy.Does Try.prog 17 [.agg ⟨cs⟩] I O (fun u I' O' => I' = I ∧ ∃ v ws ob, u = .tuple ⟨[v, .agg ⟨[.slice none 0 0]⟩, .int .i64 (takeR n).2]⟩ ∧ OwnS 3 v (takeR n).1.length ws ob ∧ DR PktR 3 I ws (takeR n).1 ∧ O' = ob ++ O) := by
  have hn0' := hn
  obtain ⟨nv, rfl, hnv⟩ := hn
  have hn0 := hnv
  obtain ⟨na, ncap, rfl, hn1, hn2, -⟩ := hnv
  refine Go.Sy.Does.enter Try.func17 rfl Try.ntmps17 rfl ?_
  refine .seq <| .region <| .on rfl <| .box rfl rfl rfl fun c1 _ _ => .e (.assign rfl) rfl rfl <| .on rfl <| .alloc zr24 rfl fun c2 _ _ => .e (.assign rfl) rfl rfl ?_
  refine .nil <| .go <| .seq <| .seq <| .region <| .e (.loadW ag24 sz24 rfl (.there <| .here) rfl) rfl rfl ?_
  refine .on rfl <| .callP cal19 rfl rfl rfl (rnCheck_ok hn0') <| .e (.neq rfl rfl) rfl rfl <| .nil <| .go ?_
  refine .split 7 rfl (fun h7 => ?_) (fun h7 => ?_)
  · skip
    first | replace h7 := of_decide_eq_false ((Bool.not_eq_true' _).mp h7) | replace h7 := of_decide_eq_false (by simpa using h7)
    refine .cond_true rfl <| .seq <| .region <| .e (.build bs24 zv24 rfl rfl) rfl rfl <| .e (.assign rfl) rfl rfl <| .on rfl <| .storeW sz24 rfl rfl rfl rfl rfl rfl .here ?_
    refine .e (.assign rfl) rfl rfl <| .nil <| .go <| .ret <| .ret ?_
    refine Post.rets rfl (.tmp rfl (.agg rfl ag24 sz24 .here rfl (.tmp rfl .nil))) rfl (Imm.le_refl _) (fun w h => (Sat.tail (Sat.tail h))) ?_
    rw [takeR_no h7 rfl]
    exact ⟨rfl, _, [], [], rfl, OwnS.nil, DR.nil, rfl⟩
  · skip
    first | replace h7 := of_decide_eq_true ((Bool.not_eq_false' _).mp h7) | replace h7 := of_decide_eq_true (by simpa using h7)
    have hnl := netOk_len (netOk_why h7)
    refine .cond_false rfl <| .skip <| .go <| .seq <| .region <| .e (.loadW ag24 sz24 rfl (.there <| .here) rfl) rfl rfl ?_
    refine .on rfl <| .call cal7 rfl rfl rfl (copyNet_ok hn0' (by omega)) fun v10 I10 O10 hI10 hK10 => ?_
    obtain ⟨hq10, w10, ws10, ob10, rfl, ho10, hd10, rfl⟩ := hK10
    replace hq10 := hq10.symm
    subst hq10
    obtain ⟨ad10, cap10, rfl⟩ := ho10.form
    refine .e (.field ft24_0 ag22 rfl rfl) rfl rfl <| .e (.build bs24 zv24 rfl rfl) rfl rfl <| .e (.assign rfl) rfl rfl <| .on rfl <| .storeW sz24 rfl rfl rfl rfl rfl rfl (.app <| .here) <| .e (.assign rfl) rfl rfl <| .nil ?_
    refine .go <| .ret ?_
    refine Post.rets rfl (.tmp rfl (.agg rfl ag24 sz24 (.app <| .here) rfl (.tmp rfl .nil))) rfl (Imm.le_refl _) (fun w h => (Sat.tail (Sat.rem (Sat.tail (Sat.rem h (Rem.app <| Rem.here))) (Rem.app <| Rem.here)))) ?_
    rw [takeR_ok h7]
    exact ⟨rfl, _, _, ob10, rfl, ho10, hd10, rfl⟩

end Go.Proofs.Ytgiddbcadhigcaa
