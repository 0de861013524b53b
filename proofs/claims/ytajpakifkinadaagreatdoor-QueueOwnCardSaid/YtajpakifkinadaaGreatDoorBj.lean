/- Walks of functions over a symbolic memory, printed by a program of the session. -/
import Derived.Test.YtajpakifkinadaaGreatDoorBi
namespace Go.Proofs.YtajpakifkinadaaGreatDoor
open Go.Sy
set_option linter.unusedSimpArgs false
set_option linter.unusedVariables false

theorem part_of {cs ws vs : List Value} {n k m : Nat} (hw : cs.take (n * m) = ws) (hk : k < n) (h : (ws.drop (k * m)).take m = vs) : (cs.drop (0 + k * m)).take m = vs := by
  subst hw
  rw [Nat.zero_add, ← h, List.drop_take, List.take_take]
  have h1 : k * m + m ≤ n * m := by rw [← Nat.succ_mul]; exact Nat.mul_le_mul_right m hk
  rw [Nat.min_eq_left (by omega)]
theorem own_setE {cs ws vs : List Value} {n k m cap b : Nat} {T : TypeId} (hw : cs.take (n * m) = ws) (hk : k < n) (hn : n ≤ cap) (hc : cs.length = cap * m) (hl : ws.length = n * m) (hv : vs.length = m) (hm : cap ≤ 9223372036854775807) :
    OwnS m (.slice (some ⟨b, 0, none⟩) n cap) n (setL ws (k * m) vs) [(b, .cells ⟨setL cs (0 + k * m) vs⟩ T (0, 0))] := by
  have h1 : k * m + m ≤ n * m := by rw [← Nat.succ_mul]; exact Nat.mul_le_mul_right m hk
  have h2 : n * m ≤ cap * m := Nat.mul_le_mul_right m hn
  refine .inr ⟨b, cap, _, T, rfl, rfl, hn, ?_, ?_, ?_, hm⟩
  · rw [setL_length (by omega), hc]
  · rw [Nat.zero_add, setL_take (by omega) (by omega), hw]
  · rw [setL_length (by omega), hl]
theorem dr_setE {α : Type} {R : Imm → List Value → α → Prop} {ws vs : List Value} {l : List α} {k m : Nat} {I J : Imm} (h : DR R m I ws l) (hk : k < l.length) (hJ : ∀ cs x, R I cs x → R J cs x) (hv : vs.length = m) (hx : R J vs l[k]) : DR R m J (setL ws (k * m) vs) l := by
  have h1 : k * m + m ≤ l.length * m := by rw [← Nat.succ_mul]; exact Nat.mul_le_mul_right m hk
  have hwl := h.1
  have e : l = l.take k ++ ([l[k]] ++ l.drop (k + 1)) := by rw [List.singleton_append, ← List.drop_eq_getElem_cons hk, List.take_append_drop]
  have e2 : setL ws (k * m) vs = ws.take (k * m) ++ (vs ++ ws.drop ((k + 1) * m)) := by unfold setL; rw [hv, Nat.succ_mul]
  rw [e2]
  have := ((h.take (Nat.le_of_lt hk)).mono hJ).append ((DR.single hv hx).append ((h.drop (l := k + 1) hk).mono hJ))
  rwa [← e] at this
theorem _root_.Go.Sy.OwnS.extend {k n cap : Nat} {ad : Option Addr} {ws : List Value} {ob : Own} (h : OwnS k (.slice ad n cap) n ws ob) (hc : n < cap) (hk : 0 < k) :
    ∃ b cs T z, ad = some ⟨b, 0, none⟩ ∧ ob = [(b, .cells ⟨cs⟩ T (0, 0))] ∧ cs.length ≠ 0 ∧ z.length = k ∧ OwnS k (.slice ad (n + 1) cap) (n + 1) (ws ++ z) ob := by
  rcases h with ⟨e, rfl, rfl, rfl⟩ | ⟨b, cap', cs, T, e, rfl, h1, h2, h3, h4, h5⟩
  · cases e; omega
  · cases e
    have hck : (n + 1) * k ≤ cap * k := Nat.mul_le_mul_right k hc
    refine ⟨b, cs, T, (cs.drop (n * k)).take k, rfl, rfl, ?_, ?_, .inr ⟨b, cap, cs, T, rfl, rfl, hc, h2, ?_, ?_, h5⟩⟩
    · rw [h2]; exact Nat.ne_of_gt (Nat.mul_pos (by omega) hk)
    · rw [List.length_take, List.length_drop, h2]; rw [Nat.succ_mul] at hck; omega
    · subst h3
      rw [Nat.succ_mul, List.take_add]
    · rw [List.length_append, h4, List.length_take, List.length_drop, h2]; rw [Nat.succ_mul] at hck ⊢; omega
theorem ins_cells1 {w a cs bs : List Value} {n i k : Nat} (hi : i ≤ n) (hw : w.length = (n + 1) * k) (ha : w.take (i * k) = a) (hc : cs.length = k) (hb : bs.length = (n - i) * k) : setL (setL w (i * k) cs) ((i + 1) * k) bs = a ++ (cs ++ bs) := by
  have e1 : (i + 1) * k = i * k + k := Nat.succ_mul i k
  have e2 : (n + 1) * k = i * k + k + (n - i) * k := by rw [← Nat.succ_mul, ← Nat.add_mul]; congr 1; omega
  have hal : a.length = i * k := by rw [← ha, List.length_take]; omega
  unfold setL
  rw [ha, e1, hb, hc]
  have e3 : (a ++ (cs ++ w.drop (i * k + k))).take (i * k + k) = a ++ cs := by
    rw [← List.append_assoc, List.take_append_of_le_length (by simp; omega), List.take_of_length_le (by simp; omega)]
  have e4 : (a ++ (cs ++ w.drop (i * k + k))).drop (i * k + k + (n - i) * k) = [] := by
    rw [List.drop_eq_nil_iff]; simp; omega
  rw [e3, e4]; simp
theorem ins_cells2 {w a cs bs : List Value} {n i k : Nat} (hi : i ≤ n) (hw : w.length = (n + 1) * k) (ha : w.take (i * k) = a) (hc : cs.length = k) (hb : bs.length = (n - i) * k) : setL (setL w ((i + 1) * k) bs) (i * k) cs = a ++ (cs ++ bs) := by
  have e1 : (i + 1) * k = i * k + k := Nat.succ_mul i k
  have e2 : (n + 1) * k = i * k + k + (n - i) * k := by rw [← Nat.succ_mul, ← Nat.add_mul]; congr 1; omega
  have hal : a.length = i * k := by rw [← ha, List.length_take]; omega
  unfold setL
  rw [e1, hb, hc]
  have e0 : w.drop (i * k + k + (n - i) * k) = [] := by rw [List.drop_eq_nil_iff]; omega
  have ht : (w.take (i * k + k)).length = i * k + k := by rw [List.length_take]; omega
  rw [e0, List.append_nil]
  have e3 : (w.take (i * k + k) ++ bs).take (i * k) = a := by
    rw [List.take_append_of_le_length (by omega), List.take_take, Nat.min_eq_left (by omega), ha]
  have e4 : (w.take (i * k + k) ++ bs).drop (i * k + k) = bs := by
    rw [List.drop_append_of_le_length (by omega), List.drop_of_length_le (by omega), List.nil_append]
  rw [e3, e4]

theorem prLen {I : Imm} {cs : List Value} {p : Pr} (h : PrR I cs p) : cs.length = 2 := by rw [h.1]; rfl

set_option maxHeartbeats 1000000 in
set_option maxRecDepth 20000 in
theorem clonePr_ok {I : Imm} {O : Own} {v : Value} {l : List Pr} (hl : SlR PrR 2 I v l) (hL : l.length * 32 ≤ 140737488351232) :
    Go.Sy.Does Tryz.prog 89 [v] I O (fun u I' O' => I' = I ∧ ∃ ws ob, OwnS 2 u l.length ws ob ∧ DR PrR 2 I ws l ∧ O' = ob ++ O) := by
  have hl0 := hl
  obtain ⟨la, lcap, rfl, hl1, hl2, -⟩ := hl
  obtain ⟨ws, hs, hd⟩ := SlR.src (B := []) (fun _ _ h => prLen h) hl0
  refine Go.Sy.Does.enter Tryz.func89 rfl Tryz.ntmps89 rfl ?_
  refine .seq <| .region <| .e (.assign rfl) rfl rfl <| .nil <| .go <| .seq ?_
  refine .seq <| .region <| .e (.move rfl) rfl rfl <| .e (.eqv (.nilSlice Tryz.underlying30) rfl rfl) rfl rfl <| .nil <| .go ?_
  refine .split 4 rfl (fun h4 => ?_) (fun h4 => ?_)
  · skip
    obtain rfl : la = none := by cases la <;> first | rfl | cases h4
    obtain rfl := hl0.ofNil
    refine .cond_true rfl <| .seq <| .region <| .e (.assign rfl) rfl rfl <| .nil <| .go ?_
    refine .ret <| .ret ?_
    refine Post.ret1 rfl rfl (Imm.le_refl _) ⟨rfl, [], [], OwnS.nil, DR.nil, rfl⟩
  · skip
    refine .cond_false rfl <| .skip <| .go <| .seq <| .region <| .on rfl <| .buildSlice Tryz.underlying30 sz45 (by decide) (by decide) zv45 rfl rfl rfl rfl rfl fun c1 _ _ => ?_
    refine .e (.move rfl) rfl rfl <| .on rfl <| .append Tryz.underlying30 Tryz.underlying30 sz45 by45 zv45 rfl rfl rfl .here (OwnS.made rfl (by decide)) hs.any hd.1 (hd.ones (by decide) (fun _ _ h => PrR.ones h)) (by omega) (by omega) rfl fun v7 ob7 ho7 => .e (.assign rfl) rfl rfl <| .nil <| .go <| .ret ?_
    refine Post.ret1 rfl rfl (Imm.le_refl _) ⟨rfl, ws, ob7, ?_, hd, rfl⟩
    rw [Nat.zero_add] at ho7
    exact ho7

set_option maxHeartbeats 1000000 in
set_option maxRecDepth 20000 in
theorem cloneNod_ok {I : Imm} {O : Own} {v : Value} {l : List Nod} (hl : SlR NodR 6 I v l) (hL : l.length * 88 ≤ 140737488351232) :
    Go.Sy.Does Tryz.prog 48 [v] I O (fun u I' O' => I' = I ∧ ∃ ws ob, OwnS 6 u l.length ws ob ∧ DR NodR 6 I ws l ∧ O' = ob ++ O) := by
  have hl0 := hl
  obtain ⟨la, lcap, rfl, hl1, hl2, -⟩ := hl
  obtain ⟨ws, hs, hd⟩ := SlR.src (B := []) (fun _ _ h => NodR.len h) hl0
  refine Go.Sy.Does.enter Tryz.func48 rfl Tryz.ntmps48 rfl ?_
  refine .seq <| .region <| .e (.assign rfl) rfl rfl <| .nil <| .go <| .seq ?_
  refine .seq <| .region <| .e (.move rfl) rfl rfl <| .e (.eqv (.nilSlice Tryz.underlying22) rfl rfl) rfl rfl <| .nil <| .go ?_
  refine .split 4 rfl (fun h4 => ?_) (fun h4 => ?_)
  · skip
    obtain rfl : la = none := by cases la <;> first | rfl | cases h4
    obtain rfl := hl0.ofNil
    refine .cond_true rfl <| .seq <| .region <| .e (.assign rfl) rfl rfl <| .nil <| .go ?_
    refine .ret <| .ret ?_
    refine Post.ret1 rfl rfl (Imm.le_refl _) ⟨rfl, [], [], OwnS.nil, DR.nil, rfl⟩
  · skip
    refine .cond_false rfl <| .skip <| .go <| .seq <| .region <| .on rfl <| .buildSlice Tryz.underlying22 sz32 (by decide) (by decide) zv32 rfl rfl rfl rfl rfl fun c1 _ _ => ?_
    refine .e (.move rfl) rfl rfl <| .on rfl <| .append Tryz.underlying22 Tryz.underlying22 sz32 by32 zv32 rfl rfl rfl .here (OwnS.made rfl (by decide)) hs.any hd.1 (hd.ones (by decide) (fun _ _ h => NodR.ones h)) (by omega) (by omega) rfl fun v7 ob7 ho7 => .e (.assign rfl) rfl rfl <| .nil <| .go <| .ret ?_
    refine Post.ret1 rfl rfl (Imm.le_refl _) ⟨rfl, ws, ob7, ?_, hd, rfl⟩
    rw [Nat.zero_add] at ho7
    exact ho7

set_option maxHeartbeats 1000000 in
set_option maxRecDepth 20000 in
theorem insNod_ok {I : Imm} {O : Own} {ad : Option Addr} {cap : Nat} {l : List Nod} {ws : List Value} {ob : Own} (ho : OwnS 6 (.slice ad l.length cap) l.length ws ob) (hd : DR NodR 6 I ws l) {i c : Nat} {cs : List Value} {tx : TypeId} {x : Nod} (hx : NodR I cs x) (hi : i ≤ l.length) (hL : l.length ≤ 1024) :
    Go.Sy.Does Tryz.prog 55 [.slice ad l.length cap, .int .i64 (i : Nat), .slice (some ⟨c, 0, none⟩) 1 1] I (ob ++ ((c, .cells ⟨cs⟩ tx (0, 0)) :: O)) (fun u I' O' => I' = I ∧ ∃ ws' ob', OwnS 6 u (l.length + 1) ws' ob' ∧ DR NodR 6 I ws' (l.take i ++ (x :: l.drop i)) ∧ O' = ob' ++ O) := by
  have hx0 := hx
  have hcl : cs.length = 6 := (fun h => NodR.len h) hx
  have hco := (fun h => NodR.ones h) hx
  have hcap := ho.capLe
  refine Go.Sy.Does.enter Tryz.func55 rfl Tryz.ntmps55 rfl ?_
  refine .seq <| .region <| .e (.assign rfl) rfl rfl <| .nil <| .go <| .seq ?_
  refine .region <| .e (.move rfl) rfl rfl <| .e (.move rfl) rfl rfl <| .e (.sliceL sl22 rfl rfl rfl hi) rfl rfl <| .nil <| .go ?_
  refine .seq <| .region <| .e (.move rfl) rfl rfl <| .e (.len sl22 rfl rfl) rfl rfl <| .e (.assign rfl) rfl rfl <| .nil ?_
  refine .go <| .seq <| .seq <| .region <| .e (.move rfl) rfl rfl <| .e (.eql rfl rfl) rfl rfl ?_
  refine .nil <| .go <| .cond_false rfl <| .skip <| .go <| .seq ?_
  refine .region <| .e (.move rfl) rfl rfl <| .e (.len sl22 rfl rfl) rfl rfl <| .e (.assign rfl) rfl rfl <| .nil <| .go ?_
  refine .seq <| .seq <| .region <| .e (.move rfl) rfl rfl <| .e (.move rfl) rfl rfl <| .e (.eql rfl rfl) rfl rfl ?_
  refine .nil <| .go ?_
  refine .split 22 rfl (fun h22 => ?_) (fun h22 => ?_)
  · skip
    replace h22 := of_decide_eq_true h22
    refine .cond_true rfl <| .seq <| .region <| .e (.move rfl) rfl rfl <| .e (.move rfl) rfl rfl <| .on rfl <| .append Tryz.underlying22 Tryz.underlying22 sz32 by32 zv32 rfl rfl rfl .front ho ((OwnS.made (k := 6) (len := 1) (b := c) (T := tx) (by rw [hcl]) (by decide)).src (I := _) (.app <| .here)) (by rw [hcl, Nat.one_mul]) hco (by omega) (by omega) rfl fun v25 ob25 ho25 => ?_
    refine .e (.assign rfl) rfl rfl <| .nil <| .go <| .ret <| .ret ?_
    refine Post.rets rfl (.tmp rfl .nil) rfl (Imm.le_refl _) (fun w h => (Sat.tail (Sat.rem h (Rem.app <| Rem.here)))) ?_
    have hwl := hd.1
    have hal : (ws.take (i * 6)).length = i * 6 := by rw [List.length_take, hwl]; have := Nat.mul_le_mul_right 6 hi; omega
    have hbl : (ws.drop (i * 6)).length = (l.length - i) * 6 := by rw [List.length_drop, hwl, Nat.sub_mul]
    have hdr : DR NodR 6 I (ws.take (i * 6) ++ (cs ++ ws.drop (i * 6))) (l.take i ++ (x :: l.drop i)) := (hd.take hi).append ((DR.single hcl hx0).append (hd.drop hi))
    have en : i = l.length := by omega
    subst en
    rw [List.take_length, List.drop_length]
    exact ⟨rfl, _, ob25, ho25, hd.append (DR.single hcl hx0), rfl⟩
  · skip
    replace h22 := of_decide_eq_false h22
    refine .cond_false rfl <| .skip <| .go <| .seq <| .seq <| .region ?_
    refine .e (.move rfl) rfl rfl <| .e (.move rfl) rfl rfl <| .e (.add rfl rfl (wrap_succ (by omega))) rfl rfl <| .e (.move rfl) rfl rfl <| .e (.cap sl22 rfl rfl) rfl rfl <| .e (.gtr rfl rfl) rfl rfl ?_
    refine .nil <| .go ?_
    refine .split 31 rfl (fun h31 => ?_) (fun h31 => ?_)
    · skip
      replace h31 := of_decide_eq_true h31
      refine .cond_true rfl <| .seq <| .region <| .e (.move rfl) rfl rfl <| .e (.move rfl) rfl rfl <| .e (.sliceHn sl22 rfl rfl rfl (by omega)) rfl rfl ?_
      refine .e (.move rfl) rfl rfl <| .e (.move rfl) rfl rfl <| .e (.add rfl rfl (wrap_succ (by omega))) rfl rfl <| .e (.move rfl) rfl rfl <| .e (.sub rfl rfl (IntWalk.i64_in _ (by omega))) rfl rfl <| .on rfl <| .appendMake (q := l.length + 1 - i) Tryz.underlying22 Tryz.underlying3 sz32 by32 zv32 rfl (by decide) rfl rfl (by omega) (by omega) .front (ho.takeN (h := i) (by omega)) (by omega) (by omega) (by omega) rfl fun v40 ob40 ho40 => ?_
      obtain ⟨ad40, cap40, rfl⟩ := ho40.form
      have eq40 : i + (l.length + 1 - i) = l.length + 1 := by omega
      rw [eq40] at ho40
      rw [eq40]
      refine .e (.assign rfl) rfl rfl <| .nil <| .go <| .seq <| .region <| .e (.move rfl) rfl rfl ?_
      refine .e (.move rfl) rfl rfl <| .e (.sliceL sl22 rfl rfl rfl (by omega)) rfl rfl <| .e (.move rfl) rfl rfl <| .on rfl <| .copyAt (lo := i) Tryz.underlying22 sz32 rfl rfl .front ho40 ((OwnS.made (k := 6) (len := 1) (b := c) (T := tx) (by rw [hcl]) (by decide)).src (I := _) (.app <| .app <| .here)) (by rw [hcl, Nat.one_mul]) (ones_take _ _ hco) (by omega) rfl fun ob45 ho45 => .nil <| .go ?_
      refine .seq ?_
      refine .draw [] mixed .nil ?_
      refine .t 0 rfl (.move rfl) rfl rfl (by kernel_rfl) <| .t 1 rfl (.move rfl) rfl rfl (by kernel_rfl) <| .t 2 rfl (.move rfl) rfl rfl (by kernel_rfl) <| .t 3 rfl (.add rfl rfl (wrap_succ (by omega))) rfl rfl (by kernel_rfl) <| .t 4 rfl (.sliceL (l := i + 1) sl22 rfl rfl rfl (by omega)) rfl rfl (by kernel_rfl) <| .t 5 rfl (.move rfl) rfl rfl (by kernel_rfl) ?_
      refine .t 6 rfl (.move rfl) rfl rfl (by kernel_rfl) <| .t 7 rfl (.sliceL sl22 rfl rfl rfl (by omega)) rfl rfl (by kernel_rfl) <| .one (i := 8) (by kernel_rfl) rfl rfl <| .copyAt (lo := i + 1) Tryz.underlying22 sz32 rfl rfl .front ho45 (ho.srcFrom (l := i) (.app <| .front) (by omega)) (by rw [List.length_drop, hd.1, Nat.sub_mul]) (ones_take _ _ ((hd.drop (l := i) (by omega)).ones (by decide) (fun _ _ h => NodR.ones h))) (by omega) rfl fun ob54 ho54 => ?_
      refine ⟨.nil, Imm.le_refl _, ?_⟩
      refine .done (by kernel_rfl) <| .go <| .seq <| .region <| .e (.move rfl) rfl rfl <| .e (.assign rfl) rfl rfl ?_
      refine .nil <| .go <| .ret <| .ret ?_
      refine Post.rets rfl (.tmp rfl .nil) rfl (Imm.le_refl _) (fun w h => (Sat.tail (Sat.rem (Sat.drop (Sat.rem h (Rem.app <| Rem.front))) (Rem.app <| Rem.here)))) ?_
      have hwl := hd.1
      have hal : (ws.take (i * 6)).length = i * 6 := by rw [List.length_take, hwl]; have := Nat.mul_le_mul_right 6 hi; omega
      have hbl : (ws.drop (i * 6)).length = (l.length - i) * 6 := by rw [List.length_drop, hwl, Nat.sub_mul]
      have hdr : DR NodR 6 I (ws.take (i * 6) ++ (cs ++ ws.drop (i * 6))) (l.take i ++ (x :: l.drop i)) := (hd.take hi).append ((DR.single hcl hx0).append (hd.drop hi))
      have e1 : min 1 (l.length + 1 - i) * 6 = cs.length := by rw [hcl, Nat.min_eq_left (by omega), Nat.one_mul]
      have e2 : min (l.length - i) (l.length + 1 - (i + 1)) * 6 = (ws.drop (i * 6)).length := by rw [hbl, Nat.min_eq_left (by omega)]
      rw [e1, List.take_length, e2, List.take_length, ins_cells1 (n := l.length) (a := ws.take (i * 6)) hi ho40.wsLen (by rw [List.take_append_of_le_length (by omega), List.take_of_length_le (by omega)]) hcl hbl] at ho54
      exact ⟨rfl, _, ob54, ho54, hdr, rfl⟩
    · skip
      replace h31 := of_decide_eq_false h31
      obtain ⟨b, csb, Tb, z, rfl, rfl, hcs0, hzl, hox⟩ := ho.extend (by omega) (by decide)
      have hwl := hd.1
      refine .cond_false rfl <| .skip <| .go <| .seq <| .region <| .e (.move rfl) rfl rfl ?_
      refine .e (.move rfl) rfl rfl <| .e (.move rfl) rfl rfl <| .e (.add rfl rfl (wrap_succ (by omega))) rfl rfl <| .e (.sliceHn sl22 rfl rfl rfl (by omega)) rfl rfl <| .e (.assign rfl) rfl rfl <| .nil ?_
      refine .go <| .seq <| .seq <| .region <| .e (.move rfl) rfl rfl <| .e (.move rfl) rfl rfl ?_
      refine .e (.move rfl) rfl rfl <| .e (.move rfl) rfl rfl <| .e (.add rfl rfl (wrap_succ (by omega))) rfl rfl <| .e (.sliceLs (l := i + 1) sl22 rfl rfl rfl (by omega) (by omega)) rfl rfl ?_
      refine .ne (ob := [(b, .cells ⟨csb⟩ Tb (0, 0))]) (b := b) List.mem_cons_self fun hbc => ?_
      refine .on rfl <| .overlapsNo (tS := 22) (tR := 4) Tryz.func90 (by kernel_rfl) (by kernel_rfl) (by kernel_rfl) (by kernel_rfl) Tryz.underlying22 sz32 rfl rfl rfl (.app <| .here) (List.mem_append_left _ (List.mem_singleton.2 rfl)) (Ne.symm hbc) (by simpa using hcs0) rfl <| .e (.not rfl) rfl rfl <| .nil <| .go <| .cond_true rfl <| .seq ?_
      refine .draw [] mixed .nil ?_
      refine .t 0 rfl (.move rfl) rfl rfl (by kernel_rfl) <| .t 1 rfl (.move rfl) rfl rfl (by kernel_rfl) <| .t 2 rfl (.move rfl) rfl rfl (by kernel_rfl) <| .t 3 rfl (.add rfl rfl (wrap_succ (by omega))) rfl rfl (by kernel_rfl) <| .t 4 rfl (.sliceL (l := i + 1) sl22 rfl rfl rfl (by omega)) rfl rfl (by kernel_rfl) <| .t 5 rfl (.move rfl) rfl rfl (by kernel_rfl) ?_
      refine .t 6 rfl (.move rfl) rfl rfl (by kernel_rfl) <| .t 7 rfl (.sliceL sl22 rfl rfl rfl (by omega)) rfl rfl (by kernel_rfl) <| .one (i := 8) (by kernel_rfl) rfl rfl <| .copyAt (lo := i + 1) Tryz.underlying22 sz32 rfl rfl .front hox (hox.srcFrom (l := i) .front (by omega)) (by rw [List.length_drop, hox.wsLen, Nat.sub_mul]) (by rw [Nat.min_eq_right (by omega), show l.length + 1 - (i + 1) = l.length - i by omega, List.drop_append_of_le_length (by have := Nat.mul_le_mul_right 6 hi; omega), List.take_append_of_le_length (by rw [List.length_drop, hwl, Nat.sub_mul]; exact Nat.le_refl _)]; exact ones_take _ _ ((hd.drop (l := i) (by omega)).ones (by decide) (fun _ _ h => NodR.ones h))) (by omega) rfl fun ob77 ho77 => ?_
      refine ⟨.nil, Imm.le_refl _, ?_⟩
      refine .done (by kernel_rfl) <| .go <| .seq <| .region <| .e (.move rfl) rfl rfl <| .e (.move rfl) rfl rfl ?_
      refine .e (.sliceL sl22 rfl rfl rfl (by omega)) rfl rfl <| .e (.move rfl) rfl rfl <| .on rfl <| .copyAt (lo := i) Tryz.underlying22 sz32 rfl rfl .front ho77 ((OwnS.made (k := 6) (len := 1) (b := c) (T := tx) (by rw [hcl]) (by decide)).src (I := _) (.app <| .here)) (by rw [hcl, Nat.one_mul]) (ones_take _ _ hco) (by omega) rfl fun ob82 ho82 => .nil <| .go <| .seq ?_
      refine .region <| .e (.move rfl) rfl rfl <| .e (.assign rfl) rfl rfl <| .nil <| .go <| .ret ?_
      refine .ret ?_
      refine Post.rets rfl (.tmp rfl .nil) rfl (Imm.le_refl _) (fun w h => (Sat.tail (Sat.rem h (Rem.app <| Rem.here)))) ?_
      have hwl := hd.1
      have hal : (ws.take (i * 6)).length = i * 6 := by rw [List.length_take, hwl]; have := Nat.mul_le_mul_right 6 hi; omega
      have hbl : (ws.drop (i * 6)).length = (l.length - i) * 6 := by rw [List.length_drop, hwl, Nat.sub_mul]
      have hdr : DR NodR 6 I (ws.take (i * 6) ++ (cs ++ ws.drop (i * 6))) (l.take i ++ (x :: l.drop i)) := (hd.take hi).append ((DR.single hcl hx0).append (hd.drop hi))
      have e1 : min 1 (l.length + 1 - i) * 6 = cs.length := by rw [hcl, Nat.min_eq_left (by omega), Nat.one_mul]
      have e2 : ((ws ++ z).drop (i * 6)).take (min (l.length + 1 - i) (l.length + 1 - (i + 1)) * 6) = ws.drop (i * 6) := by rw [Nat.min_eq_right (by omega), show l.length + 1 - (i + 1) = l.length - i by omega, List.drop_append_of_le_length (by have := Nat.mul_le_mul_right 6 hi; omega), List.take_append_of_le_length (by omega), List.take_of_length_le (by omega)]
      rw [e1, List.take_length, e2, ins_cells2 (n := l.length) (a := ws.take (i * 6)) hi hox.wsLen (by rw [List.take_append_of_le_length (by have := Nat.mul_le_mul_right 6 hi; omega)]) hcl hbl] at ho82
      exact ⟨rfl, _, ob82, ho82, hdr, rfl⟩

set_option maxHeartbeats 1000000 in
set_option maxRecDepth 20000 in
theorem cloneTsk_ok {I : Imm} {O : Own} {v : Value} {l : List Tsk} (hl : SlR TskR 9 I v l) (hL : l.length * 128 ≤ 140737488351232) :
    Go.Sy.Does Tryz.prog 49 [v] I O (fun u I' O' => I' = I ∧ ∃ ws ob, OwnS 9 u l.length ws ob ∧ DR TskR 9 I ws l ∧ O' = ob ++ O) := by
  have hl0 := hl
  obtain ⟨la, lcap, rfl, hl1, hl2, -⟩ := hl
  obtain ⟨ws, hs, hd⟩ := SlR.src (B := []) (fun _ _ h => TskR.len h) hl0
  refine Go.Sy.Does.enter Tryz.func49 rfl Tryz.ntmps49 rfl ?_
  refine .seq <| .region <| .e (.assign rfl) rfl rfl <| .nil <| .go <| .seq ?_
  refine .seq <| .region <| .e (.move rfl) rfl rfl <| .e (.eqv (.nilSlice Tryz.underlying23) rfl rfl) rfl rfl <| .nil <| .go ?_
  refine .split 4 rfl (fun h4 => ?_) (fun h4 => ?_)
  · skip
    obtain rfl : la = none := by cases la <;> first | rfl | cases h4
    obtain rfl := hl0.ofNil
    refine .cond_true rfl <| .seq <| .region <| .e (.assign rfl) rfl rfl <| .nil <| .go ?_
    refine .ret <| .ret ?_
    refine Post.ret1 rfl rfl (Imm.le_refl _) ⟨rfl, [], [], OwnS.nil, DR.nil, rfl⟩
  · skip
    refine .cond_false rfl <| .skip <| .go <| .seq <| .region <| .on rfl <| .buildSlice Tryz.underlying23 sz34 (by decide) (by decide) zv34 rfl rfl rfl rfl rfl fun c1 _ _ => ?_
    refine .e (.move rfl) rfl rfl <| .on rfl <| .append Tryz.underlying23 Tryz.underlying23 sz34 by34 zv34 rfl rfl rfl .here (OwnS.made rfl (by decide)) hs.any hd.1 (hd.ones (by decide) (fun _ _ h => TskR.ones h)) (by omega) (by omega) rfl fun v7 ob7 ho7 => .e (.assign rfl) rfl rfl <| .nil <| .go <| .ret ?_
    refine Post.ret1 rfl rfl (Imm.le_refl _) ⟨rfl, ws, ob7, ?_, hd, rfl⟩
    rw [Nat.zero_add] at ho7
    exact ho7

set_option maxHeartbeats 1000000 in
set_option maxRecDepth 20000 in
theorem insTsk_ok {I : Imm} {O : Own} {ad : Option Addr} {cap : Nat} {l : List Tsk} {ws : List Value} {ob : Own} (ho : OwnS 9 (.slice ad l.length cap) l.length ws ob) (hd : DR TskR 9 I ws l) {i c : Nat} {cs : List Value} {tx : TypeId} {x : Tsk} (hx : TskR I cs x) (hi : i ≤ l.length) (hL : l.length ≤ 1024) :
    Go.Sy.Does Tryz.prog 56 [.slice ad l.length cap, .int .i64 (i : Nat), .slice (some ⟨c, 0, none⟩) 1 1] I (ob ++ ((c, .cells ⟨cs⟩ tx (0, 0)) :: O)) (fun u I' O' => I' = I ∧ ∃ ws' ob', OwnS 9 u (l.length + 1) ws' ob' ∧ DR TskR 9 I ws' (l.take i ++ (x :: l.drop i)) ∧ O' = ob' ++ O) := by
  have hx0 := hx
  have hcl : cs.length = 9 := (fun h => TskR.len h) hx
  have hco := (fun h => TskR.ones h) hx
  have hcap := ho.capLe
  refine Go.Sy.Does.enter Tryz.func56 rfl Tryz.ntmps56 rfl ?_
  refine .seq <| .region <| .e (.assign rfl) rfl rfl <| .nil <| .go <| .seq ?_
  refine .region <| .e (.move rfl) rfl rfl <| .e (.move rfl) rfl rfl <| .e (.sliceL sl23 rfl rfl rfl hi) rfl rfl <| .nil <| .go ?_
  refine .seq <| .region <| .e (.move rfl) rfl rfl <| .e (.len sl23 rfl rfl) rfl rfl <| .e (.assign rfl) rfl rfl <| .nil ?_
  refine .go <| .seq <| .seq <| .region <| .e (.move rfl) rfl rfl <| .e (.eql rfl rfl) rfl rfl ?_
  refine .nil <| .go <| .cond_false rfl <| .skip <| .go <| .seq ?_
  refine .region <| .e (.move rfl) rfl rfl <| .e (.len sl23 rfl rfl) rfl rfl <| .e (.assign rfl) rfl rfl <| .nil <| .go ?_
  refine .seq <| .seq <| .region <| .e (.move rfl) rfl rfl <| .e (.move rfl) rfl rfl <| .e (.eql rfl rfl) rfl rfl ?_
  refine .nil <| .go ?_
  refine .split 22 rfl (fun h22 => ?_) (fun h22 => ?_)
  · skip
    replace h22 := of_decide_eq_true h22
    refine .cond_true rfl <| .seq <| .region <| .e (.move rfl) rfl rfl <| .e (.move rfl) rfl rfl <| .on rfl <| .append Tryz.underlying23 Tryz.underlying23 sz34 by34 zv34 rfl rfl rfl .front ho ((OwnS.made (k := 9) (len := 1) (b := c) (T := tx) (by rw [hcl]) (by decide)).src (I := _) (.app <| .here)) (by rw [hcl, Nat.one_mul]) hco (by omega) (by omega) rfl fun v25 ob25 ho25 => ?_
    refine .e (.assign rfl) rfl rfl <| .nil <| .go <| .ret <| .ret ?_
    refine Post.rets rfl (.tmp rfl .nil) rfl (Imm.le_refl _) (fun w h => (Sat.tail (Sat.rem h (Rem.app <| Rem.here)))) ?_
    have hwl := hd.1
    have hal : (ws.take (i * 9)).length = i * 9 := by rw [List.length_take, hwl]; have := Nat.mul_le_mul_right 9 hi; omega
    have hbl : (ws.drop (i * 9)).length = (l.length - i) * 9 := by rw [List.length_drop, hwl, Nat.sub_mul]
    have hdr : DR TskR 9 I (ws.take (i * 9) ++ (cs ++ ws.drop (i * 9))) (l.take i ++ (x :: l.drop i)) := (hd.take hi).append ((DR.single hcl hx0).append (hd.drop hi))
    have en : i = l.length := by omega
    subst en
    rw [List.take_length, List.drop_length]
    exact ⟨rfl, _, ob25, ho25, hd.append (DR.single hcl hx0), rfl⟩
  · skip
    replace h22 := of_decide_eq_false h22
    refine .cond_false rfl <| .skip <| .go <| .seq <| .seq <| .region ?_
    refine .e (.move rfl) rfl rfl <| .e (.move rfl) rfl rfl <| .e (.add rfl rfl (wrap_succ (by omega))) rfl rfl <| .e (.move rfl) rfl rfl <| .e (.cap sl23 rfl rfl) rfl rfl <| .e (.gtr rfl rfl) rfl rfl ?_
    refine .nil <| .go ?_
    refine .split 31 rfl (fun h31 => ?_) (fun h31 => ?_)
    · skip
      replace h31 := of_decide_eq_true h31
      refine .cond_true rfl <| .seq <| .region <| .e (.move rfl) rfl rfl <| .e (.move rfl) rfl rfl <| .e (.sliceHn sl23 rfl rfl rfl (by omega)) rfl rfl ?_
      refine .e (.move rfl) rfl rfl <| .e (.move rfl) rfl rfl <| .e (.add rfl rfl (wrap_succ (by omega))) rfl rfl <| .e (.move rfl) rfl rfl <| .e (.sub rfl rfl (IntWalk.i64_in _ (by omega))) rfl rfl <| .on rfl <| .appendMake (q := l.length + 1 - i) Tryz.underlying23 Tryz.underlying3 sz34 by34 zv34 rfl (by decide) rfl rfl (by omega) (by omega) .front (ho.takeN (h := i) (by omega)) (by omega) (by omega) (by omega) rfl fun v40 ob40 ho40 => ?_
      obtain ⟨ad40, cap40, rfl⟩ := ho40.form
      have eq40 : i + (l.length + 1 - i) = l.length + 1 := by omega
      rw [eq40] at ho40
      rw [eq40]
      refine .e (.assign rfl) rfl rfl <| .nil <| .go <| .seq <| .region <| .e (.move rfl) rfl rfl ?_
      refine .e (.move rfl) rfl rfl <| .e (.sliceL sl23 rfl rfl rfl (by omega)) rfl rfl <| .e (.move rfl) rfl rfl <| .on rfl <| .copyAt (lo := i) Tryz.underlying23 sz34 rfl rfl .front ho40 ((OwnS.made (k := 9) (len := 1) (b := c) (T := tx) (by rw [hcl]) (by decide)).src (I := _) (.app <| .app <| .here)) (by rw [hcl, Nat.one_mul]) (ones_take _ _ hco) (by omega) rfl fun ob45 ho45 => .nil <| .go ?_
      refine .seq ?_
      refine .draw [] mixed .nil ?_
      refine .t 0 rfl (.move rfl) rfl rfl (by kernel_rfl) <| .t 1 rfl (.move rfl) rfl rfl (by kernel_rfl) <| .t 2 rfl (.move rfl) rfl rfl (by kernel_rfl) <| .t 3 rfl (.add rfl rfl (wrap_succ (by omega))) rfl rfl (by kernel_rfl) <| .t 4 rfl (.sliceL (l := i + 1) sl23 rfl rfl rfl (by omega)) rfl rfl (by kernel_rfl) <| .t 5 rfl (.move rfl) rfl rfl (by kernel_rfl) ?_
      refine .t 6 rfl (.move rfl) rfl rfl (by kernel_rfl) <| .t 7 rfl (.sliceL sl23 rfl rfl rfl (by omega)) rfl rfl (by kernel_rfl) <| .one (i := 8) (by kernel_rfl) rfl rfl <| .copyAt (lo := i + 1) Tryz.underlying23 sz34 rfl rfl .front ho45 (ho.srcFrom (l := i) (.app <| .front) (by omega)) (by rw [List.length_drop, hd.1, Nat.sub_mul]) (ones_take _ _ ((hd.drop (l := i) (by omega)).ones (by decide) (fun _ _ h => TskR.ones h))) (by omega) rfl fun ob54 ho54 => ?_
      refine ⟨.nil, Imm.le_refl _, ?_⟩
      refine .done (by kernel_rfl) <| .go <| .seq <| .region <| .e (.move rfl) rfl rfl <| .e (.assign rfl) rfl rfl ?_
      refine .nil <| .go <| .ret <| .ret ?_
      refine Post.rets rfl (.tmp rfl .nil) rfl (Imm.le_refl _) (fun w h => (Sat.tail (Sat.rem (Sat.drop (Sat.rem h (Rem.app <| Rem.front))) (Rem.app <| Rem.here)))) ?_
      have hwl := hd.1
      have hal : (ws.take (i * 9)).length = i * 9 := by rw [List.length_take, hwl]; have := Nat.mul_le_mul_right 9 hi; omega
      have hbl : (ws.drop (i * 9)).length = (l.length - i) * 9 := by rw [List.length_drop, hwl, Nat.sub_mul]
      have hdr : DR TskR 9 I (ws.take (i * 9) ++ (cs ++ ws.drop (i * 9))) (l.take i ++ (x :: l.drop i)) := (hd.take hi).append ((DR.single hcl hx0).append (hd.drop hi))
      have e1 : min 1 (l.length + 1 - i) * 9 = cs.length := by rw [hcl, Nat.min_eq_left (by omega), Nat.one_mul]
      have e2 : min (l.length - i) (l.length + 1 - (i + 1)) * 9 = (ws.drop (i * 9)).length := by rw [hbl, Nat.min_eq_left (by omega)]
      rw [e1, List.take_length, e2, List.take_length, ins_cells1 (n := l.length) (a := ws.take (i * 9)) hi ho40.wsLen (by rw [List.take_append_of_le_length (by omega), List.take_of_length_le (by omega)]) hcl hbl] at ho54
      exact ⟨rfl, _, ob54, ho54, hdr, rfl⟩
    · skip
      replace h31 := of_decide_eq_false h31
      obtain ⟨b, csb, Tb, z, rfl, rfl, hcs0, hzl, hox⟩ := ho.extend (by omega) (by decide)
      have hwl := hd.1
      refine .cond_false rfl <| .skip <| .go <| .seq <| .region <| .e (.move rfl) rfl rfl ?_
      refine .e (.move rfl) rfl rfl <| .e (.move rfl) rfl rfl <| .e (.add rfl rfl (wrap_succ (by omega))) rfl rfl <| .e (.sliceHn sl23 rfl rfl rfl (by omega)) rfl rfl <| .e (.assign rfl) rfl rfl <| .nil ?_
      refine .go <| .seq <| .seq <| .region <| .e (.move rfl) rfl rfl <| .e (.move rfl) rfl rfl ?_
      refine .e (.move rfl) rfl rfl <| .e (.move rfl) rfl rfl <| .e (.add rfl rfl (wrap_succ (by omega))) rfl rfl <| .e (.sliceLs (l := i + 1) sl23 rfl rfl rfl (by omega) (by omega)) rfl rfl ?_
      refine .ne (ob := [(b, .cells ⟨csb⟩ Tb (0, 0))]) (b := b) List.mem_cons_self fun hbc => ?_
      refine .on rfl <| .overlapsNo (tS := 23) (tR := 4) Tryz.func92 (by kernel_rfl) (by kernel_rfl) (by kernel_rfl) (by kernel_rfl) Tryz.underlying23 sz34 rfl rfl rfl (.app <| .here) (List.mem_append_left _ (List.mem_singleton.2 rfl)) (Ne.symm hbc) (by simpa using hcs0) rfl <| .e (.not rfl) rfl rfl <| .nil <| .go <| .cond_true rfl <| .seq ?_
      refine .draw [] mixed .nil ?_
      refine .t 0 rfl (.move rfl) rfl rfl (by kernel_rfl) <| .t 1 rfl (.move rfl) rfl rfl (by kernel_rfl) <| .t 2 rfl (.move rfl) rfl rfl (by kernel_rfl) <| .t 3 rfl (.add rfl rfl (wrap_succ (by omega))) rfl rfl (by kernel_rfl) <| .t 4 rfl (.sliceL (l := i + 1) sl23 rfl rfl rfl (by omega)) rfl rfl (by kernel_rfl) <| .t 5 rfl (.move rfl) rfl rfl (by kernel_rfl) ?_
      refine .t 6 rfl (.move rfl) rfl rfl (by kernel_rfl) <| .t 7 rfl (.sliceL sl23 rfl rfl rfl (by omega)) rfl rfl (by kernel_rfl) <| .one (i := 8) (by kernel_rfl) rfl rfl <| .copyAt (lo := i + 1) Tryz.underlying23 sz34 rfl rfl .front hox (hox.srcFrom (l := i) .front (by omega)) (by rw [List.length_drop, hox.wsLen, Nat.sub_mul]) (by rw [Nat.min_eq_right (by omega), show l.length + 1 - (i + 1) = l.length - i by omega, List.drop_append_of_le_length (by have := Nat.mul_le_mul_right 9 hi; omega), List.take_append_of_le_length (by rw [List.length_drop, hwl, Nat.sub_mul]; exact Nat.le_refl _)]; exact ones_take _ _ ((hd.drop (l := i) (by omega)).ones (by decide) (fun _ _ h => TskR.ones h))) (by omega) rfl fun ob77 ho77 => ?_
      refine ⟨.nil, Imm.le_refl _, ?_⟩
      refine .done (by kernel_rfl) <| .go <| .seq <| .region <| .e (.move rfl) rfl rfl <| .e (.move rfl) rfl rfl ?_
      refine .e (.sliceL sl23 rfl rfl rfl (by omega)) rfl rfl <| .e (.move rfl) rfl rfl <| .on rfl <| .copyAt (lo := i) Tryz.underlying23 sz34 rfl rfl .front ho77 ((OwnS.made (k := 9) (len := 1) (b := c) (T := tx) (by rw [hcl]) (by decide)).src (I := _) (.app <| .here)) (by rw [hcl, Nat.one_mul]) (ones_take _ _ hco) (by omega) rfl fun ob82 ho82 => .nil <| .go <| .seq ?_
      refine .region <| .e (.move rfl) rfl rfl <| .e (.assign rfl) rfl rfl <| .nil <| .go <| .ret ?_
      refine .ret ?_
      refine Post.rets rfl (.tmp rfl .nil) rfl (Imm.le_refl _) (fun w h => (Sat.tail (Sat.rem h (Rem.app <| Rem.here)))) ?_
      have hwl := hd.1
      have hal : (ws.take (i * 9)).length = i * 9 := by rw [List.length_take, hwl]; have := Nat.mul_le_mul_right 9 hi; omega
      have hbl : (ws.drop (i * 9)).length = (l.length - i) * 9 := by rw [List.length_drop, hwl, Nat.sub_mul]
      have hdr : DR TskR 9 I (ws.take (i * 9) ++ (cs ++ ws.drop (i * 9))) (l.take i ++ (x :: l.drop i)) := (hd.take hi).append ((DR.single hcl hx0).append (hd.drop hi))
      have e1 : min 1 (l.length + 1 - i) * 9 = cs.length := by rw [hcl, Nat.min_eq_left (by omega), Nat.one_mul]
      have e2 : ((ws ++ z).drop (i * 9)).take (min (l.length + 1 - i) (l.length + 1 - (i + 1)) * 9) = ws.drop (i * 9) := by rw [Nat.min_eq_right (by omega), show l.length + 1 - (i + 1) = l.length - i by omega, List.drop_append_of_le_length (by have := Nat.mul_le_mul_right 9 hi; omega), List.take_append_of_le_length (by omega), List.take_of_length_le (by omega)]
      rw [e1, List.take_length, e2, ins_cells2 (n := l.length) (a := ws.take (i * 9)) hi hox.wsLen (by rw [List.take_append_of_le_length (by have := Nat.mul_le_mul_right 9 hi; omega)]) hcl hbl] at ho82
      exact ⟨rfl, _, ob82, ho82, hdr, rfl⟩

set_option maxHeartbeats 1000000 in
set_option maxRecDepth 20000 in
theorem cloneBnd_ok {I : Imm} {O : Own} {v : Value} {l : List Bnd} (hl : SlR BndR 2 I v l) (hL : l.length * 32 ≤ 140737488351232) :
    Go.Sy.Does Tryz.prog 50 [v] I O (fun u I' O' => I' = I ∧ ∃ ws ob, OwnS 2 u l.length ws ob ∧ DR BndR 2 I ws l ∧ O' = ob ++ O) := by
  have hl0 := hl
  obtain ⟨la, lcap, rfl, hl1, hl2, -⟩ := hl
  obtain ⟨ws, hs, hd⟩ := SlR.src (B := []) (fun _ _ h => BndR.len h) hl0
  refine Go.Sy.Does.enter Tryz.func50 rfl Tryz.ntmps50 rfl ?_
  refine .seq <| .region <| .e (.assign rfl) rfl rfl <| .nil <| .go <| .seq ?_
  refine .seq <| .region <| .e (.move rfl) rfl rfl <| .e (.eqv (.nilSlice Tryz.underlying24) rfl rfl) rfl rfl <| .nil <| .go ?_
  refine .split 4 rfl (fun h4 => ?_) (fun h4 => ?_)
  · skip
    obtain rfl : la = none := by cases la <;> first | rfl | cases h4
    obtain rfl := hl0.ofNil
    refine .cond_true rfl <| .seq <| .region <| .e (.assign rfl) rfl rfl <| .nil <| .go ?_
    refine .ret <| .ret ?_
    refine Post.ret1 rfl rfl (Imm.le_refl _) ⟨rfl, [], [], OwnS.nil, DR.nil, rfl⟩
  · skip
    refine .cond_false rfl <| .skip <| .go <| .seq <| .region <| .on rfl <| .buildSlice Tryz.underlying24 sz47 (by decide) (by decide) zv47 rfl rfl rfl rfl rfl fun c1 _ _ => ?_
    refine .e (.move rfl) rfl rfl <| .on rfl <| .append Tryz.underlying24 Tryz.underlying24 sz47 by47 zv47 rfl rfl rfl .here (OwnS.made rfl (by decide)) hs.any hd.1 (hd.ones (by decide) (fun _ _ h => BndR.ones h)) (by omega) (by omega) rfl fun v7 ob7 ho7 => .e (.assign rfl) rfl rfl <| .nil <| .go <| .ret ?_
    refine Post.ret1 rfl rfl (Imm.le_refl _) ⟨rfl, ws, ob7, ?_, hd, rfl⟩
    rw [Nat.zero_add] at ho7
    exact ho7

set_option maxHeartbeats 1000000 in
set_option maxRecDepth 20000 in
theorem insBnd_ok {I : Imm} {O : Own} {ad : Option Addr} {cap : Nat} {l : List Bnd} {ws : List Value} {ob : Own} (ho : OwnS 2 (.slice ad l.length cap) l.length ws ob) (hd : DR BndR 2 I ws l) {i c : Nat} {cs : List Value} {tx : TypeId} {x : Bnd} (hx : BndR I cs x) (hi : i ≤ l.length) (hL : l.length ≤ 1024) :
    Go.Sy.Does Tryz.prog 61 [.slice ad l.length cap, .int .i64 (i : Nat), .slice (some ⟨c, 0, none⟩) 1 1] I (ob ++ ((c, .cells ⟨cs⟩ tx (0, 0)) :: O)) (fun u I' O' => I' = I ∧ ∃ ws' ob', OwnS 2 u (l.length + 1) ws' ob' ∧ DR BndR 2 I ws' (l.take i ++ (x :: l.drop i)) ∧ O' = ob' ++ O) := by
  have hx0 := hx
  have hcl : cs.length = 2 := (fun h => BndR.len h) hx
  have hco := (fun h => BndR.ones h) hx
  have hcap := ho.capLe
  refine Go.Sy.Does.enter Tryz.func61 rfl Tryz.ntmps61 rfl ?_
  refine .seq <| .region <| .e (.assign rfl) rfl rfl <| .nil <| .go <| .seq ?_
  refine .region <| .e (.move rfl) rfl rfl <| .e (.move rfl) rfl rfl <| .e (.sliceL sl24 rfl rfl rfl hi) rfl rfl <| .nil <| .go ?_
  refine .seq <| .region <| .e (.move rfl) rfl rfl <| .e (.len sl24 rfl rfl) rfl rfl <| .e (.assign rfl) rfl rfl <| .nil ?_
  refine .go <| .seq <| .seq <| .region <| .e (.move rfl) rfl rfl <| .e (.eql rfl rfl) rfl rfl ?_
  refine .nil <| .go <| .cond_false rfl <| .skip <| .go <| .seq ?_
  refine .region <| .e (.move rfl) rfl rfl <| .e (.len sl24 rfl rfl) rfl rfl <| .e (.assign rfl) rfl rfl <| .nil <| .go ?_
  refine .seq <| .seq <| .region <| .e (.move rfl) rfl rfl <| .e (.move rfl) rfl rfl <| .e (.eql rfl rfl) rfl rfl ?_
  refine .nil <| .go ?_
  refine .split 22 rfl (fun h22 => ?_) (fun h22 => ?_)
  · skip
    replace h22 := of_decide_eq_true h22
    refine .cond_true rfl <| .seq <| .region <| .e (.move rfl) rfl rfl <| .e (.move rfl) rfl rfl <| .on rfl <| .append Tryz.underlying24 Tryz.underlying24 sz47 by47 zv47 rfl rfl rfl .front ho ((OwnS.made (k := 2) (len := 1) (b := c) (T := tx) (by rw [hcl]) (by decide)).src (I := _) (.app <| .here)) (by rw [hcl, Nat.one_mul]) hco (by omega) (by omega) rfl fun v25 ob25 ho25 => ?_
    refine .e (.assign rfl) rfl rfl <| .nil <| .go <| .ret <| .ret ?_
    refine Post.rets rfl (.tmp rfl .nil) rfl (Imm.le_refl _) (fun w h => (Sat.tail (Sat.rem h (Rem.app <| Rem.here)))) ?_
    have hwl := hd.1
    have hal : (ws.take (i * 2)).length = i * 2 := by rw [List.length_take, hwl]; have := Nat.mul_le_mul_right 2 hi; omega
    have hbl : (ws.drop (i * 2)).length = (l.length - i) * 2 := by rw [List.length_drop, hwl, Nat.sub_mul]
    have hdr : DR BndR 2 I (ws.take (i * 2) ++ (cs ++ ws.drop (i * 2))) (l.take i ++ (x :: l.drop i)) := (hd.take hi).append ((DR.single hcl hx0).append (hd.drop hi))
    have en : i = l.length := by omega
    subst en
    rw [List.take_length, List.drop_length]
    exact ⟨rfl, _, ob25, ho25, hd.append (DR.single hcl hx0), rfl⟩
  · skip
    replace h22 := of_decide_eq_false h22
    refine .cond_false rfl <| .skip <| .go <| .seq <| .seq <| .region ?_
    refine .e (.move rfl) rfl rfl <| .e (.move rfl) rfl rfl <| .e (.add rfl rfl (wrap_succ (by omega))) rfl rfl <| .e (.move rfl) rfl rfl <| .e (.cap sl24 rfl rfl) rfl rfl <| .e (.gtr rfl rfl) rfl rfl ?_
    refine .nil <| .go ?_
    refine .split 31 rfl (fun h31 => ?_) (fun h31 => ?_)
    · skip
      replace h31 := of_decide_eq_true h31
      refine .cond_true rfl <| .seq <| .region <| .e (.move rfl) rfl rfl <| .e (.move rfl) rfl rfl <| .e (.sliceHn sl24 rfl rfl rfl (by omega)) rfl rfl ?_
      refine .e (.move rfl) rfl rfl <| .e (.move rfl) rfl rfl <| .e (.add rfl rfl (wrap_succ (by omega))) rfl rfl <| .e (.move rfl) rfl rfl <| .e (.sub rfl rfl (IntWalk.i64_in _ (by omega))) rfl rfl <| .on rfl <| .appendMake (q := l.length + 1 - i) Tryz.underlying24 Tryz.underlying3 sz47 by47 zv47 rfl (by decide) rfl rfl (by omega) (by omega) .front (ho.takeN (h := i) (by omega)) (by omega) (by omega) (by omega) rfl fun v40 ob40 ho40 => ?_
      obtain ⟨ad40, cap40, rfl⟩ := ho40.form
      have eq40 : i + (l.length + 1 - i) = l.length + 1 := by omega
      rw [eq40] at ho40
      rw [eq40]
      refine .e (.assign rfl) rfl rfl <| .nil <| .go <| .seq <| .region <| .e (.move rfl) rfl rfl ?_
      refine .e (.move rfl) rfl rfl <| .e (.sliceL sl24 rfl rfl rfl (by omega)) rfl rfl <| .e (.move rfl) rfl rfl <| .on rfl <| .copyAt (lo := i) Tryz.underlying24 sz47 rfl rfl .front ho40 ((OwnS.made (k := 2) (len := 1) (b := c) (T := tx) (by rw [hcl]) (by decide)).src (I := _) (.app <| .app <| .here)) (by rw [hcl, Nat.one_mul]) (ones_take _ _ hco) (by omega) rfl fun ob45 ho45 => .nil <| .go ?_
      refine .seq ?_
      refine .draw [] mixed .nil ?_
      refine .t 0 rfl (.move rfl) rfl rfl (by kernel_rfl) <| .t 1 rfl (.move rfl) rfl rfl (by kernel_rfl) <| .t 2 rfl (.move rfl) rfl rfl (by kernel_rfl) <| .t 3 rfl (.add rfl rfl (wrap_succ (by omega))) rfl rfl (by kernel_rfl) <| .t 4 rfl (.sliceL (l := i + 1) sl24 rfl rfl rfl (by omega)) rfl rfl (by kernel_rfl) <| .t 5 rfl (.move rfl) rfl rfl (by kernel_rfl) ?_
      refine .t 6 rfl (.move rfl) rfl rfl (by kernel_rfl) <| .t 7 rfl (.sliceL sl24 rfl rfl rfl (by omega)) rfl rfl (by kernel_rfl) <| .one (i := 8) (by kernel_rfl) rfl rfl <| .copyAt (lo := i + 1) Tryz.underlying24 sz47 rfl rfl .front ho45 (ho.srcFrom (l := i) (.app <| .front) (by omega)) (by rw [List.length_drop, hd.1, Nat.sub_mul]) (ones_take _ _ ((hd.drop (l := i) (by omega)).ones (by decide) (fun _ _ h => BndR.ones h))) (by omega) rfl fun ob54 ho54 => ?_
      refine ⟨.nil, Imm.le_refl _, ?_⟩
      refine .done (by kernel_rfl) <| .go <| .seq <| .region <| .e (.move rfl) rfl rfl <| .e (.assign rfl) rfl rfl ?_
      refine .nil <| .go <| .ret <| .ret ?_
      refine Post.rets rfl (.tmp rfl .nil) rfl (Imm.le_refl _) (fun w h => (Sat.tail (Sat.rem (Sat.drop (Sat.rem h (Rem.app <| Rem.front))) (Rem.app <| Rem.here)))) ?_
      have hwl := hd.1
      have hal : (ws.take (i * 2)).length = i * 2 := by rw [List.length_take, hwl]; have := Nat.mul_le_mul_right 2 hi; omega
      have hbl : (ws.drop (i * 2)).length = (l.length - i) * 2 := by rw [List.length_drop, hwl, Nat.sub_mul]
      have hdr : DR BndR 2 I (ws.take (i * 2) ++ (cs ++ ws.drop (i * 2))) (l.take i ++ (x :: l.drop i)) := (hd.take hi).append ((DR.single hcl hx0).append (hd.drop hi))
      have e1 : min 1 (l.length + 1 - i) * 2 = cs.length := by rw [hcl, Nat.min_eq_left (by omega), Nat.one_mul]
      have e2 : min (l.length - i) (l.length + 1 - (i + 1)) * 2 = (ws.drop (i * 2)).length := by rw [hbl, Nat.min_eq_left (by omega)]
      rw [e1, List.take_length, e2, List.take_length, ins_cells1 (n := l.length) (a := ws.take (i * 2)) hi ho40.wsLen (by rw [List.take_append_of_le_length (by omega), List.take_of_length_le (by omega)]) hcl hbl] at ho54
      exact ⟨rfl, _, ob54, ho54, hdr, rfl⟩
    · skip
      replace h31 := of_decide_eq_false h31
      obtain ⟨b, csb, Tb, z, rfl, rfl, hcs0, hzl, hox⟩ := ho.extend (by omega) (by decide)
      have hwl := hd.1
      refine .cond_false rfl <| .skip <| .go <| .seq <| .region <| .e (.move rfl) rfl rfl ?_
      refine .e (.move rfl) rfl rfl <| .e (.move rfl) rfl rfl <| .e (.add rfl rfl (wrap_succ (by omega))) rfl rfl <| .e (.sliceHn sl24 rfl rfl rfl (by omega)) rfl rfl <| .e (.assign rfl) rfl rfl <| .nil ?_
      refine .go <| .seq <| .seq <| .region <| .e (.move rfl) rfl rfl <| .e (.move rfl) rfl rfl ?_
      refine .e (.move rfl) rfl rfl <| .e (.move rfl) rfl rfl <| .e (.add rfl rfl (wrap_succ (by omega))) rfl rfl <| .e (.sliceLs (l := i + 1) sl24 rfl rfl rfl (by omega) (by omega)) rfl rfl ?_
      refine .ne (ob := [(b, .cells ⟨csb⟩ Tb (0, 0))]) (b := b) List.mem_cons_self fun hbc => ?_
      refine .on rfl <| .overlapsNo (tS := 24) (tR := 4) Tryz.func96 (by kernel_rfl) (by kernel_rfl) (by kernel_rfl) (by kernel_rfl) Tryz.underlying24 sz47 rfl rfl rfl (.app <| .here) (List.mem_append_left _ (List.mem_singleton.2 rfl)) (Ne.symm hbc) (by simpa using hcs0) rfl <| .e (.not rfl) rfl rfl <| .nil <| .go <| .cond_true rfl <| .seq ?_
      refine .draw [] mixed .nil ?_
      refine .t 0 rfl (.move rfl) rfl rfl (by kernel_rfl) <| .t 1 rfl (.move rfl) rfl rfl (by kernel_rfl) <| .t 2 rfl (.move rfl) rfl rfl (by kernel_rfl) <| .t 3 rfl (.add rfl rfl (wrap_succ (by omega))) rfl rfl (by kernel_rfl) <| .t 4 rfl (.sliceL (l := i + 1) sl24 rfl rfl rfl (by omega)) rfl rfl (by kernel_rfl) <| .t 5 rfl (.move rfl) rfl rfl (by kernel_rfl) ?_
      refine .t 6 rfl (.move rfl) rfl rfl (by kernel_rfl) <| .t 7 rfl (.sliceL sl24 rfl rfl rfl (by omega)) rfl rfl (by kernel_rfl) <| .one (i := 8) (by kernel_rfl) rfl rfl <| .copyAt (lo := i + 1) Tryz.underlying24 sz47 rfl rfl .front hox (hox.srcFrom (l := i) .front (by omega)) (by rw [List.length_drop, hox.wsLen, Nat.sub_mul]) (by rw [Nat.min_eq_right (by omega), show l.length + 1 - (i + 1) = l.length - i by omega, List.drop_append_of_le_length (by have := Nat.mul_le_mul_right 2 hi; omega), List.take_append_of_le_length (by rw [List.length_drop, hwl, Nat.sub_mul]; exact Nat.le_refl _)]; exact ones_take _ _ ((hd.drop (l := i) (by omega)).ones (by decide) (fun _ _ h => BndR.ones h))) (by omega) rfl fun ob77 ho77 => ?_
      refine ⟨.nil, Imm.le_refl _, ?_⟩
      refine .done (by kernel_rfl) <| .go <| .seq <| .region <| .e (.move rfl) rfl rfl <| .e (.move rfl) rfl rfl ?_
      refine .e (.sliceL sl24 rfl rfl rfl (by omega)) rfl rfl <| .e (.move rfl) rfl rfl <| .on rfl <| .copyAt (lo := i) Tryz.underlying24 sz47 rfl rfl .front ho77 ((OwnS.made (k := 2) (len := 1) (b := c) (T := tx) (by rw [hcl]) (by decide)).src (I := _) (.app <| .here)) (by rw [hcl, Nat.one_mul]) (ones_take _ _ hco) (by omega) rfl fun ob82 ho82 => .nil <| .go <| .seq ?_
      refine .region <| .e (.move rfl) rfl rfl <| .e (.assign rfl) rfl rfl <| .nil <| .go <| .ret ?_
      refine .ret ?_
      refine Post.rets rfl (.tmp rfl .nil) rfl (Imm.le_refl _) (fun w h => (Sat.tail (Sat.rem h (Rem.app <| Rem.here)))) ?_
      have hwl := hd.1
      have hal : (ws.take (i * 2)).length = i * 2 := by rw [List.length_take, hwl]; have := Nat.mul_le_mul_right 2 hi; omega
      have hbl : (ws.drop (i * 2)).length = (l.length - i) * 2 := by rw [List.length_drop, hwl, Nat.sub_mul]
      have hdr : DR BndR 2 I (ws.take (i * 2) ++ (cs ++ ws.drop (i * 2))) (l.take i ++ (x :: l.drop i)) := (hd.take hi).append ((DR.single hcl hx0).append (hd.drop hi))
      have e1 : min 1 (l.length + 1 - i) * 2 = cs.length := by rw [hcl, Nat.min_eq_left (by omega), Nat.one_mul]
      have e2 : ((ws ++ z).drop (i * 2)).take (min (l.length + 1 - i) (l.length + 1 - (i + 1)) * 2) = ws.drop (i * 2) := by rw [Nat.min_eq_right (by omega), show l.length + 1 - (i + 1) = l.length - i by omega, List.drop_append_of_le_length (by have := Nat.mul_le_mul_right 2 hi; omega), List.take_append_of_le_length (by omega), List.take_of_length_le (by omega)]
      rw [e1, List.take_length, e2, ins_cells2 (n := l.length) (a := ws.take (i * 2)) hi hox.wsLen (by rw [List.take_append_of_le_length (by have := Nat.mul_le_mul_right 2 hi; omega)]) hcl hbl] at ho82
      exact ⟨rfl, _, ob82, ho82, hdr, rfl⟩

end Go.Proofs.YtajpakifkinadaaGreatDoor
