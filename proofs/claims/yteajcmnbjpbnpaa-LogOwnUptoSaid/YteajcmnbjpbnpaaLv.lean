/- Walks of functions over a symbolic memory, printed by a program of the session. -/
import Derived.Test.YteajcmnbjpbnpaaLu
namespace Go.Proofs.Yteajcmnbjpbnpaa
open Go.Sy
set_option linter.unusedSimpArgs false
set_option linter.unusedVariables false

theorem _root_.Go.Sy.FrK.isSl {k : Nat} {I0 J : Imm} {v : Value} (h : FrK k I0 J v) : ∃ ad m, ∃ cap, v = .slice ad m cap := by
  rcases h with h | ⟨b, m, cap, _, _, h, _⟩
  · exact ⟨_, _, _, h⟩
  · exact ⟨_, _, _, h⟩
theorem _root_.Go.Sy.FrK.at_ {k q m cap : Nat} {I0 J : Imm} {ad : Option Addr} (h : FrK k I0 J (.slice ad m cap)) (hq : q < m) : ∃ b cs T, ad = some ⟨b, 0, none⟩ ∧ I0 b = none ∧ J b = some (.cells ⟨cs⟩ T (0, 0)) ∧ m * k ≤ cs.length ∧ m ≤ 9223372036854775807 := by
  rcases h with h | ⟨b, m', cap', cs, T, h, h1, h2, h3, h4, h5⟩
  · cases h; omega
  · cases h
    exact ⟨b, cs, T, rfl, h1, h2, h3, Nat.le_trans h4 h5⟩
/-- Each element's fifth cell is a row made since I0. -/
def RowX (I0 J : Imm) (n : Nat) (ws : List Value) : Prop := ws.length = n * 5 ∧ ∀ k, k < n → ∃ (e : Ent) (mv : Value), (ws.drop (k * 5)).take 5 = e.cells mv ∧ FrK 1 I0 J mv
theorem RowX.of {I0 J : Imm} {ws : List Value} {l : List Ent} (h : DR (EntF I0) 5 J ws l) : RowX I0 J l.length ws := by
  refine ⟨h.1, fun k hk => ?_⟩
  obtain ⟨mv, e, _, hf⟩ := h.2 k l[k] (List.getElem?_eq_getElem hk)
  exact ⟨l[k], mv, e, hf⟩
theorem RowX.turn {I0 J K : Imm} {n : Nat} {ws : List Value} (hT : Turned I0 J K) (h : RowX I0 J n ws) : RowX I0 K n ws := by
  refine ⟨h.1, fun k hk => ?_⟩
  obtain ⟨e, mv, h1, h2⟩ := h.2 k hk
  exact ⟨e, mv, h1, h2.turn hT⟩
theorem RowX.setTerm {I0 J : Imm} {n k : Nat} {ws : List Value} (h : RowX I0 J n ws) (hk : k < n) (z : Int) : RowX I0 J n (ws.set (k * 5 + 1) (.int .u64 z)) := by
  refine ⟨by rw [List.length_set]; exact h.1, fun j hj => ?_⟩
  obtain ⟨e, mv, h1, h2⟩ := h.2 j hj
  have hl : ((ws.drop (j * 5)).take 5).length = 5 := by rw [h1]; rfl
  by_cases e1 : j = k
  · subst e1
    refine ⟨{ e with term := z }, mv, ?_, h2⟩
    have e2 : ((ws.set (j * 5 + 1) (.int .u64 z)).drop (j * 5)).take 5 = ((ws.drop (j * 5)).take 5).set 1 (.int .u64 z) := by
      rw [List.drop_set, if_neg (by omega), List.take_set, show j * 5 + 1 - j * 5 = 1 by omega]
    rw [e2, h1]; rfl
  · refine ⟨e, mv, ?_, h2⟩
    rw [← h1]
    refine List.ext_getElem? fun i => ?_
    simp only [List.getElem?_take, List.getElem?_drop]
    split
    · rw [List.getElem?_set_ne (by omega)]
    · rfl
theorem cellq_of {cs ws : List Value} {n k q : Nat} {e : Ent} {mv : Value} (hw : cs.take (n * 5) = ws) (hk : k < n) (hq : q < 5) (h : (ws.drop (k * 5)).take 5 = e.cells mv) : cs[0 + k * 5 + q]? = (e.cells mv)[q]? := by
  have h1 := congrArg (fun x : List Value => x[q]?) h
  simp only [List.getElem?_take, List.getElem?_drop] at h1
  subst hw
  rw [if_pos hq, List.getElem?_take, if_pos (by omega)] at h1
  rw [show 0 + k * 5 + q = k * 5 + q by omega]
  exact h1
theorem own_set1 {cs ws : List Value} {n k cap b : Nat} {T : TypeId} {v : Value} (hw : cs.take (n * 5) = ws) (hk : k < n) (hn : n ≤ cap) (hc : cs.length = cap * 5) (hl : ws.length = n * 5) (hm : cap ≤ 9223372036854775807) :
    OwnS 5 (.slice (some ⟨b, 0, none⟩) n cap) n (ws.set (k * 5 + 1) v) [(b, .cells ⟨setL cs (0 + k * 5 + 1) [v]⟩ T (0, 0))] := by
  rw [setL_one (by omega), show 0 + k * 5 + 1 = k * 5 + 1 by omega]
  exact .inr ⟨b, cap, _, T, rfl, rfl, hn, by simpa using hc, by rw [List.take_set, hw], by simpa using hl, hm⟩
theorem cell4_set {cs : List Value} {k : Nat} {v mv : Value} (hk : k * 5 + 4 < cs.length) (h : cs[0 + k * 5 + 4]? = some mv) : (setL cs (0 + k * 5 + 1) [v])[0 + k * 5 + 4]? = some mv := by
  rw [setL_one (by omega), List.getElem?_set_ne (by omega), h]

set_option maxHeartbeats 8000000 in
set_option maxRecDepth 20000 in
theorem LogOwn_ok {I : Imm} {O : Own} {lc : List Value} {l : Lg} (hl : LgR I lc l) {v : Value} {s : List Ent} (hs : EntsR I v s) {i t : Int} (hi : U64 i) (ht : U64 t) (hL : l.ents.length * 64 ≤ 140737488351232) (hM : ∀ e ∈ l.ents, e.members.length * 8 ≤ 140737488351232) (hLs : s.length * 64 ≤ 140737488351232) (hMs : ∀ e ∈ s, e.members.length * 8 ≤ 140737488351232) (hLL : (l.ents.length + s.length) * 64 ≤ 140737488351232) :
    Pure Try.prog 6 [.agg ⟨lc⟩, .int .u64 i, .int .u64 t, v] I O (.bool true) := by
  have hl0 := hl
  obtain ⟨ev, rfl, hev⟩ := hl.ex
  have hev0 := hev
  obtain ⟨va, vcap, rfl, hv1, hv2, -⟩ := hev
  have hbase := hl0.base
  have hterm := hl0.term
  unfold U64 at hbase hterm
  have hs0 := hs
  obtain ⟨sa, scap, rfl, hs1, hs2, -⟩ := hs
  refine Go.Sy.Does.enter Try.func6 rfl Try.ntmps6 rfl ?_
  refine .seq <| .region <| .on rfl <| .box rfl rfl rfl fun c1 _ _ => .e (.assign rfl) rfl rfl <| .nil <| .go ?_
  refine .seq <| .seq <| .region <| .on rfl <| .callP cal15 rfl rfl rfl (lives_ok) <| .e (.not rfl) rfl rfl <| .nil ?_
  refine .go <| .cond_false rfl <| .skip <| .go <| .seq <| .region ?_
  refine .e (.loadW ag25 sz25 rfl .here rfl) rfl rfl <| .on rfl <| .call cal9 rfl rfl rfl (rCopy_ok hl0 hL hM) fun v23 I23 O23 hI23 hK23 => ?_
  obtain ⟨ev23, ws23, ob23, rfl, ho23, hd23, rfl⟩ := hK23
  obtain ⟨ad23, cap23, rfl⟩ := ho23.form
  refine .e (.move rfl) rfl rfl ?_
  refine .freezeS ho23 fun J hJ hJs => ?_
  have hgJ : LgR J (l.cells (.slice ad23 l.ents.length cap23)) l := ⟨⟨_, rfl, hJs (R := EntR) (hd23.mono fun _ _ h => h.mono hJ) rfl⟩, hl0.base, hl0.term⟩
  refine .on rfl <| .call cal10 rfl rfl rfl (copy_ok (hs0.mono (Imm.le_trans hI23 hJ)) hLs hMs) fun v25 I25 O25 hI25 hK25 => ?_
  obtain ⟨ws25, ob25, ho25, hd25, rfl⟩ := hK25
  obtain ⟨ad25, cap25, rfl⟩ := ho25.form
  refine .on rfl <| .alloc zr25 rfl fun c2 _ _ => ?_
  refine .front (.there <| .front) ?_
  refine .freezeS ho25 fun K hK hKs => ?_
  have haK : EntsR K (.slice ad25 s.length cap25) s := hKs (R := EntR) (hd25.mono fun _ _ h => h.mono hK) rfl
  have hIK := (Imm.le_trans (Imm.le_trans (Imm.le_trans hI23 hJ) hI25) hK)
  have hlK := hl0.mono hIK
  have hsK := hs0.mono hIK
  have hgK := hgJ.mono (Imm.le_trans hI25 hK)
  refine .on rfl <| .storeW sz25 rfl rfl rfl rfl rfl rfl .here <| .e (.assign rfl) rfl rfl <| .nil <| .go <| .seq <| .region ?_
  refine .e (.loadW ag25 sz25 rfl (.there <| .here) rfl) rfl rfl <| .e (.move rfl) rfl rfl <| .e (.move rfl) rfl rfl <| .e (.move rfl) rfl rfl <| .on rfl <| .call cal11 rfl rfl rfl (lJoinF_ok hlK hsK hi ht hL hM hLs hMs hLL) fun v31 I31 O31 hI31 hK31 => ?_
  generalize joinR l i t s = R at hK31
  obtain ⟨v31, ws31, ob31, rfl, ho31, hd31, rfl⟩ := hK31
  obtain ⟨ad31, cap31, rfl⟩ := ho31.form
  have hx31 := RowX.of hd31
  obtain ⟨n, hn⟩ : ∃ n, R.1.ents.length = n := ⟨_, rfl⟩
  rw [hn] at ho31 hx31 ⊢
  refine .e (.move rfl) rfl rfl <| .e (.extract rfl rfl) rfl rfl <| .e (.extract rfl rfl) rfl rfl <| .e (.extract rfl rfl) rfl rfl <| .on rfl <| .alloc zr25 rfl fun c3 _ _ => .on rfl <| .storeW sz25 rfl rfl rfl rfl rfl rfl .here ?_
  refine .e (.assign rfl) rfl rfl <| .e (.assign rfl) rfl rfl <| .nil <| .go <| .seq <| .seq ?_
  refine .region <| .e (.fieldAddr fo25_2 rfl) rfl rfl <| .e (.load ag23 rfl .here rfl) rfl rfl <| .e (.len sl23 rfl rfl) rfl rfl <| .e (.move rfl) rfl rfl <| .nil ?_
  refine .go <| .block ?_
  refine .front (.there <| .front) ?_
  refine .loopM [14, 15, 38, 39, 40, 41, 42, 43, 44, 45, 46, 47, 48, 49, 50, 51, 52, 53, 54, 55, 56, 57, 58, 59, 60, 61, 62, 63, 64, 65, 66, 67, 68, 69] (fun s => n - s.1) (fun s => s.1 ≤ n ∧ OwnS 5 (.slice ad31 n cap31) n s.2.1 s.2.2.1 ∧ RowX K s.2.2.2 n s.2.1 ∧ K.le s.2.2.2 ∧ I.le s.2.2.2) (fun s => [(38, .int .i64 s.1)]) (fun s => s.2.2.2) (fun s => s.2.2.1 ++ _) (((0, ws31, ob31, I31) : Nat × List Value × Own × Imm)) ⟨Nat.zero_le _, ho31, hx31, hI31, Imm.le_trans hIK hI31⟩ ⟨rfl, trivial⟩ rfl rfl ?_
  intro ⟨k, wsA, obA, J1⟩ hk
  dsimp only at hk ⊢
  obtain ⟨hk, hoA, hxA, hKJ1, hJ1⟩ := hk
  refine .seq <| .region <| .e (.lss rfl rfl) rfl rfl <| .nil <| .go <| .seq ?_
  refine .split 39 rfl (fun h39 => ?_) (fun h39 => ?_)
  · skip
    replace h39 := of_decide_eq_true h39
    refine .cond_true rfl <| .skip <| .go <| .seq <| .block <| .seq ?_
    refine .region ?_
    obtain ⟨eA, mvA, hceA, hfrA⟩ := hxA.2 k (by omega)
    obtain ⟨madA, mmA, mcapA, rfl⟩ := hfrA.isSl
    obtain ⟨_, h0, _, _⟩ | ⟨bA, cpA, csA, TA, hv5, rfl, hc1, hc2, hc3, hc4, hc5⟩ := hoA
    · omega
    cases hv5
    simp only [@List.singleton_append (Nat × Obj)]
    have hclA : k * 5 + 5 ≤ csA.length := by have := Nat.mul_le_mul_right 5 hc1; omega
    have hm4A := cellq_of (q := 4) hc3 (by omega) (by decide) hceA
    refine .e (.move rfl) rfl rfl <| .e (.assign rfl) rfl rfl <| .nil <| .go <| .seq <| .region ?_
    refine .e (.fieldAddr fo25_2 rfl) rfl rfl <| .e (.load ag23 rfl (.there <| .here) rfl) rfl rfl <| .e (.move rfl) rfl rfl <| .e (.indexAddrL sl23 rfl rfl rfl (by omega)) rfl rfl <| .e (.fieldAddr fo41_1 rfl) rfl rfl <| .e (.load (v := .int .u64 eA.term) ag22 rfl .here ((List.getElem?_toArray).trans (cellq_of (q := 1) hc3 (by omega) (by decide) hceA))) rfl rfl ?_
    refine .e (.add rfl rfl rfl) rfl rfl <| .e (.indexAddrL sl23 rfl rfl rfl (by omega)) rfl rfl <| .e (.fieldAddr fo41_1 rfl) rfl rfl <| .on rfl <| .store sz22 rfl rfl rfl rfl rfl (Nat.ble_eq_true_of_le (by simp; omega)) .here <| .nil <| .go ?_
    refine .seq <| .region ?_
    have hoN := own_set1 (T := TA) (b := bA) (v := .int .u64 (IntKind.u64.wrap (eA.term + 5))) hc3 (show k < n by omega) hc1 hc2 hc4 hc5
    have hm4N := cell4_set (v := .int .u64 (IntKind.u64.wrap (eA.term + 5))) (show k * 5 + 4 < csA.length by omega) hm4A
    refine .e (.fieldAddr fo25_2 rfl) rfl rfl <| .e (.load ag23 rfl (.there <| .here) rfl) rfl rfl <| .e (.move rfl) rfl rfl <| .e (.indexAddrL sl23 rfl rfl rfl (by omega)) rfl rfl <| .e (.fieldAddr fo41_4 rfl) rfl rfl <| .e (.load ag39 rfl .here ((List.getElem?_toArray).trans hm4N)) rfl rfl ?_
    refine .e (.len sl39 rfl rfl) rfl rfl <| .e (.move rfl) rfl rfl <| .nil <| .go <| .block ?_
    refine .loopM [15, 57, 58, 59, 60, 61, 62, 63, 64, 65, 66, 67, 68] (fun s => mmA - s.1) (fun s => s.1 ≤ mmA ∧ K.le s.2 ∧ I.le s.2 ∧ Turned K J1 s.2) (fun s => [(57, .int .i64 s.1)]) (fun s => s.2) (fun _ => _) (((0, J1) : Nat × Imm)) ⟨Nat.zero_le _, hKJ1, hJ1, Turned.le (Imm.le_refl _)⟩ ⟨rfl, trivial⟩ rfl rfl ?_
    intro ⟨q, J2⟩ hq
    dsimp only at hq ⊢
    obtain ⟨hq, hKJ2, hJ2, hT2⟩ := hq
    refine .seq <| .region <| .e (.lss rfl rfl) rfl rfl <| .nil <| .go <| .seq ?_
    refine .split 58 rfl (fun h58 => ?_) (fun h58 => ?_)
    · skip
      replace h58 := of_decide_eq_true h58
      refine .cond_true rfl <| .skip <| .go <| .seq <| .block <| .seq ?_
      refine .region <| .e (.move rfl) rfl rfl <| .e (.assign rfl) rfl rfl <| .nil <| .go <| .region ?_
      refine .e (.fieldAddr fo25_2 rfl) rfl rfl <| .e (.load ag23 rfl (.there <| .here) rfl) rfl rfl ?_
      obtain ⟨mb, mcs, mT, hmd, hmI, hmJ, hml, hm63⟩ := FrK.at_ (q := q) (hfrA.turn hT2) (by omega)
      have hmN : I mb = none := by
        cases e : I mb with
        | none => rfl
        | some o => rw [hIK.row _ _ e] at hmI; cases hmI
      subst hmd
      refine .e (.move rfl) rfl rfl <| .e (.indexAddrL sl23 rfl rfl rfl (by omega)) rfl rfl <| .e (.fieldAddr fo41_4 rfl) rfl rfl <| .e (.load ag39 rfl .here ((List.getElem?_toArray).trans hm4N)) rfl rfl <| .e (.move rfl) rfl rfl <| .e (.indexAddrL sl39 rfl rfl rfl (by omega)) rfl rfl ?_
      refine .melt hmJ ?_
      refine .on rfl <| .store sz3 rfl rfl rfl rfl rfl (Nat.ble_eq_true_of_le (by simp; omega)) .here <| .nil <| .blk_normal <| .go <| .region <| .e (.add rfl rfl (by first | exact wrap_succ (by omega) | exact IntWalk.i64_in _ (by omega) | exact rfl)) rfl rfl ?_
      refine .e (.move rfl) rfl rfl <| .nil ?_
      refine .freeze fun G hG hGb => ?_
      exact .mid ((q + 1, G)) ⟨by dsimp only; omega, by dsimp only; omega, Imm.le_trans (Imm.le_erase hKJ2 hmI) hG, Imm.le_trans (Imm.le_erase hJ2 hmN) hG, hT2.trans (Turned.one hmJ (by rw [setL_length (by simp; omega)]) hG hGb)⟩ ⟨rfl, trivial⟩ rfl rfl (.pre 14 rfl (.app rfl .base))
    · skip
      replace h58 := of_decide_eq_false h58
      refine .cond_false rfl <| .exit <| .exit <| .exit <| .blk_exit <| .blk_normal ?_
      refine .go <| .region <| .e (.add rfl rfl (by first | exact wrap_succ (by omega) | exact IntWalk.i64_in _ (by omega) | exact rfl)) rfl rfl <| .e (.move rfl) rfl rfl <| .nil ?_
      exact .mid ((k + 1, _, _, J2)) ⟨by dsimp only; omega, by dsimp only; omega, hoN, (hxA.setTerm (by omega) _).turn hT2, hKJ2, hJ2⟩ ⟨rfl, trivial⟩ rfl rfl (.pre 4 rfl (.app rfl (.del rfl (.pre 21 rfl (.app rfl .base)))))
  · skip
    replace h39 := of_decide_eq_false h39
    refine .cond_false rfl <| .exit <| .exit <| .exit <| .blk_exit <| .go ?_
    refine .seq <| .region <| .e (.loadW ag25 sz25 rfl (.app <| .there <| .there <| .here) rfl) rfl rfl <| .e (.move rfl) rfl rfl <| .on rfl <| .call cal22 rfl rfl rfl (lFromF_ok (i := i) (most := 8) (hl0.mono hJ1) hi (by unfold I64; omega) hL hM) fun v73 I73 O73 hI73 hK73 => ?_
    generalize fromR l i 8 = R2 at hK73
    obtain ⟨v73, ws73, ob73, rfl, ho73, hd73, rfl⟩ := hK73
    obtain ⟨ad73, cap73, rfl⟩ := ho73.form
    have hx73 := RowX.of (hd73.to (S := EntF K) fun _ _ h => EntF.back hKJ1 h)
    obtain ⟨n2, hn2⟩ : ∃ n, R2.1.length = n := ⟨_, rfl⟩
    rw [hn2] at ho73 hx73 ⊢
    refine .e (.move rfl) rfl rfl <| .e (.extract rfl rfl) rfl rfl <| .e (.extract rfl rfl) rfl rfl <| .e (.assign rfl) rfl rfl <| .e (.assign rfl) rfl rfl <| .nil ?_
    refine .go <| .seq <| .seq <| .region <| .e (.move rfl) rfl rfl <| .e (.len sl23 rfl rfl) rfl rfl ?_
    refine .e (.move rfl) rfl rfl <| .nil <| .go <| .block ?_
    refine .loopM [18, 19, 78, 79, 80, 81, 82, 83, 84, 85, 86, 87, 88, 89, 90, 91, 92, 93, 94, 95, 96, 97, 98] (fun s => n2 - s.1) (fun s => s.1 ≤ n2 ∧ OwnS 5 (.slice ad73 n2 cap73) n2 ws73 s.2.1 ∧ RowX K s.2.2 n2 ws73 ∧ K.le s.2.2 ∧ I.le s.2.2) (fun s => [(78, .int .i64 s.1)]) (fun s => s.2.2) (fun s => s.2.1 ++ _) (((0, ob73, I73) : Nat × Own × Imm)) ⟨Nat.zero_le _, ho73, hx73, Imm.le_trans hKJ1 hI73, Imm.le_trans hJ1 hI73⟩ ⟨rfl, trivial⟩ rfl rfl ?_
    intro ⟨k, obB, J3⟩ hk
    dsimp only at hk ⊢
    obtain ⟨hk, hoB, hxB, hKJ3, hJ3⟩ := hk
    refine .seq <| .region <| .e (.lss rfl rfl) rfl rfl <| .nil <| .go <| .seq ?_
    refine .split 79 rfl (fun h79 => ?_) (fun h79 => ?_)
    · skip
      replace h79 := of_decide_eq_true h79
      refine .cond_true rfl <| .skip <| .go <| .seq <| .block <| .seq ?_
      refine .region ?_
      obtain ⟨eB, mvB, hceB, hfrB⟩ := hxB.2 k (by omega)
      obtain ⟨madB, mmB, mcapB, rfl⟩ := hfrB.isSl
      obtain ⟨_, h0, _, _⟩ | ⟨bB, cpB, csB, TB, hv5, rfl, hc1, hc2, hc3, hc4, hc5⟩ := hoB
      · omega
      cases hv5
      simp only [@List.singleton_append (Nat × Obj)]
      have hclB : k * 5 + 5 ≤ csB.length := by have := Nat.mul_le_mul_right 5 hc1; omega
      have hm4B := cellq_of (q := 4) hc3 (by omega) (by decide) hceB
      refine .e (.move rfl) rfl rfl <| .e (.assign rfl) rfl rfl <| .nil <| .go <| .seq <| .region ?_
      have hoM : OwnS 5 (.slice (some ⟨bB, 0, none⟩) n2 cap73) n2 ws73 [(bB, .cells ⟨csB⟩ TB (0, 0))] := .inr ⟨bB, cap73, csB, TB, rfl, rfl, hc1, hc2, hc3, hc4, hc5⟩
      refine .e (.move rfl) rfl rfl <| .e (.move rfl) rfl rfl <| .e (.indexAddrL sl23 rfl rfl rfl (by omega)) rfl rfl <| .e (.fieldAddr fo41_4 rfl) rfl rfl <| .e (.load ag39 rfl .here ((List.getElem?_toArray).trans hm4B)) rfl rfl <| .e (.len sl39 rfl rfl) rfl rfl ?_
      refine .e (.move rfl) rfl rfl <| .nil <| .go <| .block ?_
      refine .loopM [19, 87, 88, 89, 90, 91, 92, 93, 94, 95, 96, 97] (fun s => mmB - s.1) (fun s => s.1 ≤ mmB ∧ K.le s.2 ∧ I.le s.2 ∧ Turned K J3 s.2) (fun s => [(87, .int .i64 s.1)]) (fun s => s.2) (fun _ => _) (((0, J3) : Nat × Imm)) ⟨Nat.zero_le _, hKJ3, hJ3, Turned.le (Imm.le_refl _)⟩ ⟨rfl, trivial⟩ rfl rfl ?_
      intro ⟨q, J4⟩ hq
      dsimp only at hq ⊢
      obtain ⟨hq, hKJ4, hJ4, hT4⟩ := hq
      refine .seq <| .region <| .e (.lss rfl rfl) rfl rfl <| .nil <| .go <| .seq ?_
      refine .split 88 rfl (fun h88 => ?_) (fun h88 => ?_)
      · skip
        replace h88 := of_decide_eq_true h88
        refine .cond_true rfl <| .skip <| .go <| .seq <| .block <| .seq ?_
        refine .region <| .e (.move rfl) rfl rfl <| .e (.assign rfl) rfl rfl <| .nil <| .go <| .region ?_
        refine .e (.move rfl) rfl rfl ?_
        obtain ⟨mb, mcs, mT, hmd, hmI, hmJ, hml, hm63⟩ := FrK.at_ (q := q) (hfrB.turn hT4) (by omega)
        have hmN : I mb = none := by
          cases e : I mb with
          | none => rfl
          | some o => rw [hIK.row _ _ e] at hmI; cases hmI
        subst hmd
        refine .e (.move rfl) rfl rfl <| .e (.indexAddrL sl23 rfl rfl rfl (by omega)) rfl rfl <| .e (.fieldAddr fo41_4 rfl) rfl rfl <| .e (.load ag39 rfl .here ((List.getElem?_toArray).trans hm4B)) rfl rfl <| .e (.move rfl) rfl rfl <| .e (.indexAddrL sl39 rfl rfl rfl (by omega)) rfl rfl ?_
        refine .melt hmJ ?_
        refine .on rfl <| .store sz3 rfl rfl rfl rfl rfl (Nat.ble_eq_true_of_le (by simp; omega)) .here <| .nil <| .blk_normal <| .go <| .region <| .e (.add rfl rfl (by first | exact wrap_succ (by omega) | exact IntWalk.i64_in _ (by omega) | exact rfl)) rfl rfl ?_
        refine .e (.move rfl) rfl rfl <| .nil ?_
        refine .freeze fun G hG hGb => ?_
        exact .mid ((q + 1, G)) ⟨by dsimp only; omega, by dsimp only; omega, Imm.le_trans (Imm.le_erase hKJ4 hmI) hG, Imm.le_trans (Imm.le_erase hJ4 hmN) hG, hT4.trans (Turned.one hmJ (by rw [setL_length (by simp; omega)]) hG hGb)⟩ ⟨rfl, trivial⟩ rfl rfl (.pre 13 rfl (.app rfl .base))
      · skip
        replace h88 := of_decide_eq_false h88
        refine .cond_false rfl <| .exit <| .exit <| .exit <| .blk_exit <| .blk_normal ?_
        refine .go <| .region <| .e (.add rfl rfl (by first | exact wrap_succ (by omega) | exact IntWalk.i64_in _ (by omega) | exact rfl)) rfl rfl <| .e (.move rfl) rfl rfl <| .nil ?_
        exact .mid ((k + 1, _, J4)) ⟨by dsimp only; omega, by dsimp only; omega, hoM, hxB.turn hT4, hKJ4, hJ4⟩ ⟨rfl, trivial⟩ rfl rfl (.pre 4 rfl (.app rfl (.del rfl (.pre 11 rfl (.app rfl .base)))))
    · skip
      replace h79 := of_decide_eq_false h79
      refine .cond_false rfl <| .exit <| .exit <| .exit <| .blk_exit <| .go ?_
      refine .seq <| .region <| .e (.loadW ag25 sz25 rfl (.app <| .app <| .there <| .there <| .here) rfl) rfl rfl <| .e (.loadW ag25 sz25 rfl (.app <| .app <| .there <| .here) rfl) rfl rfl <| .on rfl <| .callP cal16 rfl rfl rfl ((sameLog_ok (hl0.mono hJ3) (hgK.mono hKJ3)).cast (congrArg Value.bool (decide_eq_true rfl))) <| .e (.move rfl) rfl rfl ?_
      refine .e (.move rfl) rfl rfl <| .e (.move rfl) rfl rfl <| .on rfl <| .callP cal17 rfl rfl rfl ((sameEnts_ok (hs0.mono hJ3) (haK.mono hKJ3)).cast (congrArg Value.bool (decide_eq_true rfl))) <| .e (.pickT rfl rfl) rfl rfl <| .e (.assign rfl) rfl rfl <| .nil ?_
      refine .go <| .ret ?_
      refine .drop <| .drop <| .tail <| .tail <| .tail ?_
      refine .back hJ3 ?_
      refine Post.retE rfl rfl ?_
      rfl

end Go.Proofs.Yteajcmnbjpbnpaa
