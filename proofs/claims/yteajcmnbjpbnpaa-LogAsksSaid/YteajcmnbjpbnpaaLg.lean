/- Walks of functions over a symbolic memory, printed by a program of the session. -/
import Derived.Test.YteajcmnbjpbnpaaLf
import Derived.Test.YteajcmnbjpbnpaaSyJ
namespace Go.Proofs.Yteajcmnbjpbnpaa
open Go.Sy
set_option linter.unusedSimpArgs false
set_option linter.unusedVariables false

theorem cell_of {cs ws : List Value} {n k : Nat} {e : Ent} {mv : Value} (hw : cs.take (n * 5) = ws) (hk : k < n) (h : (ws.drop (k * 5)).take 5 = e.cells mv) : cs[0 + k * 5 + 4]? = some mv := by
  have h1 := congrArg (fun x : List Value => x[4]?) h
  simp only [List.getElem?_take, List.getElem?_drop, Ent.cells] at h1
  subst hw
  rw [if_pos (by omega), List.getElem?_take, if_pos (by omega)] at h1
  rw [show 0 + k * 5 + 4 = k * 5 + 4 by omega]
  exact h1
theorem own_set {cs ws : List Value} {n k cap b : Nat} {T : TypeId} {v : Value} (hw : cs.take (n * 5) = ws) (hk : k < n) (hn : n ≤ cap) (hc : cs.length = cap * 5) (hl : ws.length = n * 5) (hm : cap ≤ 9223372036854775807) :
    OwnS 5 (.slice (some ⟨b, 0, none⟩) n cap) n (ws.set (k * 5 + 4) v) [(b, .cells ⟨setL cs (0 + k * 5 + 4) [v]⟩ T (0, 0))] := by
  rw [setL_one (by omega), show 0 + k * 5 + 4 = k * 5 + 4 by omega]
  exact .inr ⟨b, cap, _, T, rfl, rfl, hn, by simpa using hc, by rw [List.take_set, hw], by simpa using hl, hm⟩
theorem own_dr {ws : List Value} {l : List Ent} {k : Nat} {I J : Imm} {mv v : Value} (h : DR EntR 5 I ws l) (hk : k < l.length) (hJ : I.le J) (he : (ws.drop (k * 5)).take 5 = l[k].cells mv) (hv : IntsR J v l[k].members) : DR EntR 5 J (ws.set (k * 5 + 4) v) l := by
  have h1 := h.2 k l[k] (List.getElem?_eq_getElem hk)
  have h2 := DR.setCell (J := J) (v := v) (x' := l[k]) (r := 4) h hk (by decide) (fun _ _ h => h.mono hJ) (by
    rw [he]
    exact ⟨⟨v, rfl, hv⟩, h1.index, h1.term, h1.kind, h1.data⟩)
  rwa [List.set_getElem_self] at h2

set_option maxHeartbeats 1000000 in
set_option maxRecDepth 20000 in
theorem own_ok {I : Imm} {O : Own} {v : Value} {l : List Ent} (hl : EntsR I v l) (hL : l.length * 64 ≤ 140737488351232) (hM : ∀ e ∈ l, e.members.length * 8 ≤ 140737488351232) :
    Go.Sy.Does Try.prog 35 [v] I O (fun u I' O' => ∃ ws ob, OwnS 5 u l.length ws ob ∧ DR EntR 5 I' ws l ∧ O' = ob ++ O) := by
  have hl0 := hl
  obtain ⟨la, lcap, rfl, hl1, hl2, -⟩ := hl
  refine Go.Sy.Does.enter Try.func35 rfl Try.ntmps35 rfl ?_
  refine .seq <| .region <| .e (.assign rfl) rfl rfl <| .nil <| .go <| .seq ?_
  refine .region <| .e (.move rfl) rfl rfl <| .on rfl <| .call cal44 rfl rfl rfl (cloneEnt_ok hl0 hL) fun v5 I5 O5 hI5 hK5 => ?_
  obtain ⟨hq5, ws5, ob5, ho5, hd5, rfl⟩ := hK5
  replace hq5 := hq5.symm
  subst hq5
  obtain ⟨ad5, cap5, rfl⟩ := ho5.form
  refine .e (.assign rfl) rfl rfl <| .nil <| .go <| .seq <| .seq <| .region ?_
  refine .e (.move rfl) rfl rfl <| .e (.len sl23 rfl rfl) rfl rfl <| .e (.move rfl) rfl rfl <| .nil <| .go <| .block ?_
  refine .loopM [3, 8, 9, 10, 11, 12, 13, 14, 15, 16, 17, 18, 19, 20, 21] (fun s => l.length - s.1) (fun s => s.1 ≤ l.length ∧ OwnS 5 (.slice ad5 l.length cap5) l.length s.2.1 s.2.2.1 ∧ DR EntR 5 s.2.2.2 s.2.1 l ∧ I.le s.2.2.2) (fun s => [(8, .int .i64 s.1)]) (fun s => s.2.2.2) (fun s => s.2.2.1 ++ _) (((0, ws5, ob5, I) : Nat × List Value × Own × Imm)) ⟨by dsimp only; omega, ho5, hd5, Imm.le_refl _⟩ ⟨rfl, trivial⟩ rfl rfl ?_
  intro ⟨k, wsL, obL, J⟩ hk
  dsimp only at hk ⊢
  obtain ⟨hk, hoL, hdL, hJ⟩ := hk
  refine .seq <| .region <| .e (.lss rfl rfl) rfl rfl <| .nil <| .go <| .seq ?_
  refine .split 9 rfl (fun h9 => ?_) (fun h9 => ?_)
  · skip
    replace h9 := of_decide_eq_true h9
    refine .cond_true rfl <| .skip <| .go <| .seq <| .block <| .seq ?_
    refine .region <| .e (.move rfl) rfl rfl <| .e (.assign rfl) rfl rfl <| .nil <| .go <| .region ?_
    have hde := hdL.2 k l[k] (List.getElem?_eq_getElem (by omega))
    obtain ⟨mvk, hce, hmk⟩ := hde.ex
    obtain ⟨_, h0, _, _⟩ | ⟨bL, capL, csL, TL, hv5, rfl, hc1, hc2, hc3, hc4, hc5⟩ := hoL
    · omega
    cases hv5
    refine .e (.move rfl) rfl rfl <| .e (.move rfl) rfl rfl <| .e (.move rfl) rfl rfl <| .e (.move rfl) rfl rfl <| .e (.indexAddrL sl23 rfl rfl rfl (by omega)) rfl rfl <| .e (.fieldAddr fo41_4 rfl) rfl rfl ?_
    refine .e (.load (v := mvk) ag39 rfl .here ((List.getElem?_toArray).trans (cell_of hc3 (by omega) hce))) rfl rfl <| .on rfl <| .call cal43 rfl rfl rfl (cloneInt_ok hmk (hM _ (List.getElem_mem (by omega)))) fun v18 I18 O18 hI18 hK18 => ?_
    obtain ⟨hq18, ws18, ob18, ho18, hd18, rfl⟩ := hK18
    replace hq18 := hq18.symm
    subst hq18
    refine .e (.indexAddrL sl23 rfl rfl rfl (by omega)) rfl rfl <| .e (.fieldAddr fo41_4 rfl) rfl rfl ?_
    refine .freezeS ho18 fun K hK hKs => ?_
    have hyv : IntsR K _ l[k].members := hKs (R := I64R) (hd18.mono fun _ _ h => h) rfl
    have hyv0 := hyv
    obtain ⟨ya, ycap, rfl, hy1, hy2, -⟩ := hyv0
    refine .on rfl <| .store sz39 rfl rfl rfl rfl rfl (Nat.ble_eq_true_of_le (by simp; omega)) .here <| .nil <| .blk_normal <| .go <| .region <| .e (.add rfl rfl (by first | exact wrap_succ (by omega) | exact IntWalk.i64_in _ (by omega) | exact rfl)) rfl rfl ?_
    refine .e (.move rfl) rfl rfl <| .nil ?_
    exact .mid ((k + 1, _, _, K)) ⟨by dsimp only; omega, by dsimp only; omega, own_set hc3 (by omega) hc1 hc2 hc4 hc5, own_dr hdL (by omega) hK hce hyv, Imm.le_trans hJ hK⟩ ⟨rfl, trivial⟩ rfl rfl (.pre 16 rfl (.app rfl .base))
  · skip
    replace h9 := of_decide_eq_false h9
    refine .cond_false rfl <| .exit <| .exit <| .exit <| .blk_exit <| .go ?_
    refine .seq <| .region <| .e (.move rfl) rfl rfl <| .e (.assign rfl) rfl rfl <| .nil <| .go ?_
    refine .ret ?_
    refine Post.ret1 rfl rfl (by first | exact hJ | exact Imm.le_refl _) ⟨wsL, obL, ?_, hdL, rfl⟩
    exact hoL

end Go.Proofs.Yteajcmnbjpbnpaa
