/- Walks of functions over a symbolic memory, printed by a program of the session. -/
import Derived.Test.YteajcmnbjpbnpaaLo
import Derived.Test.YteajcmnbjpbnpaaSyN
namespace Go.Proofs.Yteajcmnbjpbnpaa
open Go.Sy
set_option linter.unusedSimpArgs false
set_option linter.unusedVariables false

/-- An entry whose Members were made since I0. -/
def EntF (I0 J : Imm) (cs : List Value) (e : Ent) : Prop := ∃ mv, cs = e.cells mv ∧ EntR J (e.cells mv) e ∧ FrK 1 I0 J mv
theorem EntF.mono {I0 J K : Imm} {cs : List Value} {e : Ent} (hJ : J.le K) (h : EntF I0 J cs e) : EntF I0 K cs e := by
  obtain ⟨mv, e1, h1, h2⟩ := h
  exact ⟨mv, e1, h1.mono hJ, h2.mono hJ⟩
theorem EntF.back {I0 I1 J : Imm} {cs : List Value} {e : Ent} (hI : I1.le I0) (h : EntF I0 J cs e) : EntF I1 J cs e := by
  obtain ⟨mv, e1, h1, h2⟩ := h
  exact ⟨mv, e1, h1, h2.back hI⟩
theorem EntF.ent {I0 J : Imm} {cs : List Value} {e : Ent} (h : EntF I0 J cs e) : EntR J cs e := by
  obtain ⟨_, rfl, h1, _⟩ := h; exact h1
abbrev MixE (I0 : Imm) := MixR EntR (EntF I0)
theorem own_drF {ws : List Value} {l : List Ent} {k : Nat} {I J K : Imm} {mv v : Value} (h : DR (MixE I) 5 J ws (mixTo l k)) (hk : k < l.length) (hJ : J.le K) (he : (ws.drop (k * 5)).take 5 = l[k].cells mv) (hv : IntsR K v l[k].members) (hf : FrK 1 I K v) : DR (MixE I) 5 K (ws.set (k * 5 + 4) v) (mixTo l (k + 1)) := by
  have h1 := (h.2 k _ (mixTo_at hk)).1
  rw [← mixTo_step hk]
  refine DR.setCell (J := K) (v := v) (x' := (l[k], true)) (r := 4) h (by rw [mixTo_len]; exact hk) (by decide) (fun _ _ h => ⟨h.1.mono hJ, fun e => (h.2 e).mono hJ⟩) ?_
  rw [he]
  have hr : EntR K (l[k].cells v) l[k] := ⟨⟨v, rfl, hv⟩, h1.index, h1.term, h1.kind, h1.data⟩
  exact ⟨hr, fun _ => ⟨v, rfl, hr, hf⟩⟩

set_option maxHeartbeats 1000000 in
set_option maxRecDepth 20000 in
theorem ownF_ok {I : Imm} {O : Own} {v : Value} {l : List Ent} (hl : EntsR I v l) (hL : l.length * 64 ≤ 140737488351232) (hM : ∀ e ∈ l, e.members.length * 8 ≤ 140737488351232) :
    Go.Sy.Does Try.prog 35 [v] I O (fun u I' O' => ∃ ws ob, OwnS 5 u l.length ws ob ∧ DR (EntF I) 5 I' ws l ∧ O' = ob ++ O) := by
  have hl0 := hl
  obtain ⟨la, lcap, rfl, hl1, hl2, -⟩ := hl
  refine Go.Sy.Does.enter Try.func35 rfl Try.ntmps35 rfl ?_
  refine .seq <| .region <| .e (.assign rfl) rfl rfl <| .nil <| .go <| .seq ?_
  refine .region <| .e (.move rfl) rfl rfl <| .on rfl <| .call cal44 rfl rfl rfl (cloneEnt_ok hl0 hL) fun v5 I5 O5 hI5 hK5 => ?_
  obtain ⟨hq5, ws5, ob5, ho5, hd5, rfl⟩ := hK5
  replace hq5 := hq5.symm
  subst hq5
  obtain ⟨ad5, cap5, rfl⟩ := ho5.form
  refine .e (.assign rfl) rfl rfl <| .nil <| .go <| .seq <| .seq <| .region ?_
  refine .e (.move rfl) rfl rfl <| .e (.len sl23 rfl rfl) rfl rfl <| .e (.move rfl) rfl rfl <| .nil <| .go <| .block ?_
  refine .loopM [3, 8, 9, 10, 11, 12, 13, 14, 15, 16, 17, 18, 19, 20, 21] (fun s => l.length - s.1) (fun s => s.1 ≤ l.length ∧ OwnS 5 (.slice ad5 l.length cap5) l.length s.2.1 s.2.2.1 ∧ DR (MixE I) 5 s.2.2.2 s.2.1 (mixTo l s.1) ∧ I.le s.2.2.2) (fun s => [(8, .int .i64 s.1)]) (fun s => s.2.2.2) (fun s => s.2.2.1 ++ _) (((0, ws5, ob5, I) : Nat × List Value × Own × Imm)) ⟨by dsimp only; omega, ho5, mix_start hd5, Imm.le_refl _⟩ ⟨rfl, trivial⟩ rfl rfl ?_
  intro ⟨k, wsL, obL, J⟩ hk
  dsimp only at hk ⊢
  obtain ⟨hk, hoL, hdL, hJ⟩ := hk
  refine .seq <| .region <| .e (.lss rfl rfl) rfl rfl <| .nil <| .go <| .seq ?_
  refine .split 9 rfl (fun h9 => ?_) (fun h9 => ?_)
  · skip
    replace h9 := of_decide_eq_true h9
    refine .cond_true rfl <| .skip <| .go <| .seq <| .block <| .seq ?_
    refine .region <| .e (.move rfl) rfl rfl <| .e (.assign rfl) rfl rfl <| .nil <| .go <| .region ?_
    have hde := (hdL.2 k (l[k], false) (mixTo_at (by omega))).1
    dsimp only at hde
    obtain ⟨mvk, hce, hmk⟩ := hde.ex
    obtain ⟨_, h0, _, _⟩ | ⟨bL, capL, csL, TL, hv5, rfl, hc1, hc2, hc3, hc4, hc5⟩ := hoL
    · omega
    cases hv5
    refine .e (.move rfl) rfl rfl <| .e (.move rfl) rfl rfl <| .e (.move rfl) rfl rfl <| .e (.move rfl) rfl rfl <| .e (.indexAddrL sl23 rfl rfl rfl (by omega)) rfl rfl <| .e (.fieldAddr fo41_4 rfl) rfl rfl ?_
    refine .e (.load (v := mvk) ag39 rfl .here ((List.getElem?_toArray).trans (cell_of hc3 (by omega) hce))) rfl rfl <| .on rfl <| .call cal43 rfl rfl rfl (cloneInt_ok hmk (hM _ (List.getElem_mem (by omega)))) fun v18 I18 O18 hI18 hK18 => ?_
    obtain ⟨hq18, ws18, ob18, ho18, hd18, rfl⟩ := hK18
    replace hq18 := hq18.symm
    subst hq18
    refine .e (.indexAddrL sl23 rfl rfl rfl (by omega)) rfl rfl <| .e (.fieldAddr fo41_4 rfl) rfl rfl ?_
    refine .freezeF ho18 fun K hK hKs hKf => ?_
    have hyv : IntsR K _ l[k].members := hKs (R := I64R) (hd18.mono fun _ _ h => h) rfl
    have hyv0 := hyv
    obtain ⟨ya, ycap, rfl, hy1, hy2, -⟩ := hyv0
    refine .on rfl <| .store sz39 rfl rfl rfl rfl rfl (Nat.ble_eq_true_of_le (by simp; omega)) .here <| .nil <| .blk_normal <| .go <| .region <| .e (.add rfl rfl (by first | exact wrap_succ (by omega) | exact IntWalk.i64_in _ (by omega) | exact rfl)) rfl rfl ?_
    refine .e (.move rfl) rfl rfl <| .nil ?_
    exact .mid ((k + 1, _, _, K)) ⟨by dsimp only; omega, by dsimp only; omega, own_set hc3 (by omega) hc1 hc2 hc4 hc5, own_drF hdL (by omega) hK hce hyv (hKf.back hJ), Imm.le_trans hJ hK⟩ ⟨rfl, trivial⟩ rfl rfl (.pre 16 rfl (.app rfl .base))
  · skip
    replace h9 := of_decide_eq_false h9
    refine .cond_false rfl <| .exit <| .exit <| .exit <| .blk_exit <| .go ?_
    refine .seq <| .region <| .e (.move rfl) rfl rfl <| .e (.assign rfl) rfl rfl <| .nil <| .go ?_
    refine .ret ?_
    refine Post.ret1 rfl rfl (by first | exact hJ | exact Imm.le_refl _) ⟨wsL, obL, ?_, mix_end hdL (by omega), rfl⟩
    exact hoL

set_option maxHeartbeats 1000000 in
set_option maxRecDepth 20000 in
theorem OwnF_ok {I : Imm} {O : Own} {lc : List Value} {l : Lg} (hl : LgR I lc l) (hL : l.ents.length * 64 ≤ 140737488351232) (hM : ∀ e ∈ l.ents, e.members.length * 8 ≤ 140737488351232) :
    Go.Sy.Does Try.prog 32 [.agg ⟨lc⟩] I O (fun u I' O' => ∃ ev ws ob, u = .agg ⟨l.cells ev⟩ ∧ OwnS 5 ev l.ents.length ws ob ∧ DR (EntF I) 5 I' ws l.ents ∧ O' = ob ++ O) := by
  have hl0 := hl
  obtain ⟨ev, rfl, hev⟩ := hl.ex
  have hev0 := hev
  obtain ⟨va, vcap, rfl, hv1, hv2, -⟩ := hev
  have hbase := hl0.base
  have hterm := hl0.term
  unfold U64 at hbase hterm
  refine Go.Sy.Does.enter Try.func32 rfl Try.ntmps32 rfl ?_
  refine .seq <| .region <| .on rfl <| .box rfl rfl rfl fun c1 _ _ => .on rfl <| .alloc zr25 rfl fun c2 _ _ => .nil <| .go ?_
  refine .seq <| .region <| .e (.fieldAddr fo25_2 rfl) rfl rfl <| .e (.load ag23 rfl (.there <| .here) rfl) rfl rfl <| .on rfl <| .call cal35 rfl rfl rfl (ownF_ok hev0 hL hM) fun v5 I5 O5 hI5 hK5 => ?_
  obtain ⟨ws5, ob5, ho5, hd5, rfl⟩ := hK5
  obtain ⟨ad5, cap5, rfl⟩ := ho5.form
  refine .e (.fieldAddr fo25_2 rfl) rfl rfl <| .on rfl <| .store sz23 rfl rfl rfl rfl rfl rfl (.app <| .there <| .here) <| .nil <| .go <| .seq <| .region ?_
  refine .e (.loadW ag25 sz25 rfl (.app <| .there <| .here) rfl) rfl rfl <| .on rfl <| .storeW sz25 rfl rfl rfl rfl rfl rfl (.app <| .here) <| .nil <| .go <| .ret ?_
  exact Post.rets rfl (.agg rfl ag25 sz25 (.app <| .here) rfl .nil) rfl hI5 (fun w h => Sat.tail (Sat.rem (Sat.tail (Sat.rem h (Rem.app .here))) (Rem.app .here))) ⟨_, ws5, ob5, rfl, ho5, hd5, rfl⟩

end Go.Proofs.Yteajcmnbjpbnpaa
