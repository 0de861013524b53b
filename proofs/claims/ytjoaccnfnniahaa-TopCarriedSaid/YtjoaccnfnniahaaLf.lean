/- Walks of functions over a symbolic memory, printed by a program of the session. -/
import Derived.Test.YtjoaccnfnniahaaLa
import Derived.Test.YtjoaccnfnniahaaSyJ
namespace Go.Proofs.Ytjoaccnfnniahaa
open Go.Sy
set_option linter.unusedSimpArgs false
set_option linter.unusedVariables false

set_option maxHeartbeats 1000000 in
set_option maxRecDepth 20000 in
theorem cloneInt_ok {I : Imm} {O : Own} {v : Value} {l : List Int} (hl : SlR I64R 1 I v l) (hL : l.length * 8 ≤ 140737488351232) :
    Go.Sy.Does Try.prog 45 [v] I O (fun u I' O' => I' = I ∧ ∃ ws ob, OwnS 1 u l.length ws ob ∧ DR I64R 1 I ws l ∧ O' = ob ++ O) := by
  have hl0 := hl
  obtain ⟨la, lcap, rfl, hl1, hl2, -⟩ := hl
  obtain ⟨ws, hs, hd⟩ := SlR.src (B := []) (fun _ _ h => by rw [h.1]; rfl) hl0
  refine Go.Sy.Does.enter Try.func45 rfl Try.ntmps45 rfl ?_
  refine .seq <| .region <| .e (.assign rfl) rfl rfl <| .nil <| .go <| .seq ?_
  refine .seq <| .region <| .e (.move rfl) rfl rfl <| .e (.eqv (.nilSlice Try.underlying24) rfl rfl) rfl rfl <| .nil <| .go ?_
  refine .split 4 rfl (fun h4 => ?_) (fun h4 => ?_)
  · skip
    obtain rfl : la = none := by cases la <;> first | rfl | cases h4
    obtain rfl := hl0.ofNil
    refine .cond_true rfl <| .seq <| .region <| .e (.assign rfl) rfl rfl <| .nil <| .go ?_
    refine .ret <| .ret ?_
    refine Post.ret1 rfl rfl (Imm.le_refl _) ⟨rfl, [], [], OwnS.nil, DR.nil, rfl⟩
  · skip
    refine .cond_false rfl <| .skip <| .go <| .seq <| .region <| .on rfl <| .buildSlice Try.underlying24 sz3 (by decide) (by decide) zv3 rfl rfl rfl rfl rfl fun c1 _ _ => ?_
    refine .e (.move rfl) rfl rfl <| .on rfl <| .append Try.underlying24 Try.underlying24 sz3 by3 zv3 rfl rfl rfl .here (OwnS.made rfl (by decide)) hs.any hd.1 (hd.ones (by decide) (fun _ _ h => by rw [h.1]; rfl)) (by omega) (by omega) rfl fun v7 ob7 ho7 => .e (.assign rfl) rfl rfl <| .nil <| .go <| .ret ?_
    refine Post.ret1 rfl rfl (Imm.le_refl _) ⟨rfl, ws, ob7, ?_, hd, rfl⟩
    rw [Nat.zero_add] at ho7
    exact ho7

theorem _root_.Go.Sy.EntR.ones {I : Imm} {cs : List Value} {e : Ent} (h : EntR I cs e) : Go.Sy.ones cs = true := by
  obtain ⟨mv, rfl, h1⟩ := h.ex
  exact ones_cons trivial (ones_cons trivial (ones_cons trivial (ones_cons trivial (ones_cons h1.isSl rfl))))

set_option maxHeartbeats 1000000 in
set_option maxRecDepth 20000 in
theorem cloneEnt_ok {I : Imm} {O : Own} {v : Value} {l : List Ent} (hl : SlR EntR 5 I v l) (hL : l.length * 64 ≤ 140737488351232) :
    Go.Sy.Does Try.prog 44 [v] I O (fun u I' O' => I' = I ∧ ∃ ws ob, OwnS 5 u l.length ws ob ∧ DR EntR 5 I ws l ∧ O' = ob ++ O) := by
  have hl0 := hl
  obtain ⟨la, lcap, rfl, hl1, hl2, -⟩ := hl
  obtain ⟨ws, hs, hd⟩ := SlR.src (B := []) (fun _ _ h => EntR.len h) hl0
  refine Go.Sy.Does.enter Try.func44 rfl Try.ntmps44 rfl ?_
  refine .seq <| .region <| .e (.assign rfl) rfl rfl <| .nil <| .go <| .seq ?_
  refine .seq <| .region <| .e (.move rfl) rfl rfl <| .e (.eqv (.nilSlice Try.underlying41) rfl rfl) rfl rfl <| .nil <| .go ?_
  refine .split 4 rfl (fun h4 => ?_) (fun h4 => ?_)
  · skip
    obtain rfl : la = none := by cases la <;> first | rfl | cases h4
    obtain rfl := hl0.ofNil
    refine .cond_true rfl <| .seq <| .region <| .e (.assign rfl) rfl rfl <| .nil <| .go ?_
    refine .ret <| .ret ?_
    refine Post.ret1 rfl rfl (Imm.le_refl _) ⟨rfl, [], [], OwnS.nil, DR.nil, rfl⟩
  · skip
    refine .cond_false rfl <| .skip <| .go <| .seq <| .region <| .on rfl <| .buildSlice Try.underlying41 sz77 (by decide) (by decide) zv77 rfl rfl rfl rfl rfl fun c1 _ _ => ?_
    refine .e (.move rfl) rfl rfl <| .on rfl <| .append Try.underlying41 Try.underlying41 sz77 by77 zv77 rfl rfl rfl .here (OwnS.made rfl (by decide)) hs.any hd.1 (hd.ones (by decide) (fun _ _ h => EntR.ones h)) (by omega) (by omega) rfl fun v7 ob7 ho7 => .e (.assign rfl) rfl rfl <| .nil <| .go <| .ret ?_
    refine Post.ret1 rfl rfl (Imm.le_refl _) ⟨rfl, ws, ob7, ?_, hd, rfl⟩
    rw [Nat.zero_add] at ho7
    exact ho7

end Go.Proofs.Ytjoaccnfnniahaa

namespace Go.Proofs.Ytjoaccnfnniahaa
open Go.Sy
set_option linter.unusedSimpArgs false
set_option linter.unusedVariables false

theorem cell_of {cs ws : List Value} {n k : Nat} {e : Ent} {mv : Value} (hw : cs.take (n * 5) = ws) (hk : k < n) (h : (ws.drop (k * 5)).take 5 = e.cells mv) : cs[0 + k * 5 + 4]? = some mv := by
  have h1 := congrArg (fun x : List Value => x[4]?) h
  simp only [List.getElem?_take, List.getElem?_drop, Ent.cells] at h1
  subst hw
  rw [if_pos (by omega), List.getElem?_take, if_pos (by omega)] at h1
  rw [show 0 + k * 5 + 4 = k * 5 + 4 by omega]
  exact h1
theorem own_set {cs ws : List Value} {n k cap b : Nat} {T : TypeId} {v : Value} (hw : cs.take (n * 5) = ws) (hk : k < n) (hn : n ≤ cap) (hc : cs.length = cap * 5) (hl : ws.length = n * 5) (hm : cap ≤ 9223372036854775807) :
    OwnS 5 (.slice (some ⟨b, 0, none⟩) n cap) n (ws.set (k * 5 + 4) v) [(b, .cells ⟨setL cs (0 + k * 5 + 4) [v]⟩ T (0, 0))] := by
  rw [setL_one (by omega), show 0 + k * 5 + 4 = k * 5 + 4 by omega]
  exact .inr ⟨b, cap, _, T, rfl, rfl, hn, by simpa using hc, by rw [List.take_set, hw], by simpa using hl, hm⟩
theorem own_dr {ws : List Value} {l : List Ent} {k : Nat} {I J : Imm} {mv v : Value} (h : DR EntR 5 I ws l) (hk : k < l.length) (hJ : I.le J) (he : (ws.drop (k * 5)).take 5 = l[k].cells mv) (hv : IntsR J v l[k].members) : DR EntR 5 J (ws.set (k * 5 + 4) v) l := by
  have h1 := h.2 k l[k] (List.getElem?_eq_getElem hk)
  have h2 := DR.setCell (J := J) (v := v) (x' := l[k]) (r := 4) h hk (by decide) (fun _ _ h => h.mono hJ) (by
    rw [he]
    exact ⟨⟨v, rfl, hv⟩, h1.index, h1.term, h1.kind, h1.data⟩)
  rwa [List.set_getElem_self] at h2

set_option maxHeartbeats 1000000 in
set_option maxRecDepth 20000 in
theorem own_ok {I : Imm} {O : Own} {v : Value} {l : List Ent} (hl : EntsR I v l) (hL : l.length * 64 ≤ 140737488351232) (hM : ∀ e ∈ l, e.members.length * 8 ≤ 140737488351232) :
    Go.Sy.Does Try.prog 29 [v] I O (fun u I' O' => ∃ ws ob, OwnS 5 u l.length ws ob ∧ DR EntR 5 I' ws l ∧ O' = ob ++ O) := by
  have hl0 := hl
  obtain ⟨la, lcap, rfl, hl1, hl2, -⟩ := hl
  refine Go.Sy.Does.enter Try.func29 rfl Try.ntmps29 rfl ?_
  refine .seq <| .region <| .e (.assign rfl) rfl rfl <| .nil <| .go <| .seq ?_
  refine .region <| .e (.move rfl) rfl rfl <| .on rfl <| .call cal44 rfl rfl rfl (cloneEnt_ok hl0 hL) fun v5 I5 O5 hI5 hK5 => ?_
  obtain ⟨hq5, ws5, ob5, ho5, hd5, rfl⟩ := hK5
  replace hq5 := hq5.symm
  subst hq5
  obtain ⟨ad5, cap5, rfl⟩ := ho5.form
  refine .e (.assign rfl) rfl rfl <| .nil <| .go <| .seq <| .seq <| .region ?_
  refine .e (.move rfl) rfl rfl <| .e (.len sl41 rfl rfl) rfl rfl <| .e (.move rfl) rfl rfl <| .nil <| .go <| .block ?_
  refine .loopM [3, 8, 9, 10, 11, 12, 13, 14, 15, 16, 17, 18, 19, 20, 21] (fun s => l.length - s.1) (fun s => s.1 ≤ l.length ∧ OwnS 5 (.slice ad5 l.length cap5) l.length s.2.1 s.2.2.1 ∧ DR EntR 5 s.2.2.2 s.2.1 l ∧ I.le s.2.2.2) (fun s => [(8, .int .i64 s.1)]) (fun s => s.2.2.2) (fun s => s.2.2.1 ++ _) (((0, ws5, ob5, I) : Nat × List Value × Own × Imm)) ⟨by dsimp only; omega, ho5, hd5, Imm.le_refl _⟩ ⟨rfl, trivial⟩ rfl rfl ?_
  intro ⟨k, wsL, obL, J⟩ hk
  dsimp only at hk ⊢
  obtain ⟨hk, hoL, hdL, hJ⟩ := hk
  refine .seq <| .region <| .e (.lss rfl rfl) rfl rfl <| .nil <| .go <| .seq ?_
  refine .split 9 rfl (fun h9 => ?_) (fun h9 => ?_)
  · skip
    replace h9 := of_decide_eq_true h9
    refine .cond_true rfl <| .skip <| .go <| .seq <| .block <| .seq ?_
    refine .region <| .e (.move rfl) rfl rfl <| .e (.assign rfl) rfl rfl <| .nil <| .go <| .region ?_
    have hde := hdL.2 k l[k] (List.getElem?_eq_getElem (by omega))
    obtain ⟨mvk, hce, hmk⟩ := hde.ex
    obtain ⟨_, h0, _, _⟩ | ⟨bL, capL, csL, TL, hv5, rfl, hc1, hc2, hc3, hc4, hc5⟩ := hoL
    · omega
    cases hv5
    refine .e (.move rfl) rfl rfl <| .e (.move rfl) rfl rfl <| .e (.move rfl) rfl rfl <| .e (.move rfl) rfl rfl <| .e (.indexAddrL sl41 rfl rfl rfl (by omega)) rfl rfl <| .e (.fieldAddr fo77_4 rfl) rfl rfl ?_
    refine .e (.load (v := mvk) ag24 rfl .here ((List.getElem?_toArray).trans (cell_of hc3 (by omega) hce))) rfl rfl <| .on rfl <| .call cal45 rfl rfl rfl (cloneInt_ok hmk (hM _ (List.getElem_mem (by omega)))) fun v18 I18 O18 hI18 hK18 => ?_
    obtain ⟨hq18, ws18, ob18, ho18, hd18, rfl⟩ := hK18
    replace hq18 := hq18.symm
    subst hq18
    refine .e (.indexAddrL sl41 rfl rfl rfl (by omega)) rfl rfl <| .e (.fieldAddr fo77_4 rfl) rfl rfl ?_
    refine .freezeS ho18 fun K hK hKs => ?_
    have hyv : IntsR K _ l[k].members := hKs (R := I64R) (hd18.mono fun _ _ h => h) rfl
    have hyv0 := hyv
    obtain ⟨ya, ycap, rfl, hy1, hy2, -⟩ := hyv0
    refine .on rfl <| .store sz24 rfl rfl rfl rfl rfl (Nat.ble_eq_true_of_le (by simp; omega)) .here <| .nil <| .blk_normal <| .go <| .region <| .e (.add rfl rfl (by first | exact wrap_succ (by omega) | exact IntWalk.i64_in _ (by omega) | exact rfl)) rfl rfl ?_
    refine .e (.move rfl) rfl rfl <| .nil ?_
    exact .mid ((k + 1, _, _, K)) ⟨by dsimp only; omega, by dsimp only; omega, own_set hc3 (by omega) hc1 hc2 hc4 hc5, own_dr hdL (by omega) hK hce hyv, Imm.le_trans hJ hK⟩ ⟨rfl, trivial⟩ rfl rfl (.pre 16 rfl (.app rfl .base))
  · skip
    replace h9 := of_decide_eq_false h9
    refine .cond_false rfl <| .exit <| .exit <| .exit <| .blk_exit <| .go ?_
    refine .seq <| .region <| .e (.move rfl) rfl rfl <| .e (.assign rfl) rfl rfl <| .nil <| .go ?_
    refine .ret ?_
    refine Post.ret1 rfl rfl (by first | exact hJ | exact Imm.le_refl _) ⟨wsL, obL, ?_, hdL, rfl⟩
    exact hoL

end Go.Proofs.Ytjoaccnfnniahaa

namespace Go.Proofs.Ytjoaccnfnniahaa
open Go.Sy
set_option linter.unusedSimpArgs false
set_option linter.unusedVariables false

set_option maxHeartbeats 1000000 in
set_option maxRecDepth 20000 in
theorem Own_ok {I : Imm} {O : Own} {lc : List Value} {l : Lg} (hl : LgR I lc l) (hL : l.ents.length * 64 ≤ 140737488351232) (hM : ∀ e ∈ l.ents, e.members.length * 8 ≤ 140737488351232) :
    Go.Sy.Does Try.prog 36 [.agg ⟨lc⟩] I O (fun u I' O' => ∃ ev ws ob, u = .agg ⟨l.cells ev⟩ ∧ OwnS 5 ev l.ents.length ws ob ∧ DR EntR 5 I' ws l.ents ∧ O' = ob ++ O) := by
  have hl0 := hl
  obtain ⟨ev, rfl, hev⟩ := hl.ex
  have hev0 := hev
  obtain ⟨va, vcap, rfl, hv1, hv2, -⟩ := hev
  have hbase := hl0.base
  have hterm := hl0.term
  unfold U64 at hbase hterm
  refine Go.Sy.Does.enter Try.func36 rfl Try.ntmps36 rfl ?_
  refine .seq <| .region <| .on rfl <| .box rfl rfl rfl fun c1 _ _ => .on rfl <| .alloc zr43 rfl fun c2 _ _ => .nil <| .go ?_
  refine .seq <| .region <| .e (.fieldAddr fo43_2 rfl) rfl rfl <| .e (.load ag41 rfl (.there <| .here) rfl) rfl rfl <| .on rfl <| .call cal29 rfl rfl rfl (own_ok hev0 hL hM) fun v5 I5 O5 hI5 hK5 => ?_
  obtain ⟨ws5, ob5, ho5, hd5, rfl⟩ := hK5
  obtain ⟨ad5, cap5, rfl⟩ := ho5.form
  refine .e (.fieldAddr fo43_2 rfl) rfl rfl <| .on rfl <| .store sz41 rfl rfl rfl rfl rfl rfl (.app <| .there <| .here) <| .nil <| .go <| .seq <| .region ?_
  refine .e (.loadW ag43 sz43 rfl (.app <| .there <| .here) rfl) rfl rfl <| .on rfl <| .storeW sz43 rfl rfl rfl rfl rfl rfl (.app <| .here) <| .nil <| .go <| .ret ?_
  exact Post.rets rfl (.agg rfl ag43 sz43 (.app <| .here) rfl .nil) rfl hI5 (fun w h => Sat.tail (Sat.rem (Sat.tail (Sat.rem h (Rem.app .here))) (Rem.app .here))) ⟨_, ws5, ob5, rfl, ho5, hd5, rfl⟩

end Go.Proofs.Ytjoaccnfnniahaa
