/- Walks of functions over a symbolic memory, printed by a program of the session. -/
import Derived.Test.YteajcmnbjpbnpaaLg
namespace Go.Proofs.Yteajcmnbjpbnpaa
open Go.Sy
set_option linter.unusedSimpArgs false
set_option linter.unusedVariables false

set_option maxHeartbeats 1000000 in
set_option maxRecDepth 20000 in
theorem copy_ok {I : Imm} {O : Own} {v : Value} {l : List Ent} (hl : EntsR I v l) (hL : l.length * 64 ≤ 140737488351232) (hM : ∀ e ∈ l, e.members.length * 8 ≤ 140737488351232) :
    Go.Sy.Does Try.prog 10 [v] I O (fun u I' O' => ∃ ws ob, OwnS 5 u l.length ws ob ∧ DR EntR 5 I' ws l ∧ O' = ob ++ O) := by
  have hl0 := hl
  obtain ⟨la, lcap, rfl, hl1, hl2, -⟩ := hl
  refine Go.Sy.Does.enter Try.func10 rfl Try.ntmps10 rfl ?_
  refine .seq <| .region <| .e (.assign rfl) rfl rfl <| .nil <| .go <| .seq ?_
  refine .region <| .e (.assign rfl) rfl rfl <| .nil <| .go <| .seq <| .seq ?_
  refine .region <| .e (.move rfl) rfl rfl <| .e (.len sl23 rfl rfl) rfl rfl <| .e (.move rfl) rfl rfl <| .nil <| .go ?_
  refine .block ?_
  refine .loopM [3, 5, 8, 9, 10, 11, 12, 13, 14, 15, 16, 17, 18, 19, 20, 21] (fun s => l.length - s.1) (fun s => s.1 ≤ l.length ∧ OwnS 5 s.2.1 s.1 s.2.2.1 s.2.2.2.1 ∧ DR EntR 5 s.2.2.2.2 s.2.2.1 (l.take s.1) ∧ I.le s.2.2.2.2) (fun s => [(8, .int .i64 s.1), (3, s.2.1)]) (fun s => s.2.2.2.2) (fun s => s.2.2.2.1 ++ _) (((0, .slice none 0 0, [], [], I) : Nat × Value × List Value × Own × Imm)) ⟨by dsimp only; omega, OwnS.nil, DR.nil, Imm.le_refl _⟩ ⟨rfl, rfl, trivial⟩ rfl rfl ?_
  intro ⟨k, vL, wsL, obL, J⟩ hk
  dsimp only at hk ⊢
  obtain ⟨hk, hoL, hdL, hJ⟩ := hk
  have hlJ := hl0.mono hJ
  refine .seq <| .region <| .e (.lss rfl rfl) rfl rfl <| .nil <| .go <| .seq ?_
  refine .split 9 rfl (fun h9 => ?_) (fun h9 => ?_)
  · skip
    replace h9 := of_decide_eq_true h9
    refine .cond_true rfl <| .skip <| .go <| .seq <| .block <| .seq ?_
    refine .region ?_
    obtain ⟨eb10, eo10, cs10, hd10, hat10, hr10⟩ := SlR.at_ hlJ (k := k) (by omega)
    cases hd10
    have he10 := hr10
    obtain ⟨mv10, rfl, hmv10⟩ := hr10.ex
    obtain ⟨wsm, hsm, hdm⟩ := SlR.src (B := []) (fun _ _ h => by rw [h.1]; rfl) hmv10
    have hbm := hM _ (List.getElem_mem (show k < l.length by omega))
    obtain ⟨ma10, mc10, rfl, -⟩ := hmv10
    refine .e (.indexAddrL sl23 rfl rfl rfl (by omega)) rfl rfl <| .e (.loadIA ag41 sz41 rfl hat10 rfl) rfl rfl <| .on rfl <| .alloc zr41 rfl fun c1 _ _ => .on rfl <| .storeW sz41 rfl rfl rfl rfl rfl rfl .here <| .nil <| .go ?_
    refine .seq <| .region <| .on rfl <| .buildSlice Try.underlying39 sz3 (by decide) (by decide) zv3 rfl rfl rfl rfl rfl fun c2 _ _ => .e (.fieldAddr fo41_4 rfl) rfl rfl <| .e (.load ag39 rfl (.there <| .here) rfl) rfl rfl <| .on rfl <| .append Try.underlying39 Try.underlying39 sz3 by3 zv3 rfl rfl rfl .here (OwnS.made rfl (by decide)) hsm.any hdm.1 (hdm.ones (by decide) (fun _ _ h => by rw [h.1]; rfl)) (by omega) (by omega) rfl fun v15 ob15 ho15 => ?_
    refine .e (.fieldAddr fo41_4 rfl) rfl rfl ?_
    refine .freezeS ho15 fun K hK hKs => ?_
    have hyv : IntsR K _ l[k].members := hKs (R := I64R) (hdm.mono fun _ _ h => h) (by omega)
    have hyv0 := hyv
    obtain ⟨ya, ycap, rfl, hy1, hy2, -⟩ := hyv0
    refine .on rfl <| .store sz39 rfl rfl rfl rfl rfl rfl .here <| .nil <| .go <| .region <| .e (.move rfl) rfl rfl <| .e (.loadW ag41 sz41 rfl .here rfl) rfl rfl ?_
    refine .on rfl <| .buildSlice Try.underlying23 sz41 (by decide) (by decide) zv41 rfl rfl rfl rfl rfl fun c3 _ _ => .on rfl <| .append Try.underlying23 Try.underlying23 sz41 by41 zv41 rfl rfl rfl (.there <| .there <| .front) hoL ((OwnS.made (k := 5) rfl (by decide)).src (I := _) .here) rfl rfl (by omega) (by omega) rfl fun v20 ob20 ho20 => .e (.assign rfl) rfl rfl <| .nil <| .blk_normal <| .go ?_
    refine .region <| .e (.add rfl rfl (by first | exact wrap_succ (by omega) | exact IntWalk.i64_in _ (by omega) | exact rfl)) rfl rfl <| .e (.move rfl) rfl rfl <| .nil ?_
    refine .front1 (.app <| .here) ?_
    refine .tail ?_
    refine .front1 (.app <| .here) ?_
    refine .tail ?_
    exact .mid ((k + 1, _, _, _, K)) ⟨by dsimp only; omega, by dsimp only; omega, ho20, (by rw [List.take_succ_eq_append_getElem (show k < l.length by omega)]; exact (hdL.mono fun _ _ h => h.mono hK).append (DR.single rfl ⟨⟨_, rfl, hyv⟩, he10.index, he10.term, he10.kind, he10.data⟩)), Imm.le_trans hJ hK⟩ ⟨rfl, rfl, trivial⟩ rfl rfl (.pre 17 rfl (.app rfl .base))
  · skip
    replace h9 := of_decide_eq_false h9
    refine .cond_false rfl <| .exit <| .exit <| .exit <| .blk_exit <| .go ?_
    refine .seq <| .region <| .e (.move rfl) rfl rfl <| .e (.assign rfl) rfl rfl <| .nil <| .go ?_
    refine .ret ?_
    have ek : k = l.length := by omega
    subst ek
    rw [List.take_length] at hdL
    refine Post.ret1 rfl rfl hJ ⟨wsL, obL, hoL, hdL, rfl⟩

end Go.Proofs.Yteajcmnbjpbnpaa
