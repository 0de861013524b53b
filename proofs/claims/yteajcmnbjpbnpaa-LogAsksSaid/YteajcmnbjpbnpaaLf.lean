/- Walks of functions over a symbolic memory, printed by a program of the session. -/
import Derived.Test.YteajcmnbjpbnpaaLe
namespace Go.Proofs.Yteajcmnbjpbnpaa
open Go.Sy
set_option linter.unusedSimpArgs false
set_option linter.unusedVariables false

set_option maxHeartbeats 1000000 in
set_option maxRecDepth 20000 in
theorem cloneInt_ok {I : Imm} {O : Own} {v : Value} {l : List Int} (hl : SlR I64R 1 I v l) (hL : l.length * 8 ≤ 140737488351232) :
    Go.Sy.Does Try.prog 43 [v] I O (fun u I' O' => I' = I ∧ ∃ ws ob, OwnS 1 u l.length ws ob ∧ DR I64R 1 I ws l ∧ O' = ob ++ O) := by
  have hl0 := hl
  obtain ⟨la, lcap, rfl, hl1, hl2, -⟩ := hl
  obtain ⟨ws, hs, hd⟩ := SlR.src (B := []) (fun _ _ h => by rw [h.1]; rfl) hl0
  refine Go.Sy.Does.enter Try.func43 rfl Try.ntmps43 rfl ?_
  refine .seq <| .region <| .e (.assign rfl) rfl rfl <| .nil <| .go <| .seq ?_
  refine .seq <| .region <| .e (.move rfl) rfl rfl <| .e (.eqv (.nilSlice Try.underlying39) rfl rfl) rfl rfl <| .nil <| .go ?_
  refine .split 4 rfl (fun h4 => ?_) (fun h4 => ?_)
  · skip
    obtain rfl : la = none := by cases la <;> first | rfl | cases h4
    obtain rfl := hl0.ofNil
    refine .cond_true rfl <| .seq <| .region <| .e (.assign rfl) rfl rfl <| .nil <| .go ?_
    refine .ret <| .ret ?_
    refine Post.ret1 rfl rfl (Imm.le_refl _) ⟨rfl, [], [], OwnS.nil, DR.nil, rfl⟩
  · skip
    refine .cond_false rfl <| .skip <| .go <| .seq <| .region <| .on rfl <| .buildSlice Try.underlying39 sz3 (by decide) (by decide) zv3 rfl rfl rfl rfl rfl fun c1 _ _ => ?_
    refine .e (.move rfl) rfl rfl <| .on rfl <| .append Try.underlying39 Try.underlying39 sz3 by3 zv3 rfl rfl rfl .here (OwnS.made rfl (by decide)) hs.any hd.1 (hd.ones (by decide) (fun _ _ h => by rw [h.1]; rfl)) (by omega) (by omega) rfl fun v7 ob7 ho7 => .e (.assign rfl) rfl rfl <| .nil <| .go <| .ret ?_
    refine Post.ret1 rfl rfl (Imm.le_refl _) ⟨rfl, ws, ob7, ?_, hd, rfl⟩
    rw [Nat.zero_add] at ho7
    exact ho7

theorem _root_.Go.Sy.EntR.ones {I : Imm} {cs : List Value} {e : Ent} (h : EntR I cs e) : Go.Sy.ones cs = true := by
  obtain ⟨mv, rfl, h1⟩ := h.ex
  exact ones_cons trivial (ones_cons trivial (ones_cons trivial (ones_cons trivial (ones_cons h1.isSl rfl))))

set_option maxHeartbeats 1000000 in
set_option maxRecDepth 20000 in
theorem cloneEnt_ok {I : Imm} {O : Own} {v : Value} {l : List Ent} (hl : SlR EntR 5 I v l) (hL : l.length * 64 ≤ 140737488351232) :
    Go.Sy.Does Try.prog 44 [v] I O (fun u I' O' => I' = I ∧ ∃ ws ob, OwnS 5 u l.length ws ob ∧ DR EntR 5 I ws l ∧ O' = ob ++ O) := by
  have hl0 := hl
  obtain ⟨la, lcap, rfl, hl1, hl2, -⟩ := hl
  obtain ⟨ws, hs, hd⟩ := SlR.src (B := []) (fun _ _ h => EntR.len h) hl0
  refine Go.Sy.Does.enter Try.func44 rfl Try.ntmps44 rfl ?_
  refine .seq <| .region <| .e (.assign rfl) rfl rfl <| .nil <| .go <| .seq ?_
  refine .seq <| .region <| .e (.move rfl) rfl rfl <| .e (.eqv (.nilSlice Try.underlying23) rfl rfl) rfl rfl <| .nil <| .go ?_
  refine .split 4 rfl (fun h4 => ?_) (fun h4 => ?_)
  · skip
    obtain rfl : la = none := by cases la <;> first | rfl | cases h4
    obtain rfl := hl0.ofNil
    refine .cond_true rfl <| .seq <| .region <| .e (.assign rfl) rfl rfl <| .nil <| .go ?_
    refine .ret <| .ret ?_
    refine Post.ret1 rfl rfl (Imm.le_refl _) ⟨rfl, [], [], OwnS.nil, DR.nil, rfl⟩
  · skip
    refine .cond_false rfl <| .skip <| .go <| .seq <| .region <| .on rfl <| .buildSlice Try.underlying23 sz41 (by decide) (by decide) zv41 rfl rfl rfl rfl rfl fun c1 _ _ => ?_
    refine .e (.move rfl) rfl rfl <| .on rfl <| .append Try.underlying23 Try.underlying23 sz41 by41 zv41 rfl rfl rfl .here (OwnS.made rfl (by decide)) hs.any hd.1 (hd.ones (by decide) (fun _ _ h => EntR.ones h)) (by omega) (by omega) rfl fun v7 ob7 ho7 => .e (.assign rfl) rfl rfl <| .nil <| .go <| .ret ?_
    refine Post.ret1 rfl rfl (Imm.le_refl _) ⟨rfl, ws, ob7, ?_, hd, rfl⟩
    rw [Nat.zero_add] at ho7
    exact ho7

end Go.Proofs.Yteajcmnbjpbnpaa
