/- Walks of functions over a symbolic memory, printed by a program of the session. -/
import Derived.Test.YteajcmnbjpbnpaaLh
namespace Go.Proofs.Yteajcmnbjpbnpaa
open Go.Sy
set_option linter.unusedSimpArgs false
set_option linter.unusedVariables false

set_option maxHeartbeats 1000000 in
set_option maxRecDepth 20000 in
theorem Own_ok {I : Imm} {O : Own} {lc : List Value} {l : Lg} (hl : LgR I lc l) (hL : l.ents.length * 64 ≤ 140737488351232) (hM : ∀ e ∈ l.ents, e.members.length * 8 ≤ 140737488351232) :
    Go.Sy.Does Try.prog 32 [.agg ⟨lc⟩] I O (fun u I' O' => ∃ ev ws ob, u = .agg ⟨l.cells ev⟩ ∧ OwnS 5 ev l.ents.length ws ob ∧ DR EntR 5 I' ws l.ents ∧ O' = ob ++ O) := by
  have hl0 := hl
  obtain ⟨ev, rfl, hev⟩ := hl.ex
  have hev0 := hev
  obtain ⟨va, vcap, rfl, hv1, hv2, -⟩ := hev
  have hbase := hl0.base
  have hterm := hl0.term
  unfold U64 at hbase hterm
  refine Go.Sy.Does.enter Try.func32 rfl Try.ntmps32 rfl ?_
  refine .seq <| .region <| .on rfl <| .box rfl rfl rfl fun c1 _ _ => .on rfl <| .alloc zr25 rfl fun c2 _ _ => .nil <| .go ?_
  refine .seq <| .region <| .e (.fieldAddr fo25_2 rfl) rfl rfl <| .e (.load ag23 rfl (.there <| .here) rfl) rfl rfl <| .on rfl <| .call cal35 rfl rfl rfl (own_ok hev0 hL hM) fun v5 I5 O5 hI5 hK5 => ?_
  obtain ⟨ws5, ob5, ho5, hd5, rfl⟩ := hK5
  obtain ⟨ad5, cap5, rfl⟩ := ho5.form
  refine .e (.fieldAddr fo25_2 rfl) rfl rfl <| .on rfl <| .store sz23 rfl rfl rfl rfl rfl rfl (.app <| .there <| .here) <| .nil <| .go <| .seq <| .region ?_
  refine .e (.loadW ag25 sz25 rfl (.app <| .there <| .here) rfl) rfl rfl <| .on rfl <| .storeW sz25 rfl rfl rfl rfl rfl rfl (.app <| .here) <| .nil <| .go <| .ret ?_
  exact Post.rets rfl (.agg rfl ag25 sz25 (.app <| .here) rfl .nil) rfl hI5 (fun w h => Sat.tail (Sat.rem (Sat.tail (Sat.rem h (Rem.app .here))) (Rem.app .here))) ⟨_, ws5, ob5, rfl, ho5, hd5, rfl⟩

set_option maxHeartbeats 1000000 in
set_option maxRecDepth 20000 in
theorem rCopy_ok {I : Imm} {O : Own} {lc : List Value} {l : Lg} (hl : LgR I lc l) (hL : l.ents.length * 64 ≤ 140737488351232) (hM : ∀ e ∈ l.ents, e.members.length * 8 ≤ 140737488351232) :
    Go.Sy.Does Try.prog 9 [.agg ⟨lc⟩] I O (fun u I' O' => ∃ ev ws ob, u = .agg ⟨l.cells ev⟩ ∧ OwnS 5 ev l.ents.length ws ob ∧ DR EntR 5 I' ws l.ents ∧ O' = ob ++ O) := by
  have hl0 := hl
  obtain ⟨ev, rfl, hev⟩ := hl.ex
  have hev0 := hev
  obtain ⟨va, vcap, rfl, hv1, hv2, -⟩ := hev
  have hbase := hl0.base
  have hterm := hl0.term
  unfold U64 at hbase hterm
  refine Go.Sy.Does.enter Try.func9 rfl Try.ntmps9 rfl ?_
  refine .seq <| .region <| .on rfl <| .box rfl rfl rfl fun c1 _ _ => .on rfl <| .alloc zr25 rfl fun c2 _ _ => .nil <| .go ?_
  refine .seq <| .region <| .e (.fieldAddr fo25_2 rfl) rfl rfl <| .e (.load ag23 rfl (.there <| .here) rfl) rfl rfl <| .on rfl <| .call cal10 rfl rfl rfl (copy_ok hev0 hL hM) fun v5 I5 O5 hI5 hK5 => ?_
  obtain ⟨ws5, ob5, ho5, hd5, rfl⟩ := hK5
  obtain ⟨ad5, cap5, rfl⟩ := ho5.form
  refine .e (.fieldAddr fo25_2 rfl) rfl rfl <| .on rfl <| .store sz23 rfl rfl rfl rfl rfl rfl (.app <| .there <| .here) <| .nil <| .go <| .seq <| .region ?_
  refine .e (.loadW ag25 sz25 rfl (.app <| .there <| .here) rfl) rfl rfl <| .on rfl <| .storeW sz25 rfl rfl rfl rfl rfl rfl (.app <| .here) <| .nil <| .go <| .ret ?_
  exact Post.rets rfl (.agg rfl ag25 sz25 (.app <| .here) rfl .nil) rfl hI5 (fun w h => Sat.tail (Sat.rem (Sat.tail (Sat.rem h (Rem.app .here))) (Rem.app .here))) ⟨_, ws5, ob5, rfl, ho5, hd5, rfl⟩

end Go.Proofs.Yteajcmnbjpbnpaa
