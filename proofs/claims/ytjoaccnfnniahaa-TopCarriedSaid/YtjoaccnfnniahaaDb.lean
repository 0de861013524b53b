/- Walks of functions over a symbolic memory, printed by a program of the session. -/
import Derived.Test.YtjoaccnfnniahaaDa
namespace Go.Proofs.Ytjoaccnfnniahaa
open Go.Sy
set_option linter.unusedSimpArgs false
set_option linter.unusedVariables false

set_option maxHeartbeats 1000000 in
set_option maxRecDepth 20000 in
theorem dplace_ok {I : Imm} {O : Own} {dc : List Value} {d : Dsk} (hd : DskR I dc d) (hr : Rising (fun x : Fil => x.name) d.files) (hsm : d.files.length ≤ 4611686018427387903) {s : ByteArray} :
    Pure Try.prog 24 [.agg ⟨dc⟩, .string s] I O (.tuple ⟨[.int .i64 (posF d s : Nat), .bool (hasF d s)]⟩) := by
  have hd0 := hd
  obtain ⟨fv, rfl, hfv⟩ := hd.ex
  have hfv0 := hfv
  obtain ⟨fa, fcap, rfl, hf1, hf2, -⟩ := hfv
  have hfz := hd0.fuse
  refine Go.Sy.Does.enter Try.func24 rfl Try.ntmps24 rfl ?_
  refine .seq <| .region <| .on rfl <| .box rfl rfl rfl fun c1 _ _ => .e (.assign rfl) rfl rfl <| .e (.assign rfl) rfl rfl <| .nil ?_
  refine .go <| .seq <| .region <| .e (.fieldAddr fo28_0 rfl) rfl rfl <| .e (.load ag26 rfl .here rfl) rfl rfl <| .e (.move rfl) rfl rfl ?_
  refine .on rfl <| .callP cal40 rfl rfl rfl (findFil_ok hfv0 hr hsm) <| .e (.extract rfl rfl) rfl rfl <| .e (.extract rfl rfl) rfl rfl <| .e (.assign rfl) rfl rfl <| .e (.assign rfl) rfl rfl <| .nil ?_
  refine .go <| .ret ?_
  refine Post.retsE rfl (.tmp rfl (.tmp rfl .nil)) rfl (fun w h => h.tail) ?_
  rfl

set_option maxHeartbeats 1000000 in
set_option maxRecDepth 20000 in
theorem dnamed_ok {I : Imm} {O : Own} {s : ByteArray} :
    Pure Try.prog 61 [.string s] I O (.bool (namedB s)) := by
  refine Go.Sy.Does.enter Try.func61 rfl Try.ntmps61 rfl ?_
  refine .seq <| .region <| .e (.assign rfl) rfl rfl <| .nil <| .go <| .seq ?_
  refine .region <| .e (.move rfl) rfl rfl <| .e (.strne rfl rfl) rfl rfl <| .e (.move rfl) rfl rfl ?_
  refine .split 5 rfl (fun h5 => ?_) (fun h5 => ?_)
  · skip
    first | replace h5 := of_decide_eq_false ((Bool.not_eq_true' _).mp h5) | replace h5 := of_decide_eq_false (by simpa using h5)
    refine .e (.move rfl) rfl rfl <| .e (.lenS Try.underlying9 rfl rfl) rfl rfl <| .e (.leq rfl rfl) rfl rfl <| .e (.pickT rfl rfl) rfl rfl <| .e (.assign rfl) rfl rfl <| .nil ?_
    refine .go <| .ret ?_
    refine Post.retE rfl rfl ?_
    unfold namedB
    simp_all
  · skip
    first | replace h5 := of_decide_eq_true ((Bool.not_eq_false' _).mp h5) | replace h5 := of_decide_eq_true (by simpa using h5)
    refine .off rfl rfl <| .off rfl rfl <| .off rfl rfl <| .e (.pickF rfl rfl) rfl rfl <| .e (.assign rfl) rfl rfl <| .nil ?_
    refine .go <| .ret ?_
    refine Post.retE rfl rfl ?_
    unfold namedB
    simp_all

set_option maxHeartbeats 4000000 in
set_option maxRecDepth 20000 in
theorem dCheck_ok {I : Imm} {O : Own} {dc : List Value} {d : Dsk} (hd : DskR I dc d) :
    Pure Try.prog 21 [.agg ⟨dc⟩] I O (.int .i64 (diskWhy d)) := by
  have hd0 := hd
  obtain ⟨fv, rfl, hfv⟩ := hd.ex
  have hfv0 := hfv
  obtain ⟨fa, fcap, rfl, hf1, hf2, -⟩ := hfv
  have hfz := hd0.fuse
  refine Go.Sy.Does.enter Try.func21 rfl Try.ntmps21 rfl ?_
  refine .seq <| .region <| .on rfl <| .box rfl rfl rfl fun c1 _ _ => .e (.assign rfl) rfl rfl <| .nil <| .go ?_
  refine .seq <| .region <| .e (.assign rfl) rfl rfl <| .nil <| .go <| .seq ?_
  refine .seq <| .region <| .e (.fieldAddr fo28_0 rfl) rfl rfl <| .e (.load ag26 rfl .here rfl) rfl rfl <| .e (.len sl26 rfl rfl) rfl rfl <| .e (.move rfl) rfl rfl ?_
  refine .nil <| .go <| .block ?_
  refine .loopM [3, 4, 5, 9, 10, 11, 12, 13, 14, 15, 16, 17, 18, 19, 20, 21, 22, 23, 24, 25, 26, 27, 28, 29, 30, 31, 32, 33, 34, 35, 36, 37, 38, 39, 40, 41, 42, 43, 44] (fun k => d.files.length - k) (fun k => k ≤ d.files.length) (fun k => [(9, .int .i64 k), (3, .bool (filesTo d.files k))]) (fun _ => _) (fun _ => _) (0) (by omega) ⟨rfl, rfl, trivial⟩ rfl rfl ?_
  intro k hk
  refine .seq <| .region <| .e (.lss rfl rfl) rfl rfl <| .nil <| .go <| .seq ?_
  refine .split 10 rfl (fun h10 => ?_) (fun h10 => ?_)
  · skip
    replace h10 := of_decide_eq_true h10
    refine .cond_true rfl <| .skip <| .go <| .seq <| .block <| .seq ?_
    refine .region <| .e (.move rfl) rfl rfl ?_
    obtain ⟨eb12, eo12, cs12, hd12, hat12, hr12⟩ := SlR.at_ hfv0 (k := k) (by omega)
    cases hd12
    obtain ⟨rfl, hn12, hz12, hs12⟩ := hr12
    unfold StrOk at hn12 hz12
    unfold I64 at hs12
    refine .e (.indexAddrL sl26 rfl rfl rfl (by omega)) rfl rfl <| .e (.loadIA ag70 sz70 rfl hat12 rfl) rfl rfl <| .on rfl <| .alloc zr70 rfl fun c2 _ _ => .e (.assign rfl) rfl rfl <| .on rfl <| .storeW sz70 rfl rfl rfl rfl rfl rfl .here <| .nil ?_
    refine .go ?_
    refine .draw [(c1, _), (c2, _)] mixed (.cons (.there <| .here) (.cons .here .nil)) ?_
    refine .t 0 rfl (.move rfl) rfl rfl (by kernel_rfl) <| .t 1 rfl (.move rfl) rfl rfl (by kernel_rfl) ?_
    refine .split 15 rfl (fun h15 => ?_) (fun h15 => ?_)
    · skip
      refine .t 2 rfl (.move rfl) rfl rfl (by kernel_rfl) <| .t 3 rfl (.eql rfl rfl) rfl rfl (by kernel_rfl) <| .t 4 rfl (.move rfl) rfl rfl (by kernel_rfl) ?_
      refine .split 18 rfl (fun h18 => ?_) (fun h18 => ?_)
      · skip
        replace h18 := of_decide_eq_true h18
        refine .s 5 rfl rfl rfl (by kernel_rfl) <| .s 6 rfl rfl rfl (by kernel_rfl) <| .s 7 rfl rfl rfl (by kernel_rfl) <| .s 8 rfl rfl rfl (by kernel_rfl) <| .s 9 rfl rfl rfl (by kernel_rfl) <| .s 10 rfl rfl rfl (by kernel_rfl) ?_
        refine .s 11 rfl rfl rfl (by kernel_rfl) <| .s 12 rfl rfl rfl (by kernel_rfl) <| .s 13 rfl rfl rfl (by kernel_rfl) <| .s 14 rfl rfl rfl (by kernel_rfl) <| .t 15 rfl (.pickT rfl rfl) rfl rfl (by kernel_rfl) <| .t 16 rfl (.pickT rfl rfl) rfl rfl (by kernel_rfl) ?_
        refine .t 17 rfl (.move rfl) rfl rfl (by kernel_rfl) <| .t 18 rfl (.fieldAddr fo70_2 rfl) rfl rfl (by kernel_rfl) <| .t 19 rfl (.load ag3 rfl (.there <| .here) rfl) rfl rfl (by kernel_rfl) <| .t 20 rfl (.geq rfl rfl) rfl rfl (by kernel_rfl) <| .t 21 rfl (.pickT rfl rfl) rfl rfl (by kernel_rfl) <| .t 22 rfl (.move rfl) rfl rfl (by kernel_rfl) ?_
        refine .split 36 rfl (fun h36 => ?_) (fun h36 => ?_)
        · skip
          replace h36 := of_decide_eq_true h36
          refine .t 23 rfl (.fieldAddr fo70_2 rfl) rfl rfl (by kernel_rfl) <| .t 24 rfl (.load ag3 rfl (.there <| .here) rfl) rfl rfl (by kernel_rfl) <| .t 25 rfl (.fieldAddr fo70_1 rfl) rfl rfl (by kernel_rfl) <| .t 26 rfl (.load ag9 rfl (.there <| .here) rfl) rfl rfl (by kernel_rfl) <| .t 27 rfl (.lenS Try.underlying9 rfl rfl) rfl rfl (by kernel_rfl) <| .t 28 rfl (.leq rfl rfl) rfl rfl (by kernel_rfl) ?_
          refine .t 29 rfl (.pickT rfl rfl) rfl rfl (by kernel_rfl) <| .t 30 rfl (.assign rfl) rfl rfl (by kernel_rfl) <| .done (by kernel_rfl) <| .blk_normal <| .go <| .region ?_
          refine .e (.add rfl rfl (by first | exact wrap_succ (by omega) | exact IntWalk.i64_in _ (by omega) | exact rfl)) rfl rfl <| .e (.move rfl) rfl rfl <| .nil ?_
          refine .tail ?_
          have e5 := filesTo_succ d.files k
          rw [fAt_eq (show k < d.files.length by omega)] at e5
          exact .mid (k + 1) ⟨by omega, by omega⟩ ⟨rfl, (by show some (Value.bool _) = some (Value.bool _); rw [e5]; first | (simp_all; done) | (simp_all; omega)), trivial⟩ rfl rfl (.pre 43 rfl (.app rfl .base))
        · skip
          replace h36 := of_decide_eq_false h36
          refine .s 23 rfl rfl rfl (by kernel_rfl) <| .s 24 rfl rfl rfl (by kernel_rfl) <| .s 25 rfl rfl rfl (by kernel_rfl) <| .s 26 rfl rfl rfl (by kernel_rfl) <| .s 27 rfl rfl rfl (by kernel_rfl) <| .s 28 rfl rfl rfl (by kernel_rfl) ?_
          refine .t 29 rfl (.pickF rfl rfl) rfl rfl (by kernel_rfl) <| .t 30 rfl (.assign rfl) rfl rfl (by kernel_rfl) <| .done (by kernel_rfl) <| .blk_normal <| .go <| .region ?_
          refine .e (.add rfl rfl (by first | exact wrap_succ (by omega) | exact IntWalk.i64_in _ (by omega) | exact rfl)) rfl rfl <| .e (.move rfl) rfl rfl <| .nil ?_
          refine .tail ?_
          have e5 := filesTo_succ d.files k
          rw [fAt_eq (show k < d.files.length by omega)] at e5
          exact .mid (k + 1) ⟨by omega, by omega⟩ ⟨rfl, (by show some (Value.bool _) = some (Value.bool _); rw [e5]; first | (simp_all; done) | (simp_all; omega)), trivial⟩ rfl rfl (.pre 43 rfl (.app rfl .base))
      · skip
        replace h18 := of_decide_eq_false h18
        refine .t 5 rfl (.fieldAddr fo28_0 rfl) rfl rfl (by kernel_rfl) <| .t 6 rfl (.load ag26 rfl .here rfl) rfl rfl (by kernel_rfl) <| .t 7 rfl (.move rfl) rfl rfl (by kernel_rfl) <| .t 8 rfl (.sub rfl rfl (wrap_pred' (by omega) (by omega))) rfl rfl (by kernel_rfl) ?_
        obtain ⟨eb23, eo23, cs23, hd23, hat23, hr23⟩ := SlR.at_ hfv0 (k := k - 1) (by omega)
        cases hd23
        obtain ⟨rfl, hn23, hz23, hs23⟩ := hr23
        unfold StrOk at hn23 hz23
        unfold I64 at hs23
        refine .t 9 rfl (.indexAddrL sl26 rfl rfl rfl (by omega)) rfl rfl (by kernel_rfl) <| .t 10 rfl (.fieldAddr fo70_0 rfl) rfl rfl (by kernel_rfl) <| .t 11 rfl (.loadI ag9 rfl (hat23.cell (j := 0) rfl)) rfl rfl (by kernel_rfl) <| .t 12 rfl (.fieldAddr fo70_0 rfl) rfl rfl (by kernel_rfl) <| .t 13 rfl (.load ag9 rfl (.there <| .here) rfl) rfl rfl (by kernel_rfl) <| .t 14 rfl (.strlt rfl rfl) rfl rfl (by kernel_rfl) ?_
        refine .t 15 rfl (.pickF rfl rfl) rfl rfl (by kernel_rfl) <| .t 16 rfl (.pickT rfl rfl) rfl rfl (by kernel_rfl) <| .t 17 rfl (.move rfl) rfl rfl (by kernel_rfl) ?_
        refine .split 31 rfl (fun h31 => ?_) (fun h31 => ?_)
        · skip
          refine .t 18 rfl (.fieldAddr fo70_2 rfl) rfl rfl (by kernel_rfl) <| .t 19 rfl (.load ag3 rfl (.there <| .here) rfl) rfl rfl (by kernel_rfl) <| .t 20 rfl (.geq rfl rfl) rfl rfl (by kernel_rfl) <| .t 21 rfl (.pickT rfl rfl) rfl rfl (by kernel_rfl) <| .t 22 rfl (.move rfl) rfl rfl (by kernel_rfl) ?_
          refine .split 36 rfl (fun h36 => ?_) (fun h36 => ?_)
          · skip
            replace h36 := of_decide_eq_true h36
            refine .t 23 rfl (.fieldAddr fo70_2 rfl) rfl rfl (by kernel_rfl) <| .t 24 rfl (.load ag3 rfl (.there <| .here) rfl) rfl rfl (by kernel_rfl) <| .t 25 rfl (.fieldAddr fo70_1 rfl) rfl rfl (by kernel_rfl) <| .t 26 rfl (.load ag9 rfl (.there <| .here) rfl) rfl rfl (by kernel_rfl) <| .t 27 rfl (.lenS Try.underlying9 rfl rfl) rfl rfl (by kernel_rfl) <| .t 28 rfl (.leq rfl rfl) rfl rfl (by kernel_rfl) ?_
            refine .t 29 rfl (.pickT rfl rfl) rfl rfl (by kernel_rfl) <| .t 30 rfl (.assign rfl) rfl rfl (by kernel_rfl) <| .done (by kernel_rfl) <| .blk_normal <| .go <| .region ?_
            refine .e (.add rfl rfl (by first | exact wrap_succ (by omega) | exact IntWalk.i64_in _ (by omega) | exact rfl)) rfl rfl <| .e (.move rfl) rfl rfl <| .nil ?_
            refine .tail ?_
            have e5 := filesTo_succ d.files k
            rw [fAt_eq (show k < d.files.length by omega)] at e5
            exact .mid (k + 1) ⟨by omega, by omega⟩ ⟨rfl, (by show some (Value.bool _) = some (Value.bool _); rw [e5]; first | (simp_all; done) | (simp_all; omega)), trivial⟩ rfl rfl (.pre 44 rfl (.app rfl .base))
          · skip
            replace h36 := of_decide_eq_false h36
            refine .s 23 rfl rfl rfl (by kernel_rfl) <| .s 24 rfl rfl rfl (by kernel_rfl) <| .s 25 rfl rfl rfl (by kernel_rfl) <| .s 26 rfl rfl rfl (by kernel_rfl) <| .s 27 rfl rfl rfl (by kernel_rfl) <| .s 28 rfl rfl rfl (by kernel_rfl) ?_
            refine .t 29 rfl (.pickF rfl rfl) rfl rfl (by kernel_rfl) <| .t 30 rfl (.assign rfl) rfl rfl (by kernel_rfl) <| .done (by kernel_rfl) <| .blk_normal <| .go <| .region ?_
            refine .e (.add rfl rfl (by first | exact wrap_succ (by omega) | exact IntWalk.i64_in _ (by omega) | exact rfl)) rfl rfl <| .e (.move rfl) rfl rfl <| .nil ?_
            refine .tail ?_
            have e5 := filesTo_succ d.files k
            rw [fAt_eq (show k < d.files.length by omega)] at e5
            exact .mid (k + 1) ⟨by omega, by omega⟩ ⟨rfl, (by show some (Value.bool _) = some (Value.bool _); rw [e5]; first | (simp_all; done) | (simp_all; omega)), trivial⟩ rfl rfl (.pre 44 rfl (.app rfl .base))
        · skip
          refine .s 18 rfl rfl rfl (by kernel_rfl) <| .s 19 rfl rfl rfl (by kernel_rfl) <| .s 20 rfl rfl rfl (by kernel_rfl) <| .t 21 rfl (.pickF rfl rfl) rfl rfl (by kernel_rfl) <| .t 22 rfl (.move rfl) rfl rfl (by kernel_rfl) <| .s 23 rfl rfl rfl (by kernel_rfl) ?_
          refine .s 24 rfl rfl rfl (by kernel_rfl) <| .s 25 rfl rfl rfl (by kernel_rfl) <| .s 26 rfl rfl rfl (by kernel_rfl) <| .s 27 rfl rfl rfl (by kernel_rfl) <| .s 28 rfl rfl rfl (by kernel_rfl) <| .t 29 rfl (.pickF rfl rfl) rfl rfl (by kernel_rfl) ?_
          refine .t 30 rfl (.assign rfl) rfl rfl (by kernel_rfl) <| .done (by kernel_rfl) <| .blk_normal <| .go <| .region <| .e (.add rfl rfl (by first | exact wrap_succ (by omega) | exact IntWalk.i64_in _ (by omega) | exact rfl)) rfl rfl ?_
          refine .e (.move rfl) rfl rfl <| .nil ?_
          refine .tail ?_
          have e5 := filesTo_succ d.files k
          rw [fAt_eq (show k < d.files.length by omega)] at e5
          exact .mid (k + 1) ⟨by omega, by omega⟩ ⟨rfl, (by show some (Value.bool _) = some (Value.bool _); rw [e5]; first | (simp_all; done) | (simp_all; omega)), trivial⟩ rfl rfl (.pre 43 rfl (.app rfl .base))
    · skip
      refine .s 2 rfl rfl rfl (by kernel_rfl) <| .s 3 rfl rfl rfl (by kernel_rfl) <| .s 4 rfl rfl rfl (by kernel_rfl) <| .s 5 rfl rfl rfl (by kernel_rfl) <| .s 6 rfl rfl rfl (by kernel_rfl) <| .s 7 rfl rfl rfl (by kernel_rfl) ?_
      refine .s 8 rfl rfl rfl (by kernel_rfl) <| .s 9 rfl rfl rfl (by kernel_rfl) <| .s 10 rfl rfl rfl (by kernel_rfl) <| .s 11 rfl rfl rfl (by kernel_rfl) <| .s 12 rfl rfl rfl (by kernel_rfl) <| .s 13 rfl rfl rfl (by kernel_rfl) ?_
      refine .s 14 rfl rfl rfl (by kernel_rfl) <| .s 15 rfl rfl rfl (by kernel_rfl) <| .t 16 rfl (.pickF rfl rfl) rfl rfl (by kernel_rfl) <| .t 17 rfl (.move rfl) rfl rfl (by kernel_rfl) <| .s 18 rfl rfl rfl (by kernel_rfl) <| .s 19 rfl rfl rfl (by kernel_rfl) ?_
      refine .s 20 rfl rfl rfl (by kernel_rfl) <| .t 21 rfl (.pickF rfl rfl) rfl rfl (by kernel_rfl) <| .t 22 rfl (.move rfl) rfl rfl (by kernel_rfl) <| .s 23 rfl rfl rfl (by kernel_rfl) <| .s 24 rfl rfl rfl (by kernel_rfl) <| .s 25 rfl rfl rfl (by kernel_rfl) ?_
      refine .s 26 rfl rfl rfl (by kernel_rfl) <| .s 27 rfl rfl rfl (by kernel_rfl) <| .s 28 rfl rfl rfl (by kernel_rfl) <| .t 29 rfl (.pickF rfl rfl) rfl rfl (by kernel_rfl) <| .t 30 rfl (.assign rfl) rfl rfl (by kernel_rfl) <| .done (by kernel_rfl) ?_
      refine .blk_normal <| .go <| .region <| .e (.add rfl rfl (by first | exact wrap_succ (by omega) | exact IntWalk.i64_in _ (by omega) | exact rfl)) rfl rfl <| .e (.move rfl) rfl rfl <| .nil ?_
      refine .tail ?_
      have e5 := filesTo_succ d.files k
      rw [fAt_eq (show k < d.files.length by omega)] at e5
      exact .mid (k + 1) ⟨by omega, by omega⟩ ⟨rfl, (by show some (Value.bool _) = some (Value.bool _); rw [e5]; first | (simp_all; done) | (simp_all; omega)), trivial⟩ rfl rfl (.pre 41 rfl (.app rfl .base))
  · skip
    replace h10 := of_decide_eq_false h10
    refine .cond_false rfl <| .exit <| .exit <| .exit <| .blk_exit <| .go ?_
    refine .seq <| .seq <| .region <| .e (.move rfl) rfl rfl <| .e (.not rfl) rfl rfl <| .e (.move rfl) rfl rfl ?_
    refine .split 47 rfl (fun h47 => ?_) (fun h47 => ?_)
    · skip
      refine .off rfl rfl <| .off rfl rfl <| .off rfl rfl <| .off rfl rfl <| .e (.pickT rfl rfl) rfl rfl <| .nil ?_
      refine .go <| .cond_true rfl <| .seq <| .region <| .e (.assign rfl) rfl rfl <| .nil ?_
      refine .go <| .ret <| .ret ?_
      refine .tail ?_
      refine Post.retE rfl rfl ?_
      have ek : k = d.files.length := by omega
      subst ek
      unfold diskWhy diskOk
      first | (simp_all; done) | (simp_all; omega)
    · skip
      refine .e (.fieldAddr fo28_0 rfl) rfl rfl <| .e (.load ag26 rfl .here rfl) rfl rfl <| .e (.len sl26 rfl rfl) rfl rfl <| .e (.gtr rfl rfl) rfl rfl <| .e (.pickF rfl rfl) rfl rfl <| .nil ?_
      refine .go ?_
      refine .split 52 rfl (fun h52 => ?_) (fun h52 => ?_)
      · skip
        replace h52 := of_decide_eq_true h52
        refine .cond_true rfl <| .seq <| .region <| .e (.assign rfl) rfl rfl <| .nil <| .go ?_
        refine .ret <| .ret ?_
        refine .tail ?_
        refine Post.retE rfl rfl ?_
        have ek : k = d.files.length := by omega
        subst ek
        unfold diskWhy diskOk
        first | (simp_all; done) | (simp_all; omega)
      · skip
        replace h52 := of_decide_eq_false h52
        refine .cond_false rfl <| .skip <| .go <| .seq <| .region <| .e (.assign rfl) rfl rfl ?_
        refine .nil <| .go <| .ret ?_
        refine .tail ?_
        refine Post.retE rfl rfl ?_
        have ek : k = d.files.length := by omega
        subst ek
        unfold diskWhy diskOk
        first | (simp_all; done) | (simp_all; omega)

end Go.Proofs.Ytjoaccnfnniahaa
