/- Walks of functions over a symbolic memory, printed by a program of the session. -/
import Derived.Test.YtcojkkndmholaaaGreatDoorBu
namespace Go.Proofs.YtcojkkndmholaaaGreatDoor
open Go.Sy
set_option linter.unusedSimpArgs false
set_option linter.unusedVariables false

theorem isName_ne {s : ByteArray} (h : isName s = true) : s ≠ ⟨#[]⟩ := by
  rw [isName_eq] at h
  simp only [Bool.and_eq_true, Bool.not_eq_true', decide_eq_false_iff_not] at h
  exact h.1.1
theorem nod_named {n : Nod} (h : nodWhy n = 0) : n.name ≠ ⟨#[]⟩ := by
  unfold nodWhy at h
  split at h
  · cases h
  · rename_i h1; exact isName_ne (by simpa using h1)
theorem on_ne {b : Bk} {s : ByteArray} (h : BookOk b) : (!decide (onR b s = ⟨#[]⟩)) = hasB b s := by
  cases hb : hasB b s
  · rw [onR_no hb]; rfl
  · rw [onR_has h.rb hb, Bool.not_eq_true', decide_eq_false_iff_not]
    obtain ⟨m, hm, e⟩ := has_iff.1 (h.bnd _ (List.getElem_mem (has_get h.rb hb).1)).1
    rw [← e]
    exact nod_named (h.nod m hm)
theorem used_ref {b : Bk} {s : ByteArray} (h : BookOk b) (hs : hasN b s = true) : (sumR (thereR b s)).2 = 0 := by
  obtain ⟨n, hn, rfl⟩ := has_iff.1 hs
  have := h.well n hn
  rw [wellR_L, well_iff] at this
  rw [sumR_good this.few this.amt]

set_option maxHeartbeats 16000000 in
set_option maxRecDepth 20000 in
theorem listed_okR {I : Imm} {O : Own} {kc : List Value} {b : Bk} (hk : BkR I kc b) :
    Pure Tryz.prog 69 [.agg ⟨kc⟩] I O (.bool (listedB b)) := by
  have hk0 := hk
  obtain ⟨nv, tv, bv, rfl, hnv, htv, hbv⟩ := hk.ex
  have hnv0 := hnv
  have htv0 := htv
  have hbv0 := hbv
  obtain ⟨na, ncap, rfl, hn1, hn2, -⟩ := hnv
  obtain ⟨ta, tcap, rfl, ht1, ht2, -⟩ := htv
  obtain ⟨ba, bcap, rfl, hb1, hb2, -⟩ := hbv
  refine Go.Sy.Does.enter Tryz.func69 rfl Tryz.ntmps69 rfl ?_
  refine .seq <| .region <| .on rfl <| .box rfl rfl rfl fun c1 _ _ => .e (.assign rfl) rfl rfl <| .nil <| .go ?_
  refine .seq <| .seq <| .region <| .e (.fieldAddr fo27_0 rfl) rfl rfl <| .e (.load ag22 rfl .here rfl) rfl rfl <| .e (.len sl22 rfl rfl) rfl rfl ?_
  refine .e (.gtr rfl rfl) rfl rfl <| .e (.move rfl) rfl rfl ?_
  refine .split 13 rfl (fun h13 => ?_) (fun h13 => ?_)
  · skip
    replace h13 := of_decide_eq_true h13
    refine .off rfl rfl <| .off rfl rfl <| .off rfl rfl <| .off rfl rfl <| .e (.pickT rfl rfl) rfl rfl <| .nil ?_
    refine .go <| .cond_true rfl <| .seq <| .region <| .e (.assign rfl) rfl rfl <| .nil ?_
    refine .go <| .ret <| .ret ?_
    refine .tail ?_
    refine Post.retE rfl rfl ?_
    refine congrArg Value.bool ?_
    unfold listedB
    rw [decide_eq_false (show ¬b.nodes.length ≤ 16 by omega)]
    simp
  · skip
    replace h13 := of_decide_eq_false h13
    refine .e (.fieldAddr fo27_1 rfl) rfl rfl <| .e (.load ag23 rfl .here rfl) rfl rfl <| .e (.len sl23 rfl rfl) rfl rfl <| .e (.gtr rfl rfl) rfl rfl <| .e (.pickF rfl rfl) rfl rfl <| .nil ?_
    refine .go ?_
    refine .split 18 rfl (fun h18 => ?_) (fun h18 => ?_)
    · skip
      replace h18 := of_decide_eq_true h18
      refine .cond_true rfl <| .seq <| .region <| .e (.assign rfl) rfl rfl <| .nil <| .go ?_
      refine .ret <| .ret ?_
      refine .tail ?_
      refine Post.retE rfl rfl ?_
      refine congrArg Value.bool ?_
      unfold listedB
      rw [decide_eq_false (show ¬b.tasks.length ≤ 32 by omega)]
      simp
    · skip
      replace h18 := of_decide_eq_false h18
      refine .cond_false rfl <| .skip <| .go <| .seq <| .seq <| .region ?_
      refine .e (.fieldAddr fo27_0 rfl) rfl rfl <| .e (.load ag22 rfl .here rfl) rfl rfl <| .e (.len sl22 rfl rfl) rfl rfl <| .e (.move rfl) rfl rfl <| .nil <| .go ?_
      refine .block ?_
      refine .loopM [2, 3, 4, 22, 23, 24, 25, 26, 27, 28, 29, 30, 31, 32, 33, 34, 35, 36, 37, 38, 39, 40, 41, 42, 43, 44, 45, 46] (fun k => b.nodes.length - k) (fun k => k ≤ b.nodes.length ∧ adjTo (fun x : Nod => x.name) badN b.nodes k = true) (fun k => [(22, .int .i64 k)]) (fun _ => _) (fun _ => _) (0) ⟨Nat.zero_le _, rfl⟩ ⟨rfl, trivial⟩ rfl rfl ?_
      intro k22 hk22
      obtain ⟨hk22, hw22⟩ := hk22
      refine .seq <| .region <| .e (.lss rfl rfl) rfl rfl <| .nil <| .go <| .seq ?_
      refine .split 23 rfl (fun h23 => ?_) (fun h23 => ?_)
      · skip
        replace h23 := of_decide_eq_true h23
        refine .cond_true rfl <| .skip <| .go <| .seq <| .block <| .seq ?_
        refine .region <| .e (.move rfl) rfl rfl ?_
        obtain ⟨eb25, eo25, cs25, hd25, hat25, hr25⟩ := SlR.at_ hnv0 (k := k22) (by omega)
        cases hd25
        have hn25 := hr25
        obtain ⟨xf25, xg25, rfl, hxf25, hxg25⟩ := hr25.ex
        obtain ⟨xh25, xi25, rfl, -⟩ := hxf25
        obtain ⟨xj25, xk25, rfl, -⟩ := hxg25
        refine .e (.indexAddrL sl22 rfl rfl rfl (by omega)) rfl rfl <| .e (.loadIA ag32 sz32 rfl hat25 rfl) rfl rfl <| .on rfl <| .alloc zr32 rfl fun c2 _ _ => .e (.assign rfl) rfl rfl <| .on rfl <| .storeW sz32 rfl rfl rfl rfl rfl rfl .here <| .nil ?_
        refine .go <| .seq ?_
        refine .draw [(c2, _), (c1, _)] mixed (.cons .here (.cons (.there <| .here) .nil)) ?_
        refine .t 0 rfl (.loadW ag32 sz32 rfl .here rfl) rfl rfl (by kernel_rfl) <| .one (i := 1) (by kernel_rfl) rfl rfl <| .callP cal83 rfl rfl rfl (rCheckNode_ok hn25) ?_
        refine ⟨(.cons .here (.cons (.there <| .here) .nil)), Imm.le_refl _, ?_⟩
        refine .t 2 rfl (.neq rfl rfl) rfl rfl (by kernel_rfl) <| .t 3 rfl (.move rfl) rfl rfl (by kernel_rfl) ?_
        refine .split 30 rfl (fun h30 => ?_) (fun h30 => ?_)
        · skip
          first | replace h30 := of_decide_eq_false ((Bool.not_eq_true' _).mp h30) | replace h30 := of_decide_eq_false (by simpa using h30)
          refine .s 4 rfl rfl rfl (by kernel_rfl) <| .s 5 rfl rfl rfl (by kernel_rfl) <| .s 6 rfl rfl rfl (by kernel_rfl) <| .s 7 rfl rfl rfl (by kernel_rfl) <| .s 8 rfl rfl rfl (by kernel_rfl) <| .s 9 rfl rfl rfl (by kernel_rfl) ?_
          refine .s 10 rfl rfl rfl (by kernel_rfl) <| .s 11 rfl rfl rfl (by kernel_rfl) <| .s 12 rfl rfl rfl (by kernel_rfl) <| .s 13 rfl rfl rfl (by kernel_rfl) <| .s 14 rfl rfl rfl (by kernel_rfl) <| .s 15 rfl rfl rfl (by kernel_rfl) ?_
          refine .s 16 rfl rfl rfl (by kernel_rfl) <| .s 17 rfl rfl rfl (by kernel_rfl) <| .t 18 rfl (.pickT rfl rfl) rfl rfl (by kernel_rfl) <| .done (by kernel_rfl) <| .go <| .cond_true rfl ?_
          refine .seq <| .region <| .e (.assign rfl) rfl rfl <| .nil <| .go <| .ret ?_
          refine .blk_ret <| .ret <| .ret <| .blk_ret <| .ret ?_
          refine .tail <| .tail ?_
          refine Post.retE rfl rfl ?_
          refine congrArg Value.bool ?_
          unfold listedB
          rw [adj_bad (nm := fun x : Nod => x.name) (bad := badN) (show k22 < b.nodes.length by omega) (by rw [adjOk_at (show k22 < b.nodes.length by omega)]; simp_all [badN, badK, badX])]
          simp
        · skip
          first | replace h30 := of_decide_eq_true ((Bool.not_eq_false' _).mp h30) | replace h30 := of_decide_eq_true (by simpa using h30)
          refine .t 4 rfl (.move rfl) rfl rfl (by kernel_rfl) <| .t 5 rfl (.gtr rfl rfl) rfl rfl (by kernel_rfl) <| .t 6 rfl (.move rfl) rfl rfl (by kernel_rfl) ?_
          refine .split 33 rfl (fun h33 => ?_) (fun h33 => ?_)
          · skip
            replace h33 := of_decide_eq_true h33
            have hz22 : ¬k22 = 0 := by omega
            refine .t 7 rfl (.fieldAddr fo27_0 rfl) rfl rfl (by kernel_rfl) <| .t 8 rfl (.load ag22 rfl (.there <| .here) rfl) rfl rfl (by kernel_rfl) <| .t 9 rfl (.move rfl) rfl rfl (by kernel_rfl) <| .t 10 rfl (.sub rfl rfl rfl) rfl rfl (by kernel_rfl) ?_
            have hm37 : IntKind.i64.wrap ((k22 : Int) - 1) = ((k22 - 1 : Nat) : Int) := wrap_pred (by omega) (by omega)
            obtain ⟨eb38, eo38, cs38, hd38, hat38, hr38⟩ := SlR.at_ hnv0 (k := k22 - 1) (by omega)
            cases hd38
            have hn38 := hr38
            obtain ⟨xf38, xg38, rfl, hxf38, hxg38⟩ := hr38.ex
            obtain ⟨xh38, xi38, rfl, -⟩ := hxf38
            obtain ⟨xj38, xk38, rfl, -⟩ := hxg38
            refine .t 11 rfl (.indexAddrL sl22 rfl rfl hm37 (by omega)) rfl rfl (by kernel_rfl) <| .t 12 rfl (.fieldAddr fo32_0 rfl) rfl rfl (by kernel_rfl) <| .t 13 rfl (.loadI ag9 rfl (hat38.cell (j := 0) rfl)) rfl rfl (by kernel_rfl) <| .t 14 rfl (.fieldAddr fo32_0 rfl) rfl rfl (by kernel_rfl) <| .t 15 rfl (.load ag9 rfl .here rfl) rfl rfl (by kernel_rfl) <| .t 16 rfl (.strge rfl rfl) rfl rfl (by kernel_rfl) ?_
            refine .t 17 rfl (.pickT rfl rfl) rfl rfl (by kernel_rfl) <| .t 18 rfl (.pickF rfl rfl) rfl rfl (by kernel_rfl) <| .done (by kernel_rfl) <| .go ?_
            refine .split 45 rfl (fun h45 => ?_) (fun h45 => ?_)
            · skip
              refine .cond_true rfl <| .seq <| .region <| .e (.assign rfl) rfl rfl <| .nil <| .go ?_
              refine .ret <| .blk_ret <| .ret <| .ret <| .blk_ret <| .ret ?_
              refine .tail <| .tail ?_
              refine Post.retE rfl rfl ?_
              refine congrArg Value.bool ?_
              unfold listedB
              rw [adj_bad (nm := fun x : Nod => x.name) (bad := badN) (show k22 < b.nodes.length by omega) (by rw [adjOk_at (show k22 < b.nodes.length by omega)]; simp_all [badN, badK, badX])]
              simp
            · skip
              refine .cond_false rfl <| .skip <| .blk_normal <| .go <| .region <| .e (.add rfl rfl (by first | exact wrap_succ (by omega) | exact IntWalk.i64_in _ (by omega) | exact rfl)) rfl rfl ?_
              refine .e (.move rfl) rfl rfl <| .nil ?_
              refine .tail ?_
              exact .mid (k22 + 1) ⟨by omega, by omega, adj_step hw22 (by rw [adjOk_at (show k22 < b.nodes.length by omega)]; simp_all [badN, badK, badX])⟩ ⟨rfl, trivial⟩ rfl rfl (.pre 31 rfl (.app rfl .base))
          · skip
            replace h33 := of_decide_eq_false h33
            have hz22 : k22 = 0 := by omega
            refine .s 7 rfl rfl rfl (by kernel_rfl) <| .s 8 rfl rfl rfl (by kernel_rfl) <| .s 9 rfl rfl rfl (by kernel_rfl) <| .s 10 rfl rfl rfl (by kernel_rfl) <| .s 11 rfl rfl rfl (by kernel_rfl) <| .s 12 rfl rfl rfl (by kernel_rfl) ?_
            refine .s 13 rfl rfl rfl (by kernel_rfl) <| .s 14 rfl rfl rfl (by kernel_rfl) <| .s 15 rfl rfl rfl (by kernel_rfl) <| .s 16 rfl rfl rfl (by kernel_rfl) <| .t 17 rfl (.pickF rfl rfl) rfl rfl (by kernel_rfl) <| .t 18 rfl (.pickF rfl rfl) rfl rfl (by kernel_rfl) ?_
            refine .done (by kernel_rfl) <| .go <| .cond_false rfl <| .skip <| .blk_normal <| .go ?_
            refine .region <| .e (.add rfl rfl (by first | exact wrap_succ (by omega) | exact IntWalk.i64_in _ (by omega) | exact rfl)) rfl rfl <| .e (.move rfl) rfl rfl <| .nil ?_
            refine .tail ?_
            exact .mid (k22 + 1) ⟨by omega, by omega, adj_step hw22 (by rw [adjOk_at (show k22 < b.nodes.length by omega)]; simp_all [badN, badK, badX])⟩ ⟨rfl, trivial⟩ rfl rfl (.pre 30 rfl (.app rfl .base))
      · skip
        replace h23 := of_decide_eq_false h23
        refine .cond_false rfl <| .exit <| .exit <| .exit <| .blk_exit <| .go ?_
        refine .seq <| .seq <| .region <| .e (.fieldAddr fo27_1 rfl) rfl rfl <| .e (.load ag23 rfl .here rfl) rfl rfl <| .e (.len sl23 rfl rfl) rfl rfl ?_
        refine .e (.move rfl) rfl rfl <| .nil <| .go <| .block ?_
        refine .loopM [2, 5, 6, 50, 51, 52, 53, 54, 55, 56, 57, 58, 59, 60, 61, 62, 63, 64, 65, 66, 67, 68, 69, 70, 71, 72, 73, 74] (fun k => b.tasks.length - k) (fun k => k ≤ b.tasks.length ∧ adjTo (fun x : Tsk => x.name) badK b.tasks k = true) (fun k => [(50, .int .i64 k)]) (fun _ => _) (fun _ => _) (0) ⟨Nat.zero_le _, rfl⟩ ⟨rfl, trivial⟩ rfl rfl ?_
        intro k50 hk50
        obtain ⟨hk50, hw50⟩ := hk50
        refine .seq <| .region <| .e (.lss rfl rfl) rfl rfl <| .nil <| .go <| .seq ?_
        refine .split 51 rfl (fun h51 => ?_) (fun h51 => ?_)
        · skip
          replace h51 := of_decide_eq_true h51
          refine .cond_true rfl <| .skip <| .go <| .seq <| .block <| .seq ?_
          refine .region <| .e (.move rfl) rfl rfl ?_
          obtain ⟨eb53, eo53, cs53, hd53, hat53, hr53⟩ := SlR.at_ htv0 (k := k50) (by omega)
          cases hd53
          have ht53 := hr53
          obtain ⟨xw53, xb53, rfl, hxw53, hxb53⟩ := hr53.ex
          obtain ⟨xa53, xc53, rfl, -⟩ := hxw53
          obtain ⟨xd53, xe53, rfl, -⟩ := hxb53
          refine .e (.indexAddrL sl23 rfl rfl rfl (by omega)) rfl rfl <| .e (.loadIA ag34 sz34 rfl hat53 rfl) rfl rfl <| .on rfl <| .alloc zr34 rfl fun c3 _ _ => .e (.assign rfl) rfl rfl <| .on rfl <| .storeW sz34 rfl rfl rfl rfl rfl rfl .here <| .nil ?_
          refine .go <| .seq ?_
          refine .draw [(c3, _), (c1, _)] mixed (.cons .here (.cons (.there <| .here) .nil)) ?_
          refine .t 0 rfl (.loadW ag34 sz34 rfl .here rfl) rfl rfl (by kernel_rfl) <| .one (i := 1) (by kernel_rfl) rfl rfl <| .callP cal86 rfl rfl rfl (rCheckTask_ok ht53) ?_
          refine ⟨(.cons .here (.cons (.there <| .here) .nil)), Imm.le_refl _, ?_⟩
          refine .t 2 rfl (.neq rfl rfl) rfl rfl (by kernel_rfl) <| .t 3 rfl (.move rfl) rfl rfl (by kernel_rfl) ?_
          refine .split 58 rfl (fun h58 => ?_) (fun h58 => ?_)
          · skip
            first | replace h58 := of_decide_eq_false ((Bool.not_eq_true' _).mp h58) | replace h58 := of_decide_eq_false (by simpa using h58)
            refine .s 4 rfl rfl rfl (by kernel_rfl) <| .s 5 rfl rfl rfl (by kernel_rfl) <| .s 6 rfl rfl rfl (by kernel_rfl) <| .s 7 rfl rfl rfl (by kernel_rfl) <| .s 8 rfl rfl rfl (by kernel_rfl) <| .s 9 rfl rfl rfl (by kernel_rfl) ?_
            refine .s 10 rfl rfl rfl (by kernel_rfl) <| .s 11 rfl rfl rfl (by kernel_rfl) <| .s 12 rfl rfl rfl (by kernel_rfl) <| .s 13 rfl rfl rfl (by kernel_rfl) <| .s 14 rfl rfl rfl (by kernel_rfl) <| .s 15 rfl rfl rfl (by kernel_rfl) ?_
            refine .s 16 rfl rfl rfl (by kernel_rfl) <| .s 17 rfl rfl rfl (by kernel_rfl) <| .t 18 rfl (.pickT rfl rfl) rfl rfl (by kernel_rfl) <| .done (by kernel_rfl) <| .go <| .cond_true rfl ?_
            refine .seq <| .region <| .e (.assign rfl) rfl rfl <| .nil <| .go <| .ret ?_
            refine .blk_ret <| .ret <| .ret <| .blk_ret <| .ret ?_
            refine .tail <| .tail ?_
            refine Post.retE rfl rfl ?_
            refine congrArg Value.bool ?_
            unfold listedB
            rw [adj_bad (nm := fun x : Tsk => x.name) (bad := badK) (show k50 < b.tasks.length by omega) (by rw [adjOk_at (show k50 < b.tasks.length by omega)]; simp_all [badN, badK, badX])]
            simp
          · skip
            first | replace h58 := of_decide_eq_true ((Bool.not_eq_false' _).mp h58) | replace h58 := of_decide_eq_true (by simpa using h58)
            refine .t 4 rfl (.move rfl) rfl rfl (by kernel_rfl) <| .t 5 rfl (.gtr rfl rfl) rfl rfl (by kernel_rfl) <| .t 6 rfl (.move rfl) rfl rfl (by kernel_rfl) ?_
            refine .split 61 rfl (fun h61 => ?_) (fun h61 => ?_)
            · skip
              replace h61 := of_decide_eq_true h61
              have hz50 : ¬k50 = 0 := by omega
              refine .t 7 rfl (.fieldAddr fo27_1 rfl) rfl rfl (by kernel_rfl) <| .t 8 rfl (.load ag23 rfl (.there <| .here) rfl) rfl rfl (by kernel_rfl) <| .t 9 rfl (.move rfl) rfl rfl (by kernel_rfl) <| .t 10 rfl (.sub rfl rfl rfl) rfl rfl (by kernel_rfl) ?_
              have hm65 : IntKind.i64.wrap ((k50 : Int) - 1) = ((k50 - 1 : Nat) : Int) := wrap_pred (by omega) (by omega)
              obtain ⟨eb66, eo66, cs66, hd66, hat66, hr66⟩ := SlR.at_ htv0 (k := k50 - 1) (by omega)
              cases hd66
              have ht66 := hr66
              obtain ⟨xw66, xb66, rfl, hxw66, hxb66⟩ := hr66.ex
              obtain ⟨xa66, xc66, rfl, -⟩ := hxw66
              obtain ⟨xd66, xe66, rfl, -⟩ := hxb66
              refine .t 11 rfl (.indexAddrL sl23 rfl rfl hm65 (by omega)) rfl rfl (by kernel_rfl) <| .t 12 rfl (.fieldAddr fo34_0 rfl) rfl rfl (by kernel_rfl) <| .t 13 rfl (.loadI ag9 rfl (hat66.cell (j := 0) rfl)) rfl rfl (by kernel_rfl) <| .t 14 rfl (.fieldAddr fo34_0 rfl) rfl rfl (by kernel_rfl) <| .t 15 rfl (.load ag9 rfl .here rfl) rfl rfl (by kernel_rfl) <| .t 16 rfl (.strge rfl rfl) rfl rfl (by kernel_rfl) ?_
              refine .t 17 rfl (.pickT rfl rfl) rfl rfl (by kernel_rfl) <| .t 18 rfl (.pickF rfl rfl) rfl rfl (by kernel_rfl) <| .done (by kernel_rfl) <| .go ?_
              refine .split 73 rfl (fun h73 => ?_) (fun h73 => ?_)
              · skip
                refine .cond_true rfl <| .seq <| .region <| .e (.assign rfl) rfl rfl <| .nil <| .go ?_
                refine .ret <| .blk_ret <| .ret <| .ret <| .blk_ret <| .ret ?_
                refine .tail <| .tail ?_
                refine Post.retE rfl rfl ?_
                refine congrArg Value.bool ?_
                unfold listedB
                rw [adj_bad (nm := fun x : Tsk => x.name) (bad := badK) (show k50 < b.tasks.length by omega) (by rw [adjOk_at (show k50 < b.tasks.length by omega)]; simp_all [badN, badK, badX])]
                simp
              · skip
                refine .cond_false rfl <| .skip <| .blk_normal <| .go <| .region <| .e (.add rfl rfl (by first | exact wrap_succ (by omega) | exact IntWalk.i64_in _ (by omega) | exact rfl)) rfl rfl ?_
                refine .e (.move rfl) rfl rfl <| .nil ?_
                refine .tail ?_
                exact .mid (k50 + 1) ⟨by omega, by omega, adj_step hw50 (by rw [adjOk_at (show k50 < b.tasks.length by omega)]; simp_all [badN, badK, badX])⟩ ⟨rfl, trivial⟩ rfl rfl (.pre 31 rfl (.app rfl .base))
            · skip
              replace h61 := of_decide_eq_false h61
              have hz50 : k50 = 0 := by omega
              refine .s 7 rfl rfl rfl (by kernel_rfl) <| .s 8 rfl rfl rfl (by kernel_rfl) <| .s 9 rfl rfl rfl (by kernel_rfl) <| .s 10 rfl rfl rfl (by kernel_rfl) <| .s 11 rfl rfl rfl (by kernel_rfl) <| .s 12 rfl rfl rfl (by kernel_rfl) ?_
              refine .s 13 rfl rfl rfl (by kernel_rfl) <| .s 14 rfl rfl rfl (by kernel_rfl) <| .s 15 rfl rfl rfl (by kernel_rfl) <| .s 16 rfl rfl rfl (by kernel_rfl) <| .t 17 rfl (.pickF rfl rfl) rfl rfl (by kernel_rfl) <| .t 18 rfl (.pickF rfl rfl) rfl rfl (by kernel_rfl) ?_
              refine .done (by kernel_rfl) <| .go <| .cond_false rfl <| .skip <| .blk_normal <| .go ?_
              refine .region <| .e (.add rfl rfl (by first | exact wrap_succ (by omega) | exact IntWalk.i64_in _ (by omega) | exact rfl)) rfl rfl <| .e (.move rfl) rfl rfl <| .nil ?_
              refine .tail ?_
              exact .mid (k50 + 1) ⟨by omega, by omega, adj_step hw50 (by rw [adjOk_at (show k50 < b.tasks.length by omega)]; simp_all [badN, badK, badX])⟩ ⟨rfl, trivial⟩ rfl rfl (.pre 30 rfl (.app rfl .base))
        · skip
          replace h51 := of_decide_eq_false h51
          refine .cond_false rfl <| .exit <| .exit <| .exit <| .blk_exit <| .go ?_
          refine .seq <| .seq <| .region <| .e (.fieldAddr fo27_2 rfl) rfl rfl <| .e (.load ag24 rfl .here rfl) rfl rfl <| .e (.len sl24 rfl rfl) rfl rfl ?_
          refine .e (.move rfl) rfl rfl <| .nil <| .go <| .block ?_
          refine .loopM [2, 7, 8, 78, 79, 80, 81, 82, 83, 84, 85, 86, 87, 88, 89, 90, 91, 92, 93, 94, 95, 96, 97, 98, 99, 100, 101, 102, 103, 104, 105, 106, 107, 108, 109, 110, 111] (fun k => b.binds.length - k) (fun k => k ≤ b.binds.length ∧ adjTo (fun x : Bnd => x.task) (badX b) b.binds k = true) (fun k => [(78, .int .i64 k)]) (fun _ => _) (fun _ => _) (0) ⟨Nat.zero_le _, rfl⟩ ⟨rfl, trivial⟩ rfl rfl ?_
          intro k78 hk78
          obtain ⟨hk78, hw78⟩ := hk78
          refine .seq <| .region <| .e (.lss rfl rfl) rfl rfl <| .nil <| .go <| .seq ?_
          refine .split 79 rfl (fun h79 => ?_) (fun h79 => ?_)
          · skip
            replace h79 := of_decide_eq_true h79
            refine .cond_true rfl <| .skip <| .go <| .seq <| .block <| .seq ?_
            refine .region <| .e (.move rfl) rfl rfl ?_
            obtain ⟨eb81, eo81, cs81, hd81, hat81, hr81⟩ := SlR.at_ hbv0 (k := k78) (by omega)
            cases hd81
            have hx81 := hr81
            obtain ⟨rfl, hx81a, hx81b⟩ := hr81
            refine .e (.indexAddrL sl24 rfl rfl rfl (by omega)) rfl rfl <| .e (.loadIA ag56 sz56 rfl hat81 rfl) rfl rfl <| .on rfl <| .alloc zr56 rfl fun c4 _ _ => .e (.assign rfl) rfl rfl <| .on rfl <| .storeW sz56 rfl rfl rfl rfl rfl rfl .here <| .nil ?_
            refine .go <| .seq ?_
            refine .draw [(c1, _), (c4, _)] mixed (.cons (.there <| .here) (.cons .here .nil)) ?_
            refine .t 0 rfl (.loadW ag27 sz27 rfl .here rfl) rfl rfl (by kernel_rfl) <| .t 1 rfl (.fieldAddr fo56_0 rfl) rfl rfl (by kernel_rfl) <| .t 2 rfl (.load ag9 rfl (.there <| .here) rfl) rfl rfl (by kernel_rfl) <| .one (i := 3) (by kernel_rfl) rfl rfl <| .callP cal38 rfl rfl rfl (rixT_ok hk0) ?_
            refine ⟨(.cons (.there <| .here) (.cons .here .nil)), Imm.le_refl _, ?_⟩
            refine .t 4 rfl ((EV.cast (.lss rfl rfl) (congrArg Value.bool (ix_lt (nm := fun x : Tsk => x.name))))) rfl rfl (by kernel_rfl) <| .t 5 rfl (.move rfl) rfl rfl (by kernel_rfl) ?_
            refine .split 88 rfl (fun h88 => ?_) (fun h88 => ?_)
            · skip
              refine .s 6 rfl rfl rfl (by kernel_rfl) <| .s 7 rfl rfl rfl (by kernel_rfl) <| .s 8 rfl rfl rfl (by kernel_rfl) <| .none_ (i := 9) (by kernel_rfl) rfl rfl rfl <| .s 10 rfl rfl rfl (by kernel_rfl) <| .t 11 rfl (.pickT rfl rfl) rfl rfl (by kernel_rfl) ?_
              refine .t 12 rfl (.move rfl) rfl rfl (by kernel_rfl) <| .s 13 rfl rfl rfl (by kernel_rfl) <| .s 14 rfl rfl rfl (by kernel_rfl) <| .s 15 rfl rfl rfl (by kernel_rfl) <| .s 16 rfl rfl rfl (by kernel_rfl) <| .s 17 rfl rfl rfl (by kernel_rfl) ?_
              refine .s 18 rfl rfl rfl (by kernel_rfl) <| .s 19 rfl rfl rfl (by kernel_rfl) <| .s 20 rfl rfl rfl (by kernel_rfl) <| .s 21 rfl rfl rfl (by kernel_rfl) <| .s 22 rfl rfl rfl (by kernel_rfl) <| .s 23 rfl rfl rfl (by kernel_rfl) ?_
              refine .s 24 rfl rfl rfl (by kernel_rfl) <| .s 25 rfl rfl rfl (by kernel_rfl) <| .s 26 rfl rfl rfl (by kernel_rfl) <| .t 27 rfl (.pickT rfl rfl) rfl rfl (by kernel_rfl) <| .done (by kernel_rfl) <| .go ?_
              refine .cond_true rfl <| .seq <| .region <| .e (.assign rfl) rfl rfl <| .nil <| .go ?_
              refine .ret <| .blk_ret <| .ret <| .ret <| .blk_ret <| .ret ?_
              refine .tail <| .tail ?_
              refine Post.retE rfl rfl ?_
              refine congrArg Value.bool ?_
              unfold listedB
              rw [adj_bad (nm := fun x : Bnd => x.task) (bad := (badX b)) (show k78 < b.binds.length by omega) (by rw [adjOk_at (show k78 < b.binds.length by omega)]; simp_all [badN, badK, badX])]
              simp
            · skip
              refine .t 6 rfl (.loadW ag27 sz27 rfl .here rfl) rfl rfl (by kernel_rfl) <| .t 7 rfl (.fieldAddr fo56_1 rfl) rfl rfl (by kernel_rfl) <| .t 8 rfl (.load ag9 rfl (.there <| .here) rfl) rfl rfl (by kernel_rfl) <| .one (i := 9) (by kernel_rfl) rfl rfl <| .callP cal67 rfl rfl rfl (rixN_ok hk0) ?_
              refine ⟨(.cons (.there <| .here) (.cons .here .nil)), Imm.le_refl _, ?_⟩
              refine .t 10 rfl ((EV.cast (.lss rfl rfl) (congrArg Value.bool (ix_lt (nm := fun x : Nod => x.name))))) rfl rfl (by kernel_rfl) <| .t 11 rfl (.pickF rfl rfl) rfl rfl (by kernel_rfl) <| .t 12 rfl (.move rfl) rfl rfl (by kernel_rfl) ?_
              refine .split 95 rfl (fun h95 => ?_) (fun h95 => ?_)
              · skip
                refine .s 13 rfl rfl rfl (by kernel_rfl) <| .s 14 rfl rfl rfl (by kernel_rfl) <| .s 15 rfl rfl rfl (by kernel_rfl) <| .s 16 rfl rfl rfl (by kernel_rfl) <| .s 17 rfl rfl rfl (by kernel_rfl) <| .s 18 rfl rfl rfl (by kernel_rfl) ?_
                refine .s 19 rfl rfl rfl (by kernel_rfl) <| .s 20 rfl rfl rfl (by kernel_rfl) <| .s 21 rfl rfl rfl (by kernel_rfl) <| .s 22 rfl rfl rfl (by kernel_rfl) <| .s 23 rfl rfl rfl (by kernel_rfl) <| .s 24 rfl rfl rfl (by kernel_rfl) ?_
                refine .s 25 rfl rfl rfl (by kernel_rfl) <| .s 26 rfl rfl rfl (by kernel_rfl) <| .t 27 rfl (.pickT rfl rfl) rfl rfl (by kernel_rfl) <| .done (by kernel_rfl) <| .go <| .cond_true rfl ?_
                refine .seq <| .region <| .e (.assign rfl) rfl rfl <| .nil <| .go <| .ret ?_
                refine .blk_ret <| .ret <| .ret <| .blk_ret <| .ret ?_
                refine .tail <| .tail ?_
                refine Post.retE rfl rfl ?_
                refine congrArg Value.bool ?_
                unfold listedB
                rw [adj_bad (nm := fun x : Bnd => x.task) (bad := (badX b)) (show k78 < b.binds.length by omega) (by rw [adjOk_at (show k78 < b.binds.length by omega)]; simp_all [badN, badK, badX])]
                simp
              · skip
                refine .t 13 rfl (.move rfl) rfl rfl (by kernel_rfl) <| .t 14 rfl (.gtr rfl rfl) rfl rfl (by kernel_rfl) <| .t 15 rfl (.move rfl) rfl rfl (by kernel_rfl) ?_
                refine .split 98 rfl (fun h98 => ?_) (fun h98 => ?_)
                · skip
                  replace h98 := of_decide_eq_true h98
                  have hz78 : ¬k78 = 0 := by omega
                  refine .t 16 rfl (.fieldAddr fo27_2 rfl) rfl rfl (by kernel_rfl) <| .t 17 rfl (.load ag24 rfl .here rfl) rfl rfl (by kernel_rfl) <| .t 18 rfl (.move rfl) rfl rfl (by kernel_rfl) <| .t 19 rfl (.sub rfl rfl rfl) rfl rfl (by kernel_rfl) ?_
                  have hm102 : IntKind.i64.wrap ((k78 : Int) - 1) = ((k78 - 1 : Nat) : Int) := wrap_pred (by omega) (by omega)
                  obtain ⟨eb103, eo103, cs103, hd103, hat103, hr103⟩ := SlR.at_ hbv0 (k := k78 - 1) (by omega)
                  cases hd103
                  have hx103 := hr103
                  obtain ⟨rfl, hx103a, hx103b⟩ := hr103
                  refine .t 20 rfl (.indexAddrL sl24 rfl rfl hm102 (by omega)) rfl rfl (by kernel_rfl) <| .t 21 rfl (.fieldAddr fo56_0 rfl) rfl rfl (by kernel_rfl) <| .t 22 rfl (.loadI ag9 rfl (hat103.cell (j := 0) rfl)) rfl rfl (by kernel_rfl) <| .t 23 rfl (.fieldAddr fo56_0 rfl) rfl rfl (by kernel_rfl) <| .t 24 rfl (.load ag9 rfl (.there <| .here) rfl) rfl rfl (by kernel_rfl) <| .t 25 rfl (.strge rfl rfl) rfl rfl (by kernel_rfl) ?_
                  refine .t 26 rfl (.pickT rfl rfl) rfl rfl (by kernel_rfl) <| .t 27 rfl (.pickF rfl rfl) rfl rfl (by kernel_rfl) <| .done (by kernel_rfl) <| .go ?_
                  refine .split 110 rfl (fun h110 => ?_) (fun h110 => ?_)
                  · skip
                    refine .cond_true rfl <| .seq <| .region <| .e (.assign rfl) rfl rfl <| .nil <| .go ?_
                    refine .ret <| .blk_ret <| .ret <| .ret <| .blk_ret <| .ret ?_
                    refine .tail <| .tail ?_
                    refine Post.retE rfl rfl ?_
                    refine congrArg Value.bool ?_
                    unfold listedB
                    rw [adj_bad (nm := fun x : Bnd => x.task) (bad := (badX b)) (show k78 < b.binds.length by omega) (by rw [adjOk_at (show k78 < b.binds.length by omega)]; simp_all [badN, badK, badX])]
                    simp
                  · skip
                    refine .cond_false rfl <| .skip <| .blk_normal <| .go <| .region <| .e (.add rfl rfl (by first | exact wrap_succ (by omega) | exact IntWalk.i64_in _ (by omega) | exact rfl)) rfl rfl ?_
                    refine .e (.move rfl) rfl rfl <| .nil ?_
                    refine .tail ?_
                    exact .mid (k78 + 1) ⟨by omega, by omega, adj_step hw78 (by rw [adjOk_at (show k78 < b.binds.length by omega)]; simp_all [badN, badK, badX])⟩ ⟨rfl, trivial⟩ rfl rfl (.pre 41 rfl (.app rfl .base))
                · skip
                  replace h98 := of_decide_eq_false h98
                  have hz78 : k78 = 0 := by omega
                  refine .s 16 rfl rfl rfl (by kernel_rfl) <| .s 17 rfl rfl rfl (by kernel_rfl) <| .s 18 rfl rfl rfl (by kernel_rfl) <| .s 19 rfl rfl rfl (by kernel_rfl) <| .s 20 rfl rfl rfl (by kernel_rfl) <| .s 21 rfl rfl rfl (by kernel_rfl) ?_
                  refine .s 22 rfl rfl rfl (by kernel_rfl) <| .s 23 rfl rfl rfl (by kernel_rfl) <| .s 24 rfl rfl rfl (by kernel_rfl) <| .s 25 rfl rfl rfl (by kernel_rfl) <| .t 26 rfl (.pickF rfl rfl) rfl rfl (by kernel_rfl) <| .t 27 rfl (.pickF rfl rfl) rfl rfl (by kernel_rfl) ?_
                  refine .done (by kernel_rfl) <| .go <| .cond_false rfl <| .skip <| .blk_normal <| .go ?_
                  refine .region <| .e (.add rfl rfl (by first | exact wrap_succ (by omega) | exact IntWalk.i64_in _ (by omega) | exact rfl)) rfl rfl <| .e (.move rfl) rfl rfl <| .nil ?_
                  refine .tail ?_
                  exact .mid (k78 + 1) ⟨by omega, by omega, adj_step hw78 (by rw [adjOk_at (show k78 < b.binds.length by omega)]; simp_all [badN, badK, badX])⟩ ⟨rfl, trivial⟩ rfl rfl (.pre 40 rfl (.app rfl .base))
          · skip
            replace h79 := of_decide_eq_false h79
            refine .cond_false rfl <| .exit <| .exit <| .exit <| .blk_exit <| .go ?_
            refine .seq <| .region <| .e (.assign rfl) rfl rfl <| .nil <| .go <| .ret ?_
            refine .tail ?_
            refine Post.retE rfl rfl ?_
            refine congrArg Value.bool ?_
            unfold listedB
            have e1 : k22 = b.nodes.length := by omega
            have e2 : k50 = b.tasks.length := by omega
            have e3 : k78 = b.binds.length := by omega
            rw [e1] at hw22
            rw [e2] at hw50
            rw [e3] at hw78
            rw [hw22, hw50, hw78, decide_eq_true (show b.nodes.length ≤ 16 by omega), decide_eq_true (show b.tasks.length ≤ 32 by omega)]
            rfl

end Go.Proofs.YtcojkkndmholaaaGreatDoor
