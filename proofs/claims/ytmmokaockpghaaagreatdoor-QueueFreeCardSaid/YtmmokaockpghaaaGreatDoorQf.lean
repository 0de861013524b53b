/- Walks of functions over a symbolic memory, printed by a program of the session. -/
import Derived.Test.YtmmokaockpghaaaGreatDoorQe
namespace Go.Proofs.YtmmokaockpghaaaGreatDoor
open Go.Sy
set_option linter.unusedSimpArgs false
set_option linter.unusedVariables false

set_option maxHeartbeats 16000000 in
set_option maxRecDepth 20000 in
theorem QueueFree_ok {I : Imm} {O : Own} {kc : List Value} {b : Bk} (hk : BkR I kc b) {task : ByteArray} (hst : StrOk task) (hts : task.size ≤ 4611686018427387904) :
    Pure Tryz.prog 7 [.agg ⟨kc⟩, .string task] I O (.bool true) := by
  have hk0 := hk
  obtain ⟨nv, tv, bv, rfl, hnv, htv, hbv⟩ := hk.ex
  have hnv0 := hnv
  have htv0 := htv
  have hbv0 := hbv
  obtain ⟨na, ncap, rfl, hn1, hn2, -⟩ := hnv
  obtain ⟨ta, tcap, rfl, ht1, ht2, -⟩ := htv
  obtain ⟨ba, bcap, rfl, hb1, hb2, -⟩ := hbv
  refine Go.Sy.Does.enter Tryz.func7 rfl Tryz.ntmps7 rfl ?_
  refine .seq <| .region <| .on rfl <| .box rfl rfl rfl fun c1 _ _ => .e (.assign rfl) rfl rfl <| .nil <| .go ?_
  refine .seq <| .seq <| .region <| .on rfl <| .callP cal20 rfl rfl rfl (qlives_ok) <| .e (.not rfl) rfl rfl <| .nil ?_
  refine .go <| .cond_false rfl <| .skip <| .go <| .seq <| .region ?_
  refine .e (.loadW ag27 sz27 rfl .here rfl) rfl rfl <| .e (.move rfl) rfl rfl <| .on rfl <| .call cal18 rfl rfl rfl (freeF hk0) fun v19 I19 O19 hI19 hK19 => ?_
  obtain ⟨W, e, hW⟩ : ∃ W e, freeQ b task = (W, e) := ⟨_, _, rfl⟩
  rw [hW] at hK19
  dsimp only at hK19
  obtain ⟨rfl, u19, rfl, hl19⟩ := hK19
  have hl190 := hl19
  obtain ⟨la19, lc19, rfl, hl191, hl192, -⟩ := hl19
  refine .e (.move rfl) rfl rfl <| .e (.extract rfl rfl) rfl rfl <| .e (.extract rfl rfl) rfl rfl <| .e (.assign rfl) rfl rfl <| .e (.assign rfl) rfl rfl <| .nil ?_
  refine .go <| .seq <| .seq <| .region <| .e (.move rfl) rfl rfl <| .e (.neq rfl rfl) rfl rfl ?_
  refine .nil <| .go ?_
  refine .split 23 rfl (fun h23 => ?_) (fun h23 => ?_)
  · skip
    first | replace h23 := of_decide_eq_false ((Bool.not_eq_true' _).mp h23) | replace h23 := of_decide_eq_false (by simpa using h23)
    have hW0 := freeQ_out hW h23
    refine .cond_true rfl <| .seq <| .region <| .e (.move rfl) rfl rfl <| .e (.len sl34 rfl rfl) rfl rfl <| .e ((EV.cast (u := .bool true) (.eql rfl rfl) (congrArg Value.bool (decide_eq_true (by rw [hW0]; rfl))))) rfl rfl ?_
    refine .e (.assign rfl) rfl rfl <| .nil <| .go <| .ret <| .ret ?_
    refine .tail ?_
    refine .back hI19 ?_
    refine Post.retE rfl rfl ?_
    rfl
  · skip
    first | replace h23 := of_decide_eq_true ((Bool.not_eq_false' _).mp h23) | replace h23 := of_decide_eq_true (by simpa using h23)
    obtain ⟨hok, rfl⟩ := freeQ_in hW h23
    have hbn := hok.nodes
    refine .cond_false rfl <| .skip <| .go <| .seq <| .seq <| .region ?_
    refine .e (.fieldAddr fo27_0 rfl) rfl rfl <| .e (.load ag22 rfl .here rfl) rfl rfl <| .e (.len sl22 rfl rfl) rfl rfl <| .e (.move rfl) rfl rfl <| .nil <| .go ?_
    refine .block ?_
    refine .loopM [4, 8, 9, 11, 12, 13, 30, 31, 32, 33, 34, 35, 36, 37, 38, 39, 40, 41, 42, 43, 44, 45, 46, 47, 48, 49, 50, 51, 52, 53, 54, 55, 56, 57, 58, 59, 60, 61, 62, 63, 64] (fun k => b.nodes.length - k) (fun k => k ≤ b.nodes.length) (fun k => [(30, .int .i64 k)]) (fun _ => _) (fun _ => _) (0) (Nat.zero_le _) ⟨rfl, trivial⟩ rfl rfl ?_
    intro k hkk
    refine .seq <| .region <| .e (.lss rfl rfl) rfl rfl <| .nil <| .go <| .seq ?_
    refine .split 31 rfl (fun h31 => ?_) (fun h31 => ?_)
    · skip
      replace h31 := of_decide_eq_true h31
      refine .cond_true rfl <| .skip <| .go <| .seq <| .block <| .seq ?_
      refine .region ?_
      obtain ⟨eb32, eo32, cs32, hd32, hat32, hr32⟩ := SlR.at_ (hnv0.mono hI19) (k := k) (by omega)
      cases hd32
      have hn32 := hr32
      obtain ⟨xf32, xg32, rfl, hxf32, hxg32⟩ := hr32.ex
      obtain ⟨xh32, xi32, rfl, -⟩ := hxf32
      obtain ⟨xj32, xk32, rfl, -⟩ := hxg32
      refine .e (.indexAddrL sl22 rfl rfl rfl (by omega)) rfl rfl <| .e (.loadIA ag45 sz45 rfl hat32 rfl) rfl rfl <| .on rfl <| .alloc zr45 rfl fun c2 _ _ => .on rfl <| .storeW sz45 rfl rfl rfl rfl rfl rfl .here <| .nil <| .go ?_
      refine .seq <| .region <| .e (.assign rfl) rfl rfl <| .nil <| .go <| .seq ?_
      refine .seq <| .region <| .e (.move rfl) rfl rfl <| .e (.len sl34 rfl rfl) rfl rfl <| .e (.move rfl) rfl rfl <| .nil ?_
      refine .go <| .block ?_
      refine .loopM [9, 11, 36, 37, 38, 39, 40, 41, 42, 43, 44, 45, 46, 47] (fun j => (freeL b task).length - j) (fun j => j ≤ (freeL b task).length) (fun j => [(36, .int .i64 j), (9, .bool (((freeL b task).take j).any (fun f => decide (f = b.nodes[k].name))))]) (fun _ => _) (fun _ => _) (0) (Nat.zero_le _) ⟨rfl, rfl, trivial⟩ rfl rfl ?_
      intro j hj
      refine .seq <| .region <| .e (.lss rfl rfl) rfl rfl <| .nil <| .go <| .seq ?_
      refine .split 37 rfl (fun h37 => ?_) (fun h37 => ?_)
      · skip
        replace h37 := of_decide_eq_true h37
        refine .cond_true rfl <| .skip <| .go <| .seq <| .block <| .seq ?_
        refine .region ?_
        obtain ⟨eb38, eo38, cs38, hd38, hat38, hr38⟩ := SlR.at_ hl190 (k := j) (by omega)
        cases hd38
        obtain ⟨rfl, hs38⟩ := hr38
        refine .e (.indexAddrL sl34 rfl rfl rfl (by omega)) rfl rfl <| .e (.loadI ag9 rfl (hat38.cell (j := 0) rfl)) rfl rfl <| .e (.assign rfl) rfl rfl <| .nil <| .go <| .region ?_
        refine .e (.move rfl) rfl rfl <| .e (.move rfl) rfl rfl ?_
        refine .split 41 rfl (fun h41 => ?_) (fun h41 => ?_)
        · skip
          refine .off rfl rfl <| .off rfl rfl <| .off rfl rfl <| .off rfl rfl <| .e (.pickT rfl rfl) rfl rfl <| .e (.assign rfl) rfl rfl ?_
          refine .nil <| .blk_normal <| .go <| .region <| .e (.add rfl rfl (by first | exact wrap_succ (by omega) | exact IntWalk.i64_in _ (by omega) | exact rfl)) rfl rfl <| .e (.move rfl) rfl rfl ?_
          refine .nil ?_
          have e7 := any_step (p := (fun f => decide (f = b.nodes[k].name))) (show j < (freeL b task).length by omega)
          simp only [h41, Bool.true_or, Bool.false_or] at e7
          exact .mid (j + 1) ⟨by omega, by omega⟩ ⟨rfl, (by show some _ = some _; rw [e7]), trivial⟩ rfl rfl (.pre 16 rfl (.app rfl .base))
        · skip
          refine .e (.move rfl) rfl rfl <| .e (.fieldAddr fo45_0 rfl) rfl rfl <| .e (.load ag9 rfl .here rfl) rfl rfl <| .e (.streq rfl rfl) rfl rfl <| .e (.pickF rfl rfl) rfl rfl <| .e (.assign rfl) rfl rfl ?_
          refine .nil <| .blk_normal <| .go <| .region <| .e (.add rfl rfl (by first | exact wrap_succ (by omega) | exact IntWalk.i64_in _ (by omega) | exact rfl)) rfl rfl <| .e (.move rfl) rfl rfl ?_
          refine .nil ?_
          have e7 := any_step (p := (fun f => decide (f = b.nodes[k].name))) (show j < (freeL b task).length by omega)
          simp only [h41, Bool.true_or, Bool.false_or] at e7
          exact .mid (j + 1) ⟨by omega, by omega⟩ ⟨rfl, (by show some _ = some _; rw [e7]), trivial⟩ rfl rfl (.pre 16 rfl (.app rfl .base))
      · skip
        replace h37 := of_decide_eq_false h37
        refine .cond_false rfl <| .exit <| .exit <| .exit <| .blk_exit <| .go ?_
        refine .seq <| .region <| .e (.loadW ag27 sz27 rfl (.there <| .here) rfl) rfl rfl <| .e (.move rfl) rfl rfl <| .e (.fieldAddr fo45_0 rfl) rfl rfl <| .e (.load ag9 rfl .here rfl) rfl rfl ?_
        refine .e (.fieldAddr fo27_3 rfl) rfl rfl <| .e (.load ag25 rfl (.there <| .here) rfl) rfl rfl <| .e (.build bs65 zv65 rfl rfl) rfl rfl <| .on rfl <| .call cal27 rfl rfl rfl (doF (o := ordB task b.nodes[k].name b.fence) (hk0.mono hI19) (ordBR (f := b.fence) hst hn32.name hk0.fence (by have := nod_nm (hok.nod _ (List.getElem_mem (show k < b.nodes.length by omega))); omega)).1 (ordBR (I := I) (f := b.fence) hst hn32.name hk0.fence (by have := nod_nm (hok.nod _ (List.getElem_mem (show k < b.nodes.length by omega))); omega)).2) fun v56 I56 O56 hI56 hK56 => ?_
        obtain ⟨rfl, cs56, rfl, hb56⟩ := hK56
        have hb560 := hb56
        obtain ⟨nv56, tv56, bv56, rfl, hn56, ht56, hx56⟩ := hb56.ex
        obtain ⟨_, _, rfl, -⟩ := hn56
        obtain ⟨_, _, rfl, htl56, -⟩ := ht56
        obtain ⟨_, _, rfl, -⟩ := hx56
        refine .e (.move rfl) rfl rfl <| .e (.extract rfl rfl) rfl rfl <| .e (.extract rfl rfl) rfl rfl <| .on rfl <| .alloc zr27 rfl fun c3 _ _ => .on rfl <| .alloc zr60 rfl fun c4 _ _ => .on rfl <| .storeW sz27 rfl rfl rfl rfl rfl rfl (.there <| .here) ?_
        refine .on rfl <| .storeW sz60 rfl rfl rfl rfl rfl rfl .here <| .nil <| .go <| .seq <| .region <| .e (.move rfl) rfl rfl ?_
        refine .e (.fieldAddr fo60_0 rfl) rfl rfl <| .e (.load ag28 rfl .here rfl) rfl rfl <| .e (.eql rfl rfl) rfl rfl <| .e ((EV.cast (u := .bool false) (.nev eqBool rfl rfl) (congrArg Value.bool (by rw [free_eqv (List.getElem_mem (show k < b.nodes.length by omega)) (show (freeL b task).length ≤ j by omega)]; simp)))) rfl rfl <| .nil <| .go ?_
        refine .cond_false rfl <| .skip <| .blk_normal <| .go <| .region <| .e (.add rfl rfl (by first | exact wrap_succ (by omega) | exact IntWalk.i64_in _ (by omega) | exact rfl)) rfl rfl ?_
        refine .e (.move rfl) rfl rfl <| .nil ?_
        refine .tail <| .tail <| .tail ?_
        refine .back hI56 ?_
        exact .mid (k + 1) ⟨by omega, by omega⟩ ⟨rfl, trivial⟩ rfl rfl (.pre 22 rfl (.app rfl (.del rfl (.pre 9 rfl (.app rfl .base)))))
    · skip
      replace h31 := of_decide_eq_false h31
      refine .cond_false rfl <| .exit <| .exit <| .exit <| .blk_exit <| .go ?_
      refine .seq <| .region <| .e (.assign rfl) rfl rfl <| .nil <| .go <| .ret ?_
      refine .tail ?_
      refine .back hI19 ?_
      refine Post.retE rfl rfl ?_
      rfl

end Go.Proofs.YtmmokaockpghaaaGreatDoor
