/- Walks of functions over a symbolic memory, printed by a program of the session. -/
import Derived.Test.YtdcblbcidjldmaaDoorSb
namespace Go.Proofs.YtdcblbcidjldmaaDoor
open Go.Sy
set_option linter.unusedSimpArgs false
set_option linter.unusedVariables false

set_option maxHeartbeats 4000000 in
set_option maxRecDepth 20000 in
theorem rBest_ok {I : Imm} {O : Own} {tc : List Value} {t : Tsk} (ht : TskR I tc t) {v : Value} {l : List Lod} (hl : LodsR I v l) :
    Pure Tryd.prog 15 [.agg ⟨tc⟩, v] I O (pairV (bestR t l)) := by
  have ht0 := ht
  obtain ⟨tw, tb, rfl, htw, htb⟩ := ht.ex
  have htw0 := htw
  obtain ⟨wa, wcap, rfl, hw1, hw2, -⟩ := htw
  have htb0 := htb
  obtain ⟨ba, bcap, rfl, hb1, hb2, -⟩ := htb
  have hl0 := hl
  obtain ⟨la, lcap, rfl, hl1, hl2, -⟩ := hl
  refine Does.enter Tryd.func15 rfl Tryd.ntmps15 rfl ?_
  refine .seq <| .region <| .on rfl <| .box rfl rfl rfl fun c1 _ _ => .e (.assign rfl) rfl rfl <| .e (.assign rfl) rfl rfl <| .nil ?_
  refine .go <| .seq <| .region <| .e (.loadW ag25 sz25 rfl .here rfl) rfl rfl <| .on rfl <| .callP cal21 rfl rfl rfl (rCheckTask_ok ht0) <| .e (.assign rfl) rfl rfl ?_
  refine .nil <| .go <| .seq <| .seq <| .region <| .e (.move rfl) rfl rfl ?_
  refine .e (.len sl36 rfl rfl) rfl rfl <| .e (.move rfl) rfl rfl <| .nil <| .go <| .block ?_
  refine .loopM [6, 8, 19, 20, 21, 22, 23, 24, 25, 26, 27] (fun j => l.length - j) (fun j => j ≤ l.length) (fun j => [(19, .int .i64 j), (6, .int .i64 (whyTo t l j))]) (fun _ => _) (fun _ => _) (0) (by omega) ⟨rfl, rfl, trivial⟩ rfl rfl ?_
  intro j hj
  refine .seq <| .region <| .e (.lss rfl rfl) rfl rfl <| .nil <| .go <| .seq ?_
  refine .split 20 rfl (fun h20 => ?_) (fun h20 => ?_)
  · skip
    replace h20 := of_decide_eq_true h20
    refine .cond_true rfl <| .skip <| .go <| .seq <| .block <| .seq ?_
    refine .region ?_
    obtain ⟨eb21, eo21, cs21, hd21, hat21, hr21⟩ := SlR.at_ hl0 (k := j) (by omega)
    cases hd21
    have hx21 := hr21
    obtain ⟨xv21, yv21, rfl, hxv21, hyv21⟩ := hr21.ex
    obtain ⟨xa21, xc21, rfl, -⟩ := hxv21
    obtain ⟨ya21, yc21, rfl, -⟩ := hyv21
    refine .e (.indexAddrL sl36 rfl rfl rfl (by omega)) rfl rfl <| .e (.loadIA ag29 sz29 rfl hat21 rfl) rfl rfl <| .on rfl <| .alloc zr29 rfl fun c2 _ _ => .on rfl <| .storeW sz29 rfl rfl rfl rfl rfl rfl .here <| .nil <| .go ?_
    refine .seq <| .region <| .e (.move rfl) rfl rfl <| .e (.eql rfl rfl) rfl rfl <| .nil <| .go ?_
    refine .split 24 rfl (fun h24 => ?_) (fun h24 => ?_)
    · skip
      replace h24 := of_decide_eq_true h24
      refine .cond_true rfl <| .region <| .e (.loadW ag29 sz29 rfl .here rfl) rfl rfl <| .on rfl <| .callP cal13 rfl rfl rfl (rCheck_ok hx21) <| .e (.assign rfl) rfl rfl <| .nil ?_
      refine .blk_normal <| .go <| .region <| .e (.add rfl rfl (by first | exact wrap_succ (by omega) | exact IntWalk.i64_in _ (by omega) | exact rfl)) rfl rfl <| .e (.move rfl) rfl rfl <| .nil ?_
      refine .tail ?_
      have e6 := whyTo_succ (t := t) (l := l) (k := j) (by omega)
      exact .mid (j + 1) ⟨by omega, by omega⟩ ⟨rfl, (by show some _ = some _; rw [e6, or_right h24]), trivial⟩ rfl rfl (.pre 13 rfl (.app rfl .base))
    · skip
      replace h24 := of_decide_eq_false h24
      refine .cond_false rfl <| .skip <| .blk_normal <| .go <| .region <| .e (.add rfl rfl (by first | exact wrap_succ (by omega) | exact IntWalk.i64_in _ (by omega) | exact rfl)) rfl rfl ?_
      refine .e (.move rfl) rfl rfl <| .nil ?_
      refine .tail ?_
      have e6 := whyTo_succ (t := t) (l := l) (k := j) (by omega)
      exact .mid (j + 1) ⟨by omega, by omega⟩ ⟨rfl, (by show some _ = some _; rw [e6, or_left h24]), trivial⟩ rfl rfl (.pre 10 rfl (.app rfl .base))
  · skip
    replace h20 := of_decide_eq_false h20
    refine .cond_false rfl <| .exit <| .exit <| .exit <| .blk_exit <| .go ?_
    refine .seq <| .seq <| .region <| .e (.move rfl) rfl rfl <| .e (.neq rfl rfl) rfl rfl <| .nil ?_
    refine .go ?_
    refine .split 29 rfl (fun h29 => ?_) (fun h29 => ?_)
    · skip
      first | replace h29 := of_decide_eq_false ((Bool.not_eq_true' _).mp h29) | replace h29 := of_decide_eq_false (by simpa using h29)
      refine .cond_true rfl <| .seq <| .region <| .e (.move rfl) rfl rfl <| .e (.assign rfl) rfl rfl <| .e (.assign rfl) rfl rfl ?_
      refine .nil <| .go <| .ret <| .ret ?_
      refine Post.retsE rfl (.tmp rfl (.tmp rfl .nil)) rfl (fun w h => h.tail) ?_
      exact pairV_eq (bestR_why (by omega) h29)
    · skip
      first | replace h29 := of_decide_eq_true ((Bool.not_eq_false' _).mp h29) | replace h29 := of_decide_eq_true (by simpa using h29)
      refine .cond_false rfl <| .skip <| .go <| .seq <| .region <| .e (.assign rfl) rfl rfl ?_
      refine .e (.assign rfl) rfl rfl <| .nil <| .go <| .seq <| .seq <| .region ?_
      refine .e (.move rfl) rfl rfl <| .e (.len sl36 rfl rfl) rfl rfl <| .e (.move rfl) rfl rfl <| .nil <| .go <| .block ?_
      refine .loopM [9, 10, 11, 12, 13, 14, 33, 34, 35, 36, 37, 38, 39, 40, 41, 42, 43, 44, 45, 46, 47, 48, 49, 50, 51, 52, 53, 54, 55, 56, 57, 58, 59, 60, 61, 62, 63, 64, 65, 66, 67, 68, 69, 70, 71, 72] (fun s => l.length - s.1) (fun s => s.1 ≤ l.length ∧ Binv t l s.1 s.2) (fun s => [(33, .int .i64 s.1), (9, .int .i64 s.2.1), (10, .int .i64 s.2.2)]) (fun _ => _) (fun _ => _) (((0, (-1, 0)) : Nat × (Int × Int))) ⟨by omega, Binv.zero⟩ ⟨rfl, rfl, rfl, trivial⟩ rfl rfl ?_
      intro ⟨k, s⟩ hk
      dsimp only at hk ⊢
      obtain ⟨hk, hb⟩ := hk
      have hb1 := hb.2
      refine .seq <| .region <| .e (.lss rfl rfl) rfl rfl <| .nil <| .go <| .seq ?_
      refine .split 34 rfl (fun h34 => ?_) (fun h34 => ?_)
      · skip
        replace h34 := of_decide_eq_true h34
        refine .cond_true rfl <| .skip <| .go <| .seq <| .block <| .seq ?_
        refine .region <| .e (.move rfl) rfl rfl ?_
        obtain ⟨eb36, eo36, cs36, hd36, hat36, hr36⟩ := SlR.at_ hl0 (k := k) (by omega)
        cases hd36
        have hx36 := hr36
        obtain ⟨xv36, yv36, rfl, hxv36, hyv36⟩ := hr36.ex
        obtain ⟨xa36, xc36, rfl, -⟩ := hxv36
        obtain ⟨ya36, yc36, rfl, -⟩ := hyv36
        refine .e (.indexAddrL sl36 rfl rfl rfl (by omega)) rfl rfl <| .e (.loadIA ag29 sz29 rfl hat36 rfl) rfl rfl <| .on rfl <| .alloc zr29 rfl fun c3 _ _ => .e (.assign rfl) rfl rfl <| .on rfl <| .storeW sz29 rfl rfl rfl rfl rfl rfl .here <| .nil ?_
        refine .go <| .seq <| .region <| .e (.loadW ag25 sz25 rfl (.there <| .here) rfl) rfl rfl <| .e (.loadW ag29 sz29 rfl .here rfl) rfl rfl <| .on rfl <| .callP cal10 rfl rfl rfl (rScore_ok ht0 hx36) ?_
        refine .e (.move rfl) rfl rfl <| .e (.extract rfl rfl) rfl rfl <| .e (.extract rfl rfl) rfl rfl <| .e (.assign rfl) rfl rfl <| .e (.assign rfl) rfl rfl <| .nil ?_
        refine .go <| .seq <| .seq <| .region <| .e (.move rfl) rfl rfl <| .e (.neq rfl rfl) rfl rfl ?_
        refine .nil <| .go ?_
        refine .split 45 rfl (fun h45 => ?_) (fun h45 => ?_)
        · skip
          first | replace h45 := of_decide_eq_false ((Bool.not_eq_true' _).mp h45) | replace h45 := of_decide_eq_false (by simpa using h45)
          refine .cond_true rfl <| .exit <| .exit <| .blk_exit <| .go <| .region ?_
          refine .e (.add rfl rfl (by first | exact wrap_succ (by omega) | exact IntWalk.i64_in _ (by omega) | exact rfl)) rfl rfl <| .e (.move rfl) rfl rfl <| .nil ?_
          refine .tail ?_
          exact .mid ((k + 1, s)) ⟨by dsimp only; omega, by dsimp only; omega, hb.skip (by omega) h45⟩ ⟨rfl, rfl, rfl, trivial⟩ rfl rfl (.pre 20 rfl (.app rfl .base))
        · skip
          first | replace h45 := of_decide_eq_true ((Bool.not_eq_false' _).mp h45) | replace h45 := of_decide_eq_true (by simpa using h45)
          refine .cond_false rfl <| .skip <| .go <| .seq ?_
          refine .draw [(c3, _)] mixed (.cons .here .nil) ?_
          refine .t 0 rfl (.move rfl) rfl rfl (by kernel_rfl) <| .t 1 rfl (.lss rfl rfl) rfl rfl (by kernel_rfl) <| .t 2 rfl (.move rfl) rfl rfl (by kernel_rfl) ?_
          refine .split 48 rfl (fun h48 => ?_) (fun h48 => ?_)
          · skip
            replace h48 := of_decide_eq_true h48
            refine .s 3 rfl rfl rfl (by kernel_rfl) <| .s 4 rfl rfl rfl (by kernel_rfl) <| .s 5 rfl rfl rfl (by kernel_rfl) <| .t 6 rfl (.pickT rfl rfl) rfl rfl (by kernel_rfl) <| .t 7 rfl (.move rfl) rfl rfl (by kernel_rfl) <| .s 8 rfl rfl rfl (by kernel_rfl) ?_
            refine .s 9 rfl rfl rfl (by kernel_rfl) <| .s 10 rfl rfl rfl (by kernel_rfl) <| .s 11 rfl rfl rfl (by kernel_rfl) <| .s 12 rfl rfl rfl (by kernel_rfl) <| .s 13 rfl rfl rfl (by kernel_rfl) <| .s 14 rfl rfl rfl (by kernel_rfl) ?_
            refine .s 15 rfl rfl rfl (by kernel_rfl) <| .s 16 rfl rfl rfl (by kernel_rfl) <| .s 17 rfl rfl rfl (by kernel_rfl) <| .s 18 rfl rfl rfl (by kernel_rfl) <| .s 19 rfl rfl rfl (by kernel_rfl) <| .s 20 rfl rfl rfl (by kernel_rfl) ?_
            refine .s 21 rfl rfl rfl (by kernel_rfl) <| .s 22 rfl rfl rfl (by kernel_rfl) <| .t 23 rfl (.pickT rfl rfl) rfl rfl (by kernel_rfl) <| .done (by kernel_rfl) <| .go <| .cond_true rfl ?_
            refine .region <| .e (.move rfl) rfl rfl <| .e (.move rfl) rfl rfl <| .e (.assign rfl) rfl rfl <| .e (.assign rfl) rfl rfl <| .nil ?_
            refine .blk_normal <| .go <| .region <| .e (.add rfl rfl (by first | exact wrap_succ (by omega) | exact IntWalk.i64_in _ (by omega) | exact rfl)) rfl rfl <| .e (.move rfl) rfl rfl <| .nil ?_
            refine .tail ?_
            exact .mid ((k + 1, ((k : Int), (scoreR t l[k]).1))) ⟨by dsimp only; omega, by dsimp only; omega, hb.take (by omega) h45 (by rw [betterB_ref, lodD (show k < l.length by omega)]; first | (simp [h48]; done) | (rw [lodD (show s.1.toNat < l.length by omega)]; simp [h48]; done))⟩ ⟨rfl, rfl, rfl, trivial⟩ rfl rfl (.pre 49 rfl (.app rfl .base))
          · skip
            replace h48 := of_decide_eq_false h48
            refine .t 3 rfl (.move rfl) rfl rfl (by kernel_rfl) <| .t 4 rfl (.move rfl) rfl rfl (by kernel_rfl) <| .t 5 rfl (.gtr rfl rfl) rfl rfl (by kernel_rfl) <| .t 6 rfl (.pickF rfl rfl) rfl rfl (by kernel_rfl) <| .t 7 rfl (.move rfl) rfl rfl (by kernel_rfl) ?_
            refine .split 53 rfl (fun h53 => ?_) (fun h53 => ?_)
            · skip
              replace h53 := of_decide_eq_true h53
              refine .s 8 rfl rfl rfl (by kernel_rfl) <| .s 9 rfl rfl rfl (by kernel_rfl) <| .s 10 rfl rfl rfl (by kernel_rfl) <| .s 11 rfl rfl rfl (by kernel_rfl) <| .s 12 rfl rfl rfl (by kernel_rfl) <| .s 13 rfl rfl rfl (by kernel_rfl) ?_
              refine .s 14 rfl rfl rfl (by kernel_rfl) <| .s 15 rfl rfl rfl (by kernel_rfl) <| .s 16 rfl rfl rfl (by kernel_rfl) <| .s 17 rfl rfl rfl (by kernel_rfl) <| .s 18 rfl rfl rfl (by kernel_rfl) <| .s 19 rfl rfl rfl (by kernel_rfl) ?_
              refine .s 20 rfl rfl rfl (by kernel_rfl) <| .s 21 rfl rfl rfl (by kernel_rfl) <| .s 22 rfl rfl rfl (by kernel_rfl) <| .t 23 rfl (.pickT rfl rfl) rfl rfl (by kernel_rfl) <| .done (by kernel_rfl) <| .go ?_
              refine .cond_true rfl <| .region <| .e (.move rfl) rfl rfl <| .e (.move rfl) rfl rfl <| .e (.assign rfl) rfl rfl <| .e (.assign rfl) rfl rfl ?_
              refine .nil <| .blk_normal <| .go <| .region <| .e (.add rfl rfl (by first | exact wrap_succ (by omega) | exact IntWalk.i64_in _ (by omega) | exact rfl)) rfl rfl <| .e (.move rfl) rfl rfl ?_
              refine .nil ?_
              refine .tail ?_
              exact .mid ((k + 1, ((k : Int), (scoreR t l[k]).1))) ⟨by dsimp only; omega, by dsimp only; omega, hb.take (by omega) h45 (by rw [betterB_ref, lodD (show k < l.length by omega)]; first | (simp [h48, h53]; done) | (rw [lodD (show s.1.toNat < l.length by omega)]; simp [h48, h53]; done))⟩ ⟨rfl, rfl, rfl, trivial⟩ rfl rfl (.pre 50 rfl (.app rfl .base))
            · skip
              replace h53 := of_decide_eq_false h53
              refine .t 8 rfl (.move rfl) rfl rfl (by kernel_rfl) <| .t 9 rfl (.move rfl) rfl rfl (by kernel_rfl) <| .t 10 rfl (.eql rfl rfl) rfl rfl (by kernel_rfl) <| .t 11 rfl (.move rfl) rfl rfl (by kernel_rfl) ?_
              refine .split 57 rfl (fun h57 => ?_) (fun h57 => ?_)
              · skip
                replace h57 := of_decide_eq_true h57
                refine .t 12 rfl (.fieldAddr fo29_0 rfl) rfl rfl (by kernel_rfl) <| .t 13 rfl (.fieldAddr fo27_0 rfl) rfl rfl (by kernel_rfl) <| .t 14 rfl (.load ag9 rfl .here rfl) rfl rfl (by kernel_rfl) <| .t 15 rfl (.move rfl) rfl rfl (by kernel_rfl) <| .t 16 rfl (.move rfl) rfl rfl (by kernel_rfl) ?_
                obtain ⟨eb63, eo63, cs63, hd63, hat63, hr63⟩ := SlR.at_ hl0 (k := s.1.toNat) (by omega)
                cases hd63
                have hx63 := hr63
                obtain ⟨xv63, yv63, rfl, hxv63, hyv63⟩ := hr63.ex
                obtain ⟨xa63, xc63, rfl, -⟩ := hxv63
                obtain ⟨ya63, yc63, rfl, -⟩ := hyv63
                refine .t 17 rfl (.indexAddrL sl36 rfl rfl (by omega) (by omega)) rfl rfl (by kernel_rfl) <| .t 18 rfl (.fieldAddr fo29_0 rfl) rfl rfl (by kernel_rfl) <| .t 19 rfl (.fieldAddr fo27_0 rfl) rfl rfl (by kernel_rfl) <| .t 20 rfl (.loadI ag9 rfl (hat63.cell (j := 0) rfl)) rfl rfl (by kernel_rfl) <| .t 21 rfl (.strlt rfl rfl) rfl rfl (by kernel_rfl) <| .t 22 rfl (.pickT rfl rfl) rfl rfl (by kernel_rfl) ?_
                refine .t 23 rfl (.pickF rfl rfl) rfl rfl (by kernel_rfl) <| .done (by kernel_rfl) <| .go ?_
                refine .split 69 rfl (fun h69 => ?_) (fun h69 => ?_)
                · skip
                  refine .cond_true rfl <| .region <| .e (.move rfl) rfl rfl <| .e (.move rfl) rfl rfl <| .e (.assign rfl) rfl rfl <| .e (.assign rfl) rfl rfl ?_
                  refine .nil <| .blk_normal <| .go <| .region <| .e (.add rfl rfl (by first | exact wrap_succ (by omega) | exact IntWalk.i64_in _ (by omega) | exact rfl)) rfl rfl <| .e (.move rfl) rfl rfl ?_
                  refine .nil ?_
                  refine .tail ?_
                  exact .mid ((k + 1, ((k : Int), (scoreR t l[k]).1))) ⟨by dsimp only; omega, by dsimp only; omega, hb.take (by omega) h45 (by rw [betterB_ref, lodD (show k < l.length by omega)]; first | (simp [h48, h53, h57, h69]; done) | (rw [lodD (show s.1.toNat < l.length by omega)]; simp [h48, h53, h57, h69]; done))⟩ ⟨rfl, rfl, rfl, trivial⟩ rfl rfl (.pre 52 rfl (.app rfl .base))
                · skip
                  refine .cond_false rfl <| .skip <| .blk_normal <| .go <| .region <| .e (.add rfl rfl (by first | exact wrap_succ (by omega) | exact IntWalk.i64_in _ (by omega) | exact rfl)) rfl rfl ?_
                  refine .e (.move rfl) rfl rfl <| .nil ?_
                  refine .tail ?_
                  exact .mid ((k + 1, s)) ⟨by dsimp only; omega, by dsimp only; omega, hb.stay (by omega) h45 (by rw [betterB_ref, lodD (show k < l.length by omega)]; first | (simp [h48, h53, h57, h69]; done) | (rw [lodD (show s.1.toNat < l.length by omega)]; simp [h48, h53, h57, h69]; done))⟩ ⟨rfl, rfl, rfl, trivial⟩ rfl rfl (.pre 48 rfl (.app rfl .base))
              · skip
                replace h57 := of_decide_eq_false h57
                refine .s 12 rfl rfl rfl (by kernel_rfl) <| .s 13 rfl rfl rfl (by kernel_rfl) <| .s 14 rfl rfl rfl (by kernel_rfl) <| .s 15 rfl rfl rfl (by kernel_rfl) <| .s 16 rfl rfl rfl (by kernel_rfl) <| .s 17 rfl rfl rfl (by kernel_rfl) ?_
                refine .s 18 rfl rfl rfl (by kernel_rfl) <| .s 19 rfl rfl rfl (by kernel_rfl) <| .s 20 rfl rfl rfl (by kernel_rfl) <| .s 21 rfl rfl rfl (by kernel_rfl) <| .t 22 rfl (.pickF rfl rfl) rfl rfl (by kernel_rfl) <| .t 23 rfl (.pickF rfl rfl) rfl rfl (by kernel_rfl) ?_
                refine .done (by kernel_rfl) <| .go <| .cond_false rfl <| .skip <| .blk_normal <| .go ?_
                refine .region <| .e (.add rfl rfl (by first | exact wrap_succ (by omega) | exact IntWalk.i64_in _ (by omega) | exact rfl)) rfl rfl <| .e (.move rfl) rfl rfl <| .nil ?_
                refine .tail ?_
                exact .mid ((k + 1, s)) ⟨by dsimp only; omega, by dsimp only; omega, hb.stay (by omega) h45 (by rw [betterB_ref, lodD (show k < l.length by omega)]; first | (simp [h48, h53, h57]; done) | (rw [lodD (show s.1.toNat < l.length by omega)]; simp [h48, h53, h57]; done))⟩ ⟨rfl, rfl, rfl, trivial⟩ rfl rfl (.pre 47 rfl (.app rfl .base))
      · skip
        replace h34 := of_decide_eq_false h34
        refine .cond_false rfl <| .exit <| .exit <| .exit <| .blk_exit <| .go ?_
        refine .seq <| .seq <| .region <| .e (.move rfl) rfl rfl <| .e (.lss rfl rfl) rfl rfl <| .nil ?_
        refine .go ?_
        refine .split 74 rfl (fun h74 => ?_) (fun h74 => ?_)
        · skip
          replace h74 := of_decide_eq_true h74
          refine .cond_true rfl <| .seq <| .region <| .e (.assign rfl) rfl rfl <| .e (.assign rfl) rfl rfl <| .nil ?_
          refine .go <| .ret <| .ret ?_
          refine Post.retsE rfl (.tmp rfl (.tmp rfl .nil)) rfl (fun w h => h.tail) ?_
          exact pairV_eq (bestR_none (j := j) (by omega) h29 (k := k) (by omega) hb h74)
        · skip
          replace h74 := of_decide_eq_false h74
          refine .cond_false rfl <| .skip <| .go <| .seq <| .region <| .e (.move rfl) rfl rfl ?_
          refine .e (.assign rfl) rfl rfl <| .e (.assign rfl) rfl rfl <| .nil <| .go <| .ret ?_
          refine Post.retsE rfl (.tmp rfl (.tmp rfl .nil)) rfl (fun w h => h.tail) ?_
          exact pairV_eq (bestR_some (j := j) (by omega) h29 (k := k) (by omega) hb h74)

end Go.Proofs.YtdcblbcidjldmaaDoor
