/- Walks of functions over a symbolic memory, printed by a program of the session. -/
import Derived.Test.YtmmokaockpghaaaGreatDoorSa
import Derived.Test.YtmmokaockpghaaaGreatDoorRa
import Derived.Test.YtmmokaockpghaaaGreatDoorSe
import Derived.Test.YtmmokaockpghaaaGreatDoorBv
namespace Go.Proofs.YtmmokaockpghaaaGreatDoor
open Go.Sy
set_option linter.unusedSimpArgs false
set_option linter.unusedVariables false

set_option maxHeartbeats 4000000 in
set_option maxRecDepth 20000 in
theorem rBest_ok {I : Imm} {O : Own} {tc : List Value} {t : Tsk} (ht : TskR I tc t) {v : Value} {l : List Lod} (hl : LodsR I v l) :
  Pure Tryz.prog 133 [.agg ⟨tc⟩, v] I O (pairV (bestR t l)) := by
 have ht0 := ht
 obtain ⟨tw, tb, rfl, htw, htb⟩ := ht.ex
 have htw0 := htw
 obtain ⟨wa, wcap, rfl, hw1, hw2, -⟩ := htw
 have htb0 := htb
 obtain ⟨ba, bcap, rfl, hb1, hb2, -⟩ := htb
 have hl0 := hl
 obtain ⟨la, lcap, rfl, hl1, hl2, -⟩ := hl
 refine Go.Sy.Does.enter Tryz.func133 rfl Tryz.ntmps133 rfl ?_
 refine .seq <| .region <| .on rfl <| .box rfl rfl rfl fun c1 _ _ => .a rfl <| .a rfl <| .nil ?_
 refine .go <| .seq <| .region <| .f (.loadW ag42 sz42 rfl .here rfl) <| .on rfl <| .callP cal157 rfl rfl rfl (rCheckTask_ok ht0) <| .a rfl ?_
 refine .nil <| .go <| .seq <| .seq <| .region <| .m rfl ?_
 refine .f (.len sl31 rfl rfl) <| .m rfl <| .nil <| .go <| .block ?_
 refine .loopM [6, 8, 19, 20, 21, 22, 23, 24, 25, 26, 27] (fun j => l.length - j) (fun j => j ≤ l.length) (fun j => [(19, .int .i64 j), (6, .int .i64 (whyTo t l j))]) (fun _ => _) (fun _ => _) (0) (by omega) ⟨rfl, rfl, trivial⟩ rfl rfl ?_
 intro j hj
 refine .seq <| .region <| .f (.lss rfl rfl) <| .nil <| .go <| .seq ?_
 refine .sd 20 rfl (fun h20 => ?_) (fun h20 => ?_)
 ·
  refine .cond_true rfl <| .skip <| .go <| .seq <| .block <| .seq ?_
  refine .region ?_
  obtain ⟨eb21, eo21, cs21, hd21, hat21, hr21⟩ := SlR.at_ hl0 (k := j) (by omega)
  cases hd21
  have hx21 := hr21
  obtain ⟨xv21, yv21, rfl, hxv21, hyv21⟩ := hr21.ex
  obtain ⟨xa21, xc21, rfl, -⟩ := hxv21
  obtain ⟨ya21, yc21, rfl, -⟩ := hyv21
  refine .f (.indexAddrL sl31 rfl rfl rfl (by omega)) <| .f (.loadIA ag47 sz47 rfl hat21 rfl) <| .on rfl <| .alloc zr47 rfl fun c2 _ _ => .on rfl <| .storeW sz47 rfl rfl rfl rfl rfl rfl .here <| .nil <| .go ?_
  refine .seq <| .region <| .m rfl <| .f (.eql rfl rfl) <| .nil <| .go ?_
  refine .sd 24 rfl (fun h24 => ?_) (fun h24 => ?_)
  ·
   refine .cond_true rfl <| .region <| .f (.loadW ag47 sz47 rfl .here rfl) <| .on rfl <| .callP cal179 rfl rfl rfl (rCheck_ok hx21) <| .a rfl <| .nil ?_
   refine .blk_normal <| .go <| .region <| .f (.add rfl rfl (by first | exact wrap_succ (by omega) | exact IntWalk.i64_in _ (by omega) | exact rfl)) <| .m rfl <| .nil ?_
   refine .tail ?_
   have e6 := whyTo_succ (t := t) (l := l) (k := j) (by omega)
   exact .mid (j + 1) ⟨by omega, by omega⟩ ⟨rfl, (by show some _ = some _; rw [e6, or_right h24]), trivial⟩ rfl rfl (.pre 13 rfl (.app rfl .base))
  ·
   refine .cond_false rfl <| .skip <| .blk_normal <| .go <| .region <| .f (.add rfl rfl (by first | exact wrap_succ (by omega) | exact IntWalk.i64_in _ (by omega) | exact rfl)) ?_
   refine .m rfl <| .nil ?_
   refine .tail ?_
   have e6 := whyTo_succ (t := t) (l := l) (k := j) (by omega)
   exact .mid (j + 1) ⟨by omega, by omega⟩ ⟨rfl, (by show some _ = some _; rw [e6, or_left h24]), trivial⟩ rfl rfl (.pre 10 rfl (.app rfl .base))
 ·
  refine .cond_false rfl <| .exit <| .exit <| .exit <| .blk_exit <| .go ?_
  refine .seq <| .seq <| .region <| .m rfl <| .f (.neq rfl rfl) <| .nil ?_
  refine .go ?_
  refine .split 29 rfl (fun h29 => ?_) (fun h29 => ?_)
  ·
   first | replace h29 := of_decide_eq_false ((Bool.not_eq_true' _).mp h29) | replace h29 := of_decide_eq_false (by simpa using h29)
   refine .cond_true rfl <| .seq <| .region <| .m rfl <| .a rfl <| .a rfl ?_
   refine .nil <| .go <| .ret <| .ret ?_
   refine Post.retsE rfl (.tmp rfl (.tmp rfl .nil)) rfl (fun w h => h.tail) ?_
   exact pairV_eq (bestR_why (by omega) h29)
  ·
   first | replace h29 := of_decide_eq_true ((Bool.not_eq_false' _).mp h29) | replace h29 := of_decide_eq_true (by simpa using h29)
   refine .cond_false rfl <| .skip <| .go <| .seq <| .region <| .a rfl ?_
   refine .a rfl <| .nil <| .go <| .seq <| .seq <| .region ?_
   refine .m rfl <| .f (.len sl31 rfl rfl) <| .m rfl <| .nil <| .go <| .block ?_
   refine .loopM [9, 10, 11, 12, 13, 14, 33, 34, 35, 36, 37, 38, 39, 40, 41, 42, 43, 44, 45, 46, 47, 48, 49, 50, 51, 52, 53, 54, 55, 56, 57, 58, 59, 60, 61, 62, 63, 64, 65, 66, 67, 68, 69, 70, 71, 72] (fun s => l.length - s.1) (fun s => s.1 ≤ l.length ∧ Binv t l s.1 s.2) (fun s => [(33, .int .i64 s.1), (9, .int .i64 s.2.1), (10, .int .i64 s.2.2)]) (fun _ => _) (fun _ => _) (((0, (-1, 0)) : Nat × (Int × Int))) ⟨by omega, Binv.zero⟩ ⟨rfl, rfl, rfl, trivial⟩ rfl rfl ?_
   intro ⟨k, s⟩ hk
   dsimp only at hk ⊢
   obtain ⟨hk, hb⟩ := hk
   have hb1 := hb.2
   refine .seq <| .region <| .f (.lss rfl rfl) <| .nil <| .go <| .seq ?_
   refine .sd 34 rfl (fun h34 => ?_) (fun h34 => ?_)
   ·
    refine .cond_true rfl <| .skip <| .go <| .seq <| .block <| .seq ?_
    refine .region <| .m rfl ?_
    obtain ⟨eb36, eo36, cs36, hd36, hat36, hr36⟩ := SlR.at_ hl0 (k := k) (by omega)
    cases hd36
    have hx36 := hr36
    obtain ⟨xv36, yv36, rfl, hxv36, hyv36⟩ := hr36.ex
    obtain ⟨xa36, xc36, rfl, -⟩ := hxv36
    obtain ⟨ya36, yc36, rfl, -⟩ := hyv36
    refine .f (.indexAddrL sl31 rfl rfl rfl (by omega)) <| .f (.loadIA ag47 sz47 rfl hat36 rfl) <| .on rfl <| .alloc zr47 rfl fun c3 _ _ => .a rfl <| .on rfl <| .storeW sz47 rfl rfl rfl rfl rfl rfl .here <| .nil ?_
    refine .go <| .seq <| .region <| .f (.loadW ag42 sz42 rfl (.there <| .here) rfl) <| .f (.loadW ag47 sz47 rfl .here rfl) <| .on rfl <| .callP cal180 rfl rfl rfl (rScore_ok ht0 hx36) ?_
    refine .m rfl <| .f (.extract rfl rfl) <| .f (.extract rfl rfl) <| .a rfl <| .a rfl <| .nil ?_
    refine .go <| .seq <| .seq <| .region <| .m rfl <| .f (.neq rfl rfl) ?_
    refine .nil <| .go ?_
    refine .split 45 rfl (fun h45 => ?_) (fun h45 => ?_)
    ·
     first | replace h45 := of_decide_eq_false ((Bool.not_eq_true' _).mp h45) | replace h45 := of_decide_eq_false (by simpa using h45)
     refine .cond_true rfl <| .exit <| .exit <| .blk_exit <| .go <| .region ?_
     refine .f (.add rfl rfl (by first | exact wrap_succ (by omega) | exact IntWalk.i64_in _ (by omega) | exact rfl)) <| .m rfl <| .nil ?_
     refine .tail ?_
     exact .mid ((k + 1, s)) ⟨by dsimp only; omega, by dsimp only; omega, hb.skip (by omega) h45⟩ ⟨rfl, rfl, rfl, trivial⟩ rfl rfl (.pre 20 rfl (.app rfl .base))
    ·
     first | replace h45 := of_decide_eq_true ((Bool.not_eq_false' _).mp h45) | replace h45 := of_decide_eq_true (by simpa using h45)
     refine .cond_false rfl <| .skip <| .go <| .seq ?_
     refine .draw [(c3, _)] mixed (.cons .here .nil) ?_
     refine .u 0 rfl (.move rfl) <| .u 1 rfl (.lss rfl rfl) <| .u 2 rfl (.move rfl) ?_
     refine .sd 48 rfl (fun h48 => ?_) (fun h48 => ?_)
     ·
      refine .s 3 rfl rfl rfl (by kernel_rfl) <| .s 4 rfl rfl rfl (by kernel_rfl) <| .s 5 rfl rfl rfl (by kernel_rfl) <| .u 6 rfl (.pickT rfl rfl) <| .u 7 rfl (.move rfl) <| .s 8 rfl rfl rfl (by kernel_rfl) ?_
      refine .s 9 rfl rfl rfl (by kernel_rfl) <| .s 10 rfl rfl rfl (by kernel_rfl) <| .s 11 rfl rfl rfl (by kernel_rfl) <| .s 12 rfl rfl rfl (by kernel_rfl) <| .s 13 rfl rfl rfl (by kernel_rfl) <| .s 14 rfl rfl rfl (by kernel_rfl) ?_
      refine .s 15 rfl rfl rfl (by kernel_rfl) <| .s 16 rfl rfl rfl (by kernel_rfl) <| .s 17 rfl rfl rfl (by kernel_rfl) <| .s 18 rfl rfl rfl (by kernel_rfl) <| .s 19 rfl rfl rfl (by kernel_rfl) <| .s 20 rfl rfl rfl (by kernel_rfl) ?_
      refine .s 21 rfl rfl rfl (by kernel_rfl) <| .s 22 rfl rfl rfl (by kernel_rfl) <| .u 23 rfl (.pickT rfl rfl) <| .done (by kernel_rfl) <| .go <| .cond_true rfl ?_
      refine .region <| .m rfl <| .m rfl <| .a rfl <| .a rfl <| .nil ?_
      refine .blk_normal <| .go <| .region <| .f (.add rfl rfl (by first | exact wrap_succ (by omega) | exact IntWalk.i64_in _ (by omega) | exact rfl)) <| .m rfl <| .nil ?_
      refine .tail ?_
      exact .mid ((k + 1, ((k : Int), (scoreR t l[k]).1))) ⟨by dsimp only; omega, by dsimp only; omega, hb.take (by omega) h45 (by rw [betterB_ref, lodD (show k < l.length by omega)]; first | (simp [h48]; done) | (rw [lodD (show s.1.toNat < l.length by omega)]; simp [h48]; done))⟩ ⟨rfl, rfl, rfl, trivial⟩ rfl rfl (.pre 49 rfl (.app rfl .base))
     ·
      refine .u 3 rfl (.move rfl) <| .u 4 rfl (.move rfl) <| .u 5 rfl (.gtr rfl rfl) <| .u 6 rfl (.pickF rfl rfl) <| .u 7 rfl (.move rfl) ?_
      refine .sd 53 rfl (fun h53 => ?_) (fun h53 => ?_)
      ·
       refine .s 8 rfl rfl rfl (by kernel_rfl) <| .s 9 rfl rfl rfl (by kernel_rfl) <| .s 10 rfl rfl rfl (by kernel_rfl) <| .s 11 rfl rfl rfl (by kernel_rfl) <| .s 12 rfl rfl rfl (by kernel_rfl) <| .s 13 rfl rfl rfl (by kernel_rfl) ?_
       refine .s 14 rfl rfl rfl (by kernel_rfl) <| .s 15 rfl rfl rfl (by kernel_rfl) <| .s 16 rfl rfl rfl (by kernel_rfl) <| .s 17 rfl rfl rfl (by kernel_rfl) <| .s 18 rfl rfl rfl (by kernel_rfl) <| .s 19 rfl rfl rfl (by kernel_rfl) ?_
       refine .s 20 rfl rfl rfl (by kernel_rfl) <| .s 21 rfl rfl rfl (by kernel_rfl) <| .s 22 rfl rfl rfl (by kernel_rfl) <| .u 23 rfl (.pickT rfl rfl) <| .done (by kernel_rfl) <| .go ?_
       refine .cond_true rfl <| .region <| .m rfl <| .m rfl <| .a rfl <| .a rfl ?_
       refine .nil <| .blk_normal <| .go <| .region <| .f (.add rfl rfl (by first | exact wrap_succ (by omega) | exact IntWalk.i64_in _ (by omega) | exact rfl)) <| .m rfl ?_
       refine .nil ?_
       refine .tail ?_
       exact .mid ((k + 1, ((k : Int), (scoreR t l[k]).1))) ⟨by dsimp only; omega, by dsimp only; omega, hb.take (by omega) h45 (by rw [betterB_ref, lodD (show k < l.length by omega)]; first | (simp [h48, h53]; done) | (rw [lodD (show s.1.toNat < l.length by omega)]; simp [h48, h53]; done))⟩ ⟨rfl, rfl, rfl, trivial⟩ rfl rfl (.pre 50 rfl (.app rfl .base))
      ·
       refine .u 8 rfl (.move rfl) <| .u 9 rfl (.move rfl) <| .u 10 rfl (.eql rfl rfl) <| .u 11 rfl (.move rfl) ?_
       refine .sd 57 rfl (fun h57 => ?_) (fun h57 => ?_)
       ·
        refine .u 12 rfl (.fieldAddr fo47_0 rfl) <| .u 13 rfl (.fieldAddr fo45_0 rfl) <| .u 14 rfl (.load ag9 rfl .here rfl) <| .u 15 rfl (.move rfl) <| .u 16 rfl (.move rfl) ?_
        obtain ⟨eb63, eo63, cs63, hd63, hat63, hr63⟩ := SlR.at_ hl0 (k := s.1.toNat) (by omega)
        cases hd63
        have hx63 := hr63
        obtain ⟨xv63, yv63, rfl, hxv63, hyv63⟩ := hr63.ex
        obtain ⟨xa63, xc63, rfl, -⟩ := hxv63
        obtain ⟨ya63, yc63, rfl, -⟩ := hyv63
        refine .u 17 rfl (.indexAddrL sl31 rfl rfl (by omega) (by omega)) <| .u 18 rfl (.fieldAddr fo47_0 rfl) <| .u 19 rfl (.fieldAddr fo45_0 rfl) <| .u 20 rfl (.loadI ag9 rfl (hat63.cell (j := 0) rfl)) <| .u 21 rfl (.strlt rfl rfl) <| .u 22 rfl (.pickT rfl rfl) ?_
        refine .u 23 rfl (.pickF rfl rfl) <| .done (by kernel_rfl) <| .go ?_
        refine .split 69 rfl (fun h69 => ?_) (fun h69 => ?_)
        ·
         refine .cond_true rfl <| .region <| .m rfl <| .m rfl <| .a rfl <| .a rfl ?_
         refine .nil <| .blk_normal <| .go <| .region <| .f (.add rfl rfl (by first | exact wrap_succ (by omega) | exact IntWalk.i64_in _ (by omega) | exact rfl)) <| .m rfl ?_
         refine .nil ?_
         refine .tail ?_
         exact .mid ((k + 1, ((k : Int), (scoreR t l[k]).1))) ⟨by dsimp only; omega, by dsimp only; omega, hb.take (by omega) h45 (by rw [betterB_ref, lodD (show k < l.length by omega)]; first | (simp [h48, h53, h57, h69]; done) | (rw [lodD (show s.1.toNat < l.length by omega)]; simp [h48, h53, h57, h69]; done))⟩ ⟨rfl, rfl, rfl, trivial⟩ rfl rfl (.pre 52 rfl (.app rfl .base))
        ·
         refine .cond_false rfl <| .skip <| .blk_normal <| .go <| .region <| .f (.add rfl rfl (by first | exact wrap_succ (by omega) | exact IntWalk.i64_in _ (by omega) | exact rfl)) ?_
         refine .m rfl <| .nil ?_
         refine .tail ?_
         exact .mid ((k + 1, s)) ⟨by dsimp only; omega, by dsimp only; omega, hb.stay (by omega) h45 (by rw [betterB_ref, lodD (show k < l.length by omega)]; first | (simp [h48, h53, h57, h69]; done) | (rw [lodD (show s.1.toNat < l.length by omega)]; simp [h48, h53, h57, h69]; done))⟩ ⟨rfl, rfl, rfl, trivial⟩ rfl rfl (.pre 48 rfl (.app rfl .base))
       ·
        refine .s 12 rfl rfl rfl (by kernel_rfl) <| .s 13 rfl rfl rfl (by kernel_rfl) <| .s 14 rfl rfl rfl (by kernel_rfl) <| .s 15 rfl rfl rfl (by kernel_rfl) <| .s 16 rfl rfl rfl (by kernel_rfl) <| .s 17 rfl rfl rfl (by kernel_rfl) ?_
        refine .s 18 rfl rfl rfl (by kernel_rfl) <| .s 19 rfl rfl rfl (by kernel_rfl) <| .s 20 rfl rfl rfl (by kernel_rfl) <| .s 21 rfl rfl rfl (by kernel_rfl) <| .u 22 rfl (.pickF rfl rfl) <| .u 23 rfl (.pickF rfl rfl) ?_
        refine .done (by kernel_rfl) <| .go <| .cond_false rfl <| .skip <| .blk_normal <| .go ?_
        refine .region <| .f (.add rfl rfl (by first | exact wrap_succ (by omega) | exact IntWalk.i64_in _ (by omega) | exact rfl)) <| .m rfl <| .nil ?_
        refine .tail ?_
        exact .mid ((k + 1, s)) ⟨by dsimp only; omega, by dsimp only; omega, hb.stay (by omega) h45 (by rw [betterB_ref, lodD (show k < l.length by omega)]; first | (simp [h48, h53, h57]; done) | (rw [lodD (show s.1.toNat < l.length by omega)]; simp [h48, h53, h57]; done))⟩ ⟨rfl, rfl, rfl, trivial⟩ rfl rfl (.pre 47 rfl (.app rfl .base))
   ·
    refine .cond_false rfl <| .exit <| .exit <| .exit <| .blk_exit <| .go ?_
    refine .seq <| .seq <| .region <| .m rfl <| .f (.lss rfl rfl) <| .nil ?_
    refine .go ?_
    refine .sd 74 rfl (fun h74 => ?_) (fun h74 => ?_)
    ·
     refine .cond_true rfl <| .seq <| .region <| .a rfl <| .a rfl <| .nil ?_
     refine .go <| .ret <| .ret ?_
     refine Post.retsE rfl (.tmp rfl (.tmp rfl .nil)) rfl (fun w h => h.tail) ?_
     exact pairV_eq (bestR_none (j := j) (by omega) h29 (k := k) (by omega) hb h74)
    ·
     refine .cond_false rfl <| .skip <| .go <| .seq <| .region <| .m rfl ?_
     refine .a rfl <| .a rfl <| .nil <| .go <| .ret ?_
     refine Post.retsE rfl (.tmp rfl (.tmp rfl .nil)) rfl (fun w h => h.tail) ?_
     exact pairV_eq (bestR_some (j := j) (by omega) h29 (k := k) (by omega) hb h74)

end Go.Proofs.YtmmokaockpghaaaGreatDoor

namespace Go.Proofs.YtmmokaockpghaaaGreatDoor
open Go.Sy
set_option linter.unusedSimpArgs false
set_option linter.unusedVariables false

def candTo (b : Bk) (s : ByteArray) (k : Nat) : List Lod := ((loadsR b).take k).filter fun x => decide (canA b s x.node.name = 0)
theorem candTo_step {b : Bk} {s : ByteArray} {k : Nat} (hk : k < (loadsR b).length) : candTo b s (k + 1) = if canA b s (loadsR b)[k].node.name = 0 then candTo b s k ++ [(loadsR b)[k]] else candTo b s k := by
  unfold candTo
  rw [List.take_succ_eq_append_getElem hk, List.filter_append]
  split <;> rename_i h <;> simp [h]
theorem candTo_len {b : Bk} {s : ByteArray} {k : Nat} : (candTo b s k).length ≤ k := by
  unfold candTo
  have := List.length_filter_le (fun x : Lod => decide (canA b s x.node.name = 0)) ((loadsR b).take k)
  rw [List.length_take] at this; omega
theorem candTo_end {b : Bk} {s : ByteArray} {k : Nat} (hk : (loadsR b).length ≤ k) : candTo b s k = candL b s := by unfold candTo candL; rw [List.take_of_length_le hk]
theorem targ_no' {b : Bk} {t : Tsk} (h : ¬(bestR t (candL b t.name)).2 = 0) : Value.string ⟨#[]⟩ = .string ((targetR b t).getD ⟨#[]⟩) := by
  unfold targetR; rw [if_neg h]; rfl
theorem targ_yes' {b : Bk} {t : Tsk} {j : Nat} (h : (bestR t (candL b t.name)).2 = 0) (hj : (bestR t (candL b t.name)).1 = (j : Int)) (hl : j < (candL b t.name).length) : Value.string (candL b t.name)[j].node.name = .string ((targetR b t).getD ⟨#[]⟩) := by
  unfold targetR; rw [if_pos h, hj, Int.toNat_natCast, lodD hl]; rfl
theorem targ_ne {b : Bk} (h : BookOk b) {t : Tsk} : (targetR b t).getD ⟨#[]⟩ = ⟨#[]⟩ ↔ targetR b t = none := by
  constructor
  · intro h0
    cases e : targetR b t with
    | none => rfl
    | some on =>
      rw [e] at h0
      have h1 : on = ⟨#[]⟩ := h0
      have hc := target_can e
      obtain ⟨_, hc2⟩ := can_in hc
      obtain ⟨t', n', g1, g2, _⟩ := can_zero hc2
      have g := (find_iff h.rn).1 g2
      have hw := h.nod n' g.1
      unfold nodWhy at hw
      split at hw
      · cases hw
      · rename_i k1
        have k2 : isName n'.name = true := by simpa using k1
        unfold isName at k2
        rw [g.2, h1] at k2
        simp at k2
  · intro h0; rw [h0]; rfl

set_option maxHeartbeats 8000000 in
set_option maxRecDepth 20000 in
theorem rtarg_ok {I : Imm} {O : Own} {kc : List Value} {b : Bk} (hk : BkR I kc b) {tc : List Value} {t : Tsk} (hok : BookOk b) (ht : TskR I tc t) :
  Go.Sy.Does Tryz.prog 81 [.agg ⟨kc⟩, .agg ⟨tc⟩] I O (fun u I' O' => u = .string ((targetR b t).getD ⟨#[]⟩) ∧ O' = O) := by
 have hk0 := hk
 obtain ⟨nv, tv, bv, rfl, hnv, htv, hbv⟩ := hk.ex
 have hnv0 := hnv
 have htv0 := htv
 have hbv0 := hbv
 obtain ⟨na, ncap, rfl, hn1, hn2, -⟩ := hnv
 obtain ⟨ta, tcap, rfl, ht1, ht2, -⟩ := htv
 obtain ⟨ba, bcap, rfl, hb1, hb2, -⟩ := hbv
 have ht0 := ht
 obtain ⟨tw, tb, rfl, htw, htb⟩ := ht.ex
 have htw0 := htw
 obtain ⟨wa, wcap, rfl, hw1, hw2, -⟩ := htw
 have htb0 := htb
 obtain ⟨ba, bcap, rfl, hb1, hb2, -⟩ := htb
 refine Go.Sy.Does.enter Tryz.func81 rfl Tryz.ntmps81 rfl ?_
 refine .seq <| .region <| .on rfl <| .box rfl rfl rfl fun c1 _ _ => .on rfl <| .box rfl rfl rfl fun c2 _ _ => .a rfl <| .nil ?_
 refine .go <| .seq <| .region <| .f (.loadW ag27 sz27 rfl (.there <| .here) rfl) <| .on rfl <| .call cal17 rfl rfl rfl (rloadsF hk0) fun v14 I14 O14 hI14 hK14 => ?_
 rw [show loadsQ b = (loadsR b, 0) by unfold loadsQ; rw [if_pos hok.to]] at hK14
 dsimp only at hK14
 obtain ⟨rfl, u14, rfl, hl14⟩ := hK14
 have hl140 := hl14
 obtain ⟨la14, lc14, rfl, hl141, hl142, -⟩ := hl14
 have hll : (loadsR b).length ≤ 16 := by rw [loads_len]; exact hok.nodes
 refine .m rfl <| .f (.extract rfl rfl) <| .f (.extract rfl rfl) <| .a rfl <| .a rfl <| .nil ?_
 refine .go <| .seq <| .region <| .a rfl <| .nil <| .go ?_
 refine .seq <| .seq <| .region <| .m rfl <| .f (.len sl31 rfl rfl) <| .m rfl ?_
 refine .nil <| .go <| .block ?_
 refine .loopM [7, 9, 19, 20, 21, 22, 23, 24, 25, 26, 27, 28, 29, 30, 31, 32, 33, 34, 35] (fun s => (loadsR b).length - s.1) (fun s => s.1 ≤ (loadsR b).length ∧ OwnS 9 s.2.1 (candTo b t.name s.1).length s.2.2.1 s.2.2.2 ∧ DR LodR 9 I14 s.2.2.1 (candTo b t.name s.1)) (fun s => [(19, .int .i64 s.1), (7, s.2.1)]) (fun _ => _) (fun s => s.2.2.2 ++ _) (((0, .slice none 0 0, [], []) : Nat × Value × List Value × Own)) ⟨Nat.zero_le _, OwnS.nil, DR.nil⟩ ⟨rfl, rfl, trivial⟩ rfl rfl ?_
 intro ⟨k, vL, wsL, obL⟩ hk
 dsimp only at hk ⊢
 obtain ⟨hkk, hoL, hdL⟩ := hk
 obtain ⟨adL, capL, rfl⟩ := hoL.form
 have hcl := candTo_len (b := b) (s := t.name) (k := k)
 refine .seq <| .region <| .f (.lss rfl rfl) <| .nil <| .go <| .seq ?_
 refine .sd 20 rfl (fun h20 => ?_) (fun h20 => ?_)
 ·
  refine .cond_true rfl <| .skip <| .go <| .seq <| .block <| .seq ?_
  refine .region ?_
  obtain ⟨eb21, eo21, cs21, hd21, hat21, hr21⟩ := SlR.at_ hl140 (k := k) (by omega)
  cases hd21
  have hx21 := hr21
  obtain ⟨xv21, yv21, rfl, hxv21, hyv21⟩ := hr21.ex
  obtain ⟨xa21, xc21, rfl, -⟩ := hxv21
  obtain ⟨ya21, yc21, rfl, -⟩ := hyv21
  refine .f (.indexAddrL sl31 rfl rfl rfl (by omega)) <| .f (.loadIA ag47 sz47 rfl hat21 rfl) <| .on rfl <| .alloc zr47 rfl fun c3 _ _ => .on rfl <| .storeW sz47 rfl rfl rfl rfl rfl rfl .here <| .nil <| .go ?_
  refine .seq <| .region <| .f (.loadW ag27 sz27 rfl (.there <| .app <| .there <| .here) rfl) <| .f (.fieldAddr fo42_0 rfl) <| .f (.load ag9 rfl (.there <| .app <| .here) rfl) <| .f (.fieldAddr fo47_0 rfl) ?_
  refine .f (.fieldAddr fo45_0 rfl) <| .f (.load ag9 rfl .here rfl) <| .on rfl <| .callP cal53 rfl rfl rfl (rbCan_ok (hk0.mono hI14)) <| .f (.eql rfl rfl) <| .nil <| .go ?_
  refine .sd 30 rfl (fun h30 => ?_) (fun h30 => ?_)
  ·
   refine .cond_true rfl <| .region <| .m rfl <| .f (.loadW ag47 sz47 rfl .here rfl) <| .on rfl <| .buildSlice Tryz.underlying31 sz47 (by decide) (by decide) zv47 rfl rfl rfl rfl rfl fun c4 _ _ => .on rfl <| .append Tryz.underlying31 Tryz.underlying31 sz47 by47 zv47 rfl rfl rfl (.there <| .there <| .front) hoL ((OwnS.made (k := 9) rfl (by decide)).src (I := _) .here) rfl rfl (by omega) (by omega) rfl fun v34 ob34 ho34 => ?_
   refine .a rfl <| .nil <| .blk_normal <| .go <| .region <| .f (.add rfl rfl (by first | exact wrap_succ (by omega) | exact IntWalk.i64_in _ (by omega) | exact rfl)) ?_
   refine .m rfl <| .nil ?_
   refine .front1 (.app <| .here) ?_
   refine .tail ?_
   refine .front1 (.app <| .here) ?_
   refine .tail ?_
   have e5 := candTo_step (b := b) (s := t.name) (k := k) (by omega)
   rw [if_pos h30] at e5
   have e6 : (candTo b t.name (k + 1)).length = (candTo b t.name k).length + 1 := by rw [e5, List.length_append]; rfl
   exact .mid ((k + 1, _, _, _)) ⟨by dsimp only; omega, by dsimp only; omega, by dsimp only; rw [e6]; exact ho34, (by dsimp only; rw [e5]; exact hdL.append (DR.single rfl hx21))⟩ ⟨rfl, rfl, trivial⟩ rfl rfl (.pre 21 rfl (.app rfl .base))
  ·
   refine .cond_false rfl <| .skip <| .blk_normal <| .go <| .region <| .f (.add rfl rfl (by first | exact wrap_succ (by omega) | exact IntWalk.i64_in _ (by omega) | exact rfl)) ?_
   refine .m rfl <| .nil ?_
   refine .tail ?_
   have e5 := candTo_step (b := b) (s := t.name) (k := k) (by omega)
   rw [if_neg h30] at e5
   exact .mid ((k + 1, _, wsL, obL)) ⟨by dsimp only; omega, by dsimp only; omega, by dsimp only; rw [e5]; exact hoL, by dsimp only; rw [e5]; exact hdL⟩ ⟨rfl, rfl, trivial⟩ rfl rfl (.pre 16 rfl (.app rfl .base))
 ·
  refine .cond_false rfl <| .exit <| .exit <| .exit <| .blk_exit <| .go ?_
  refine .seq <| .region ?_
  refine .freezeS hoL fun K hK hKs => ?_
  have ek : (loadsR b).length ≤ k := by omega
  have eck := candTo_end (b := b) (s := t.name) ek
  rw [eck] at hKs hdL ⊢
  have hlK : LodsR K _ (candL b t.name) := hKs (R := LodR) (hdL.mono fun _ _ h => h.mono hK) rfl
  refine .f (.loadW ag42 sz42 rfl .here rfl) <| .m rfl <| .on rfl <| .callP cal133 rfl rfl rfl (rBest_ok (ht0.mono (Imm.le_trans hI14 hK)) hlK) <| .m rfl <| .f (.extract rfl rfl) <| .f (.extract rfl rfl) ?_
  refine .a rfl <| .a rfl <| .nil <| .go <| .seq <| .seq ?_
  refine .region <| .m rfl <| .f (.neq rfl rfl) <| .nil <| .go ?_
  refine .split 43 rfl (fun h43 => ?_) (fun h43 => ?_)
  ·
   first | replace h43 := of_decide_eq_false ((Bool.not_eq_true' _).mp h43) | replace h43 := of_decide_eq_false (by simpa using h43)
   refine .cond_true rfl <| .seq <| .region <| .a rfl <| .nil <| .go ?_
   refine .ret <| .ret ?_
   refine Post.rets rfl (.tmp rfl .nil) rfl (Imm.le_trans hI14 hK) (fun w h => (Sat.tail (Sat.tail h))) ?_
   exact ⟨targ_no' h43, rfl⟩
  ·
   first | replace h43 := of_decide_eq_true ((Bool.not_eq_false' _).mp h43) | replace h43 := of_decide_eq_true (by simpa using h43)
   have hbi := bestR_in h43
   obtain ⟨j, hj⟩ : ∃ j : Nat, (bestR t (candL b t.name)).1 = (j : Int) := ⟨_, (Int.toNat_of_nonneg hbi.1).symm⟩
   have hjl : j < (candL b t.name).length := by omega
   refine .cond_false rfl <| .skip <| .go <| .seq <| .region <| .m rfl ?_
   refine .m rfl ?_
   obtain ⟨eb46, eo46, cs46, hd46, hat46, hr46⟩ := SlR.at_ hlK (k := j) hjl
   cases hd46
   have hx46 := hr46
   obtain ⟨xv46, yv46, rfl, hxv46, hyv46⟩ := hr46.ex
   obtain ⟨xa46, xc46, rfl, -⟩ := hxv46
   obtain ⟨ya46, yc46, rfl, -⟩ := hyv46
   refine .f (.indexAddrL sl31 rfl rfl hj hjl) <| .f (.fieldAddr fo47_0 rfl) <| .f (.fieldAddr fo45_0 rfl) <| .f (.loadI ag9 rfl (hat46.cell (j := 0) rfl)) <| .a rfl <| .nil ?_
   refine .go <| .ret ?_
   refine Post.rets rfl (.tmp rfl .nil) rfl (Imm.le_trans hI14 hK) (fun w h => (Sat.tail (Sat.tail h))) ?_
   exact ⟨targ_yes' h43 hj hjl, rfl⟩

def planTo (b : Bk) (f : Int) (k : Nat) : List Ordr := (planS 8 b ((waitR b).take k)).2.map (withF f)
theorem quiet_none {b : Bk} (h : BookOk b) {k : Nat} (hk : (waitR b).length ≤ k) (hj : ∀ j (hj : j < (waitR b).length), j < k → targetR b (waitR b)[j] = none) : quietR b = (true, 0) := by
  have e2 : (planS 1 b (waitR b)).2 = [] := (plan_empty (most := 1) (by decide) (waitR b)).2 fun t ht => by
    obtain ⟨j, hj2, rfl⟩ := List.mem_iff_getElem.1 ht
    exact hj j hj2 (by omega)
  unfold quietR
  rw [planR_ok h.to, e2]; rfl
theorem quiet_some {b : Bk} (h : BookOk b) {k : Nat} (hk : k < (waitR b).length) (hs : ¬targetR b (waitR b)[k] = none) : quietR b = (false, 0) := by
  have e2 : ¬(planS 1 b (waitR b)).2 = [] := fun e => hs ((plan_empty (most := 1) (by decide) (waitR b)).1 e _ (List.getElem_mem hk))
  unfold quietR
  rw [planR_ok h.to]
  dsimp only
  rw [decide_eq_false (fun e => e2 (List.length_eq_zero_iff.1 e))]; rfl
theorem quiet_no {b : Bk} (h : ¬bookOk b = true) : quietR b = (false, 10) := by unfold quietR; rw [planR_no h]; rfl

set_option maxHeartbeats 16000000 in
set_option maxRecDepth 20000 in
theorem rPlan_ok {I : Imm} {O : Own} {kc : List Value} {b : Bk} (hk : BkR I kc b) {f : Int} (hf : U64 f) :
    Go.Sy.Does Tryz.prog 29 [.agg ⟨kc⟩, .int .u64 f] I O (fun u I' O' => ∃ v ws ob, u = .tuple ⟨[v, .int .i64 (planQ b f).2]⟩ ∧ OwnS 19 v (planQ b f).1.length ws ob ∧ DR OrdrR 19 I' ws (planQ b f).1 ∧ O' = ob ++ O) := by
  have hk0 := hk
  obtain ⟨nv, tv, bv, rfl, hnv, htv, hbv⟩ := hk.ex
  have hnv0 := hnv
  have htv0 := htv
  have hbv0 := hbv
  obtain ⟨na, ncap, rfl, hn1, hn2, -⟩ := hnv
  obtain ⟨ta, tcap, rfl, ht1, ht2, -⟩ := htv
  obtain ⟨ba, bcap, rfl, hb1, hb2, -⟩ := hbv
  refine Go.Sy.Does.enter Tryz.func29 rfl Tryz.ntmps29 rfl ?_
  refine .seq <| .region <| .on rfl <| .box rfl rfl rfl fun c1 _ _ => .a rfl <| .a rfl <| .nil ?_
  refine .go <| .seq <| .region <| .f (.loadW ag27 sz27 rfl .here rfl) <| .on rfl <| .call cal15 rfl rfl rfl (rwaitF hk0) fun v14 I14 O14 hI14 hK14 => ?_
  obtain ⟨W, e, hW⟩ : ∃ W e, waitQ b = (W, e) := ⟨_, _, rfl⟩
  rw [hW] at hK14
  dsimp only at hK14
  obtain ⟨rfl, u14, rfl, hl14⟩ := hK14
  have hl140 := hl14
  obtain ⟨la14, lc14, rfl, hl141, hl142, -⟩ := hl14
  refine .m rfl <| .f (.extract rfl rfl) <| .f (.extract rfl rfl) <| .a rfl <| .a rfl <| .nil ?_
  refine .go <| .seq <| .seq <| .region <| .m rfl <| .f (.neq rfl rfl) ?_
  refine .nil <| .go ?_
  refine .split 18 rfl (fun h18 => ?_) (fun h18 => ?_)
  · skip
    first | replace h18 := of_decide_eq_false ((Bool.not_eq_true' _).mp h18) | replace h18 := of_decide_eq_false (by simpa using h18)
    refine .cond_true rfl <| .seq <| .region <| .m rfl <| .a rfl <| .a rfl ?_
    refine .nil <| .go <| .ret <| .ret ?_
    refine Post.rets rfl (.tmp rfl (.tmp rfl .nil)) rfl hI14 (fun w h => (Sat.tail h)) ?_
    obtain ⟨hnb, rfl⟩ := wait_no hW h18
    rw [show planQ b f = ([], 10) by unfold planQ; rw [planR_no hnb]; rfl]
    exact ⟨_, [], [], rfl, OwnS.nil, DR.nil, rfl⟩
  · skip
    first | replace h18 := of_decide_eq_true ((Bool.not_eq_false' _).mp h18) | replace h18 := of_decide_eq_true (by simpa using h18)
    obtain ⟨hok, rfl⟩ := waitQ_in hW h18
    have hWl := wait_few hok
    refine .cond_false rfl <| .skip <| .go <| .seq <| .region <| .a rfl ?_
    refine .nil <| .go <| .seq <| .seq <| .region <| .m rfl ?_
    refine .f (.len sl23 rfl rfl) <| .m rfl <| .nil <| .go <| .block ?_
    refine .loopM [8, 10, 11, 22, 23, 24, 25, 26, 27, 28, 29, 30, 31, 32, 33, 34, 35, 36, 37, 38, 39, 40, 41, 42, 43, 44, 45, 46, 47, 48, 49, 50, 51, 52, 53, 54, 55] (fun s => (waitR b).length - s.1) (fun s => s.1 ≤ (waitR b).length ∧ OwnS 19 s.2.1 (planTo b f s.1).length s.2.2.1 s.2.2.2.1 ∧ DR OrdrR 19 s.2.2.2.2.2 s.2.2.1 (planTo b f s.1) ∧ BkR s.2.2.2.2.2 s.2.2.2.2.1 (planS 8 b ((waitR b).take s.1)).1 ∧ I.le s.2.2.2.2.2 ∧ Imm.le I14 s.2.2.2.2.2) (fun s => [(22, .int .i64 s.1), (8, s.2.1)]) (fun s => s.2.2.2.2.2) (fun s => s.2.2.2.1 ++ ((c1, .cells ⟨s.2.2.2.2.1⟩ 27 (0, 0)) :: _)) (((0, .slice none 0 0, [], [], _, I14) : Nat × Value × List Value × Own × List Value × Imm)) ⟨Nat.zero_le _, OwnS.nil, DR.nil, hk0.mono hI14, hI14, Imm.le_refl _⟩ ⟨rfl, rfl, trivial⟩ rfl rfl ?_
    intro ⟨k, vL, wsL, obL, kcL, J⟩ hkI
    dsimp only at hkI ⊢
    obtain ⟨hkk, hoL, hdL, hm, hJ, hJ2⟩ := hkI
    have hrun := plan_run (most := 8) hok.to ((waitR b).take k)
    have hpl : (planTo b f k).length = (planS 8 b ((waitR b).take k)).2.length := by unfold planTo; rw [List.length_map]
    obtain ⟨m, out, hmE⟩ : ∃ m out, planS 8 b ((waitR b).take k) = (m, out) := ⟨_, _, rfl⟩
    rw [hmE] at hm hrun hpl
    dsimp only at hm hrun hpl
    have hmo := hrun.1.ok
    have hokm := BookOk.of hmo.1
    have hout := hrun.2
    obtain ⟨adL, capL, rfl⟩ := hoL.form
    have hm0 := hm
    obtain ⟨nm_, tm_, bm_, rfl, xn_, xt_, xb_⟩ := hm.ex
    obtain ⟨_, _, rfl, -⟩ := xn_
    obtain ⟨_, _, rfl, -⟩ := xt_
    obtain ⟨_, _, rfl, -⟩ := xb_
    have hlJ : TsksR J _ (waitR b) := TsksR.mono hJ2 hl140
    refine .seq <| .region <| .f (.lss rfl rfl) <| .nil <| .go <| .seq ?_
    refine .sd 23 rfl (fun h23 => ?_) (fun h23 => ?_)
    · skip
      refine .cond_true rfl <| .skip <| .go <| .seq <| .block <| .seq ?_
      refine .region ?_
      obtain ⟨eb24, eo24, cs24, hd24, hat24, hr24⟩ := SlR.at_ hlJ (k := k) (by omega)
      cases hd24
      have ht24 := hr24
      obtain ⟨xw24, xb24, rfl, hxw24, hxb24⟩ := hr24.ex
      obtain ⟨xa24, xc24, rfl, -⟩ := hxw24
      obtain ⟨xd24, xe24, rfl, -⟩ := hxb24
      refine .f (.indexAddrL sl23 rfl rfl rfl (by omega)) <| .f (.loadIA ag42 sz42 rfl hat24 rfl) <| .on rfl <| .alloc zr42 rfl fun c2 _ _ => .on rfl <| .storeW sz42 rfl rfl rfl rfl rfl rfl .here <| .nil <| .go ?_
      refine .seq <| .region <| .f (.loadW ag27 sz27 rfl (.there <| .app <| .here) rfl) <| .f (.loadW ag42 sz42 rfl .here rfl) <| .on rfl <| .call cal81 rfl rfl rfl (rtarg_ok hm0 hokm ht24) fun v28 I28 O28 hI28 hK28 => ?_
      obtain ⟨rfl, rfl⟩ := hK28
      refine .a rfl <| .nil <| .go <| .seq <| .seq <| .region ?_
      refine .m rfl <| .f (.streq rfl rfl) <| .m rfl ?_
      refine .sd 31 rfl (fun h31 => ?_) (fun h31 => ?_)
      · skip
        have hTn : targetR m (waitR b)[k] = none := (targ_ne hokm).1 h31
        refine .z <| .z <| .z <| .f (.pickT rfl rfl) <| .nil <| .go ?_
        refine .cond_true rfl <| .exit <| .exit <| .blk_exit <| .go <| .region ?_
        refine .f (.add rfl rfl (by first | exact wrap_succ (by omega) | exact IntWalk.i64_in _ (by omega) | exact rfl)) <| .m rfl <| .nil ?_
        refine .tail ?_
        have e5 : planS 8 b ((waitR b).take (k + 1)) = (m, out) := by rw [planS_step (most := 8) (b := b) (show k < (waitR b).length by omega), hmE]; exact stepP_none (s := (m, out)) hTn
        have e6 : planTo b f (k + 1) = planTo b f k := by unfold planTo; rw [e5, hmE]
        exact .mid ((k + 1, _, wsL, obL, _, I28)) ⟨by dsimp only; omega, by dsimp only; omega, by dsimp only; rw [e6]; exact hoL, by dsimp only; rw [e6]; exact hdL.mono fun _ _ h => OrdrR.mono hI28 h, by dsimp only; rw [e5]; exact hm0.mono hI28, (Imm.le_trans hJ hI28), Imm.le_trans hJ2 hI28⟩ ⟨rfl, rfl, trivial⟩ rfl rfl (.pre 19 rfl (.app rfl .base))
      · skip
        have hTy : (targetR m (waitR b)[k]).isSome = true := by
          cases e : targetR m (waitR b)[k] with
          | none => exact absurd ((targ_ne hokm).2 e) h31
          | some _ => rfl
        refine .m rfl <| .f (.len sl66 rfl rfl) <| .f (.geq rfl rfl) <| .f (.pickF rfl rfl) <| .nil <| .go ?_
        refine .sd 35 rfl (fun h35 => ?_) (fun h35 => ?_)
        · skip
          have hfull : out.length = 8 := by first | omega | (have := of_decide_eq_true h35; omega)
          refine .cond_true rfl <| .exit <| .exit <| .blk_exit <| .go <| .region ?_
          refine .f (.add rfl rfl (by first | exact wrap_succ (by omega) | exact IntWalk.i64_in _ (by omega) | exact rfl)) <| .m rfl <| .nil ?_
          refine .tail ?_
          have e5 : planS 8 b ((waitR b).take (k + 1)) = (m, out) := by rw [planS_step (most := 8) (b := b) (show k < (waitR b).length by omega), hmE]; exact stepP_full (s := (m, out)) hfull
          have e6 : planTo b f (k + 1) = planTo b f k := by unfold planTo; rw [e5, hmE]
          exact .mid ((k + 1, _, wsL, obL, _, I28)) ⟨by dsimp only; omega, by dsimp only; omega, by dsimp only; rw [e6]; exact hoL, by dsimp only; rw [e6]; exact hdL.mono fun _ _ h => OrdrR.mono hI28 h, by dsimp only; rw [e5]; exact hm0.mono hI28, (Imm.le_trans hJ hI28), Imm.le_trans hJ2 hI28⟩ ⟨rfl, rfl, trivial⟩ rfl rfl (.pre 20 rfl (.app rfl .base))
        · skip
          have hnf : ¬out.length = 8 := by first | omega | (have := of_decide_eq_false h35; omega)
          refine .cond_false rfl <| .skip <| .go <| .seq <| .region <| .f (.loadW ag27 sz27 rfl (.there <| .app <| .here) rfl) ?_
          refine .f (.fieldAddr fo42_0 rfl) <| .f (.load ag9 rfl .here rfl) <| .m rfl <| .f (.fieldAddr fo27_3 rfl) <| .f (.load ag25 rfl (.there <| .app <| .here) rfl) <| .f (.build bs65 zv65 rfl rfl) ?_
          refine .on rfl <| .call cal82 rfl rfl rfl (rbDo_ok (o := ordB (waitR b)[k].name ((targetR m (waitR b)[k]).getD ⟨#[]⟩) m.fence) (hm0.mono hI28) (ordBR (f := m.fence) (strOk32 (W_task hok (show k < (waitR b).length by omega))) (strOk32 (target_nm hokm)) hm0.fence (by have := W_task hok (show k < (waitR b).length by omega); have := target_nm hokm (t := (waitR b)[k]); omega)).1) fun v44 I44 O44 hI44 hK44 => ?_
          obtain ⟨rfl, cs44, rfl, hb44⟩ := hK44
          have hb440 := hb44
          obtain ⟨nv44, tv44, bv44, rfl, hn44, ht44, hx44⟩ := hb44.ex
          obtain ⟨_, _, rfl, -⟩ := hn44
          obtain ⟨_, _, rfl, htl44, -⟩ := ht44
          obtain ⟨_, _, rfl, -⟩ := hx44
          refine .m rfl <| .f (.extract rfl rfl) <| .f (.extract rfl rfl) <| .on rfl <| .storeW sz27 rfl rfl rfl rfl rfl rfl (.there <| .app <| .here) <| .nil <| .go ?_
          refine .region <| .m rfl <| .f (.fieldAddr fo42_0 rfl) <| .f (.load ag9 rfl .here rfl) <| .m rfl <| .m rfl ?_
          refine .f (.build bs65 zv65 rfl rfl) <| .on rfl <| .buildSlice Tryz.underlying66 sz65 (by decide) (by decide) zv65 rfl rfl rfl rfl rfl fun c3 _ _ => .on rfl <| .append Tryz.underlying66 Tryz.underlying66 sz65 by65 zv65 rfl rfl rfl (.there <| .there <| .front) hoL ((OwnS.made (k := 19) rfl (by decide)).src (I := _) .here) rfl rfl (by omega) (by omega) rfl fun v54 ob54 ho54 => .a rfl <| .nil <| .blk_normal ?_
          refine .go <| .region <| .f (.add rfl rfl (by first | exact wrap_succ (by omega) | exact IntWalk.i64_in _ (by omega) | exact rfl)) <| .m rfl <| .nil ?_
          refine .front1 (.app <| .here) ?_
          refine .tail ?_
          refine .front1 (.app <| .here) ?_
          refine .tail ?_
          have e5 : planS 8 b ((waitR b).take (k + 1)) = ((doR m (ordB (waitR b)[k].name ((targetR m (waitR b)[k]).getD ⟨#[]⟩) m.fence)).1, out ++ [ordB (waitR b)[k].name ((targetR m (waitR b)[k]).getD ⟨#[]⟩) m.fence]) := by rw [planS_step (most := 8) (b := b) (show k < (waitR b).length by omega), hmE]; exact stepP_yes (s := (m, out)) hTy hnf
          have e6 : planTo b f (k + 1) = planTo b f k ++ [ordB (waitR b)[k].name ((targetR m (waitR b)[k]).getD ⟨#[]⟩) f] := by unfold planTo; rw [e5, hmE, List.map_append]; rfl
          have e7 : (planTo b f (k + 1)).length = (planTo b f k).length + 1 := by rw [e6, List.length_append]; rfl
          exact .mid ((k + 1, _, _, _, _, I44)) ⟨by dsimp only; omega, by dsimp only; omega, by dsimp only; rw [e7]; exact ho54, by dsimp only; rw [e6]; exact (hdL.mono fun _ _ h => OrdrR.mono (Imm.le_trans hI28 hI44) h).append (DR.single rfl (ordBR (f := f) (strOk32 (W_task hok (show k < (waitR b).length by omega))) (strOk32 (target_nm hokm)) hf (by have := W_task hok (show k < (waitR b).length by omega); have := target_nm hokm (t := (waitR b)[k]); omega)).1), by dsimp only; rw [e5]; exact hb440, (Imm.le_trans (Imm.le_trans hJ hI28) hI44), Imm.le_trans hJ2 (Imm.le_trans hI28 hI44)⟩ ⟨rfl, rfl, trivial⟩ rfl rfl (.pre 40 rfl (.app rfl .base))
    · skip
      refine .cond_false rfl <| .exit <| .exit <| .exit <| .blk_exit <| .go ?_
      refine .seq <| .region <| .m rfl <| .a rfl <| .a rfl <| .nil ?_
      refine .go <| .ret ?_
      refine .front1 (.app <| .here) ?_
      refine .tail ?_
      refine Post.rets rfl (.tmp rfl (.tmp rfl .nil)) rfl hJ (fun w h => h) ?_
      have e9 : planQ b f = (planTo b f k, 0) := by unfold planQ planTo; rw [planR_ok hok.to, planS_end (most := 8) (b := b) (show (waitR b).length ≤ k by omega)]
      rw [e9]
      exact ⟨_, _, obL, rfl, hoL, hdL, rfl⟩

set_option maxHeartbeats 8000000 in
set_option maxRecDepth 20000 in
theorem rQuiet_ok {I : Imm} {O : Own} {kc : List Value} {b : Bk} (hk : BkR I kc b) :
    Go.Sy.Does Tryz.prog 31 [.agg ⟨kc⟩] I O (fun u I' O' => u = .tuple ⟨[.bool (quietR b).1, .int .i64 (quietR b).2]⟩ ∧ O' = O) := by
  have hk0 := hk
  obtain ⟨nv, tv, bv, rfl, hnv, htv, hbv⟩ := hk.ex
  have hnv0 := hnv
  have htv0 := htv
  have hbv0 := hbv
  obtain ⟨na, ncap, rfl, hn1, hn2, -⟩ := hnv
  obtain ⟨ta, tcap, rfl, ht1, ht2, -⟩ := htv
  obtain ⟨ba, bcap, rfl, hb1, hb2, -⟩ := hbv
  refine Go.Sy.Does.enter Tryz.func31 rfl Tryz.ntmps31 rfl ?_
  refine .seq <| .region <| .on rfl <| .box rfl rfl rfl fun c1 _ _ => .a rfl <| .a rfl <| .nil ?_
  refine .go <| .seq <| .region <| .f (.loadW ag27 sz27 rfl .here rfl) <| .on rfl <| .call cal15 rfl rfl rfl (rwaitF hk0) fun v10 I10 O10 hI10 hK10 => ?_
  obtain ⟨W, e, hW⟩ : ∃ W e, waitQ b = (W, e) := ⟨_, _, rfl⟩
  rw [hW] at hK10
  dsimp only at hK10
  obtain ⟨rfl, u10, rfl, hl10⟩ := hK10
  have hl100 := hl10
  obtain ⟨la10, lc10, rfl, hl101, hl102, -⟩ := hl10
  refine .m rfl <| .f (.extract rfl rfl) <| .f (.extract rfl rfl) <| .a rfl <| .a rfl <| .nil ?_
  refine .go <| .seq <| .seq <| .region <| .m rfl <| .f (.neq rfl rfl) ?_
  refine .nil <| .go ?_
  refine .split 14 rfl (fun h14 => ?_) (fun h14 => ?_)
  · skip
    first | replace h14 := of_decide_eq_false ((Bool.not_eq_true' _).mp h14) | replace h14 := of_decide_eq_false (by simpa using h14)
    refine .cond_true rfl <| .seq <| .region <| .m rfl <| .a rfl <| .a rfl ?_
    refine .nil <| .go <| .ret <| .ret ?_
    refine Post.rets rfl (.tmp rfl (.tmp rfl .nil)) rfl hI10 (fun w h => (Sat.tail h)) ?_
    obtain ⟨hnb, rfl⟩ := wait_no hW h14
    exact ⟨(quV_of (quiet_no hnb)).symm, rfl⟩
  · skip
    first | replace h14 := of_decide_eq_true ((Bool.not_eq_false' _).mp h14) | replace h14 := of_decide_eq_true (by simpa using h14)
    obtain ⟨hok, rfl⟩ := waitQ_in hW h14
    refine .cond_false rfl <| .skip <| .go <| .seq <| .seq <| .region ?_
    refine .m rfl <| .f (.len sl23 rfl rfl) <| .m rfl <| .nil <| .go <| .block ?_
    refine .loopM [2, 3, 7, 18, 19, 20, 21, 22, 23, 24, 25, 26] (fun s => (waitR b).length - s.1) (fun s => s.1 ≤ (waitR b).length ∧ (∀ j (hj : j < (waitR b).length), j < s.1 → targetR b (waitR b)[j] = none) ∧ I.le s.2 ∧ Imm.le I10 s.2) (fun s => [(18, .int .i64 s.1)]) (fun s => s.2) (fun _ => _) (((0, I10) : Nat × Imm)) ⟨Nat.zero_le _, fun j _ h => absurd h (Nat.not_lt_zero _), hI10, Imm.le_refl _⟩ ⟨rfl, trivial⟩ rfl rfl ?_
    intro ⟨k, J⟩ hkI
    dsimp only at hkI ⊢
    obtain ⟨hkk, hj, hJ, hJ2⟩ := hkI
    have hlJ : TsksR J _ (waitR b) := TsksR.mono hJ2 hl100
    refine .seq <| .region <| .f (.lss rfl rfl) <| .nil <| .go <| .seq ?_
    refine .sd 19 rfl (fun h19 => ?_) (fun h19 => ?_)
    · skip
      refine .cond_true rfl <| .skip <| .go <| .seq <| .block <| .seq ?_
      refine .region ?_
      obtain ⟨eb20, eo20, cs20, hd20, hat20, hr20⟩ := SlR.at_ hlJ (k := k) (by omega)
      cases hd20
      have ht20 := hr20
      obtain ⟨xw20, xb20, rfl, hxw20, hxb20⟩ := hr20.ex
      obtain ⟨xa20, xc20, rfl, -⟩ := hxw20
      obtain ⟨xd20, xe20, rfl, -⟩ := hxb20
      refine .f (.indexAddrL sl23 rfl rfl rfl (by omega)) <| .f (.loadIA ag42 sz42 rfl hat20 rfl) <| .on rfl <| .alloc zr42 rfl fun c2 _ _ => .on rfl <| .storeW sz42 rfl rfl rfl rfl rfl rfl .here <| .nil <| .go ?_
      refine .seq <| .region <| .f (.loadW ag27 sz27 rfl (.there <| .here) rfl) <| .f (.loadW ag42 sz42 rfl .here rfl) <| .on rfl <| .call cal81 rfl rfl rfl (rtarg_ok (hk0.mono hJ) hok ht20) fun v24 I24 O24 hI24 hK24 => ?_
      obtain ⟨rfl, rfl⟩ := hK24
      refine .f (.strne rfl rfl) <| .nil <| .go ?_
      refine .split 25 rfl (fun h25 => ?_) (fun h25 => ?_)
      · skip
        first | replace h25 := of_decide_eq_false ((Bool.not_eq_true' _).mp h25) | replace h25 := of_decide_eq_false (by simpa using h25)
        have hTs : ¬targetR b (waitR b)[k] = none := fun e => h25 ((targ_ne hok).2 e)
        refine .cond_true rfl <| .seq <| .region <| .a rfl <| .a rfl <| .nil ?_
        refine .go <| .ret <| .blk_ret <| .ret <| .ret <| .blk_ret ?_
        refine .ret ?_
        refine Post.rets rfl (.tmp rfl (.tmp rfl .nil)) rfl (Imm.le_trans hJ hI24) (fun w h => (Sat.tail (Sat.tail h))) ?_
        exact ⟨(quV_of (quiet_some hok (show k < (waitR b).length by omega) hTs)).symm, rfl⟩
      · skip
        first | replace h25 := of_decide_eq_true ((Bool.not_eq_false' _).mp h25) | replace h25 := of_decide_eq_true (by simpa using h25)
        have hTn : targetR b (waitR b)[k] = none := (targ_ne hok).1 (by simpa using h25)
        refine .cond_false rfl <| .skip <| .blk_normal <| .go <| .region <| .f (.add rfl rfl (by first | exact wrap_succ (by omega) | exact IntWalk.i64_in _ (by omega) | exact rfl)) ?_
        refine .m rfl <| .nil ?_
        refine .tail ?_
        exact .mid ((k + 1, I24)) ⟨by dsimp only; omega, by dsimp only; omega, fun j h1 h2 => by
                rcases Nat.lt_or_ge j k with h3 | h3
                · exact hj j h1 h3
                · have h4 : j = k := by omega
                  subst h4; exact hTn, (Imm.le_trans hJ hI24), Imm.le_trans hJ2 hI24⟩ ⟨rfl, trivial⟩ rfl rfl (.pre 12 rfl (.app rfl .base))
    · skip
      refine .cond_false rfl <| .exit <| .exit <| .exit <| .blk_exit <| .go ?_
      refine .seq <| .region <| .a rfl <| .a rfl <| .nil <| .go ?_
      refine .ret ?_
      refine Post.rets rfl (.tmp rfl (.tmp rfl .nil)) rfl hJ (fun w h => (Sat.tail h)) ?_
      exact ⟨(quV_of (quiet_none hok (show (waitR b).length ≤ k by omega) hj)).symm, rfl⟩

end Go.Proofs.YtmmokaockpghaaaGreatDoor
