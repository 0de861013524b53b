/- Walks of functions over a symbolic memory, printed by a program of the session. -/
import Derived.Test.YtdcblbcidjldmaaDoorSc
namespace Go.Proofs.YtdcblbcidjldmaaDoor
open Go.Sy
set_option linter.unusedSimpArgs false
set_option linter.unusedVariables false

def tL : Tsk := ⟨⟨#[116]⟩, ⟨1, 1, 1⟩, [], [], ⟨#[]⟩, ⟨#[]⟩, 0⟩
def lL : Lod := ⟨⟨⟨#[110]⟩, ⟨4, 2, 1⟩, [], []⟩, ⟨1, 0, 0⟩⟩
def mL : Lod := ⟨⟨⟨#[109]⟩, ⟨0, 0, 0⟩, [], []⟩, ⟨0, 0, 0⟩⟩
theorem tL_R {J : Imm} : TskR J (tL.cells (.slice none 0 0) (.slice none 0 0)) tL := ⟨⟨_, _, rfl, prsNil, prsNil⟩, by unfold StrOk tL; decide, by unfold A3.ok I64 tL; decide, by unfold StrOk tL; decide, by unfold StrOk tL; decide, by unfold I64 tL; decide⟩
theorem lL_R {J : Imm} : LodR J (lL.cells (.slice none 0 0) (.slice none 0 0)) lL := ⟨⟨_, _, rfl, prsNil, prsNil⟩, by unfold StrOk lL; decide, by unfold A3.ok I64 lL; decide, by unfold A3.ok I64 lL; decide⟩
theorem mL_R {J : Imm} : LodR J (mL.cells (.slice none 0 0) (.slice none 0 0)) mL := ⟨⟨_, _, rfl, prsNil, prsNil⟩, by unfold StrOk mL; decide, by unfold A3.ok I64 mL; decide, by unfold A3.ok I64 mL; decide⟩
theorem live1 : scoreR tL lL = (2000, 0) := by decide +kernel
theorem live2 : bestR tL [mL, lL] = (1, 0) := by decide +kernel
theorem live3 : bestR tL [] = (0, 13) := by decide +kernel
theorem pairV_cast {I : Imm} {O : Own} {f : FuncId} {vs : List Value} {p q : Int × Int} (h : Pure Tryd.prog f vs I O (pairV p)) (e : p = q) : Pure Tryd.prog f vs I O (pairV q) := e ▸ h
theorem score_two {t : Tsk} {l : Lod} (h : orI (tskWhy t) (lodWhy l) = 0) : (scoreR t l).2 = 0 ∨ (scoreR t l).2 = 13 := by
  unfold scoreR; rw [if_neg (by simp [h])]; split
  · exact .inr rfl
  · exact .inl rfl
theorem best1 (t : Tsk) (l : Lod) : bestR t [l] = (0, (scoreR t l).2) := by
  have e1 : whyTo t [l] [l].length = orI (tskWhy t) (lodWhy l) := rfl
  have e2 : bestTo t [l] [l].length = stepB t [l] (-1, 0) 0 := rfl
  unfold bestR; rw [e1, e2]
  by_cases h : orI (tskWhy t) (lodWhy l) = 0
  · rw [if_neg (by simp [h])]
    have hb : betterB [l] (-1, 0) 0 (scoreR t l).1 = true := by unfold betterB; rfl
    rcases score_two h with h2 | h2
    · have s1 : stepB t [l] (-1, 0) 0 = (0, (scoreR t l).1) := by unfold stepB; rw [show [l].getD 0 lod0 = l from rfl, if_neg (by simp [h2]), if_pos hb]; rfl
      rw [s1]; simp [h2]
    · have s1 : stepB t [l] (-1, 0) 0 = (-1, 0) := by unfold stepB; rw [show [l].getD 0 lod0 = l from rfl, if_pos (by simp [h2])]
      rw [s1]; simp [h2]
  · rw [if_pos h, scoreR_why rfl h]
theorem best2 (t : Tsk) (l : Lod) : bestR t [l, l] = (0, (scoreR t l).2) := by
  have e1 : whyTo t [l, l] [l, l].length = orI (orI (tskWhy t) (lodWhy l)) (lodWhy l) := rfl
  have e2 : bestTo t [l, l] [l, l].length = stepB t [l, l] (stepB t [l, l] (-1, 0) 0) 1 := rfl
  have e3 : orI (orI (tskWhy t) (lodWhy l)) (lodWhy l) = orI (tskWhy t) (lodWhy l) := by unfold orI; split <;> simp_all
  unfold bestR; rw [e1, e2, e3]
  by_cases h : orI (tskWhy t) (lodWhy l) = 0
  · rw [if_neg (by simp [h])]
    have hb : betterB [l, l] (-1, 0) 0 (scoreR t l).1 = true := by unfold betterB; rfl
    rcases score_two h with h2 | h2
    · have s1 : stepB t [l, l] (-1, 0) 0 = (0, (scoreR t l).1) := by unfold stepB; rw [show [l, l].getD 0 lod0 = l from rfl, if_neg (by simp [h2]), if_pos hb]; rfl
      have hn : betterB [l, l] (0, (scoreR t l).1) 1 (scoreR t l).1 = false := by
        rw [betterB_ref, show ([l, l].getD 1 lod0) = l from rfl]
        show (decide ((0 : Int) < 0) || (decide ((scoreR t l).1 < (scoreR t l).1) || (decide ((scoreR t l).1 = (scoreR t l).1) && slt l.node.name l.node.name))) = false
        rw [slt_irr]; simp
      have s2 : stepB t [l, l] (0, (scoreR t l).1) 1 = (0, (scoreR t l).1) := by unfold stepB; rw [show [l, l].getD 1 lod0 = l from rfl, if_neg (by simp [h2]), if_neg (by simp [hn])]
      rw [s1, s2]; simp [h2]
    · have s1 : stepB t [l, l] (-1, 0) 0 = (-1, 0) := by unfold stepB; rw [show [l, l].getD 0 lod0 = l from rfl, if_pos (by simp [h2])]
      have s2 : stepB t [l, l] (-1, 0) 1 = (-1, 0) := by unfold stepB; rw [show [l, l].getD 1 lod0 = l from rfl, if_pos (by simp [h2])]
      rw [s1, s2]; simp [h2]
  · rw [if_pos h, scoreR_why rfl h]

set_option maxHeartbeats 1000000 in
set_option maxRecDepth 20000 in
theorem lives_ok {I : Imm} {O : Own}  :
    Pure Tryd.prog 11 [] I O (.bool true) := by
  refine Does.enter Tryd.func11 rfl Tryd.ntmps11 rfl ?_
  refine .seq <| .region <| .e (.assign rfl) rfl rfl <| .nil <| .go <| .seq ?_
  refine .region <| .e (.buildA ar22 zv22 rfl rfl) rfl rfl <| .e (.build bs25 zv25 rfl rfl) rfl rfl <| .on rfl <| .alloc zr25 rfl fun c1 _ _ => .on rfl <| .storeW sz25 rfl rfl rfl rfl rfl rfl .here <| .nil ?_
  refine .go <| .seq <| .region <| .e (.buildA ar22 zv22 rfl rfl) rfl rfl <| .e (.build bs27 zv27 rfl rfl) rfl rfl <| .e (.buildA ar22 zv22 rfl rfl) rfl rfl ?_
  refine .e (.build bs29 zv29 rfl rfl) rfl rfl <| .on rfl <| .alloc zr29 rfl fun c2 _ _ => .on rfl <| .storeW sz29 rfl rfl rfl rfl rfl rfl .here <| .nil <| .go <| .seq ?_
  refine .region <| .e (.loadW ag25 sz25 rfl (.there <| .here) rfl) rfl rfl <| .e (.loadW ag29 sz29 rfl .here rfl) rfl rfl <| .on rfl <| .callP cal9 rfl rfl rfl (pairV_cast (Score_ok tL_R lL_R) live1) <| .e (.move rfl) rfl rfl <| .e (.extract rfl rfl) rfl rfl ?_
  refine .e (.extract rfl rfl) rfl rfl <| .e (.assign rfl) rfl rfl <| .e (.assign rfl) rfl rfl <| .nil <| .go <| .seq ?_
  refine .region <| .e (.loadW ag25 sz25 rfl (.there <| .here) rfl) rfl rfl <| .e (.build bs27 zv27 rfl rfl) rfl rfl <| .e (.build bs29 zv29 rfl rfl) rfl rfl <| .e (.loadW ag29 sz29 rfl .here rfl) rfl rfl <| .on rfl <| .buildSlice Tryd.underlying36 sz29 (by decide) (by decide) zv29 rfl rfl rfl rfl rfl fun c3 _ _ => ?_
  refine .freeze fun J hJ hJb => ?_
  refine .on rfl <| .callP cal14 rfl rfl rfl (pairV_cast (Best_ok tL_R (SlR.ofRow hJb (show DR LodR 9 J (mL.cells (.slice none 0 0) (.slice none 0 0) ++ lL.cells (.slice none 0 0) (.slice none 0 0)) ([mL] ++ [lL]) from (DR.single rfl mL_R).append (DR.single rfl lL_R)) rfl (by decide) (by decide))) live2) <| .e (.move rfl) rfl rfl <| .e (.extract rfl rfl) rfl rfl <| .e (.extract rfl rfl) rfl rfl <| .e (.assign rfl) rfl rfl <| .e (.assign rfl) rfl rfl ?_
  refine .nil <| .go <| .seq <| .region <| .e (.loadW ag25 sz25 rfl (.there <| .here) rfl) rfl rfl <| .on rfl <| .callP cal14 rfl rfl rfl (pairV_cast (Best_ok (l := []) tL_R SlR.nil) live3) ?_
  refine .e (.move rfl) rfl rfl <| .e (.extract rfl rfl) rfl rfl <| .e (.extract rfl rfl) rfl rfl <| .e (.assign rfl) rfl rfl <| .e (.assign rfl) rfl rfl <| .nil ?_
  refine .go <| .seq <| .region <| .e (.move rfl) rfl rfl <| .e ((EV.cast (u := .bool true) (.eql rfl rfl) (by simp))) rfl rfl <| .e (.move rfl) rfl rfl ?_
  refine .e (.move rfl) rfl rfl <| .e ((EV.cast (u := .bool true) (.eql rfl rfl) (by simp))) rfl rfl <| .e (.pickT rfl rfl) rfl rfl <| .e (.move rfl) rfl rfl <| .e (.move rfl) rfl rfl <| .e ((EV.cast (u := .bool true) (.eql rfl rfl) (by simp))) rfl rfl ?_
  refine .e (.pickT rfl rfl) rfl rfl <| .e (.move rfl) rfl rfl <| .e (.move rfl) rfl rfl <| .e ((EV.cast (u := .bool true) (.eql rfl rfl) (by simp))) rfl rfl <| .e (.pickT rfl rfl) rfl rfl <| .e (.move rfl) rfl rfl ?_
  refine .e (.move rfl) rfl rfl <| .e ((EV.cast (u := .bool true) (.eql rfl rfl) (by simp))) rfl rfl <| .e (.pickT rfl rfl) rfl rfl <| .e (.assign rfl) rfl rfl <| .nil <| .go ?_
  refine .ret ?_
  refine .tail <| .tail ?_
  refine .back hJ ?_
  refine Post.retE rfl rfl ?_
  rfl

set_option maxHeartbeats 1000000 in
set_option maxRecDepth 20000 in
theorem ScoreDoes_ok {I : Imm} {O : Own} {tc lc : List Value} {t : Tsk} {l : Lod} (ht : TskR I tc t) (hl : LodR I lc l) :
    Pure Tryd.prog 3 [.agg ⟨tc⟩, .agg ⟨lc⟩] I O (.bool true) := by
  have ht0 := ht
  obtain ⟨tw, tb, rfl, htw, htb⟩ := ht.ex
  have htw0 := htw
  obtain ⟨wa, wcap, rfl, hw1, hw2, -⟩ := htw
  have htb0 := htb
  obtain ⟨ba, bcap, rfl, hb1, hb2, -⟩ := htb
  have hl0 := hl
  obtain ⟨lv, tv, rfl, hlv, htv⟩ := hl.ex
  have hlv0 := hlv
  obtain ⟨lva, lvc, rfl, hlv1, hlv2, -⟩ := hlv
  have htv0 := htv
  obtain ⟨tva, tvc, rfl, htv1, htv2, -⟩ := htv
  have hnd := lodNode hl0 hlv0 htv0
  refine Does.enter Tryd.func3 rfl Tryd.ntmps3 rfl ?_
  refine .seq <| .region <| .on rfl <| .box rfl rfl rfl fun c1 _ _ => .on rfl <| .box rfl rfl rfl fun c2 _ _ => .e (.assign rfl) rfl rfl <| .nil ?_
  refine .go <| .seq <| .region <| .e (.loadW ag25 sz25 rfl (.there <| .here) rfl) rfl rfl <| .e (.loadW ag29 sz29 rfl .here rfl) rfl rfl <| .on rfl <| .callP cal9 rfl rfl rfl (Score_ok ht0 hl0) ?_
  refine .e (.move rfl) rfl rfl <| .e (.extract rfl rfl) rfl rfl <| .e (.extract rfl rfl) rfl rfl <| .e (.assign rfl) rfl rfl <| .e (.assign rfl) rfl rfl <| .nil ?_
  refine .go <| .seq <| .region <| .e (.loadW ag25 sz25 rfl (.there <| .here) rfl) rfl rfl <| .e (.loadW ag29 sz29 rfl .here rfl) rfl rfl <| .on rfl <| .callP cal10 rfl rfl rfl (rScore_ok ht0 hl0) ?_
  refine .e (.move rfl) rfl rfl <| .e (.extract rfl rfl) rfl rfl <| .e (.extract rfl rfl) rfl rfl <| .e (.assign rfl) rfl rfl <| .e (.assign rfl) rfl rfl <| .nil ?_
  refine .go <| .seq ?_
  refine .draw [(c2, _)] mixed (.cons .here .nil) ?_
  refine .one (i := 0) (by kernel_rfl) rfl rfl <| .callP cal11 rfl rfl rfl (lives_ok) ?_
  refine ⟨(.cons .here .nil), Imm.le_refl _, ?_⟩
  refine .t 1 rfl (.move rfl) rfl rfl (by kernel_rfl) <| .t 2 rfl (.move rfl) rfl rfl (by kernel_rfl) <| .t 3 rfl (.move rfl) rfl rfl (by kernel_rfl) <| .t 4 rfl ((EV.cast (u := .bool true) (.eql rfl rfl) (by simp))) rfl rfl (by kernel_rfl) <| .t 5 rfl (.pickT rfl rfl) rfl rfl (by kernel_rfl) <| .t 6 rfl (.move rfl) rfl rfl (by kernel_rfl) ?_
  refine .t 7 rfl (.move rfl) rfl rfl (by kernel_rfl) <| .t 8 rfl (.move rfl) rfl rfl (by kernel_rfl) <| .t 9 rfl ((EV.cast (u := .bool true) (.eql rfl rfl) (by simp))) rfl rfl (by kernel_rfl) <| .t 10 rfl (.pickT rfl rfl) rfl rfl (by kernel_rfl) <| .t 11 rfl (.move rfl) rfl rfl (by kernel_rfl) <| .t 12 rfl (.loadW ag29 sz29 rfl .here rfl) rfl rfl (by kernel_rfl) ?_
  refine .t 14 rfl (.loadW ag29 sz29 rfl .here rfl) rfl rfl (by kernel_rfl) <| .one (i := 13) (by kernel_rfl) rfl rfl <| .callP cal12 rfl rfl rfl (Check_ok hl0) ?_
  refine ⟨(.cons .here .nil), Imm.le_refl _, ?_⟩
  refine .one (i := 15) (by kernel_rfl) rfl rfl <| .callP cal13 rfl rfl rfl (rCheck_ok hl0) ?_
  refine ⟨(.cons .here .nil), Imm.le_refl _, ?_⟩
  refine .t 16 rfl ((EV.cast (u := .bool true) (.eql rfl rfl) (by simp))) rfl rfl (by kernel_rfl) <| .t 17 rfl (.pickT rfl rfl) rfl rfl (by kernel_rfl) <| .t 18 rfl (.assign rfl) rfl rfl (by kernel_rfl) <| .done (by kernel_rfl) <| .go <| .ret ?_
  refine .tail <| .tail ?_
  refine Post.retE rfl rfl ?_
  rfl

set_option maxHeartbeats 1000000 in
set_option maxRecDepth 20000 in
theorem ScoreBest_ok {I : Imm} {O : Own} {tc : List Value} {t : Tsk} (ht : TskR I tc t) {v : Value} {l : List Lod} (hl : LodsR I v l) :
    Pure Tryd.prog 4 [.agg ⟨tc⟩, v] I O (.bool true) := by
  have ht0 := ht
  obtain ⟨tw, tb, rfl, htw, htb⟩ := ht.ex
  have htw0 := htw
  obtain ⟨wa, wcap, rfl, hw1, hw2, -⟩ := htw
  have htb0 := htb
  obtain ⟨ba, bcap, rfl, hb1, hb2, -⟩ := htb
  have hl0 := hl
  obtain ⟨la, lcap, rfl, hl1, hl2, -⟩ := hl
  refine Does.enter Tryd.func4 rfl Tryd.ntmps4 rfl ?_
  refine .seq <| .region <| .on rfl <| .box rfl rfl rfl fun c1 _ _ => .e (.assign rfl) rfl rfl <| .nil <| .go ?_
  refine .seq <| .region <| .e (.loadW ag25 sz25 rfl .here rfl) rfl rfl <| .e (.move rfl) rfl rfl <| .on rfl <| .callP cal14 rfl rfl rfl (Best_ok ht0 hl0) <| .e (.move rfl) rfl rfl ?_
  refine .e (.extract rfl rfl) rfl rfl <| .e (.extract rfl rfl) rfl rfl <| .e (.assign rfl) rfl rfl <| .e (.assign rfl) rfl rfl <| .nil <| .go ?_
  refine .seq <| .region <| .e (.loadW ag25 sz25 rfl .here rfl) rfl rfl <| .e (.move rfl) rfl rfl <| .on rfl <| .callP cal15 rfl rfl rfl (rBest_ok ht0 hl0) <| .e (.move rfl) rfl rfl ?_
  refine .e (.extract rfl rfl) rfl rfl <| .e (.extract rfl rfl) rfl rfl <| .e (.assign rfl) rfl rfl <| .e (.assign rfl) rfl rfl <| .nil <| .go ?_
  refine .seq <| .region <| .on rfl <| .callP cal11 rfl rfl rfl (lives_ok) <| .e (.move rfl) rfl rfl <| .e (.move rfl) rfl rfl <| .e (.move rfl) rfl rfl ?_
  refine .e ((EV.cast (u := .bool true) (.eql rfl rfl) (by simp))) rfl rfl <| .e (.pickT rfl rfl) rfl rfl <| .e (.move rfl) rfl rfl <| .e (.move rfl) rfl rfl <| .e (.move rfl) rfl rfl <| .e ((EV.cast (u := .bool true) (.eql rfl rfl) (by simp))) rfl rfl ?_
  refine .e (.pickT rfl rfl) rfl rfl <| .e (.assign rfl) rfl rfl <| .nil <| .go <| .ret ?_
  refine .tail ?_
  refine Post.retE rfl rfl ?_
  rfl

set_option maxHeartbeats 1000000 in
set_option maxRecDepth 20000 in
theorem ScoreAlone_ok {I : Imm} {O : Own} {tc lc : List Value} {t : Tsk} {l : Lod} (ht : TskR I tc t) (hl : LodR I lc l) :
    Pure Tryd.prog 8 [.agg ⟨tc⟩, .agg ⟨lc⟩] I O (.bool true) := by
  have ht0 := ht
  obtain ⟨tw, tb, rfl, htw, htb⟩ := ht.ex
  have htw0 := htw
  obtain ⟨wa, wcap, rfl, hw1, hw2, -⟩ := htw
  have htb0 := htb
  obtain ⟨ba, bcap, rfl, hb1, hb2, -⟩ := htb
  have hl0 := hl
  obtain ⟨lv, tv, rfl, hlv, htv⟩ := hl.ex
  have hlv0 := hlv
  obtain ⟨lva, lvc, rfl, hlv1, hlv2, -⟩ := hlv
  have htv0 := htv
  obtain ⟨tva, tvc, rfl, htv1, htv2, -⟩ := htv
  have hnd := lodNode hl0 hlv0 htv0
  refine Does.enter Tryd.func8 rfl Tryd.ntmps8 rfl ?_
  refine .seq <| .region <| .on rfl <| .box rfl rfl rfl fun c1 _ _ => .on rfl <| .box rfl rfl rfl fun c2 _ _ => .e (.assign rfl) rfl rfl <| .nil ?_
  refine .go <| .seq <| .seq <| .region <| .on rfl <| .callP cal11 rfl rfl rfl (lives_ok) <| .e (.not rfl) rfl rfl ?_
  refine .nil <| .go <| .cond_false rfl <| .skip <| .go <| .seq ?_
  refine .region <| .e (.loadW ag25 sz25 rfl (.there <| .here) rfl) rfl rfl <| .e (.loadW ag29 sz29 rfl .here rfl) rfl rfl <| .on rfl <| .callP cal9 rfl rfl rfl (Score_ok ht0 hl0) <| .e (.move rfl) rfl rfl <| .e (.extract rfl rfl) rfl rfl ?_
  refine .e (.extract rfl rfl) rfl rfl <| .e (.assign rfl) rfl rfl <| .e (.assign rfl) rfl rfl <| .nil <| .go <| .seq ?_
  refine .region <| .e (.loadW ag25 sz25 rfl (.there <| .here) rfl) rfl rfl <| .e (.loadW ag29 sz29 rfl .here rfl) rfl rfl <| .on rfl <| .buildSlice Tryd.underlying36 sz29 (by decide) (by decide) zv29 rfl rfl rfl rfl rfl fun c3 _ _ => ?_
  refine .freeze fun J hJ hJb => ?_
  have htJ := ht0.mono hJ
  have hlJ := hl0.mono hJ
  refine .on rfl <| .callP cal14 rfl rfl rfl (pairV_cast (Best_ok htJ (SlR.ofRow hJb (DR.single rfl hlJ) rfl (Nat.le_refl 1) (by decide))) (best1 t l)) <| .e (.move rfl) rfl rfl <| .e (.extract rfl rfl) rfl rfl <| .e (.extract rfl rfl) rfl rfl <| .e (.assign rfl) rfl rfl <| .e (.assign rfl) rfl rfl ?_
  refine .nil <| .go <| .seq <| .region <| .e (.loadW ag25 sz25 rfl (.there <| .here) rfl) rfl rfl <| .e (.loadW ag29 sz29 rfl .here rfl) rfl rfl ?_
  refine .e (.loadW ag29 sz29 rfl .here rfl) rfl rfl <| .on rfl <| .buildSlice Tryd.underlying36 sz29 (by decide) (by decide) zv29 rfl rfl rfl rfl rfl fun c4 _ _ => ?_
  refine .freeze fun K hK hKb => ?_
  have htK := htJ.mono hK
  have hlK := hlJ.mono hK
  refine .on rfl <| .callP cal14 rfl rfl rfl (pairV_cast (Best_ok htK (SlR.ofRow hKb (show DR LodR 9 K ((l.cells (.slice lva l.node.labels.length lvc) (.slice tva l.node.taints.length tvc)) ++ (l.cells (.slice lva l.node.labels.length lvc) (.slice tva l.node.taints.length tvc))) ([l] ++ [l]) from (DR.single rfl hlK).append (DR.single rfl hlK)) rfl (Nat.le_refl 2) (by decide))) (best2 t l)) <| .e (.move rfl) rfl rfl <| .e (.extract rfl rfl) rfl rfl <| .e (.extract rfl rfl) rfl rfl <| .e (.assign rfl) rfl rfl <| .e (.assign rfl) rfl rfl ?_
  refine .nil <| .go <| .seq <| .region <| .e (.move rfl) rfl rfl <| .e (.move rfl) rfl rfl ?_
  refine .e ((EV.cast (u := .bool true) (.eql rfl rfl) (by simp))) rfl rfl <| .e (.move rfl) rfl rfl <| .e (.move rfl) rfl rfl <| .e (.move rfl) rfl rfl <| .e ((EV.cast (u := .bool true) (.eql rfl rfl) (by simp))) rfl rfl <| .e (.pickT rfl rfl) rfl rfl ?_
  refine .e (.move rfl) rfl rfl <| .e (.move rfl) rfl rfl <| .e ((EV.cast (u := .bool true) (.eql rfl rfl) (by simp))) rfl rfl <| .e (.pickT rfl rfl) rfl rfl <| .e (.move rfl) rfl rfl <| .e (.move rfl) rfl rfl ?_
  refine .e ((EV.cast (u := .bool true) (.eql rfl rfl) (by simp))) rfl rfl <| .e (.pickT rfl rfl) rfl rfl <| .e (.assign rfl) rfl rfl <| .nil <| .go <| .ret ?_
  refine .tail <| .tail ?_
  refine .back (Imm.le_trans hJ hK) ?_
  refine Post.retE rfl rfl ?_
  rfl

end Go.Proofs.YtdcblbcidjldmaaDoor
