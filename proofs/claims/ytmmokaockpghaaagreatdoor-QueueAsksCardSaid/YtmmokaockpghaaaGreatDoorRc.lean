/- Walks of functions over a symbolic memory, printed by a program of the session. -/
import Derived.Test.YtmmokaockpghaaaGreatDoorRa
namespace Go.Proofs.YtmmokaockpghaaaGreatDoor
open Go.Sy
set_option linter.unusedSimpArgs false
set_option linter.unusedVariables false

theorem lodNode' {I : Imm} {cs : List Value} {l : Lod} {lv tv : Value} (h : LodR I cs l) (h1 : PrsR I lv l.node.labels) (h2 : PrsR I tv l.node.taints) : NodR I (l.node.cells lv tv) l.node := ⟨⟨_, _, rfl, h1, h2⟩, h.name, h.has⟩

set_option maxHeartbeats 16000000 in
set_option maxRecDepth 20000 in
theorem QueueAsks_ok {I : Imm} {O : Own} {kc : List Value} {b : Bk} (hk : BkR I kc b) {task : ByteArray} :
    Pure Tryz.prog 3 [.agg ⟨kc⟩, .string task] I O (.bool true) := by
  have hk0 := hk
  obtain ⟨nv, tv, bv, rfl, hnv, htv, hbv⟩ := hk.ex
  have hnv0 := hnv
  have htv0 := htv
  have hbv0 := hbv
  obtain ⟨na, ncap, rfl, hn1, hn2, -⟩ := hnv
  obtain ⟨ta, tcap, rfl, ht1, ht2, -⟩ := htv
  obtain ⟨ba, bcap, rfl, hb1, hb2, -⟩ := hbv
  refine Go.Sy.Does.enter Tryz.func3 rfl Tryz.ntmps3 rfl ?_
  refine .seq <| .region <| .on rfl <| .box rfl rfl rfl fun c1 _ _ => .e (.assign rfl) rfl rfl <| .nil <| .go ?_
  refine .seq <| .region <| .e (.loadW ag27 sz27 rfl .here rfl) rfl rfl <| .on rfl <| .call cal14 rfl rfl rfl (waitF hk0) fun v22 I22 O22 hI22 hK22 => ?_
  obtain ⟨W, e, hW⟩ : ∃ W e, waitQ b = (W, e) := ⟨_, _, rfl⟩
  rw [hW] at hK22
  dsimp only at hK22
  obtain ⟨rfl, u22, rfl, hl22⟩ := hK22
  have hl220 := hl22
  obtain ⟨la22, lc22, rfl, hl221, hl222, -⟩ := hl22
  refine .e (.move rfl) rfl rfl <| .e (.extract rfl rfl) rfl rfl <| .e (.extract rfl rfl) rfl rfl <| .e (.assign rfl) rfl rfl <| .e (.assign rfl) rfl rfl <| .nil ?_
  refine .go <| .seq <| .region <| .e (.loadW ag27 sz27 rfl .here rfl) rfl rfl <| .on rfl <| .call cal15 rfl rfl rfl (rwaitF (hk0.mono hI22)) fun v27 I27 O27 hI27 hK27 => ?_
  rw [hW] at hK27
  dsimp only at hK27
  obtain ⟨rfl, u27, rfl, hl27⟩ := hK27
  have hl270 := hl27
  obtain ⟨la27, lc27, rfl, hl271, hl272, -⟩ := hl27
  refine .e (.move rfl) rfl rfl <| .e (.extract rfl rfl) rfl rfl <| .e (.extract rfl rfl) rfl rfl <| .e (.assign rfl) rfl rfl <| .e (.assign rfl) rfl rfl <| .nil ?_
  refine .go <| .seq <| .region <| .e (.loadW ag27 sz27 rfl .here rfl) rfl rfl <| .on rfl <| .call cal16 rfl rfl rfl (loadsF (hk0.mono (Imm.le_trans hI22 hI27))) fun v32 I32 O32 hI32 hK32 => ?_
  obtain ⟨V, e2, hV⟩ : ∃ W e, loadsQ b = (W, e) := ⟨_, _, rfl⟩
  rw [hV] at hK32
  dsimp only at hK32
  obtain ⟨rfl, u32, rfl, hl32⟩ := hK32
  have hl320 := hl32
  obtain ⟨la32, lc32, rfl, hl321, hl322, -⟩ := hl32
  refine .e (.move rfl) rfl rfl <| .e (.extract rfl rfl) rfl rfl <| .e (.extract rfl rfl) rfl rfl <| .e (.assign rfl) rfl rfl <| .e (.assign rfl) rfl rfl <| .nil ?_
  refine .go <| .seq <| .region <| .e (.loadW ag27 sz27 rfl .here rfl) rfl rfl <| .on rfl <| .call cal17 rfl rfl rfl (rloadsF (hk0.mono (Imm.le_trans (Imm.le_trans hI22 hI27) hI32))) fun v37 I37 O37 hI37 hK37 => ?_
  rw [hV] at hK37
  dsimp only at hK37
  obtain ⟨rfl, u37, rfl, hl37⟩ := hK37
  have hl370 := hl37
  obtain ⟨la37, lc37, rfl, hl371, hl372, -⟩ := hl37
  refine .e (.move rfl) rfl rfl <| .e (.extract rfl rfl) rfl rfl <| .e (.extract rfl rfl) rfl rfl <| .e (.assign rfl) rfl rfl <| .e (.assign rfl) rfl rfl <| .nil ?_
  refine .go <| .seq <| .region <| .e (.loadW ag27 sz27 rfl .here rfl) rfl rfl <| .e (.move rfl) rfl rfl <| .on rfl <| .call cal18 rfl rfl rfl (freeF (hk0.mono (Imm.le_trans (Imm.le_trans (Imm.le_trans hI22 hI27) hI32) hI37))) fun v43 I43 O43 hI43 hK43 => ?_
  obtain ⟨F, e3, hF⟩ : ∃ W e, freeQ b task = (W, e) := ⟨_, _, rfl⟩
  rw [hF] at hK43
  dsimp only at hK43
  obtain ⟨rfl, u43, rfl, hl43⟩ := hK43
  have hl430 := hl43
  obtain ⟨la43, lc43, rfl, hl431, hl432, -⟩ := hl43
  refine .e (.move rfl) rfl rfl <| .e (.extract rfl rfl) rfl rfl <| .e (.extract rfl rfl) rfl rfl <| .e (.assign rfl) rfl rfl <| .e (.assign rfl) rfl rfl <| .nil ?_
  refine .go <| .seq <| .region <| .e (.loadW ag27 sz27 rfl .here rfl) rfl rfl <| .e (.move rfl) rfl rfl <| .on rfl <| .call cal19 rfl rfl rfl (rfreeF (hk0.mono (Imm.le_trans (Imm.le_trans (Imm.le_trans (Imm.le_trans hI22 hI27) hI32) hI37) hI43))) fun v49 I49 O49 hI49 hK49 => ?_
  rw [hF] at hK49
  dsimp only at hK49
  obtain ⟨rfl, u49, rfl, hl49⟩ := hK49
  have hl490 := hl49
  obtain ⟨la49, lc49, rfl, hl491, hl492, -⟩ := hl49
  refine .e (.move rfl) rfl rfl <| .e (.extract rfl rfl) rfl rfl <| .e (.extract rfl rfl) rfl rfl <| .e (.assign rfl) rfl rfl <| .e (.assign rfl) rfl rfl <| .nil ?_
  refine .go <| .seq <| .seq <| .region <| .on rfl <| .callP cal20 rfl rfl rfl (qlives_ok) <| .e (.not rfl) rfl rfl ?_
  refine .e (.move rfl) rfl rfl <| .e (.move rfl) rfl rfl <| .e (.move rfl) rfl rfl <| .e ((EV.cast (u := .bool false) (.neq rfl rfl) (congrArg Value.bool (by rw [decide_eq_true (rfl)]; rfl)))) rfl rfl <| .e (.pickF rfl rfl) rfl rfl <| .e (.move rfl) rfl rfl ?_
  refine .e (.move rfl) rfl rfl <| .e (.move rfl) rfl rfl <| .e ((EV.cast (u := .bool false) (.neq rfl rfl) (congrArg Value.bool (by rw [decide_eq_true (rfl)]; rfl)))) rfl rfl <| .e (.pickF rfl rfl) rfl rfl <| .e (.move rfl) rfl rfl <| .e (.move rfl) rfl rfl ?_
  refine .e (.move rfl) rfl rfl <| .e ((EV.cast (u := .bool false) (.neq rfl rfl) (congrArg Value.bool (by rw [decide_eq_true (rfl)]; rfl)))) rfl rfl <| .e (.pickF rfl rfl) rfl rfl <| .e (.move rfl) rfl rfl <| .e (.move rfl) rfl rfl <| .e (.len sl23 rfl rfl) rfl rfl ?_
  refine .e (.move rfl) rfl rfl <| .e (.len sl23 rfl rfl) rfl rfl <| .e ((EV.cast (u := .bool false) (.neq rfl rfl) (congrArg Value.bool (by rw [decide_eq_true (rfl)]; rfl)))) rfl rfl <| .e (.pickF rfl rfl) rfl rfl <| .e (.move rfl) rfl rfl <| .e (.move rfl) rfl rfl ?_
  refine .e (.len sl31 rfl rfl) rfl rfl <| .e (.move rfl) rfl rfl <| .e (.len sl31 rfl rfl) rfl rfl <| .e ((EV.cast (u := .bool false) (.neq rfl rfl) (congrArg Value.bool (by rw [decide_eq_true (rfl)]; rfl)))) rfl rfl <| .e (.pickF rfl rfl) rfl rfl <| .e (.move rfl) rfl rfl ?_
  refine .e (.move rfl) rfl rfl <| .e (.len sl34 rfl rfl) rfl rfl <| .e (.move rfl) rfl rfl <| .e (.len sl34 rfl rfl) rfl rfl <| .e ((EV.cast (u := .bool false) (.neq rfl rfl) (congrArg Value.bool (by rw [decide_eq_true (rfl)]; rfl)))) rfl rfl <| .e (.pickF rfl rfl) rfl rfl ?_
  refine .nil <| .go <| .cond_false rfl <| .skip <| .go <| .seq ?_
  refine .seq <| .region <| .e (.move rfl) rfl rfl <| .e (.len sl23 rfl rfl) rfl rfl <| .e (.move rfl) rfl rfl <| .nil ?_
  refine .go <| .block ?_
  refine .loopM [4, 17, 92, 93, 94, 95, 96, 97, 98, 99, 100, 101, 102, 103, 104, 105] (fun k => W.length - k) (fun k => k ≤ W.length) (fun k => [(92, .int .i64 k)]) (fun _ => _) (fun _ => _) (0) (Nat.zero_le _) ⟨rfl, trivial⟩ rfl rfl ?_
  intro k hkk
  refine .seq <| .region <| .e (.lss rfl rfl) rfl rfl <| .nil <| .go <| .seq ?_
  refine .split 93 rfl (fun h93 => ?_) (fun h93 => ?_)
  · skip
    replace h93 := of_decide_eq_true h93
    refine .cond_true rfl <| .skip <| .go <| .seq <| .block <| .seq ?_
    refine .region <| .e (.move rfl) rfl rfl <| .e (.assign rfl) rfl rfl <| .nil <| .go <| .seq ?_
    refine .draw [] mixed .nil ?_
    refine .t 0 rfl (.move rfl) rfl rfl (by kernel_rfl) <| .t 1 rfl (.move rfl) rfl rfl (by kernel_rfl) ?_
    obtain ⟨eb97, eo97, cs97, hd97, hat97, hr97⟩ := SlR.at_ (SlR.mono (R := TskR) (I := I22) (J := I49) (fun _ _ h => TskR.mono (Imm.le_trans (Imm.le_trans (Imm.le_trans (Imm.le_trans hI27 hI32) hI37) hI43) hI49) h) (Imm.le_trans (Imm.le_trans (Imm.le_trans (Imm.le_trans hI27 hI32) hI37) hI43) hI49) hl220) (k := k) (by omega)
    cases hd97
    have ht97 := hr97
    obtain ⟨xw97, xb97, rfl, hxw97, hxb97⟩ := hr97.ex
    obtain ⟨xa97, xc97, rfl, -⟩ := hxw97
    obtain ⟨xd97, xe97, rfl, -⟩ := hxb97
    refine .t 2 rfl (.indexAddrL sl23 rfl rfl rfl (by omega)) rfl rfl (by kernel_rfl) <| .t 3 rfl (.loadIA ag42 sz42 rfl hat97 rfl) rfl rfl (by kernel_rfl) <| .t 4 rfl (.move rfl) rfl rfl (by kernel_rfl) <| .t 5 rfl (.move rfl) rfl rfl (by kernel_rfl) ?_
    obtain ⟨eb101, eo101, cs101, hd101, hat101, hr101⟩ := SlR.at_ (SlR.mono (R := TskR) (I := I27) (J := I49) (fun _ _ h => TskR.mono (Imm.le_trans (Imm.le_trans (Imm.le_trans hI32 hI37) hI43) hI49) h) (Imm.le_trans (Imm.le_trans (Imm.le_trans hI32 hI37) hI43) hI49) hl270) (k := k) (by omega)
    cases hd101
    have ht101 := hr101
    obtain ⟨xw101, xb101, rfl, hxw101, hxb101⟩ := hr101.ex
    obtain ⟨xa101, xc101, rfl, -⟩ := hxw101
    obtain ⟨xd101, xe101, rfl, -⟩ := hxb101
    refine .t 6 rfl (.indexAddrL sl23 rfl rfl rfl (by omega)) rfl rfl (by kernel_rfl) <| .t 7 rfl (.loadIA ag42 sz42 rfl hat101 rfl) rfl rfl (by kernel_rfl) <| .one (i := 8) (by kernel_rfl) rfl rfl <| .callP cal21 rfl rfl rfl ((sameTsk_ok ht97 ht101).castT (decide_eq_true rfl)) ?_
    refine ⟨.nil, Imm.le_refl _, ?_⟩
    refine .t 9 rfl (.not rfl) rfl rfl (by kernel_rfl) <| .done (by kernel_rfl) <| .go <| .cond_false rfl <| .skip <| .blk_normal ?_
    refine .go <| .region <| .e (.add rfl rfl (by first | exact wrap_succ (by omega) | exact IntWalk.i64_in _ (by omega) | exact rfl)) rfl rfl <| .e (.move rfl) rfl rfl <| .nil ?_
    exact .mid (k + 1) ⟨by omega, by omega⟩ ⟨rfl, trivial⟩ rfl rfl (.pre 16 rfl (.app rfl .base))
  · skip
    replace h93 := of_decide_eq_false h93
    refine .cond_false rfl <| .exit <| .exit <| .exit <| .blk_exit <| .go ?_
    refine .seq <| .seq <| .region <| .e (.move rfl) rfl rfl <| .e (.len sl31 rfl rfl) rfl rfl <| .e (.move rfl) rfl rfl ?_
    refine .nil <| .go <| .block ?_
    refine .loopM [4, 18, 108, 109, 110, 111, 112, 113, 114, 115, 116, 117, 118, 119, 120, 121, 122, 123, 124, 125, 126, 127, 128, 129, 130, 131, 132, 133, 134, 135, 136] (fun k => V.length - k) (fun k => k ≤ V.length) (fun k => [(108, .int .i64 k)]) (fun _ => _) (fun _ => _) (0) (Nat.zero_le _) ⟨rfl, trivial⟩ rfl rfl ?_
    intro k hkk
    refine .seq <| .region <| .e (.lss rfl rfl) rfl rfl <| .nil <| .go <| .seq ?_
    refine .split 109 rfl (fun h109 => ?_) (fun h109 => ?_)
    · skip
      replace h109 := of_decide_eq_true h109
      refine .cond_true rfl <| .skip <| .go <| .seq <| .block <| .seq ?_
      refine .region <| .e (.move rfl) rfl rfl <| .e (.assign rfl) rfl rfl <| .nil <| .go <| .seq ?_
      refine .draw [] mixed .nil ?_
      refine .t 0 rfl (.move rfl) rfl rfl (by kernel_rfl) <| .t 1 rfl (.move rfl) rfl rfl (by kernel_rfl) ?_
      obtain ⟨eb113, eo113, cs113, hd113, hat113, hr113⟩ := SlR.at_ (SlR.mono (R := LodR) (I := I32) (J := I49) (fun _ _ h => LodR.mono (Imm.le_trans (Imm.le_trans hI37 hI43) hI49) h) (Imm.le_trans (Imm.le_trans hI37 hI43) hI49) hl320) (k := k) (by omega)
      cases hd113
      have hx113 := hr113
      obtain ⟨xv113, yv113, rfl, hxv113, hyv113⟩ := hr113.ex
      have hxv113' := hxv113
      have hyv113' := hyv113
      obtain ⟨xa113, xc113, rfl, -⟩ := hxv113
      obtain ⟨ya113, yc113, rfl, -⟩ := hyv113
      refine .t 2 rfl (.indexAddrL sl31 rfl rfl rfl (by omega)) rfl rfl (by kernel_rfl) <| .t 3 rfl (.fieldAddr fo47_0 rfl) rfl rfl (by kernel_rfl) <| .t 4 rfl ((.loadIA ag45 sz45 rfl (hat113.part (j := 0) (k := 6) (vs := V[k].node.cells (.slice xa113 V[k].node.labels.length xc113) (.slice ya113 V[k].node.taints.length yc113)) rfl) rfl)) rfl rfl (by kernel_rfl) <| .t 5 rfl (.move rfl) rfl rfl (by kernel_rfl) <| .t 6 rfl (.move rfl) rfl rfl (by kernel_rfl) ?_
      obtain ⟨eb118, eo118, cs118, hd118, hat118, hr118⟩ := SlR.at_ (SlR.mono (R := LodR) (I := I37) (J := I49) (fun _ _ h => LodR.mono (Imm.le_trans hI43 hI49) h) (Imm.le_trans hI43 hI49) hl370) (k := k) (by omega)
      cases hd118
      have hx118 := hr118
      obtain ⟨xv118, yv118, rfl, hxv118, hyv118⟩ := hr118.ex
      have hxv118' := hxv118
      have hyv118' := hyv118
      obtain ⟨xa118, xc118, rfl, -⟩ := hxv118
      obtain ⟨ya118, yc118, rfl, -⟩ := hyv118
      refine .t 7 rfl (.indexAddrL sl31 rfl rfl rfl (by omega)) rfl rfl (by kernel_rfl) <| .t 8 rfl (.fieldAddr fo47_0 rfl) rfl rfl (by kernel_rfl) <| .t 9 rfl ((.loadIA ag45 sz45 rfl (hat118.part (j := 0) (k := 6) (vs := V[k].node.cells (.slice xa118 V[k].node.labels.length xc118) (.slice ya118 V[k].node.taints.length yc118)) rfl) rfl)) rfl rfl (by kernel_rfl) <| .one (i := 10) (by kernel_rfl) rfl rfl <| .callP cal22 rfl rfl rfl ((sameNod_ok (lodNode' hx113 hxv113' hyv113') (lodNode' hx118 hxv118' hyv118')).castT (decide_eq_true rfl)) ?_
      refine ⟨.nil, Imm.le_refl _, ?_⟩
      refine .t 11 rfl (.not rfl) rfl rfl (by kernel_rfl) <| .t 12 rfl (.move rfl) rfl rfl (by kernel_rfl) <| .t 13 rfl (.move rfl) rfl rfl (by kernel_rfl) <| .t 14 rfl (.move rfl) rfl rfl (by kernel_rfl) ?_
      obtain ⟨eb126, eo126, cs126, hd126, hat126, hr126⟩ := SlR.at_ (SlR.mono (R := LodR) (I := I32) (J := I49) (fun _ _ h => LodR.mono (Imm.le_trans (Imm.le_trans hI37 hI43) hI49) h) (Imm.le_trans (Imm.le_trans hI37 hI43) hI49) hl320) (k := k) (by omega)
      cases hd126
      have hx126 := hr126
      obtain ⟨xv126, yv126, rfl, hxv126, hyv126⟩ := hr126.ex
      have hxv126' := hxv126
      have hyv126' := hyv126
      obtain ⟨xa126, xc126, rfl, -⟩ := hxv126
      obtain ⟨ya126, yc126, rfl, -⟩ := hyv126
      refine .t 15 rfl (.indexAddrL sl31 rfl rfl rfl (by omega)) rfl rfl (by kernel_rfl) <| .t 16 rfl (.fieldAddr fo47_1 rfl) rfl rfl (by kernel_rfl) <| .t 17 rfl (.loadIA ag39 sz39 rfl (hat126.part (k := 3) rfl) rfl) rfl rfl (by kernel_rfl) <| .t 18 rfl (.move rfl) rfl rfl (by kernel_rfl) <| .t 19 rfl (.move rfl) rfl rfl (by kernel_rfl) ?_
      obtain ⟨eb131, eo131, cs131, hd131, hat131, hr131⟩ := SlR.at_ (SlR.mono (R := LodR) (I := I37) (J := I49) (fun _ _ h => LodR.mono (Imm.le_trans hI43 hI49) h) (Imm.le_trans hI43 hI49) hl370) (k := k) (by omega)
      cases hd131
      have hx131 := hr131
      obtain ⟨xv131, yv131, rfl, hxv131, hyv131⟩ := hr131.ex
      have hxv131' := hxv131
      have hyv131' := hyv131
      obtain ⟨xa131, xc131, rfl, -⟩ := hxv131
      obtain ⟨ya131, yc131, rfl, -⟩ := hyv131
      refine .t 20 rfl (.indexAddrL sl31 rfl rfl rfl (by omega)) rfl rfl (by kernel_rfl) <| .t 21 rfl (.fieldAddr fo47_1 rfl) rfl rfl (by kernel_rfl) <| .t 22 rfl (.loadIA ag39 sz39 rfl (hat131.part (k := 3) rfl) rfl) rfl rfl (by kernel_rfl) <| .t 23 rfl ((EV.cast (u := .bool false) (.nev (eqA3 (x := V[k].used) (y := V[k].used)) rfl rfl) (congrArg Value.bool (by rw [decide_eq_true rfl]; rfl)))) rfl rfl (by kernel_rfl) <| .t 24 rfl (.pickF rfl rfl) rfl rfl (by kernel_rfl) <| .done (by kernel_rfl) ?_
      refine .go <| .cond_false rfl <| .skip <| .blk_normal <| .go <| .region ?_
      refine .e (.add rfl rfl (by first | exact wrap_succ (by omega) | exact IntWalk.i64_in _ (by omega) | exact rfl)) rfl rfl <| .e (.move rfl) rfl rfl <| .nil ?_
      exact .mid (k + 1) ⟨by omega, by omega⟩ ⟨rfl, trivial⟩ rfl rfl (.pre 31 rfl (.app rfl .base))
    · skip
      replace h109 := of_decide_eq_false h109
      refine .cond_false rfl <| .exit <| .exit <| .exit <| .blk_exit <| .go ?_
      refine .seq <| .seq <| .region <| .e (.move rfl) rfl rfl <| .e (.len sl34 rfl rfl) rfl rfl <| .e (.move rfl) rfl rfl ?_
      refine .nil <| .go <| .block ?_
      refine .loopM [4, 19, 139, 140, 141, 142, 143, 144, 145, 146, 147, 148, 149, 150, 151] (fun k => F.length - k) (fun k => k ≤ F.length) (fun k => [(139, .int .i64 k)]) (fun _ => _) (fun _ => _) (0) (Nat.zero_le _) ⟨rfl, trivial⟩ rfl rfl ?_
      intro k hkk
      refine .seq <| .region <| .e (.lss rfl rfl) rfl rfl <| .nil <| .go <| .seq ?_
      refine .split 140 rfl (fun h140 => ?_) (fun h140 => ?_)
      · skip
        replace h140 := of_decide_eq_true h140
        refine .cond_true rfl <| .skip <| .go <| .seq <| .block <| .seq ?_
        refine .region <| .e (.move rfl) rfl rfl <| .e (.assign rfl) rfl rfl <| .nil <| .go <| .seq ?_
        refine .draw [] mixed .nil ?_
        refine .t 0 rfl (.move rfl) rfl rfl (by kernel_rfl) <| .t 1 rfl (.move rfl) rfl rfl (by kernel_rfl) ?_
        obtain ⟨eb144, eo144, cs144, hd144, hat144, hr144⟩ := SlR.at_ (SlR.mono (R := StrR) (I := I43) (J := I49) (fun _ _ h => h) hI49 hl430) (k := k) (by omega)
        cases hd144
        obtain ⟨rfl, -⟩ := hr144
        refine .t 2 rfl (.indexAddrL sl34 rfl rfl rfl (by omega)) rfl rfl (by kernel_rfl) <| .t 3 rfl (.loadI ag9 rfl (hat144.cell (j := 0) rfl)) rfl rfl (by kernel_rfl) <| .t 4 rfl (.move rfl) rfl rfl (by kernel_rfl) <| .t 5 rfl (.move rfl) rfl rfl (by kernel_rfl) ?_
        obtain ⟨eb148, eo148, cs148, hd148, hat148, hr148⟩ := SlR.at_ hl490 (k := k) (by omega)
        cases hd148
        obtain ⟨rfl, -⟩ := hr148
        refine .t 6 rfl (.indexAddrL sl34 rfl rfl rfl (by omega)) rfl rfl (by kernel_rfl) <| .t 7 rfl (.loadI ag9 rfl (hat148.cell (j := 0) rfl)) rfl rfl (by kernel_rfl) <| .t 8 rfl ((EV.cast (u := .bool false) (.strne rfl rfl) (congrArg Value.bool (by simp)))) rfl rfl (by kernel_rfl) <| .done (by kernel_rfl) <| .go <| .cond_false rfl ?_
        refine .skip <| .blk_normal <| .go <| .region <| .e (.add rfl rfl (by first | exact wrap_succ (by omega) | exact IntWalk.i64_in _ (by omega) | exact rfl)) rfl rfl <| .e (.move rfl) rfl rfl ?_
        refine .nil ?_
        exact .mid (k + 1) ⟨by omega, by omega⟩ ⟨rfl, trivial⟩ rfl rfl (.pre 15 rfl (.app rfl .base))
      · skip
        replace h140 := of_decide_eq_false h140
        refine .cond_false rfl <| .exit <| .exit <| .exit <| .blk_exit <| .go ?_
        refine .seq <| .region <| .e (.assign rfl) rfl rfl <| .nil <| .go <| .ret ?_
        refine .tail ?_
        refine .back (Imm.le_trans (Imm.le_trans (Imm.le_trans (Imm.le_trans (Imm.le_trans hI22 hI27) hI32) hI37) hI43) hI49) ?_
        refine Post.retE rfl rfl ?_
        rfl

end Go.Proofs.YtmmokaockpghaaaGreatDoor
