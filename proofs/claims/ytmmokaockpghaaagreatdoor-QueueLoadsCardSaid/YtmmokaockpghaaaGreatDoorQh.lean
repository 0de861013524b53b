/- Walks of functions over a symbolic memory, printed by a program of the session. -/
import Derived.Test.YtmmokaockpghaaaGreatDoorQe
namespace Go.Proofs.YtmmokaockpghaaaGreatDoor
open Go.Sy
set_option linter.unusedSimpArgs false
set_option linter.unusedVariables false

set_option maxHeartbeats 16000000 in
set_option maxRecDepth 20000 in
theorem QueueLoads_ok {I : Imm} {O : Own} {kc : List Value} {b : Bk} (hk : BkR I kc b) :
    Pure Tryz.prog 5 [.agg ⟨kc⟩] I O (.bool true) := by
  have hk0 := hk
  obtain ⟨nv, tv, bv, rfl, hnv, htv, hbv⟩ := hk.ex
  have hnv0 := hnv
  have htv0 := htv
  have hbv0 := hbv
  obtain ⟨na, ncap, rfl, hn1, hn2, -⟩ := hnv
  obtain ⟨ta, tcap, rfl, ht1, ht2, -⟩ := htv
  obtain ⟨ba, bcap, rfl, hb1, hb2, -⟩ := hbv
  refine Go.Sy.Does.enter Tryz.func5 rfl Tryz.ntmps5 rfl ?_
  refine .seq <| .region <| .on rfl <| .box rfl rfl rfl fun c1 _ _ => .e (.assign rfl) rfl rfl <| .nil <| .go ?_
  refine .seq <| .seq <| .region <| .on rfl <| .callP cal20 rfl rfl rfl (qlives_ok) <| .e (.not rfl) rfl rfl <| .nil ?_
  refine .go <| .cond_false rfl <| .skip <| .go <| .seq <| .region ?_
  refine .e (.loadW ag27 sz27 rfl .here rfl) rfl rfl <| .on rfl <| .call cal16 rfl rfl rfl (loadsF hk0) fun v21 I21 O21 hI21 hK21 => ?_
  obtain ⟨W, e, hW⟩ : ∃ W e, loadsQ b = (W, e) := ⟨_, _, rfl⟩
  rw [hW] at hK21
  dsimp only at hK21
  obtain ⟨rfl, u21, rfl, hl21⟩ := hK21
  have hl210 := hl21
  obtain ⟨la21, lc21, rfl, hl211, hl212, -⟩ := hl21
  refine .e (.move rfl) rfl rfl <| .e (.extract rfl rfl) rfl rfl <| .e (.extract rfl rfl) rfl rfl <| .e (.assign rfl) rfl rfl <| .e (.assign rfl) rfl rfl <| .nil ?_
  refine .go <| .seq <| .seq <| .region <| .e (.move rfl) rfl rfl <| .e (.neq rfl rfl) rfl rfl ?_
  refine .nil <| .go ?_
  refine .split 25 rfl (fun h25 => ?_) (fun h25 => ?_)
  · skip
    first | replace h25 := of_decide_eq_false ((Bool.not_eq_true' _).mp h25) | replace h25 := of_decide_eq_false (by simpa using h25)
    have hW0 := loadsQ_out hW h25
    refine .cond_true rfl <| .seq <| .region <| .e (.move rfl) rfl rfl <| .e (.len sl31 rfl rfl) rfl rfl <| .e ((EV.cast (u := .bool true) (.eql rfl rfl) (congrArg Value.bool (decide_eq_true (by rw [hW0]; rfl))))) rfl rfl ?_
    refine .e (.assign rfl) rfl rfl <| .nil <| .go <| .ret <| .ret ?_
    refine .tail ?_
    refine .back hI21 ?_
    refine Post.retE rfl rfl ?_
    rfl
  · skip
    first | replace h25 := of_decide_eq_true ((Bool.not_eq_false' _).mp h25) | replace h25 := of_decide_eq_true (by simpa using h25)
    obtain ⟨hok, rfl⟩ := loadsQ_in hW h25
    have hbn := hok.nodes
    have hbt := hok.tasks
    have hbb := hok.binds
    refine .cond_false rfl <| .skip <| .go <| .seq <| .region <| .on rfl <| .alloc zr39 rfl fun c2 _ _ => ?_
    refine .nil <| .go <| .seq <| .seq <| .region <| .e (.move rfl) rfl rfl ?_
    refine .e (.len sl31 rfl rfl) rfl rfl <| .e (.move rfl) rfl rfl <| .nil <| .go <| .block ?_
    refine .loopM [2, 7, 8, 9, 31, 32, 33, 34, 35, 36, 37, 38, 39, 40, 41, 42, 43, 44, 45, 46, 47, 48, 49, 50, 51, 52, 53, 54, 55, 56, 57, 58, 59] (fun s => (loadsR b).length - s.1) (fun s => s.1 ≤ (loadsR b).length ∧ s.2 = allTo b s.1) (fun s => [(31, .int .i64 s.1)]) (fun _ => _) (fun s => (c2, .cells ⟨[.int .i64 s.2.a, .int .i64 s.2.b, .int .i64 s.2.c]⟩ 39 (0, 0)) :: _) (((0, zA) : Nat × A3)) ⟨Nat.zero_le _, rfl⟩ ⟨rfl, trivial⟩ rfl rfl ?_
    intro ⟨k, x⟩ hk
    dsimp only at hk ⊢
    obtain ⟨hkk, hx⟩ := hk
    have hll := loads_len (b := b)
    have hbd := allTo_bd hok k (by omega)
    rw [← hx] at hbd
    refine .seq <| .region <| .e (.lss rfl rfl) rfl rfl <| .nil <| .go <| .seq ?_
    refine .split 32 rfl (fun h32 => ?_) (fun h32 => ?_)
    · skip
      replace h32 := of_decide_eq_true h32
      refine .cond_true rfl <| .skip <| .go <| .seq <| .block <| .seq ?_
      refine .region ?_
      obtain ⟨eb33, eo33, cs33, hd33, hat33, hr33⟩ := SlR.at_ hl210 (k := k) (by omega)
      cases hd33
      rw [loads_get (show k < (loadsR b).length by rw [loads_len]; omega)] at hr33
      have hlb := load_bd hok (List.getElem_mem (show k < b.nodes.length by omega))
      obtain ⟨lX, hlX⟩ : ∃ l, loadOf b b.nodes[k] = l := ⟨_, rfl⟩
      rw [hlX] at hr33 hlb
      have hx33 := hr33
      obtain ⟨xv33, yv33, rfl, hxv33, hyv33⟩ := hr33.ex
      obtain ⟨xa33, xc33, rfl, -⟩ := hxv33
      obtain ⟨ya33, yc33, rfl, -⟩ := hyv33
      refine .e (.indexAddrL sl31 rfl rfl rfl (by omega)) rfl rfl <| .e (.loadIA ag47 sz47 rfl hat33 rfl) rfl rfl <| .on rfl <| .alloc zr47 rfl fun c3 _ _ => .on rfl <| .storeW sz47 rfl rfl rfl rfl rfl rfl .here <| .nil <| .go ?_
      refine .seq <| .region <| .e (.fieldAddr fo47_1 rfl) rfl rfl <| .e (.loadP ag39 sz39 rfl .here rfl) rfl rfl <| .e (.move rfl) rfl rfl <| .nil ?_
      refine .go <| .block <| .unroll 3 <| .seq <| .region <| .e (.lss rfl rfl) rfl rfl ?_
      refine .nil <| .go <| .seq <| .cond_true rfl <| .skip <| .go ?_
      refine .seq <| .block <| .seq <| .region <| .e (.move rfl) rfl rfl <| .e (.index (j := 0) ar39 ag2 rfl rfl rfl (by first | decide | omega) rfl) rfl rfl ?_
      refine .e (.assign rfl) rfl rfl <| .e (.assign rfl) rfl rfl <| .nil <| .go <| .seq <| .region ?_
      refine .e (.move rfl) rfl rfl <| .e (.indexAddrA (j := 0) ar39 rfl rfl rfl (by first | decide | omega)) rfl rfl <| .e (.load ag2 rfl (.there <| .here) rfl) rfl rfl <| .e (.move rfl) rfl rfl <| .e (.add rfl rfl (IntWalk.i64_in _ (by omega))) rfl rfl <| .e (.indexAddrA (j := 0) ar39 rfl rfl rfl (by first | decide | omega)) rfl rfl ?_
      refine .on rfl <| .store sz2 rfl rfl rfl rfl rfl rfl (.there <| .here) <| .nil <| .go <| .seq <| .region <| .e (.move rfl) rfl rfl ?_
      refine .e ((EV.cast (u := .bool false) (.lss rfl rfl) (congrArg Value.bool (decide_eq_false (by omega))))) rfl rfl <| .e (.move rfl) rfl rfl <| .e (.move rfl) rfl rfl <| .e (.move rfl) rfl rfl <| .e (.fieldAddr fo47_0 rfl) rfl rfl <| .e (.fieldAddr fo45_1 rfl) rfl rfl ?_
      refine .e (.indexAddrA (j := 0) ar39 rfl rfl rfl (by first | decide | omega)) rfl rfl <| .e (.load ag2 rfl .here rfl) rfl rfl <| .e ((EV.cast (u := .bool false) (.gtr rfl rfl) (congrArg Value.bool (decide_eq_false (by omega))))) rfl rfl <| .e (.pickF rfl rfl) rfl rfl <| .nil <| .go ?_
      refine .cond_false rfl <| .skip <| .blk_normal <| .go <| .region <| .e (.add (c := 1) rfl rfl (by decide)) rfl rfl ?_
      refine .e (.move rfl) rfl rfl <| .nil <| .again <| .seq <| .region <| .e (.lss rfl rfl) rfl rfl ?_
      refine .nil <| .go <| .seq <| .cond_true rfl <| .skip <| .go ?_
      refine .seq <| .block <| .seq <| .region <| .e (.move rfl) rfl rfl <| .e (.index (j := 1) ar39 ag2 rfl rfl rfl (by first | decide | omega) rfl) rfl rfl ?_
      refine .e (.assign rfl) rfl rfl <| .e (.assign rfl) rfl rfl <| .nil <| .go <| .seq <| .region ?_
      refine .e (.move rfl) rfl rfl <| .e (.indexAddrA (j := 1) ar39 rfl rfl rfl (by first | decide | omega)) rfl rfl <| .e (.load ag2 rfl (.there <| .here) rfl) rfl rfl <| .e (.move rfl) rfl rfl <| .e (.add rfl rfl (IntWalk.i64_in _ (by omega))) rfl rfl <| .e (.indexAddrA (j := 1) ar39 rfl rfl rfl (by first | decide | omega)) rfl rfl ?_
      refine .on rfl <| .store sz2 rfl rfl rfl rfl rfl rfl (.there <| .here) <| .nil <| .go <| .seq <| .region <| .e (.move rfl) rfl rfl ?_
      refine .e ((EV.cast (u := .bool false) (.lss rfl rfl) (congrArg Value.bool (decide_eq_false (by omega))))) rfl rfl <| .e (.move rfl) rfl rfl <| .e (.move rfl) rfl rfl <| .e (.move rfl) rfl rfl <| .e (.fieldAddr fo47_0 rfl) rfl rfl <| .e (.fieldAddr fo45_1 rfl) rfl rfl ?_
      refine .e (.indexAddrA (j := 1) ar39 rfl rfl rfl (by first | decide | omega)) rfl rfl <| .e (.load ag2 rfl .here rfl) rfl rfl <| .e ((EV.cast (u := .bool false) (.gtr rfl rfl) (congrArg Value.bool (decide_eq_false (by omega))))) rfl rfl <| .e (.pickF rfl rfl) rfl rfl <| .nil <| .go ?_
      refine .cond_false rfl <| .skip <| .blk_normal <| .go <| .region <| .e (.add (c := 2) rfl rfl (by decide)) rfl rfl ?_
      refine .e (.move rfl) rfl rfl <| .nil <| .again <| .seq <| .region <| .e (.lss rfl rfl) rfl rfl ?_
      refine .nil <| .go <| .seq <| .cond_true rfl <| .skip <| .go ?_
      refine .seq <| .block <| .seq <| .region <| .e (.move rfl) rfl rfl <| .e (.index (j := 2) ar39 ag2 rfl rfl rfl (by first | decide | omega) rfl) rfl rfl ?_
      refine .e (.assign rfl) rfl rfl <| .e (.assign rfl) rfl rfl <| .nil <| .go <| .seq <| .region ?_
      refine .e (.move rfl) rfl rfl <| .e (.indexAddrA (j := 2) ar39 rfl rfl rfl (by first | decide | omega)) rfl rfl <| .e (.load ag2 rfl (.there <| .here) rfl) rfl rfl <| .e (.move rfl) rfl rfl <| .e (.add rfl rfl (IntWalk.i64_in _ (by omega))) rfl rfl <| .e (.indexAddrA (j := 2) ar39 rfl rfl rfl (by first | decide | omega)) rfl rfl ?_
      refine .on rfl <| .store sz2 rfl rfl rfl rfl rfl rfl (.there <| .here) <| .nil <| .go <| .seq <| .region <| .e (.move rfl) rfl rfl ?_
      refine .e ((EV.cast (u := .bool false) (.lss rfl rfl) (congrArg Value.bool (decide_eq_false (by omega))))) rfl rfl <| .e (.move rfl) rfl rfl <| .e (.move rfl) rfl rfl <| .e (.move rfl) rfl rfl <| .e (.fieldAddr fo47_0 rfl) rfl rfl <| .e (.fieldAddr fo45_1 rfl) rfl rfl ?_
      refine .e (.indexAddrA (j := 2) ar39 rfl rfl rfl (by first | decide | omega)) rfl rfl <| .e (.load ag2 rfl .here rfl) rfl rfl <| .e ((EV.cast (u := .bool false) (.gtr rfl rfl) (congrArg Value.bool (decide_eq_false (by omega))))) rfl rfl <| .e (.pickF rfl rfl) rfl rfl <| .nil <| .go ?_
      refine .cond_false rfl <| .skip <| .blk_normal <| .go <| .region <| .e (.add (c := 3) rfl rfl (by decide)) rfl rfl ?_
      refine .e (.move rfl) rfl rfl <| .nil <| .again <| .seq <| .region <| .e (.lss rfl rfl) rfl rfl ?_
      refine .nil <| .go <| .seq <| .cond_false rfl <| .exit <| .exit ?_
      refine .exit <| .blk_exit <| .blk_normal <| .go <| .region <| .e (.add rfl rfl (by first | exact wrap_succ (by omega) | exact IntWalk.i64_in _ (by omega) | exact rfl)) rfl rfl ?_
      refine .e (.move rfl) rfl rfl <| .nil ?_
      refine .tail ?_
      exact .mid ((k + 1, pA x lX.used)) ⟨by dsimp only; omega, by dsimp only; omega, by dsimp only; rw [allTo_load hok (show k < b.nodes.length by omega), ← hx, hlX]⟩ ⟨rfl, trivial⟩ rfl rfl (.pre 83 rfl (.app rfl .base))
    · skip
      replace h32 := of_decide_eq_false h32
      refine .cond_false rfl <| .exit <| .exit <| .exit <| .blk_exit <| .go ?_
      refine .seq <| .region <| .e (.assign rfl) rfl rfl <| .nil <| .go <| .seq ?_
      refine .seq <| .region <| .e (.fieldAddr fo27_1 rfl) rfl rfl <| .e (.load ag23 rfl (.there <| .here) rfl) rfl rfl <| .e (.len sl23 rfl rfl) rfl rfl <| .e (.move rfl) rfl rfl ?_
      refine .nil <| .go <| .block ?_
      refine .loopM [10, 12, 14, 63, 64, 65, 66, 67, 68, 69, 70, 71, 72, 73, 74, 75, 76, 77, 78, 79, 80, 81, 82, 83, 84] (fun s => b.tasks.length - s.1) (fun s => s.1 ≤ b.tasks.length ∧ OwnS 9 s.2.1 (onTo b s.1).length s.2.2.1 s.2.2.2 ∧ DR TskR 9 I21 s.2.2.1 (onTo b s.1)) (fun s => [(63, .int .i64 s.1), (10, s.2.1)]) (fun _ => _) (fun s => s.2.2.2 ++ _) (((0, .slice none 0 0, [], []) : Nat × Value × List Value × Own)) ⟨Nat.zero_le _, OwnS.nil, DR.nil⟩ ⟨rfl, rfl, trivial⟩ rfl rfl ?_
      intro ⟨q, vL, wsL, obL⟩ hq
      dsimp only at hq ⊢
      obtain ⟨hqq, hoL, hdL⟩ := hq
      obtain ⟨adL, capL, rfl⟩ := hoL.form
      refine .seq <| .region <| .e (.lss rfl rfl) rfl rfl <| .nil <| .go <| .seq ?_
      refine .split 64 rfl (fun h64 => ?_) (fun h64 => ?_)
      · skip
        replace h64 := of_decide_eq_true h64
        refine .cond_true rfl <| .skip <| .go <| .seq <| .block <| .seq ?_
        refine .region ?_
        obtain ⟨eb65, eo65, cs65, hd65, hat65, hr65⟩ := SlR.at_ (htv0.mono hI21) (k := q) (by omega)
        cases hd65
        have ht65 := hr65
        obtain ⟨xw65, xb65, rfl, hxw65, hxb65⟩ := hr65.ex
        obtain ⟨xa65, xc65, rfl, -⟩ := hxw65
        obtain ⟨xd65, xe65, rfl, -⟩ := hxb65
        refine .e (.indexAddrL sl23 rfl rfl rfl (by omega)) rfl rfl <| .e (.loadIA ag42 sz42 rfl hat65 rfl) rfl rfl <| .on rfl <| .alloc zr42 rfl fun c4 _ _ => .on rfl <| .storeW sz42 rfl rfl rfl rfl rfl rfl .here <| .nil <| .go ?_
        refine .seq <| .region <| .e (.fieldAddr fo27_2 rfl) rfl rfl <| .e (.load ag24 rfl (.there <| .app <| .there <| .here) rfl) rfl rfl <| .e (.len sl24 rfl rfl) rfl rfl <| .e (.move rfl) rfl rfl ?_
        refine .nil <| .go <| .block ?_
        refine .front (.there <| .front) ?_
        refine .loopM [10, 14, 70, 71, 72, 73, 74, 75, 76, 77, 78, 79, 80, 81, 82, 83] (fun s => b.binds.length - s.1) (fun s => s.1 ≤ b.binds.length ∧ OwnS 9 s.2.1 (onTo2 b q s.1).length s.2.2.1 s.2.2.2 ∧ DR TskR 9 I21 s.2.2.1 (onTo2 b q s.1)) (fun s => [(70, .int .i64 s.1), (10, s.2.1)]) (fun _ => _) (fun s => s.2.2.2 ++ _) (((0, .slice adL (onTo b q).length capL, wsL, obL) : Nat × Value × List Value × Own)) ⟨Nat.zero_le _, by dsimp only; rw [onTo2_zero]; exact hoL, by dsimp only; rw [onTo2_zero]; exact hdL⟩ ⟨rfl, rfl, trivial⟩ rfl rfl ?_
        intro ⟨r, vM, wsM, obM⟩ hr
        dsimp only at hr ⊢
        obtain ⟨hrr, hoM, hdM⟩ := hr
        obtain ⟨adM, capM, rfl⟩ := hoM.form
        have hfw := onTo2_few hok q r
        refine .seq <| .region <| .e (.lss rfl rfl) rfl rfl <| .nil <| .go <| .seq ?_
        refine .split 71 rfl (fun h71 => ?_) (fun h71 => ?_)
        · skip
          replace h71 := of_decide_eq_true h71
          refine .cond_true rfl <| .skip <| .go <| .seq <| .block <| .seq ?_
          refine .region ?_
          obtain ⟨eb72, eo72, cs72, hd72, hat72, hr72⟩ := SlR.at_ (hbv0.mono hI21) (k := r) (by omega)
          cases hd72
          have hx72 := hr72
          obtain ⟨rfl, hx72a, hx72b⟩ := hr72
          refine .e (.indexAddrL sl24 rfl rfl rfl (by omega)) rfl rfl <| .e (.loadIA ag51 sz51 rfl hat72 rfl) rfl rfl <| .on rfl <| .alloc zr51 rfl fun c5 _ _ => .on rfl <| .storeW sz51 rfl rfl rfl rfl rfl rfl .here <| .nil <| .go ?_
          refine .seq <| .region <| .e (.fieldAddr fo51_0 rfl) rfl rfl <| .e (.load ag9 rfl .here rfl) rfl rfl <| .e (.fieldAddr fo42_0 rfl) rfl rfl <| .e (.load ag9 rfl (.there <| .app <| .here) rfl) rfl rfl ?_
          refine .e (.streq rfl rfl) rfl rfl <| .nil <| .go ?_
          refine .split 78 rfl (fun h78 => ?_) (fun h78 => ?_)
          · skip
            replace h78 := of_decide_eq_true h78
            refine .cond_true rfl <| .region <| .e (.move rfl) rfl rfl <| .e (.loadW ag42 sz42 rfl (.there <| .app <| .here) rfl) rfl rfl <| .on rfl <| .buildSlice Tryz.underlying23 sz42 (by decide) (by decide) zv42 rfl rfl rfl rfl rfl fun c6 _ _ => .on rfl <| .append Tryz.underlying23 Tryz.underlying23 sz42 by42 zv42 rfl rfl rfl (.there <| .there <| .front) hoM ((OwnS.made (k := 9) rfl (by decide)).src (I := _) .here) rfl rfl (by omega) (by omega) rfl fun v82 ob82 ho82 => ?_
            refine .e (.assign rfl) rfl rfl <| .nil <| .blk_normal <| .go <| .region <| .e (.add rfl rfl (by first | exact wrap_succ (by omega) | exact IntWalk.i64_in _ (by omega) | exact rfl)) rfl rfl ?_
            refine .e (.move rfl) rfl rfl <| .nil ?_
            refine .front1 (.app <| .here) ?_
            refine .tail ?_
            refine .front1 (.app <| .here) ?_
            refine .tail ?_
            have e5 := onTo2_step (b := b) (k := q) (j := r) (by omega) (by omega)
            rw [if_pos h78] at e5
            have e6 : (onTo2 b q (r + 1)).length = (onTo2 b q r).length + 1 := by rw [e5, List.length_append]; rfl
            exact .mid ((r + 1, _, _, _)) ⟨by dsimp only; omega, by dsimp only; omega, by dsimp only; rw [e6]; exact ho82, (by dsimp only; rw [e5]; exact hdM.append (DR.single rfl ht65))⟩ ⟨rfl, rfl, trivial⟩ rfl rfl (.pre 18 rfl (.app rfl .base))
          · skip
            replace h78 := of_decide_eq_false h78
            refine .cond_false rfl <| .skip <| .blk_normal <| .go <| .region <| .e (.add rfl rfl (by first | exact wrap_succ (by omega) | exact IntWalk.i64_in _ (by omega) | exact rfl)) rfl rfl ?_
            refine .e (.move rfl) rfl rfl <| .nil ?_
            refine .tail ?_
            have e5 := onTo2_step (b := b) (k := q) (j := r) (by omega) (by omega)
            rw [if_neg h78] at e5
            exact .mid ((r + 1, _, wsM, obM)) ⟨by dsimp only; omega, by dsimp only; omega, by dsimp only; rw [e5]; exact hoM, by dsimp only; rw [e5]; exact hdM⟩ ⟨rfl, rfl, trivial⟩ rfl rfl (.pre 13 rfl (.app rfl .base))
        · skip
          replace h71 := of_decide_eq_false h71
          refine .cond_false rfl <| .exit <| .exit <| .exit <| .blk_exit <| .blk_normal ?_
          refine .go <| .region <| .e (.add rfl rfl (by first | exact wrap_succ (by omega) | exact IntWalk.i64_in _ (by omega) | exact rfl)) rfl rfl <| .e (.move rfl) rfl rfl <| .nil ?_
          refine .front1 (.app <| .here) ?_
          refine .tail ?_
          have e5 := onTo_step (b := b) (k := q) (j := r) (by omega) (by omega)
          rw [← e5] at hoM hdM ⊢
          exact .mid ((q + 1, _, wsM, obM)) ⟨by dsimp only; omega, by dsimp only; omega, hoM, hdM⟩ ⟨rfl, rfl, trivial⟩ rfl rfl (.pre 4 rfl (.app rfl (.del rfl (.pre 9 rfl (.app rfl .base)))))
      · skip
        replace h64 := of_decide_eq_false h64
        refine .cond_false rfl <| .exit <| .exit <| .exit <| .blk_exit <| .go ?_
        refine .seq <| .region ?_
        refine .freezeS hoL fun K hK hKs => ?_
        have ek : q = b.tasks.length := by omega
        subst ek
        rw [onTo_end (Nat.le_refl _)] at hdL ⊢
        have hsO : TsksR K _ (onT b) := hKs (R := TskR) (hdL.mono fun _ _ h => h.mono hK) (by rw [onTo_end (Nat.le_refl _)])
        rw [onTo_end (Nat.le_refl _)] at hsO
        refine .e (.move rfl) rfl rfl <| .on rfl <| .callP cal24 rfl rfl rfl (Sum_ok hsO) <| .e (.move rfl) rfl rfl <| .e (.extract rfl rfl) rfl rfl <| .e (.extract rfl rfl) rfl rfl <| .on rfl <| .alloc zr39 rfl fun c7 _ _ => ?_
        refine .on rfl <| .storeW sz39 rfl rfl rfl rfl rfl rfl .here <| .e (.assign rfl) rfl rfl <| .nil <| .go <| .seq <| .region ?_
        refine .e (.move rfl) rfl rfl <| .e ((EV.cast (u := .bool true) (.eql rfl rfl) (congrArg Value.bool (decide_eq_true (by rw [onT_sum hok]))))) rfl rfl <| .e (.move rfl) rfl rfl <| .e (.loadW ag39 sz39 rfl (.there <| .here) rfl) rfl rfl <| .e (.loadW ag39 sz39 rfl .here rfl) rfl rfl <| .e ((EV.cast (u := .bool true) (.eqv (eqA3 (x := x) (y := (sumR (onT b)).1)) rfl rfl) (congrArg Value.bool (decide_eq_true (by rw [onT_sum hok, hx, show k = b.nodes.length by omega]; exact loads_law hok))))) rfl rfl ?_
        refine .e (.pickT rfl rfl) rfl rfl <| .e (.move rfl) rfl rfl <| .e (.move rfl) rfl rfl <| .e (.len sl31 rfl rfl) rfl rfl <| .e (.fieldAddr fo27_0 rfl) rfl rfl <| .e (.load ag22 rfl (.there <| .there <| .here) rfl) rfl rfl ?_
        refine .e (.len sl22 rfl rfl) rfl rfl <| .e ((EV.cast (u := .bool true) (.eql rfl rfl) (congrArg Value.bool (decide_eq_true (by omega))))) rfl rfl <| .e (.pickT rfl rfl) rfl rfl <| .e (.assign rfl) rfl rfl <| .nil <| .go ?_
        refine .ret ?_
        refine .tail <| .tail <| .tail ?_
        refine .back (Imm.le_trans hI21 hK) ?_
        refine Post.retE rfl rfl ?_
        rfl

end Go.Proofs.YtmmokaockpghaaaGreatDoor
