/- Walks of functions over a symbolic memory, printed by a program of the session. -/
import Derived.Test.YtmmokaockpghaaaGreatDoorBt
import Derived.Test.YtmmokaockpghaaaGreatDoorQb
namespace Go.Proofs.YtmmokaockpghaaaGreatDoor
open Go.Sy
set_option linter.unusedSimpArgs false
set_option linter.unusedVariables false

theorem on_name {b : Bk} (h : BookOk b) {s : ByteArray} : onR b s = ⟨#[]⟩ ↔ hasB b s = false := by
  unfold onR hasB hasBy
  cases e : b.binds.find? (fun x => decide (x.task = s)) with
  | none =>
    refine ⟨fun _ => ?_, fun _ => rfl⟩
    rw [List.any_eq_false]
    exact fun x hx => List.find?_eq_none.1 e x hx
  | some x =>
    have hx := List.mem_of_find?_eq_some e
    have hp := List.find?_some e
    dsimp only
    constructor
    · intro h0
      obtain ⟨n, hn, e2⟩ := has_iff.1 (h.bnd x hx).1
      have hw := h.nod n hn
      unfold nodWhy at hw
      split at hw
      · cases hw
      · rename_i h1
        have h2 : isName n.name = true := by simpa using h1
        unfold isName at h2
        rw [e2, h0] at h2
        simp at h2
    · intro h0
      exact absurd (List.any_eq_false.1 h0 x hx) (by simpa using hp)
theorem fold_len : ∀ (L out : List Tsk), (L.foldl insW out).length = out.length + L.length
  | [], out => rfl
  | t :: L, out => by rw [List.foldl_cons, fold_len L, ins_perm.length_eq, List.length_cons, List.length_cons]; omega
def waitTo (b : Bk) (k : Nat) : List Tsk := (freeTo' b k).foldl insW []
theorem waitTo_len {b : Bk} {k : Nat} : (waitTo b k).length ≤ k := by
  unfold waitTo
  rw [fold_len]
  have := freeTo'_len (b := b) (k := k)
  simp only [List.length_nil]; omega
theorem waitTo_step {b : Bk} {k : Nat} (hk : k < b.tasks.length) : waitTo b (k + 1) = if hasB b b.tasks[k].name = true then waitTo b k else insW (waitTo b k) b.tasks[k] := by
  unfold waitTo
  rw [freeTo'_step hk]
  split
  · rfl
  · rw [List.foldl_append]; rfl
theorem waitTo_end {b : Bk} {k : Nat} (hk : b.tasks.length ≤ k) : waitTo b k = waitR b := by unfold waitTo waitR; rw [freeTo'_end hk]
theorem insW_at {out : List Tsk} {t : Tsk} {j : Nat} (hj : j ≤ out.length) (h1 : ∀ i (hi : i < out.length), i < j → aheadB out[i] t = true) (h2 : ∀ h : j < out.length, aheadB out[j] t = false) : insW out t = (out.take j ++ [t]) ++ out.drop j := by
  have ha : ∀ x ∈ out.take j, aheadB x t = true := by
    intro x hx
    rw [List.mem_take_iff_getElem] at hx
    obtain ⟨i, hi, rfl⟩ := hx
    exact h1 i (by omega) (by omega)
  have hd : (out.drop j).takeWhile (fun u => aheadB u t) = [] ∧ (out.drop j).dropWhile (fun u => aheadB u t) = out.drop j := by
    by_cases h : j < out.length
    · rw [List.drop_eq_getElem_cons h, List.takeWhile_cons, List.dropWhile_cons, h2 h]; simp
    · rw [List.drop_of_length_le (by omega)]; exact ⟨rfl, rfl⟩
  have e : out = out.take j ++ out.drop j := (List.take_append_drop j out).symm
  have e1 : out.takeWhile (fun u => aheadB u t) = out.take j := by
    have : (out.take j ++ out.drop j).takeWhile (fun u => aheadB u t) = out.take j ++ (out.drop j).takeWhile (fun u => aheadB u t) := List.takeWhile_append_of_pos ha
    rw [List.take_append_drop, hd.1, List.append_nil] at this; exact this
  have e2 : out.dropWhile (fun u => aheadB u t) = out.drop j := by
    have : (out.take j ++ out.drop j).dropWhile (fun u => aheadB u t) = (out.drop j).dropWhile (fun u => aheadB u t) := List.dropWhile_append_of_pos ha
    rw [List.take_append_drop, hd.2] at this; exact this
  unfold insW
  rw [e1, e2]; simp

set_option maxHeartbeats 1000000 in
set_option maxRecDepth 20000 in
theorem rAhead_ok {I : Imm} {O : Own} {ac bc : List Value} {x y : Tsk} (hx : TskR I ac x) (hy : TskR I bc y) :
  Pure Tryz.prog 45 [.agg ⟨ac⟩, .agg ⟨bc⟩] I O (.bool (aheadB x y)) := by
 obtain ⟨xw, xb, rfl, hxw, hxb⟩ := hx.ex
 obtain ⟨_, _, rfl, -⟩ := hxw
 obtain ⟨_, _, rfl, -⟩ := hxb
 obtain ⟨yw, yb, rfl, hyw, hyb⟩ := hy.ex
 obtain ⟨_, _, rfl, -⟩ := hyw
 obtain ⟨_, _, rfl, -⟩ := hyb
 refine Go.Sy.Does.enter Tryz.func45 rfl Tryz.ntmps45 rfl ?_
 refine .seq <| .region <| .on rfl <| .box rfl rfl rfl fun c1 _ _ => .on rfl <| .box rfl rfl rfl fun c2 _ _ => .a rfl <| .nil ?_
 refine .go <| .seq <| .region <| .f (.fieldAddr fo42_6 rfl) <| .f (.load ag3 rfl (.there <| .here) rfl) <| .f (.fieldAddr fo42_6 rfl) ?_
 refine .f (.load ag3 rfl .here rfl) <| .f (.gtr rfl rfl) <| .m rfl ?_
 refine .sd 10 rfl (fun h10 => ?_) (fun h10 => ?_)
 ·
  refine .z <| .z <| .z <| .z <| .z <| .z ?_
  refine .z <| .z <| .z <| .z <| .z <| .z ?_
  refine .f (.pickT rfl rfl) <| .a rfl <| .nil <| .go <| .ret ?_
  refine .tail <| .tail ?_
  refine Post.retE rfl rfl ?_
  refine congrArg Value.bool ?_
  unfold aheadB
  simp_all
 ·
  refine .f (.fieldAddr fo42_6 rfl) <| .f (.load ag3 rfl (.there <| .here) rfl) <| .f (.fieldAddr fo42_6 rfl) <| .f (.load ag3 rfl .here rfl) <| .f (.eql rfl rfl) <| .m rfl ?_
  refine .sd 16 rfl (fun h16 => ?_) (fun h16 => ?_)
  ·
   refine .f (.fieldAddr fo42_0 rfl) <| .f (.load ag9 rfl (.there <| .here) rfl) <| .f (.fieldAddr fo42_0 rfl) <| .f (.load ag9 rfl .here rfl) <| .f (.strlt rfl rfl) <| .f (.pickT rfl rfl) ?_
   refine .f (.pickF rfl rfl) <| .a rfl <| .nil <| .go <| .ret ?_
   refine .tail <| .tail ?_
   refine Post.retE rfl rfl ?_
   refine congrArg Value.bool ?_
   unfold aheadB
   simp_all
  ·
   refine .z <| .z <| .z <| .z <| .z <| .f (.pickF rfl rfl) ?_
   refine .f (.pickF rfl rfl) <| .a rfl <| .nil <| .go <| .ret ?_
   refine .tail <| .tail ?_
   refine Post.retE rfl rfl ?_
   refine congrArg Value.bool ?_
   unfold aheadB
   simp_all

set_option maxHeartbeats 16000000 in
set_option maxRecDepth 20000 in
theorem rwait_ok {I : Imm} {O : Own} {kc : List Value} {b : Bk} (hk : BkR I kc b) :
  Go.Sy.Does Tryz.prog 15 [.agg ⟨kc⟩] I O (fun u I' O' => ∃ v ws ob, u = .tuple ⟨[v, .int .i64 (waitQ b).2]⟩ ∧ OwnS 9 v (waitQ b).1.length ws ob ∧ DR TskR 9 I' ws (waitQ b).1 ∧ O' = ob ++ O) := by
 have hk0 := hk
 obtain ⟨nv, tv, bv, rfl, hnv, htv, hbv⟩ := hk.ex
 have hnv0 := hnv
 have htv0 := htv
 have hbv0 := hbv
 obtain ⟨na, ncap, rfl, hn1, hn2, -⟩ := hnv
 obtain ⟨ta, tcap, rfl, ht1, ht2, -⟩ := htv
 obtain ⟨ba, bcap, rfl, hb1, hb2, -⟩ := hbv
 refine Go.Sy.Does.enter Tryz.func15 rfl Tryz.ntmps15 rfl ?_
 refine .seq <| .region <| .on rfl <| .box rfl rfl rfl fun c1 _ _ => .a rfl <| .a rfl <| .nil ?_
 refine .go <| .seq <| .seq <| .region <| .f (.loadW ag27 sz27 rfl .here rfl) <| .on rfl <| .callP cal43 rfl rfl rfl (rbCheck_ok hk0) ?_
 refine .f (.neq rfl rfl) <| .nil <| .go ?_
 refine .split 10 rfl (fun h10 => ?_) (fun h10 => ?_)
 ·
  first | replace h10 := of_decide_eq_false ((Bool.not_eq_true' _).mp h10) | replace h10 := of_decide_eq_false (by simpa using h10)
  refine .cond_true rfl <| .seq <| .region <| .a rfl <| .a rfl <| .nil ?_
  refine .go <| .ret <| .ret ?_
  refine Post.rets rfl (.tmp rfl (.tmp rfl .nil)) rfl (Imm.le_refl _) (fun w h => (Sat.tail h)) ?_
  rw [show waitQ b = ([], 10) by unfold waitQ; rw [if_neg (by rw [(bookWhy_no h10).1]; simp)]]
  exact ⟨_, [], [], rfl, OwnS.nil, DR.nil, rfl⟩
 ·
  first | replace h10 := of_decide_eq_true ((Bool.not_eq_false' _).mp h10) | replace h10 := of_decide_eq_true (by simpa using h10)
  have hok := BookOk.of (bookWhy_ok h10)
  have hbt := hok.tasks
  refine .cond_false rfl <| .skip <| .go <| .seq <| .region <| .a rfl ?_
  refine .nil <| .go <| .seq <| .seq <| .region <| .f (.fieldAddr fo27_1 rfl) ?_
  refine .f (.load ag23 rfl .here rfl) <| .f (.len sl23 rfl rfl) <| .m rfl <| .nil <| .go <| .block ?_
  refine .loopM [4, 6, 7, 14, 15, 16, 17, 18, 19, 20, 21, 22, 23, 24, 25, 26, 27, 28, 29, 30, 31, 32, 33, 34, 35, 36, 37, 38, 39, 40, 41, 42, 43, 44, 45, 46, 47, 48, 49, 50] (fun s => b.tasks.length - s.1) (fun s => s.1 ≤ b.tasks.length ∧ OwnS 9 s.2.1 (waitTo b s.1).length s.2.2.1 s.2.2.2.1 ∧ DR TskR 9 s.2.2.2.2 s.2.2.1 (waitTo b s.1) ∧ I.le s.2.2.2.2) (fun s => [(14, .int .i64 s.1), (4, s.2.1)]) (fun s => s.2.2.2.2) (fun s => s.2.2.2.1 ++ _) (((0, .slice none 0 0, [], [], I) : Nat × Value × List Value × Own × Imm)) ⟨Nat.zero_le _, OwnS.nil, DR.nil, Imm.le_refl _⟩ ⟨rfl, rfl, trivial⟩ rfl rfl ?_
  intro ⟨k, vL, wsL, obL, J⟩ hkI
  dsimp only at hkI ⊢
  obtain ⟨hkk, hoL, hdL, hJ⟩ := hkI
  obtain ⟨adL, capL, rfl⟩ := hoL.form
  have hcapL := hoL.capLe
  have hwl := waitTo_len (b := b) (k := k)
  have htJ := TsksR.mono hJ htv0
  refine .seq <| .region <| .f (.lss rfl rfl) <| .nil <| .go <| .seq ?_
  refine .sd 15 rfl (fun h15 => ?_) (fun h15 => ?_)
  ·
   refine .cond_true rfl <| .skip <| .go <| .seq <| .block <| .seq ?_
   refine .region ?_
   obtain ⟨eb16, eo16, cs16, hd16, hat16, hr16⟩ := SlR.at_ htJ (k := k) (by omega)
   cases hd16
   have ht16 := hr16
   obtain ⟨xw16, xb16, rfl, hxw16, hxb16⟩ := hr16.ex
   obtain ⟨xa16, xc16, rfl, -⟩ := hxw16
   obtain ⟨xd16, xe16, rfl, -⟩ := hxb16
   refine .f (.indexAddrL sl23 rfl rfl rfl (by omega)) <| .f (.loadIA ag42 sz42 rfl hat16 rfl) <| .on rfl <| .alloc zr42 rfl fun c2 _ _ => .on rfl <| .storeW sz42 rfl rfl rfl rfl rfl rfl .here <| .nil <| .go ?_
   refine .seq <| .seq <| .region <| .f (.loadW ag27 sz27 rfl (.there <| .app <| .here) rfl) <| .f (.fieldAddr fo42_0 rfl) <| .f (.load ag9 rfl .here rfl) ?_
   refine .on rfl <| .callP cal44 rfl rfl rfl (rOn_ok (hk0.mono hJ)) <| .f (.strne rfl rfl) <| .nil <| .go ?_
   refine .split 22 rfl (fun h22 => ?_) (fun h22 => ?_)
   ·
    first | replace h22 := of_decide_eq_false ((Bool.not_eq_true' _).mp h22) | replace h22 := of_decide_eq_false (by simpa using h22)
    have hyB : hasB b b.tasks[k].name = true := by
     cases e : hasB b b.tasks[k].name
     · exact absurd ((on_name hok).2 e) h22
     · rfl
    refine .cond_true rfl <| .exit <| .exit <| .blk_exit <| .go <| .region ?_
    refine .f (.add rfl rfl (by first | exact wrap_succ (by omega) | exact IntWalk.i64_in _ (by omega) | exact rfl)) <| .m rfl <| .nil ?_
    refine .tail ?_
    have e5 := waitTo_step (b := b) (k := k) (by omega)
    rw [if_pos hyB] at e5
    exact .mid ((k + 1, _, wsL, obL, J)) ⟨by dsimp only; omega, by dsimp only; omega, by dsimp only; rw [e5]; exact hoL, by dsimp only; rw [e5]; exact hdL, hJ⟩ ⟨rfl, rfl, trivial⟩ rfl rfl (.pre 13 rfl (.app rfl .base))
   ·
    first | replace h22 := of_decide_eq_true ((Bool.not_eq_false' _).mp h22) | replace h22 := of_decide_eq_true (by simpa using h22)
    have hnB : hasB b b.tasks[k].name = false := (on_name hok).1 (by simpa using h22)
    have htw := hok.tsk _ (List.getElem_mem (show k < b.tasks.length by omega))
    refine .cond_false rfl <| .skip <| .go <| .seq <| .region <| .a rfl ?_
    refine .nil <| .go <| .seq <| .block ?_
    refine .front (.there <| .front) ?_
    refine .freezeS hoL fun Q hQ hQs => ?_
    have hlQ : TsksR Q _ (waitTo b k) := hQs (R := TskR) (hdL.mono fun _ _ h => TskR.mono hQ h) rfl
    have htQ := TskR.mono hQ ht16
    refine .loopM [7, 23, 24, 25, 26, 27, 28, 29, 30, 31, 32, 33, 34, 35, 36] (fun j => (waitTo b k).length - j) (fun j => j ≤ (waitTo b k).length ∧ ∀ i (hi : i < (waitTo b k).length), i < j → aheadB (waitTo b k)[i] b.tasks[k] = true) (fun j => [(7, .int .i64 j)]) (fun _ => _) (fun _ => _) (0) ⟨Nat.zero_le _, fun i _ h => absurd h (Nat.not_lt_zero _)⟩ ⟨rfl, trivial⟩ rfl rfl ?_
    intro j hj
    obtain ⟨hjj, hja⟩ := hj
    refine .seq <| .seq ?_
    refine .draw [(c2, _)] mixed (.cons .here .nil) ?_
    refine .u 0 rfl (.move rfl) <| .u 1 rfl (.move rfl) <| .u 2 rfl (.len sl23 rfl rfl) <| .u 3 rfl (.lss rfl rfl) <| .u 4 rfl (.move rfl) ?_
    refine .sd 27 rfl (fun h27 => ?_) (fun h27 => ?_)
    ·
     refine .u 5 rfl (.move rfl) <| .u 6 rfl (.move rfl) ?_
     obtain ⟨eb30, eo30, cs30, hd30, hat30, hr30⟩ := SlR.at_ hlQ (k := j) (by omega)
     cases hd30
     have ht30 := hr30
     obtain ⟨xw30, xb30, rfl, hxw30, hxb30⟩ := hr30.ex
     obtain ⟨xa30, xc30, rfl, -⟩ := hxw30
     obtain ⟨xd30, xe30, rfl, -⟩ := hxb30
     refine .u 7 rfl (.indexAddrL sl23 rfl rfl rfl (by omega)) <| .u 8 rfl (.loadIA ag42 sz42 rfl hat30 rfl) <| .u 9 rfl (.loadW ag42 sz42 rfl .here rfl) <| .one (i := 10) (by kernel_rfl) rfl rfl <| .callP cal45 rfl rfl rfl (rAhead_ok ht30 htQ) ?_
     refine ⟨(.cons .here .nil), Imm.le_refl _, ?_⟩
     refine .u 11 rfl (.pickT rfl rfl) <| .done (by kernel_rfl) <| .go ?_
     refine .split 34 rfl (fun h34 => ?_) (fun h34 => ?_)
     ·
      refine .cond_true rfl <| .skip <| .go <| .block <| .region <| .m rfl ?_
      refine .f (.add rfl rfl (by first | exact wrap_succ (by omega) | exact IntWalk.i64_in _ (by omega) | exact rfl)) <| .a rfl <| .nil <| .blk_normal ?_
      exact .mid (j + 1) ⟨by omega, by omega, fun i hi h => (by rcases Nat.lt_or_eq_of_le (Nat.lt_succ_iff.1 h) with h | h; exact hja i hi h; subst h; simpa using h34)⟩ ⟨rfl, trivial⟩ rfl rfl (.pre 17 rfl (.app rfl .base))
     ·
      refine .cond_false rfl <| .exit <| .exit <| .exit <| .blk_exit <| .go ?_
      refine .draw [(c2, _)] mixed (.cons .here .nil) ?_
      refine .u 1 rfl (.move rfl) <| .u 2 rfl (.move rfl) <| .u 3 rfl (.sliceHn sl23 rfl rfl rfl (by omega)) <| .u 5 rfl (.loadW ag42 sz42 rfl .here rfl) <| .u 9 rfl (.move rfl) <| .u 10 rfl (.move rfl) ?_
      refine .u 11 rfl (.sliceL sl23 rfl rfl rfl hjj) <| .one (i := 0) (by kernel_rfl) rfl rfl <| .buildSlice Tryz.underlying23 sz42 (by decide) (by decide) zv42 rfl rfl rfl rfl rfl fun c3 _ _ => ?_
      refine ⟨(.cons (.there <| .here) .nil), Imm.le_refl _, ?_⟩
      obtain ⟨wsA, hsA, hdA⟩ := SlR.src (B := []) (fun _ _ h => TskR.len h) (SlR.takeN hlQ hjj)
      refine .one (i := 4) (by kernel_rfl) rfl rfl <| .append Tryz.underlying23 Tryz.underlying23 sz42 by42 zv42 rfl rfl rfl .here (OwnS.made rfl (by decide)) hsA.any hdA.1 (hdA.ones (by decide) (fun _ _ h => TskR.ones h)) (by rw [List.length_take]; omega) (by rw [List.length_take]; omega) rfl fun v41 ob41 ho41 => ?_
      refine ⟨(.cons (.app <| .here) .nil), Imm.le_refl _, ?_⟩
      refine .one (i := 6) (by kernel_rfl) rfl rfl <| .call cal46 rfl rfl rfl (rCopyTask_ok htQ (by have := tsk_few htw; omega) (by have := tsk_few htw; omega)) fun v43 I43 O43 hI43 hK43 => ?_
      obtain ⟨cs43, hq43, hR43, rfl⟩ := hK43
      replace hq43 := hq43.symm
      subst hq43
      have hR43' := hR43
      obtain ⟨lv43, tv43, rfl, hl43, ht43⟩ := hR43'.ex
      obtain ⟨_, _, rfl, -⟩ := hl43
      obtain ⟨_, _, rfl, -⟩ := ht43
      refine ⟨(.cons (.app <| .here) .nil), hI43, ?_⟩
      refine .one (i := 7) (by kernel_rfl) rfl rfl <| .buildSlice Tryz.underlying23 sz42 (by decide) (by decide) zv42 rfl rfl rfl rfl rfl fun c4 _ _ => ?_
      refine ⟨(.cons (.there <| .app <| .here) .nil), hI43, ?_⟩
      refine .one (i := 8) (by kernel_rfl) rfl rfl <| .append Tryz.underlying23 Tryz.underlying23 sz42 by42 zv42 rfl rfl rfl (.there <| .front) ho41 ((OwnS.made (k := 9) rfl (by decide)).src (I := _) .here) rfl rfl (by rw [List.length_take]; omega) (by rw [List.length_take]; omega) rfl fun v45 ob45 ho45 => ?_
      refine ⟨(.cons (.app <| .there <| .here) .nil), hI43, ?_⟩
      obtain ⟨wsB, hsB, hdB⟩ := SlR.src (B := []) (fun _ _ h => TskR.len h) (SlR.from (l := j) (TsksR.mono hI43 hlQ) hjj)
      refine .one (i := 12) (by kernel_rfl) rfl rfl <| .append Tryz.underlying23 Tryz.underlying23 sz42 by42 zv42 rfl rfl rfl .front ho45 hsB.any hdB.1 (hdB.ones (by decide) (fun _ _ h => TskR.ones h)) (by rw [List.length_take, List.length_drop]; omega) (by rw [List.length_take, List.length_drop]; omega) rfl fun v49 ob49 ho49 => ?_
      refine ⟨(.cons (.app <| .there <| .here) .nil), hI43, ?_⟩
      refine .u 13 rfl (.assign rfl) <| .done (by kernel_rfl) <| .blk_normal <| .go <| .region <| .f (.add rfl rfl (by first | exact wrap_succ (by omega) | exact IntWalk.i64_in _ (by omega) | exact rfl)) ?_
      refine .m rfl <| .nil ?_
      refine .front1 (.app <| .here) ?_
      refine .tail ?_
      refine .front1 (.app <| .here) ?_
      refine .tail ?_
      have e5 := waitTo_step (b := b) (k := k) (by omega)
      rw [if_neg (show ¬hasB b b.tasks[k].name = true by rw [hnB]; simp)] at e5
      rw [insW_at hjj hja (fun _ => by simpa using h34)] at e5
      have e6 : 0 + ((waitTo b k).take j).length + 1 + ((waitTo b k).drop j).length = (waitTo b (k + 1)).length := by rw [e5]; simp; omega
      rw [e6] at ho49
      exact .mid ((k + 1, _, _, _, I43)) ⟨by dsimp only; omega, by dsimp only; omega, ho49, by dsimp only; rw [e5]; exact ((hdA.mono fun _ _ h => TskR.mono hI43 h).append (DR.single rfl hR43)).append hdB, (Imm.le_trans (Imm.le_trans hJ hQ) hI43)⟩ ⟨rfl, rfl, trivial⟩ rfl rfl (.pre 30 rfl (.app rfl (.del rfl (.pre 12 rfl (.app rfl .base)))))
    ·
     refine .s 5 rfl rfl rfl (by kernel_rfl) <| .s 6 rfl rfl rfl (by kernel_rfl) <| .s 7 rfl rfl rfl (by kernel_rfl) <| .s 8 rfl rfl rfl (by kernel_rfl) <| .s 9 rfl rfl rfl (by kernel_rfl) <| .none_ (i := 10) (by kernel_rfl) rfl rfl rfl ?_
     refine .u 11 rfl (.pickF rfl rfl) <| .done (by kernel_rfl) <| .go <| .cond_false rfl <| .exit <| .exit ?_
     refine .exit <| .blk_exit <| .go ?_
     refine .draw [(c2, _)] mixed (.cons .here .nil) ?_
     refine .u 1 rfl (.move rfl) <| .u 2 rfl (.move rfl) <| .u 3 rfl (.sliceHn sl23 rfl rfl rfl (by omega)) <| .u 5 rfl (.loadW ag42 sz42 rfl .here rfl) <| .u 9 rfl (.move rfl) <| .u 10 rfl (.move rfl) ?_
     refine .u 11 rfl (.sliceL sl23 rfl rfl rfl hjj) <| .one (i := 0) (by kernel_rfl) rfl rfl <| .buildSlice Tryz.underlying23 sz42 (by decide) (by decide) zv42 rfl rfl rfl rfl rfl fun c5 _ _ => ?_
     refine ⟨(.cons (.there <| .here) .nil), Imm.le_refl _, ?_⟩
     obtain ⟨wsA, hsA, hdA⟩ := SlR.src (B := []) (fun _ _ h => TskR.len h) (SlR.takeN hlQ hjj)
     refine .one (i := 4) (by kernel_rfl) rfl rfl <| .append Tryz.underlying23 Tryz.underlying23 sz42 by42 zv42 rfl rfl rfl .here (OwnS.made rfl (by decide)) hsA.any hdA.1 (hdA.ones (by decide) (fun _ _ h => TskR.ones h)) (by rw [List.length_take]; omega) (by rw [List.length_take]; omega) rfl fun v41 ob41 ho41 => ?_
     refine ⟨(.cons (.app <| .here) .nil), Imm.le_refl _, ?_⟩
     refine .one (i := 6) (by kernel_rfl) rfl rfl <| .call cal46 rfl rfl rfl (rCopyTask_ok htQ (by have := tsk_few htw; omega) (by have := tsk_few htw; omega)) fun v43 I43 O43 hI43 hK43 => ?_
     obtain ⟨cs43, hq43, hR43, rfl⟩ := hK43
     replace hq43 := hq43.symm
     subst hq43
     have hR43' := hR43
     obtain ⟨lv43, tv43, rfl, hl43, ht43⟩ := hR43'.ex
     obtain ⟨_, _, rfl, -⟩ := hl43
     obtain ⟨_, _, rfl, -⟩ := ht43
     refine ⟨(.cons (.app <| .here) .nil), hI43, ?_⟩
     refine .one (i := 7) (by kernel_rfl) rfl rfl <| .buildSlice Tryz.underlying23 sz42 (by decide) (by decide) zv42 rfl rfl rfl rfl rfl fun c6 _ _ => ?_
     refine ⟨(.cons (.there <| .app <| .here) .nil), hI43, ?_⟩
     refine .one (i := 8) (by kernel_rfl) rfl rfl <| .append Tryz.underlying23 Tryz.underlying23 sz42 by42 zv42 rfl rfl rfl (.there <| .front) ho41 ((OwnS.made (k := 9) rfl (by decide)).src (I := _) .here) rfl rfl (by rw [List.length_take]; omega) (by rw [List.length_take]; omega) rfl fun v45 ob45 ho45 => ?_
     refine ⟨(.cons (.app <| .there <| .here) .nil), hI43, ?_⟩
     obtain ⟨wsB, hsB, hdB⟩ := SlR.src (B := []) (fun _ _ h => TskR.len h) (SlR.from (l := j) (TsksR.mono hI43 hlQ) hjj)
     refine .one (i := 12) (by kernel_rfl) rfl rfl <| .append Tryz.underlying23 Tryz.underlying23 sz42 by42 zv42 rfl rfl rfl .front ho45 hsB.any hdB.1 (hdB.ones (by decide) (fun _ _ h => TskR.ones h)) (by rw [List.length_take, List.length_drop]; omega) (by rw [List.length_take, List.length_drop]; omega) rfl fun v49 ob49 ho49 => ?_
     refine ⟨(.cons (.app <| .there <| .here) .nil), hI43, ?_⟩
     refine .u 13 rfl (.assign rfl) <| .done (by kernel_rfl) <| .blk_normal <| .go <| .region <| .f (.add rfl rfl (by first | exact wrap_succ (by omega) | exact IntWalk.i64_in _ (by omega) | exact rfl)) ?_
     refine .m rfl <| .nil ?_
     refine .front1 (.app <| .here) ?_
     refine .tail ?_
     refine .front1 (.app <| .here) ?_
     refine .tail ?_
     have e5 := waitTo_step (b := b) (k := k) (by omega)
     rw [if_neg (show ¬hasB b b.tasks[k].name = true by rw [hnB]; simp)] at e5
     rw [insW_at hjj hja (fun h => absurd h (by omega))] at e5
     have e6 : 0 + ((waitTo b k).take j).length + 1 + ((waitTo b k).drop j).length = (waitTo b (k + 1)).length := by rw [e5]; simp; omega
     rw [e6] at ho49
     exact .mid ((k + 1, _, _, _, I43)) ⟨by dsimp only; omega, by dsimp only; omega, ho49, by dsimp only; rw [e5]; exact ((hdA.mono fun _ _ h => TskR.mono hI43 h).append (DR.single rfl hR43)).append hdB, (Imm.le_trans (Imm.le_trans hJ hQ) hI43)⟩ ⟨rfl, rfl, trivial⟩ rfl rfl (.pre 29 rfl (.app rfl (.del rfl (.pre 12 rfl (.app rfl .base)))))
  ·
   refine .cond_false rfl <| .exit <| .exit <| .exit <| .blk_exit <| .go ?_
   refine .seq <| .region <| .m rfl <| .a rfl <| .a rfl <| .nil ?_
   refine .go <| .ret ?_
   refine .front1 (.app <| .here) ?_
   refine .tail ?_
   refine Post.rets rfl (.tmp rfl (.tmp rfl .nil)) rfl hJ (fun w h => h) ?_
   rw [waitTo_end (show b.tasks.length ≤ k by omega)] at hdL hoL ⊢
   rw [show waitQ b = (waitR b, 0) by unfold waitQ; rw [if_pos (bookWhy_ok h10)]]
   exact ⟨_, _, obL, rfl, hoL, hdL, rfl⟩

set_option maxHeartbeats 16000000 in
set_option maxRecDepth 20000 in
theorem rloads_ok {I : Imm} {O : Own} {kc : List Value} {b : Bk} (hk : BkR I kc b) :
  Go.Sy.Does Tryz.prog 17 [.agg ⟨kc⟩] I O (fun u I' O' => ∃ v ws ob, u = .tuple ⟨[v, .int .i64 (loadsQ b).2]⟩ ∧ OwnS 9 v (loadsQ b).1.length ws ob ∧ DR LodR 9 I' ws (loadsQ b).1 ∧ O' = ob ++ O) := by
 have hk0 := hk
 obtain ⟨nv, tv, bv, rfl, hnv, htv, hbv⟩ := hk.ex
 have hnv0 := hnv
 have htv0 := htv
 have hbv0 := hbv
 obtain ⟨na, ncap, rfl, hn1, hn2, -⟩ := hnv
 obtain ⟨ta, tcap, rfl, ht1, ht2, -⟩ := htv
 obtain ⟨ba, bcap, rfl, hb1, hb2, -⟩ := hbv
 refine Go.Sy.Does.enter Tryz.func17 rfl Tryz.ntmps17 rfl ?_
 refine .seq <| .region <| .on rfl <| .box rfl rfl rfl fun c1 _ _ => .a rfl <| .a rfl <| .nil ?_
 refine .go <| .seq <| .seq <| .region <| .f (.loadW ag27 sz27 rfl .here rfl) <| .on rfl <| .callP cal43 rfl rfl rfl (rbCheck_ok hk0) ?_
 refine .f (.neq rfl rfl) <| .nil <| .go ?_
 refine .split 11 rfl (fun h11 => ?_) (fun h11 => ?_)
 ·
  first | replace h11 := of_decide_eq_false ((Bool.not_eq_true' _).mp h11) | replace h11 := of_decide_eq_false (by simpa using h11)
  refine .cond_true rfl <| .seq <| .region <| .a rfl <| .a rfl <| .nil ?_
  refine .go <| .ret <| .ret ?_
  refine Post.rets rfl (.tmp rfl (.tmp rfl .nil)) rfl (Imm.le_refl _) (fun w h => (Sat.tail h)) ?_
  rw [show loadsQ b = ([], 10) by unfold loadsQ; rw [if_neg (by rw [(bookWhy_no h11).1]; simp)]]
  exact ⟨_, [], [], rfl, OwnS.nil, DR.nil, rfl⟩
 ·
  first | replace h11 := of_decide_eq_true ((Bool.not_eq_false' _).mp h11) | replace h11 := of_decide_eq_true (by simpa using h11)
  have hok := BookOk.of (bookWhy_ok h11)
  have hbn := hok.nodes
  refine .cond_false rfl <| .skip <| .go <| .seq <| .region <| .a rfl ?_
  refine .nil <| .go <| .seq <| .seq <| .region <| .f (.fieldAddr fo27_0 rfl) ?_
  refine .f (.load ag22 rfl .here rfl) <| .f (.len sl22 rfl rfl) <| .m rfl <| .nil <| .go <| .block ?_
  refine .loopM [4, 6, 7, 8, 15, 16, 17, 18, 19, 20, 21, 22, 23, 24, 25, 26, 27, 28, 29, 30, 31, 32, 33] (fun s => b.nodes.length - s.1) (fun s => s.1 ≤ b.nodes.length ∧ OwnS 9 s.2.1 s.1 s.2.2.1 s.2.2.2.1 ∧ DR LodR 9 s.2.2.2.2 s.2.2.1 ((loadsR b).take s.1) ∧ I.le s.2.2.2.2) (fun s => [(15, .int .i64 s.1), (4, s.2.1)]) (fun s => s.2.2.2.2) (fun s => s.2.2.2.1 ++ _) (((0, .slice none 0 0, [], [], I) : Nat × Value × List Value × Own × Imm)) ⟨Nat.zero_le _, OwnS.nil, by rw [List.take_zero]; exact DR.nil, Imm.le_refl _⟩ ⟨rfl, rfl, trivial⟩ rfl rfl ?_
  intro ⟨k, vL, wsL, obL, J⟩ hkI
  dsimp only at hkI ⊢
  obtain ⟨hkk, hoL, hdL, hJ⟩ := hkI
  obtain ⟨adL, capL, rfl⟩ := hoL.form
  have hnJ := NodsR.mono hJ hnv0
  refine .seq <| .region <| .f (.lss rfl rfl) <| .nil <| .go <| .seq ?_
  refine .sd 16 rfl (fun h16 => ?_) (fun h16 => ?_)
  ·
   refine .cond_true rfl <| .skip <| .go <| .seq <| .block <| .seq ?_
   refine .region ?_
   obtain ⟨eb17, eo17, cs17, hd17, hat17, hr17⟩ := SlR.at_ hnJ (k := k) (by omega)
   cases hd17
   have hn17 := hr17
   obtain ⟨xf17, xg17, rfl, hxf17, hxg17⟩ := hr17.ex
   obtain ⟨xh17, xi17, rfl, -⟩ := hxf17
   obtain ⟨xj17, xk17, rfl, -⟩ := hxg17
   have hnw := hok.nod _ (List.getElem_mem (show k < b.nodes.length by omega))
   refine .f (.indexAddrL sl22 rfl rfl rfl (by omega)) <| .f (.loadIA ag45 sz45 rfl hat17 rfl) <| .on rfl <| .alloc zr45 rfl fun c2 _ _ => .on rfl <| .storeW sz45 rfl rfl rfl rfl rfl rfl .here <| .nil <| .go ?_
   refine .seq <| .region <| .f (.loadW ag27 sz27 rfl (.there <| .app <| .here) rfl) <| .f (.fieldAddr fo45_0 rfl) <| .f (.load ag9 rfl .here rfl) <| .on rfl <| .callP cal47 rfl rfl rfl (rbUsed_ok (hk0.mono hJ)) ?_
   refine .m rfl <| .f (.extract rfl rfl) <| .f (.extract rfl rfl) <| .on rfl <| .alloc zr39 rfl fun c3 _ _ => .on rfl <| .storeW sz39 rfl rfl rfl rfl rfl rfl .here <| .a rfl ?_
   refine .nil <| .go ?_
   refine .draw [(c2, _), (c3, _)] mixed (.cons (.there <| .here) (.cons .here .nil)) ?_
   refine .u 0 rfl (.move rfl) <| .u 1 rfl (.loadW ag45 sz45 rfl .here rfl) <| .u 3 rfl (.loadW ag39 sz39 rfl (.there <| .here) rfl) <| .one (i := 2) (by kernel_rfl) rfl rfl <| .call cal48 rfl rfl rfl (rCopyNode_ok hn17 (by have := nod_few hnw; omega) (by have := nod_few hnw; omega)) fun v28 I28 O28 hI28 hK28 => ?_
   obtain ⟨cs28, hq28, hR28, rfl⟩ := hK28
   replace hq28 := hq28.symm
   subst hq28
   have hR28' := hR28
   obtain ⟨lv28, tv28, rfl, hl28, ht28⟩ := hR28'.ex
   obtain ⟨_, _, rfl, -⟩ := hl28
   obtain ⟨_, _, rfl, -⟩ := ht28
   refine ⟨(.cons (.there <| .here) (.cons .here .nil)), hI28, ?_⟩
   refine .u 4 rfl (.build bs47 zv47 rfl rfl) <| .one (i := 5) (by kernel_rfl) rfl rfl <| .buildSlice Tryz.underlying31 sz47 (by decide) (by decide) zv47 rfl rfl rfl rfl rfl fun c4 _ _ => ?_
   refine ⟨(.cons (.there <| .there <| .here) (.cons (.there <| .here) .nil)), hI28, ?_⟩
   refine .one (i := 6) (by kernel_rfl) rfl rfl <| .append Tryz.underlying31 Tryz.underlying31 sz47 by47 zv47 rfl rfl rfl (.there <| .there <| .there <| .front) hoL ((OwnS.made (k := 9) rfl (by decide)).src (I := _) .here) rfl rfl (by omega) (by omega) rfl fun v32 ob32 ho32 => ?_
   refine ⟨(.cons (.app <| .there <| .there <| .here) (.cons (.app <| .there <| .here) .nil)), hI28, ?_⟩
   refine .u 7 rfl (.assign rfl) <| .done (by kernel_rfl) <| .blk_normal <| .go <| .region <| .f (.add rfl rfl (by first | exact wrap_succ (by omega) | exact IntWalk.i64_in _ (by omega) | exact rfl)) ?_
   refine .m rfl <| .nil ?_
   refine .front1 (.app <| .here) ?_
   refine .tail ?_
   refine .front1 (.app <| .here) ?_
   refine .tail ?_
   refine .front1 (.app <| .here) ?_
   refine .tail ?_
   exact .mid ((k + 1, _, _, _, I28)) ⟨by dsimp only; omega, by dsimp only; omega, ho32, (by dsimp only; rw [loads_at (show k < b.nodes.length by omega)]; exact (hdL.mono fun _ _ h => LodR.mono hI28 h).append (DR.single rfl (lodMk hR28 (used_i64 hok (List.getElem_mem (show k < b.nodes.length by omega)))))), (Imm.le_trans hJ hI28)⟩ ⟨rfl, rfl, trivial⟩ rfl rfl (.pre 24 rfl (.app rfl .base))
  ·
   refine .cond_false rfl <| .exit <| .exit <| .exit <| .blk_exit <| .go ?_
   refine .seq <| .region <| .m rfl <| .a rfl <| .a rfl <| .nil ?_
   refine .go <| .ret ?_
   refine Post.rets rfl (.tmp rfl (.tmp rfl .nil)) rfl hJ (fun w h => (Sat.tail (Sat.rem h (Rem.app <| Rem.here)))) ?_
   have ek : k = b.nodes.length := by omega
   subst ek
   rw [List.take_of_length_le (by rw [loads_len]; exact Nat.le_refl _)] at hdL
   rw [show loadsQ b = (loadsR b, 0) by unfold loadsQ; rw [if_pos (bookWhy_ok h11)]]
   exact ⟨_, _, obL, rfl, by dsimp only; rw [loads_len]; exact hoL, hdL, rfl⟩

section
variable {I : Imm} {O : Own} {kc : List Value} {b : Bk} (hk : BkR I kc b)
include hk
theorem rwaitF : Go.Sy.Does Tryz.prog 15 [.agg ⟨kc⟩] I O fun u I' O' => O' = O ∧ ∃ v, u = .tuple ⟨[v, .int .i64 (waitQ b).2]⟩ ∧ TsksR I' v (waitQ b).1 := frzL (R := TskR) (fun h x => x.mono h) (rwait_ok hk)
theorem rloadsF : Go.Sy.Does Tryz.prog 17 [.agg ⟨kc⟩] I O fun u I' O' => O' = O ∧ ∃ v, u = .tuple ⟨[v, .int .i64 (loadsQ b).2]⟩ ∧ LodsR I' v (loadsQ b).1 := frzL (R := LodR) (fun h x => x.mono h) (rloads_ok hk)
end

end Go.Proofs.YtmmokaockpghaaaGreatDoor
