/- Walks of functions over a symbolic memory, printed by a program of the session. -/
import Derived.Test.YtdcblbcidjldmaaDoorSg
namespace Go.Proofs.YtdcblbcidjldmaaDoor
open Go.Sy
set_option linter.unusedSimpArgs false
set_option linter.unusedVariables false

set_option maxHeartbeats 4000000 in
set_option maxRecDepth 20000 in
theorem ScoreTurned_ok {I : Imm} {O : Own} {tc : List Value} {t : Tsk} (ht : TskR I tc t) {v : Value} {l : List Lod} (hl : LodsR I v l) (hL : l.length * 112 ≤ 140737488351232) :
    Pure Tryd.prog 6 [.agg ⟨tc⟩, v] I O (.bool true) := by
  have ht0 := ht
  obtain ⟨tw, tb, rfl, htw, htb⟩ := ht.ex
  have htw0 := htw
  obtain ⟨wa, wcap, rfl, hw1, hw2, -⟩ := htw
  have htb0 := htb
  obtain ⟨ba, bcap, rfl, hb1, hb2, -⟩ := htb
  have hl0 := hl
  obtain ⟨la, lcap, rfl, hl1, hl2, -⟩ := hl
  refine Does.enter Tryd.func6 rfl Tryd.ntmps6 rfl ?_
  refine .seq <| .region <| .on rfl <| .box rfl rfl rfl fun c1 _ _ => .e (.assign rfl) rfl rfl <| .nil <| .go ?_
  refine .seq <| .seq <| .region <| .on rfl <| .callP cal11 rfl rfl rfl (lives_ok) <| .e (.not rfl) rfl rfl <| .nil ?_
  refine .go <| .cond_false rfl <| .skip <| .go <| .seq <| .region ?_
  refine .e (.assign rfl) rfl rfl <| .nil <| .go <| .seq <| .region <| .e (.assign rfl) rfl rfl ?_
  refine .nil <| .go <| .seq <| .seq <| .region <| .e (.move rfl) rfl rfl ?_
  refine .e (.len sl36 rfl rfl) rfl rfl <| .e (.sub rfl rfl ((IntWalk.i64_in _ (by omega)).trans (show (l.length : Int) - 1 = (l.length : Int) - 1 - ((0 : Nat) : Int) by omega))) rfl rfl <| .e (.assign rfl) rfl rfl <| .nil <| .go <| .block ?_
  refine .loopM [5, 6, 7, 9, 19, 20, 21, 22, 23, 24, 25, 26, 27, 28, 29, 30, 31, 32, 33, 34, 35, 36, 37, 38, 39, 40, 41, 42, 43, 44, 45, 46, 47, 48, 49] (fun s => l.length - s.1) (fun s => s.1 ≤ l.length ∧ OwnS 9 s.2.1 s.1 s.2.2.1 s.2.2.2 ∧ DR LodR 9 I s.2.2.1 (revTo l s.1)) (fun s => [(7, .int .i64 ((l.length : Int) - 1 - (s.1 : Int))), (5, s.2.1), (6, .bool (apTo l s.1))]) (fun _ => _) (fun s => s.2.2.2 ++ _) (((0, .slice none 0 0, [], []) : Nat × Value × List Value × Own)) ⟨by dsimp only; omega, OwnS.nil, by unfold revTo; simp; exact DR.nil⟩ ⟨rfl, rfl, rfl, trivial⟩ rfl rfl ?_
  intro ⟨m, v0, ws0, ob0⟩ hm
  dsimp only at hm ⊢
  obtain ⟨hm, ho0, hd0⟩ := hm
  have hrl := revTo_len hm
  refine .seq <| .seq <| .region <| .e (.move rfl) rfl rfl <| .e (.geq rfl rfl) rfl rfl <| .nil ?_
  refine .go ?_
  refine .split 20 rfl (fun h20 => ?_) (fun h20 => ?_)
  · skip
    replace h20 := of_decide_eq_true h20
    refine .cond_true rfl <| .skip <| .go <| .seq <| .block <| .seq ?_
    refine .seq <| .region ?_
    refine .lend ho0 fun J hJ hJs hJt => ?_
    have hrv : LodsR J v0 (revTo l m) := hJs (R := LodR) (DR.mono (fun _ _ h => h.mono hJ) hd0) (by omega)
    have hrv0 := hrv
    obtain ⟨ra, rcap, rfl, hr1, hr2, -⟩ := hrv
    have hlJ := hl0.mono hJ
    refine .e (.move rfl) rfl rfl <| .e (.len sl36 rfl rfl) rfl rfl <| .e (.move rfl) rfl rfl <| .nil <| .go <| .block ?_
    refine .loopM [6, 9, 25, 26, 27, 28, 29, 30, 31, 32, 33, 34, 35, 36, 37, 38, 39, 40, 41, 42] (fun q => m - q) (fun q => q ≤ m) (fun q => [(25, .int .i64 q), (6, .bool (apTo l m && ((revTo l m).take q).all (unlike l m)))]) (fun _ => _) (fun _ => _) (0) (by omega) ⟨rfl, (by show some _ = some _; simp), trivial⟩ rfl rfl ?_
    intro q hq
    refine .seq <| .region <| .e (.lss rfl rfl) rfl rfl <| .nil <| .go <| .seq ?_
    refine .split 26 rfl (fun h26 => ?_) (fun h26 => ?_)
    · skip
      replace h26 := of_decide_eq_true h26
      refine .cond_true rfl <| .skip <| .go <| .seq <| .block <| .seq ?_
      refine .region ?_
      obtain ⟨eb27, eo27, cs27, hd27, hat27, hr27⟩ := SlR.at_ hrv0 (k := q) (by omega)
      cases hd27
      have hx27 := hr27
      obtain ⟨xv27, yv27, rfl, hxv27, hyv27⟩ := hr27.ex
      obtain ⟨xa27, xc27, rfl, -⟩ := hxv27
      obtain ⟨ya27, yc27, rfl, -⟩ := hyv27
      refine .e (.indexAddrL sl36 rfl rfl rfl (by omega)) rfl rfl <| .e (.loadIA ag29 sz29 rfl hat27 rfl) rfl rfl <| .on rfl <| .alloc zr29 rfl fun c2 _ _ => .on rfl <| .storeW sz29 rfl rfl rfl rfl rfl rfl .here <| .nil <| .go ?_
      refine .draw [(c2, _)] mixed (.cons .here .nil) ?_
      refine .t 0 rfl (.move rfl) rfl rfl (by kernel_rfl) <| .t 1 rfl (.move rfl) rfl rfl (by kernel_rfl) ?_
      refine .split 30 rfl (fun h30 => ?_) (fun h30 => ?_)
      · skip
        refine .t 2 rfl (.fieldAddr fo29_0 rfl) rfl rfl (by kernel_rfl) <| .t 3 rfl (.fieldAddr fo27_0 rfl) rfl rfl (by kernel_rfl) <| .t 4 rfl (.load ag9 rfl .here rfl) rfl rfl (by kernel_rfl) <| .t 5 rfl (.move rfl) rfl rfl (by kernel_rfl) <| .t 6 rfl (.move rfl) rfl rfl (by kernel_rfl) ?_
        obtain ⟨eb36, eo36, cs36, hd36, hat36, hr36⟩ := SlR.at_ hlJ (k := l.length - 1 - m) (by omega)
        cases hd36
        have hx36 := hr36
        obtain ⟨xv36, yv36, rfl, hxv36, hyv36⟩ := hr36.ex
        obtain ⟨xa36, xc36, rfl, -⟩ := hxv36
        obtain ⟨ya36, yc36, rfl, -⟩ := hyv36
        refine .t 7 rfl (.indexAddrL sl36 rfl rfl (by omega) (by omega)) rfl rfl (by kernel_rfl) <| .t 8 rfl (.fieldAddr fo29_0 rfl) rfl rfl (by kernel_rfl) <| .t 9 rfl (.fieldAddr fo27_0 rfl) rfl rfl (by kernel_rfl) <| .t 10 rfl (.loadI ag9 rfl (hat36.cell (j := 0) rfl)) rfl rfl (by kernel_rfl) <| .t 11 rfl (.strne rfl rfl) rfl rfl (by kernel_rfl) <| .t 12 rfl (.pickT rfl rfl) rfl rfl (by kernel_rfl) ?_
        refine .t 13 rfl (.assign rfl) rfl rfl (by kernel_rfl) <| .done (by kernel_rfl) <| .blk_normal <| .go <| .region <| .e (.add rfl rfl (by first | exact wrap_succ (by omega) | exact IntWalk.i64_in _ (by omega) | exact rfl)) rfl rfl ?_
        refine .e (.move rfl) rfl rfl <| .nil ?_
        refine .tail ?_
        have e6 := all_take1 (l := revTo l m) (p := unlike l m) (q := q) (by omega)
        exact .mid (q + 1) ⟨by omega, by omega⟩ ⟨rfl, (by show some _ = some _; rw [e6, ← Bool.and_assoc, h30]; unfold unlike nameOf; rw [lodD (show l.length - 1 - m < l.length by omega)]; rfl), trivial⟩ rfl rfl (.pre 22 rfl (.app rfl .base))
      · skip
        refine .s 2 rfl rfl rfl (by kernel_rfl) <| .s 3 rfl rfl rfl (by kernel_rfl) <| .s 4 rfl rfl rfl (by kernel_rfl) <| .s 5 rfl rfl rfl (by kernel_rfl) <| .s 6 rfl rfl rfl (by kernel_rfl) <| .s 7 rfl rfl rfl (by kernel_rfl) ?_
        refine .s 8 rfl rfl rfl (by kernel_rfl) <| .s 9 rfl rfl rfl (by kernel_rfl) <| .s 10 rfl rfl rfl (by kernel_rfl) <| .s 11 rfl rfl rfl (by kernel_rfl) <| .t 12 rfl (.pickF rfl rfl) rfl rfl (by kernel_rfl) <| .t 13 rfl (.assign rfl) rfl rfl (by kernel_rfl) ?_
        refine .done (by kernel_rfl) <| .blk_normal <| .go <| .region <| .e (.add rfl rfl (by first | exact wrap_succ (by omega) | exact IntWalk.i64_in _ (by omega) | exact rfl)) rfl rfl <| .e (.move rfl) rfl rfl ?_
        refine .nil ?_
        refine .tail ?_
        have e6 := all_take1 (l := revTo l m) (p := unlike l m) (q := q) (by omega)
        exact .mid (q + 1) ⟨by omega, by omega⟩ ⟨rfl, (by show some _ = some _; rw [e6, ← Bool.and_assoc, h30]; rfl), trivial⟩ rfl rfl (.pre 22 rfl (.app rfl .base))
    · skip
      replace h26 := of_decide_eq_false h26
      refine .cond_false rfl <| .exit <| .exit <| .exit <| .blk_exit <| .go ?_
      refine .region ?_
      refine .thaw hJt ?_
      refine .e (.move rfl) rfl rfl <| .e (.move rfl) rfl rfl <| .e (.move rfl) rfl rfl ?_
      obtain ⟨eb46, eo46, cs46, hd46, hat46, hr46⟩ := SlR.at_ hl0 (k := l.length - 1 - m) (by omega)
      cases hd46
      have hx46 := hr46
      obtain ⟨xv46, yv46, rfl, hxv46, hyv46⟩ := hr46.ex
      obtain ⟨xa46, xc46, rfl, -⟩ := hxv46
      obtain ⟨ya46, yc46, rfl, -⟩ := hyv46
      refine .e (.indexAddrL sl36 rfl rfl (by omega) (by omega)) rfl rfl <| .e (.loadIA ag29 sz29 rfl hat46 rfl) rfl rfl <| .on rfl <| .buildSlice Tryd.underlying36 sz29 (by decide) (by decide) zv29 rfl rfl rfl rfl rfl fun c3 _ _ => .on rfl <| .append Tryd.underlying36 Tryd.underlying36 sz29 by29 zv29 rfl rfl rfl (.there <| .front) ho0 ((OwnS.made (k := 9) rfl (by decide)).src (I := _) .here) rfl rfl (by omega) (by omega) rfl fun v49 ob49 ho49 => .e (.assign rfl) rfl rfl <| .nil ?_
      refine .blk_normal <| .go <| .region <| .e (.move rfl) rfl rfl <| .e (.sub rfl rfl ((IntWalk.i64_in _ (by omega)).trans (show (l.length : Int) - 1 - (m : Int) - 1 = (l.length : Int) - 1 - ((m + 1 : Nat) : Int) by omega))) rfl rfl <| .e (.assign rfl) rfl rfl ?_
      refine .nil ?_
      refine .front (.app <| .here) ?_
      refine .tail ?_
      exact .mid ((m + 1, _, _, _)) ⟨by dsimp only; omega, by dsimp only; omega, ho49, (by rw [revTo_succ (by omega)]; exact hd0.append (DR.single rfl hx46))⟩ ⟨rfl, rfl, (by show some _ = some _; rw [List.take_of_length_le (show (revTo l m).length ≤ q by omega)]; rfl), trivial⟩ rfl rfl (.pre 13 rfl (.app rfl (.del rfl (.pre 6 rfl (.app rfl .base)))))
  · skip
    replace h20 := of_decide_eq_false h20
    refine .cond_false rfl <| .exit <| .exit <| .exit <| .blk_exit <| .go ?_
    refine .seq <| .region <| .e (.loadW ag25 sz25 rfl (.app <| .here) rfl) rfl rfl <| .e (.move rfl) rfl rfl <| .on rfl <| .callP cal14 rfl rfl rfl (Best_ok ht0 hl0) <| .e (.move rfl) rfl rfl ?_
    refine .e (.extract rfl rfl) rfl rfl <| .e (.extract rfl rfl) rfl rfl <| .e (.assign rfl) rfl rfl <| .e (.assign rfl) rfl rfl <| .nil <| .go ?_
    refine .seq <| .region <| .e (.loadW ag25 sz25 rfl (.app <| .here) rfl) rfl rfl <| .e (.move rfl) rfl rfl ?_
    refine .freezeS ho0 fun K hK hKs => ?_
    have hrv : LodsR K _ (revTo l m) := hKs (R := LodR) (DR.mono (fun _ _ h => h.mono hK) hd0) (by omega)
    have htK := ht0.mono hK
    have hme : m = l.length := by omega
    subst hme
    rw [revTo_all] at hrv
    refine .on rfl <| .callP cal14 rfl rfl rfl (Best_ok htK hrv) <| .e (.move rfl) rfl rfl <| .e (.extract rfl rfl) rfl rfl <| .e (.extract rfl rfl) rfl rfl <| .e (.assign rfl) rfl rfl <| .e (.assign rfl) rfl rfl ?_
    refine .nil <| .go <| .seq <| .seq <| .region <| .e (.move rfl) rfl rfl ?_
    refine .e (.not rfl) rfl rfl <| .e (.move rfl) rfl rfl ?_
    refine .split 64 rfl (fun h64 => ?_) (fun h64 => ?_)
    · skip
      refine .off rfl rfl <| .off rfl rfl <| .e (.pickT rfl rfl) rfl rfl <| .e (.move rfl) rfl rfl <| .off rfl rfl <| .off rfl rfl ?_
      refine .e (.pickT rfl rfl) rfl rfl <| .nil <| .go <| .cond_true rfl <| .seq <| .region ?_
      refine .e (.move rfl) rfl rfl <| .e (.not rfl) rfl rfl <| .e (.move rfl) rfl rfl ?_
      refine .split 74 rfl (fun h74 => ?_) (fun h74 => ?_)
      · skip
        refine .off rfl rfl <| .off rfl rfl <| .off rfl rfl <| .off rfl rfl <| .off rfl rfl <| .off rfl rfl ?_
        refine .e (.pickT rfl rfl) rfl rfl <| .e (.assign rfl) rfl rfl <| .nil <| .go <| .ret <| .ret ?_
        refine .tail ?_
        refine .back hK ?_
        refine Post.retE rfl rfl ?_
        first | rfl | simp
      · skip
        exact absurd (h64.symm.trans h74) (by decide)
    · skip
      refine .e (.move rfl) rfl rfl <| .e (.neq rfl rfl) rfl rfl <| .e (.pickF rfl rfl) rfl rfl <| .e (.move rfl) rfl rfl ?_
      refine .split 68 rfl (fun h68 => ?_) (fun h68 => ?_)
      · skip
        first | replace h68 := of_decide_eq_false ((Bool.not_eq_true' _).mp h68) | replace h68 := of_decide_eq_false (by simpa using h68)
        refine .off rfl rfl <| .off rfl rfl <| .e (.pickT rfl rfl) rfl rfl <| .nil <| .go <| .cond_true rfl ?_
        refine .seq <| .region <| .e (.move rfl) rfl rfl <| .e (.not rfl) rfl rfl <| .e (.move rfl) rfl rfl ?_
        refine .split 74 rfl (fun h74 => ?_) (fun h74 => ?_)
        · skip
          exact absurd (h64.symm.trans h74) (by decide)
        · skip
          refine .e (.move rfl) rfl rfl <| .e ((EV.cast (u := .bool true) (.neq rfl rfl) (congrArg Value.bool (by rw [decide_eq_false h68]; rfl)))) rfl rfl <| .e (.move rfl) rfl rfl <| .e (.move rfl) rfl rfl <| .e ((EV.cast (u := .bool true) (.neq rfl rfl) (congrArg Value.bool (by rw [decide_eq_false (fun hh => h68 (turned_iff (t := t) (l := l).1 hh))]; rfl)))) rfl rfl <| .e (.pickT rfl rfl) rfl rfl ?_
          refine .e (.pickF rfl rfl) rfl rfl <| .e (.assign rfl) rfl rfl <| .nil <| .go <| .ret <| .ret ?_
          refine .tail ?_
          refine .back hK ?_
          refine Post.retE rfl rfl ?_
          first | rfl | simp
      · skip
        first | replace h68 := of_decide_eq_true ((Bool.not_eq_false' _).mp h68) | replace h68 := of_decide_eq_true (by simpa using h68)
        have hbi := bestR_in h68
        refine .e (.move rfl) rfl rfl <| .e ((EV.cast (u := .bool false) (.neq rfl rfl) (congrArg Value.bool (by rw [decide_eq_true (turned_iff (t := t) (l := l).2 h68)]; rfl)))) rfl rfl <| .e (.pickF rfl rfl) rfl rfl <| .nil <| .go <| .cond_false rfl ?_
        refine .skip <| .go <| .seq <| .region <| .e (.move rfl) rfl rfl <| .e ((EV.cast (u := .bool true) (.geq rfl rfl) (congrArg Value.bool (decide_eq_true (by have := bestR_in h68; omega))))) rfl rfl ?_
        refine .e (.move rfl) rfl rfl <| .e (.move rfl) rfl rfl <| .e (.move rfl) rfl rfl <| .e (.len sl36 rfl rfl) rfl rfl <| .e ((EV.cast (u := .bool true) (.lss rfl rfl) (congrArg Value.bool (decide_eq_true (by have := bestR_in h68; omega))))) rfl rfl <| .e (.pickT rfl rfl) rfl rfl ?_
        refine .e (.move rfl) rfl rfl <| .e (.move rfl) rfl rfl <| .e (.move rfl) rfl rfl <| .e (.len sl36 rfl rfl) rfl rfl <| .e (.sub rfl rfl (IntWalk.i64_in _ (by omega))) rfl rfl <| .e (.move rfl) rfl rfl ?_
        refine .e (.sub rfl rfl (IntWalk.i64_in _ (by omega))) rfl rfl <| .e ((EV.cast (u := .bool true) (.eql rfl rfl) (congrArg Value.bool (decide_eq_true (turned_ix h68 (by simpa using h64)))))) rfl rfl <| .e (.pickT rfl rfl) rfl rfl <| .e (.assign rfl) rfl rfl <| .nil <| .go ?_
        refine .ret ?_
        refine .tail ?_
        refine .back hK ?_
        refine Post.retE rfl rfl ?_
        first | rfl | simp

end Go.Proofs.YtdcblbcidjldmaaDoor
