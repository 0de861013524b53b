/- Walks of functions over a symbolic memory, printed by a program of the session. -/
import Derived.Test.YtdcblbcidjldmaaDoorSa
namespace Go.Proofs.YtdcblbcidjldmaaDoor
open Go.Sy
set_option linter.unusedSimpArgs false
set_option linter.unusedVariables false

theorem bl_irr : ∀ l : List UInt8, Op.bytesLess l l = false
  | [] => rfl
  | x :: r => by simp [Op.bytesLess, bl_irr r]
theorem bl_asym : ∀ a b : List UInt8, Op.bytesLess a b = true → Op.bytesLess b a = false
  | [], [], h => by simp [Op.bytesLess] at h
  | [], _ :: _, _ => by simp [Op.bytesLess]
  | _ :: _, [], h => by simp [Op.bytesLess] at h
  | x :: a, y :: b, h => by
    simp only [Op.bytesLess, Bool.or_eq_true, decide_eq_true_eq, Bool.and_eq_true, beq_iff_eq] at h
    rw [Bool.eq_false_iff]
    simp only [Op.bytesLess, ne_eq, Bool.or_eq_true, decide_eq_true_eq, Bool.and_eq_true, beq_iff_eq]
    intro h'
    rw [UInt8.lt_iff_toNat_lt] at *
    rcases h with h | ⟨rfl, h⟩
    · rcases h' with h' | ⟨rfl, h'⟩ <;> omega
    · rcases h' with h' | ⟨_, h'⟩
      · omega
      · rw [bl_asym a b h] at h'; cases h'
theorem bl_tot : ∀ a b : List UInt8, Op.bytesLess a b = false → Op.bytesLess b a = false → a = b
  | [], [], _, _ => rfl
  | [], _ :: _, h, _ => by simp [Op.bytesLess] at h
  | _ :: _, [], _, h => by simp [Op.bytesLess] at h
  | x :: a, y :: b, h, h' => by
    rw [Bool.eq_false_iff] at h h'
    simp only [Op.bytesLess, ne_eq, Bool.or_eq_true, decide_eq_true_eq, Bool.and_eq_true, beq_iff_eq, not_or, not_and] at h h'
    obtain ⟨h1, h2⟩ := h
    obtain ⟨h3, h4⟩ := h'
    rw [UInt8.lt_iff_toNat_lt] at h1 h3
    have e : x = y := UInt8.toNat_inj.1 (by omega)
    rw [e, bl_tot a b (by simpa using h2 e) (by simpa using h4 e.symm)]
theorem slt_asym {a b : ByteArray} (h : slt a b = true) : slt b a = false := bl_asym _ _ h
theorem slt_tot {a b : ByteArray} (h : slt a b = false) (h2 : slt b a = false) : a = b := by
  have := bl_tot _ _ h h2
  rw [Lib.toList_data, Lib.toList_data] at this
  cases a; cases b
  simp at this
  rw [this]
theorem cmpS_pos {a b : ByteArray} : decide (0 < cmpS a b) = slt b a := by
  unfold cmpS
  split
  · rename_i h; rw [slt_asym h]; rfl
  · rename_i h
    split
    · rename_i h2; subst h2; rw [slt_irr]; rfl
    · rename_i h2
      cases h3 : slt b a
      · exact absurd (slt_tot (by simpa using h) h3) h2
      · rfl
def lod0 : Lod := ⟨⟨⟨#[]⟩, ⟨0, 0, 0⟩, [], []⟩, ⟨0, 0, 0⟩⟩
def whyTo (t : Tsk) (l : List Lod) (k : Nat) : Int := (l.take k).foldl (fun w x => orI w (lodWhy x)) (tskWhy t)
theorem whyTo_succ {t : Tsk} {l : List Lod} {k : Nat} (hk : k < l.length) : whyTo t l (k + 1) = orI (whyTo t l k) (lodWhy l[k]) := by
  unfold whyTo; rw [List.take_succ_eq_append_getElem hk, List.foldl_append]; rfl
def betterB (l : List Lod) (s : Int × Int) (i : Nat) (n : Int) : Bool := decide (s.1 < 0) || decide (0 < orI (cmpI n s.2) (cmpS (l.getD s.1.toNat lod0).node.name (l.getD i lod0).node.name))
def stepB (t : Tsk) (l : List Lod) (s : Int × Int) (i : Nat) : Int × Int :=
  if (scoreR t (l.getD i lod0)).2 ≠ 0 then s else if betterB l s i (scoreR t (l.getD i lod0)).1 = true then ((i : Int), (scoreR t (l.getD i lod0)).1) else s
def bestTo (t : Tsk) (l : List Lod) (k : Nat) : Int × Int := (List.range k).foldl (stepB t l) (-1, 0)
def bestR (t : Tsk) (l : List Lod) : Int × Int := if whyTo t l l.length ≠ 0 then (0, whyTo t l l.length) else if (bestTo t l l.length).1 < 0 then (0, 13) else ((bestTo t l l.length).1, 0)
def Binv (t : Tsk) (l : List Lod) (k : Nat) (s : Int × Int) : Prop := s = bestTo t l k ∧ -1 ≤ s.1 ∧ s.1 < (k : Int)
theorem bestTo_succ (t : Tsk) (l : List Lod) (k : Nat) : bestTo t l (k + 1) = stepB t l (bestTo t l k) k := by
  unfold bestTo; rw [List.range_succ, List.foldl_append]; rfl
theorem lodD {l : List Lod} {k : Nat} (hk : k < l.length) : l.getD k lod0 = l[k] := by simp [hk]
theorem Binv.zero {t : Tsk} {l : List Lod} : Binv t l 0 (-1, 0) := ⟨rfl, by decide, by decide⟩
theorem Binv.skip {t : Tsk} {l : List Lod} {k : Nat} {s : Int × Int} (h : Binv t l k s) (hk : k < l.length) (h1 : ¬(scoreR t l[k]).2 = 0) : Binv t l (k + 1) s := by
  obtain ⟨rfl, h2, h3⟩ := h
  refine ⟨?_, h2, by omega⟩
  rw [bestTo_succ]; unfold stepB; rw [lodD hk, if_pos h1]
theorem Binv.take {t : Tsk} {l : List Lod} {k : Nat} {s : Int × Int} (h : Binv t l k s) (hk : k < l.length) (h1 : (scoreR t l[k]).2 = 0) (h4 : betterB l s k (scoreR t l[k]).1 = true) : Binv t l (k + 1) ((k : Int), (scoreR t l[k]).1) := by
  obtain ⟨rfl, h2, h3⟩ := h
  refine ⟨?_, by dsimp only; omega, by dsimp only; omega⟩
  rw [bestTo_succ]; unfold stepB; rw [lodD hk, if_neg (by simp [h1]), if_pos h4]
theorem Binv.stay {t : Tsk} {l : List Lod} {k : Nat} {s : Int × Int} (h : Binv t l k s) (hk : k < l.length) (h1 : (scoreR t l[k]).2 = 0) (h4 : betterB l s k (scoreR t l[k]).1 = false) : Binv t l (k + 1) s := by
  obtain ⟨rfl, h2, h3⟩ := h
  refine ⟨?_, h2, by omega⟩
  rw [bestTo_succ]; unfold stepB; rw [lodD hk, if_neg (by simp [h1]), if_neg (by simp [h4])]
theorem bestR_why {t : Tsk} {l : List Lod} {k : Nat} (hk : k = l.length) (h : ¬whyTo t l k = 0) : bestR t l = (0, whyTo t l k) := by subst hk; unfold bestR; rw [if_pos h]
theorem bestR_none {t : Tsk} {l : List Lod} {k j : Nat} {s : Int × Int} (hj : j = l.length) (h : whyTo t l j = 0) (hk : k = l.length) (hs : Binv t l k s) (h2 : s.1 < 0) : bestR t l = (0, 13) := by
  subst hj; subst hk
  obtain ⟨rfl, _⟩ := hs
  unfold bestR; rw [if_neg (by simp [h]), if_pos h2]
theorem bestR_some {t : Tsk} {l : List Lod} {k j : Nat} {s : Int × Int} (hj : j = l.length) (h : whyTo t l j = 0) (hk : k = l.length) (hs : Binv t l k s) (h2 : ¬s.1 < 0) : bestR t l = (s.1, 0) := by
  subst hj; subst hk
  obtain ⟨rfl, _⟩ := hs
  unfold bestR; rw [if_neg (by simp [h]), if_neg h2]
theorem orI_pos {n m c : Int} : decide (0 < orI (cmpI n m) c) = (decide (m < n) || (decide (n = m) && decide (0 < c))) := by
  unfold orI cmpI
  rw [Bool.eq_iff_iff]
  simp only [Bool.or_eq_true, Bool.and_eq_true, decide_eq_true_eq]
  by_cases h1 : n < m
  · simp [h1]; omega
  · by_cases h2 : m < n
    · simp [h1, h2]
    · have : n = m := by omega
      simp [this]
theorem betterB_ref {l : List Lod} {s : Int × Int} {i : Nat} {n : Int} : betterB l s i n = (decide (s.1 < 0) || (decide (s.2 < n) || (decide (n = s.2) && slt (l.getD i lod0).node.name (l.getD s.1.toNat lod0).node.name))) := by
  unfold betterB; rw [orI_pos, cmpS_pos]

set_option maxHeartbeats 1000000 in
set_option maxRecDepth 20000 in
theorem better_ok {I : Imm} {O : Own} {v : Value} {l : List Lod} (hl : LodsR I v l) {b2 : Nat} {T2 : TypeId} {f2 : Nat × Nat} {b3 : Nat} {T3 : TypeId} {f3 : Nat × Nat} {b4 : Nat} {T4 : TypeId} {f4 : Nat × Nat} {s : Int × Int} {i : Nat} {n : Int} (h2 : Has O b2 (.cells ⟨[.int .i64 s.1]⟩ T2 f2)) (h3 : Has O b3 (.cells ⟨[.int .i64 s.2]⟩ T3 f3)) (h4 : Has O b4 (.cells ⟨[v]⟩ T4 f4)) (hi : i < l.length) (hs : -1 ≤ s.1 ∧ s.1 < (l.length : Int)) :
    Pure Tryd.prog 26 [.int .i64 i, .int .i64 n, .pointer (some ⟨b2, 0, none⟩), .pointer (some ⟨b3, 0, none⟩), .pointer (some ⟨b4, 0, none⟩)] I O (.bool (betterB l s i n)) := by
  have hl0 := hl
  obtain ⟨la, lcap, rfl, hl1, hl2, -⟩ := hl
  refine Does.enter Tryd.func26 rfl Tryd.ntmps26 rfl ?_
  refine .seq <| .region <| .e (.assign rfl) rfl rfl <| .nil <| .go <| .seq ?_
  refine .draw [(b2, _), (b3, _), (b4, _)] mixed (.cons (h2) (.cons (h3) (.cons (h4) .nil))) ?_
  refine .t 0 rfl (.load ag3 rfl .here rfl) rfl rfl (by kernel_rfl) <| .t 1 rfl (.lss rfl rfl) rfl rfl (by kernel_rfl) <| .t 2 rfl (.move rfl) rfl rfl (by kernel_rfl) ?_
  refine .split 10 rfl (fun h10 => ?_) (fun h10 => ?_)
  · skip
    replace h10 := of_decide_eq_true h10
    refine .s 3 rfl rfl rfl (by kernel_rfl) <| .s 4 rfl rfl rfl (by kernel_rfl) <| .s 6 rfl rfl rfl (by kernel_rfl) <| .s 7 rfl rfl rfl (by kernel_rfl) <| .s 8 rfl rfl rfl (by kernel_rfl) <| .s 9 rfl rfl rfl (by kernel_rfl) ?_
    refine .s 10 rfl rfl rfl (by kernel_rfl) <| .s 11 rfl rfl rfl (by kernel_rfl) <| .s 12 rfl rfl rfl (by kernel_rfl) <| .s 13 rfl rfl rfl (by kernel_rfl) <| .s 14 rfl rfl rfl (by kernel_rfl) <| .s 15 rfl rfl rfl (by kernel_rfl) ?_
    refine .s 16 rfl rfl rfl (by kernel_rfl) <| .s 17 rfl rfl rfl (by kernel_rfl) <| .none_ (i := 5) (by kernel_rfl) rfl rfl rfl <| .none_ (i := 18) (by kernel_rfl) rfl rfl rfl <| .none_ (i := 19) (by kernel_rfl) rfl rfl rfl <| .none_ (i := 20) (by kernel_rfl) rfl rfl rfl ?_
    refine .s 21 rfl rfl rfl (by kernel_rfl) <| .t 22 rfl (.pickT rfl rfl) rfl rfl (by kernel_rfl) <| .t 23 rfl (.assign rfl) rfl rfl (by kernel_rfl) <| .done (by kernel_rfl) <| .go <| .ret ?_
    refine Post.retE rfl rfl ?_
    refine congrArg Value.bool ?_
    unfold betterB
    rw [lodD (show i < l.length by omega)]
    simp [h10]
  · skip
    replace h10 := of_decide_eq_false h10
    refine .t 3 rfl (.move rfl) rfl rfl (by kernel_rfl) <| .t 4 rfl (.load ag2 rfl (.there <| .here) rfl) rfl rfl (by kernel_rfl) <| .t 6 rfl (.load ag36 rfl (.there <| .there <| .here) rfl) rfl rfl (by kernel_rfl) <| .t 7 rfl (.load ag3 rfl .here rfl) rfl rfl (by kernel_rfl) ?_
    obtain ⟨eb16, eo16, cs16, hd16, hat16, hr16⟩ := SlR.at_ hl0 (k := s.1.toNat) (by omega)
    cases hd16
    have hx16 := hr16
    obtain ⟨xv16, yv16, rfl, hxv16, hyv16⟩ := hr16.ex
    obtain ⟨xa16, xc16, rfl, -⟩ := hxv16
    obtain ⟨ya16, yc16, rfl, -⟩ := hyv16
    refine .t 8 rfl (.indexAddrL sl36 rfl rfl (by omega) (by omega)) rfl rfl (by kernel_rfl) <| .t 9 rfl (.fieldAddr fo29_0 rfl) rfl rfl (by kernel_rfl) <| .t 10 rfl (.fieldAddr fo27_0 rfl) rfl rfl (by kernel_rfl) <| .t 11 rfl (.loadI ag9 rfl (hat16.cell (j := 0) rfl)) rfl rfl (by kernel_rfl) <| .t 12 rfl (.load ag36 rfl (.there <| .there <| .here) rfl) rfl rfl (by kernel_rfl) <| .t 13 rfl (.move rfl) rfl rfl (by kernel_rfl) ?_
    obtain ⟨eb22, eo22, cs22, hd22, hat22, hr22⟩ := SlR.at_ hl0 (k := i) (by omega)
    cases hd22
    have hx22 := hr22
    obtain ⟨xv22, yv22, rfl, hxv22, hyv22⟩ := hr22.ex
    obtain ⟨xa22, xc22, rfl, -⟩ := hxv22
    obtain ⟨ya22, yc22, rfl, -⟩ := hyv22
    refine .t 14 rfl (.indexAddrL sl36 rfl rfl rfl (by omega)) rfl rfl (by kernel_rfl) <| .t 15 rfl (.fieldAddr fo29_0 rfl) rfl rfl (by kernel_rfl) <| .t 16 rfl (.fieldAddr fo27_0 rfl) rfl rfl (by kernel_rfl) <| .t 17 rfl (.loadI ag9 rfl (hat22.cell (j := 0) rfl)) rfl rfl (by kernel_rfl) <| .one (i := 5) (by kernel_rfl) rfl rfl <| .callP cal28 rfl rfl rfl (cmpI_ok) ?_
    refine ⟨(.cons (h2) (.cons (h3) (.cons (h4) .nil))), Imm.le_refl _, ?_⟩
    refine .one (i := 18) (by kernel_rfl) rfl rfl <| .callP cal29 rfl rfl rfl (cmpS_ok) ?_
    refine ⟨(.cons (h2) (.cons (h3) (.cons (h4) .nil))), Imm.le_refl _, ?_⟩
    refine .one (i := 19) (by kernel_rfl) rfl rfl <| .buildSlice Tryd.underlying56 sz3 (by decide) (by decide) zv3 rfl rfl rfl rfl rfl fun c1 _ _ => ?_
    refine ⟨(.cons (.there <| h2) (.cons (.there <| h3) (.cons (.there <| h4) .nil))), Imm.le_refl _, ?_⟩
    refine .freeze fun J hJ hJb => ?_
    refine .one (i := 20) (by kernel_rfl) rfl rfl <| .callP cal27 rfl rfl rfl (or2_ok hJb) ?_
    refine ⟨(.cons (h2) (.cons (h3) (.cons (h4) .nil))), hJ, ?_⟩
    refine .t 21 rfl (.gtr rfl rfl) rfl rfl (by kernel_rfl) <| .t 22 rfl (.pickF rfl rfl) rfl rfl (by kernel_rfl) <| .t 23 rfl (.assign rfl) rfl rfl (by kernel_rfl) <| .done (by kernel_rfl) <| .go <| .ret ?_
    refine .back hJ ?_
    refine Post.retE rfl rfl ?_
    refine congrArg Value.bool ?_
    unfold betterB
    rw [lodD (show i < l.length by omega)]
    rw [lodD (show s.1.toNat < l.length by omega), decide_eq_false (show ¬s.1 < 0 by omega)]
    rfl

set_option maxHeartbeats 4000000 in
set_option maxRecDepth 20000 in
theorem Best_ok {I : Imm} {O : Own} {tc : List Value} {t : Tsk} (ht : TskR I tc t) {v : Value} {l : List Lod} (hl : LodsR I v l) :
    Pure Tryd.prog 14 [.agg ⟨tc⟩, v] I O (pairV (bestR t l)) := by
  have ht0 := ht
  obtain ⟨tw, tb, rfl, htw, htb⟩ := ht.ex
  have htw0 := htw
  obtain ⟨wa, wcap, rfl, hw1, hw2, -⟩ := htw
  have htb0 := htb
  obtain ⟨ba, bcap, rfl, hb1, hb2, -⟩ := htb
  have hl0 := hl
  obtain ⟨la, lcap, rfl, hl1, hl2, -⟩ := hl
  refine Does.enter Tryd.func14 rfl Tryd.ntmps14 rfl ?_
  refine .seq <| .region <| .on rfl <| .box rfl rfl rfl fun c1 _ _ => .on rfl <| .box rfl rfl rfl fun c2 _ _ => .e (.assign rfl) rfl rfl <| .e (.assign rfl) rfl rfl ?_
  refine .nil <| .go <| .scope <| .seq <| .region <| .e (.loadW ag25 sz25 rfl (.there <| .here) rfl) rfl rfl ?_
  refine .on rfl <| .callP cal19 rfl rfl rfl (CheckTask_ok ht0) <| .e (.assign rfl) rfl rfl <| .nil <| .go <| .seq <| .seq ?_
  refine .region <| .e (.load ag36 rfl .here rfl) rfl rfl <| .e (.len sl36 rfl rfl) rfl rfl <| .e (.move rfl) rfl rfl <| .nil <| .go ?_
  refine .block ?_
  refine .loopM [6, 8, 20, 21, 22, 23, 24, 25, 26, 27, 28, 29] (fun j => l.length - j) (fun j => j ≤ l.length) (fun j => [(20, .int .i64 j), (6, .int .i64 (whyTo t l j))]) (fun _ => _) (fun _ => _) (0) (by omega) ⟨rfl, rfl, trivial⟩ rfl rfl ?_
  intro j hj
  refine .seq <| .region <| .e (.lss rfl rfl) rfl rfl <| .nil <| .go <| .seq ?_
  refine .split 21 rfl (fun h21 => ?_) (fun h21 => ?_)
  · skip
    replace h21 := of_decide_eq_true h21
    refine .cond_true rfl <| .skip <| .go <| .seq <| .block <| .seq ?_
    refine .region ?_
    obtain ⟨eb22, eo22, cs22, hd22, hat22, hr22⟩ := SlR.at_ hl0 (k := j) (by omega)
    cases hd22
    have hx22 := hr22
    obtain ⟨xv22, yv22, rfl, hxv22, hyv22⟩ := hr22.ex
    obtain ⟨xa22, xc22, rfl, -⟩ := hxv22
    obtain ⟨ya22, yc22, rfl, -⟩ := hyv22
    refine .e (.indexAddrL sl36 rfl rfl rfl (by omega)) rfl rfl <| .e (.loadIA ag29 sz29 rfl hat22 rfl) rfl rfl <| .on rfl <| .alloc zr29 rfl fun c3 _ _ => .on rfl <| .storeW sz29 rfl rfl rfl rfl rfl rfl .here <| .nil <| .go ?_
    refine .region <| .e (.move rfl) rfl rfl <| .e (.loadW ag29 sz29 rfl .here rfl) rfl rfl <| .on rfl <| .callP cal12 rfl rfl rfl (Check_ok hx22) <| .on rfl <| .buildSlice Tryd.underlying53 sz30 (by decide) (by decide) zv30 rfl rfl rfl rfl rfl fun c4 _ _ => ?_
    refine .freeze fun J hJ hJb => ?_
    refine .on rfl <| .callP cal18 rfl rfl rfl (orE_ok hJb) <| .e (.assign rfl) rfl rfl <| .nil <| .blk_normal <| .go <| .region ?_
    refine .e (.add rfl rfl (by first | exact wrap_succ (by omega) | exact IntWalk.i64_in _ (by omega) | exact rfl)) rfl rfl <| .e (.move rfl) rfl rfl <| .nil ?_
    refine .tail ?_
    have e6 := whyTo_succ (t := t) (l := l) (k := j) (by omega)
    refine .back hJ ?_
    exact .mid (j + 1) ⟨by omega, by omega⟩ ⟨rfl, (by show some _ = some _; rw [e6]), trivial⟩ rfl rfl (.pre 13 rfl (.app rfl .base))
  · skip
    replace h21 := of_decide_eq_false h21
    refine .cond_false rfl <| .exit <| .exit <| .exit <| .blk_exit <| .go ?_
    refine .seq <| .seq <| .region <| .e (.move rfl) rfl rfl <| .e (.neq rfl rfl) rfl rfl <| .nil ?_
    refine .go ?_
    refine .split 31 rfl (fun h31 => ?_) (fun h31 => ?_)
    · skip
      first | replace h31 := of_decide_eq_false ((Bool.not_eq_true' _).mp h31) | replace h31 := of_decide_eq_false (by simpa using h31)
      refine .cond_true rfl <| .seq <| .region <| .e (.move rfl) rfl rfl <| .e (.assign rfl) rfl rfl <| .e (.assign rfl) rfl rfl ?_
      refine .nil <| .go <| .ret <| .ret <| .sc_ret ?_
      refine Post.retsE rfl (.tmp rfl (.tmp rfl .nil)) rfl (fun w h => h.tail.tail) ?_
      exact pairV_eq (bestR_why (by omega) h31)
    · skip
      first | replace h31 := of_decide_eq_true ((Bool.not_eq_false' _).mp h31) | replace h31 := of_decide_eq_true (by simpa using h31)
      refine .cond_false rfl <| .skip <| .go <| .seq <| .region <| .on rfl <| .alloc zr3 rfl fun c5 _ _ => ?_
      refine .on rfl <| .alloc zr2 rfl fun c6 _ _ => .on rfl <| .storeW sz3 rfl rfl rfl rfl rfl rfl (.there <| .here) <| .on rfl <| .storeW sz2 rfl rfl rfl rfl rfl rfl .here <| .nil <| .go <| .seq ?_
      refine .region <| .e (.makeFunc rfl rfl) rfl rfl <| .e (.assign rfl) rfl rfl <| .nil <| .go <| .seq ?_
      refine .label <| .go <| .seq <| .seq <| .region <| .e (.load ag36 rfl (.there <| .there <| .here) rfl) rfl rfl ?_
      refine .e (.len sl36 rfl rfl) rfl rfl <| .e (.move rfl) rfl rfl <| .nil <| .go <| .block ?_
      refine .loopM [12, 13, 14, 15, 36, 37, 38, 39, 40, 41, 42, 43, 44, 45, 46, 47, 48, 49, 50, 51, 52, 53, 54, 55, 56, 57] (fun s => l.length - s.1) (fun s => s.1 ≤ l.length ∧ Binv t l s.1 s.2) (fun s => [(36, .int .i64 s.1)]) (fun _ => _) (fun s => (c6, .cells ⟨[.int .i64 s.2.2]⟩ _ _) :: (c5, .cells ⟨[.int .i64 s.2.1]⟩ _ _) :: _) (((0, (-1, 0)) : Nat × (Int × Int))) ⟨by omega, Binv.zero⟩ ⟨rfl, trivial⟩ rfl rfl ?_
      intro ⟨k, s⟩ hk
      dsimp only at hk ⊢
      obtain ⟨hk, hb⟩ := hk
      have hb1 := hb.2
      refine .seq <| .region <| .e (.lss rfl rfl) rfl rfl <| .nil <| .go <| .seq ?_
      refine .split 37 rfl (fun h37 => ?_) (fun h37 => ?_)
      · skip
        replace h37 := of_decide_eq_true h37
        refine .cond_true rfl <| .skip <| .go <| .seq <| .block <| .seq ?_
        refine .region <| .e (.move rfl) rfl rfl ?_
        obtain ⟨eb39, eo39, cs39, hd39, hat39, hr39⟩ := SlR.at_ hl0 (k := k) (by omega)
        cases hd39
        have hx39 := hr39
        obtain ⟨xv39, yv39, rfl, hxv39, hyv39⟩ := hr39.ex
        obtain ⟨xa39, xc39, rfl, -⟩ := hxv39
        obtain ⟨ya39, yc39, rfl, -⟩ := hyv39
        refine .e (.indexAddrL sl36 rfl rfl rfl (by omega)) rfl rfl <| .e (.loadIA ag29 sz29 rfl hat39 rfl) rfl rfl <| .on rfl <| .alloc zr29 rfl fun c7 _ _ => .e (.assign rfl) rfl rfl <| .on rfl <| .storeW sz29 rfl rfl rfl rfl rfl rfl .here <| .nil ?_
        refine .go <| .seq <| .region <| .e (.loadW ag25 sz25 rfl (.there <| .there <| .there <| .there <| .here) rfl) rfl rfl <| .e (.loadW ag29 sz29 rfl .here rfl) rfl rfl <| .on rfl <| .callP cal9 rfl rfl rfl (Score_ok ht0 hx39) ?_
        refine .e (.move rfl) rfl rfl <| .e (.extract rfl rfl) rfl rfl <| .e (.extract rfl rfl) rfl rfl <| .e (.assign rfl) rfl rfl <| .e (.assign rfl) rfl rfl <| .nil ?_
        refine .go <| .block <| .seq <| .region <| .e (.move rfl) rfl rfl <| .e (.neq rfl rfl) rfl rfl ?_
        refine .e (.assign rfl) rfl rfl <| .nil <| .go ?_
        refine .split 47 rfl (fun h47 => ?_) (fun h47 => ?_)
        · skip
          first | replace h47 := of_decide_eq_false ((Bool.not_eq_true' _).mp h47) | replace h47 := of_decide_eq_false (by simpa using h47)
          refine .cond_true rfl <| .exit <| .blk_other rfl <| .blk_exit <| .go <| .region ?_
          refine .e (.add rfl rfl (by first | exact wrap_succ (by omega) | exact IntWalk.i64_in _ (by omega) | exact rfl)) rfl rfl <| .e (.move rfl) rfl rfl <| .nil ?_
          refine .tail ?_
          exact .mid ((k + 1, s)) ⟨by dsimp only; omega, by dsimp only; omega, hb.skip (by omega) h47⟩ ⟨rfl, trivial⟩ rfl rfl (.pre 21 rfl (.app rfl .base))
        · skip
          first | replace h47 := of_decide_eq_true ((Bool.not_eq_false' _).mp h47) | replace h47 := of_decide_eq_true (by simpa using h47)
          refine .cond_false rfl <| .seq <| .region <| .e (.move rfl) rfl rfl <| .e (.move rfl) rfl rfl <| .e (.move rfl) rfl rfl ?_
          refine .on rfl <| .callP cal26 rfl rfl rfl (better_ok hl0 (s := s) (.there <| .there <| .here) (.there <| .here) (.there <| .there <| .there <| .here) (i := k) (by omega) (by omega)) <| .e (.assign rfl) rfl rfl <| .nil <| .go ?_
          refine .split 50 rfl (fun h50 => ?_) (fun h50 => ?_)
          · skip
            refine .cond_true rfl <| .region <| .e (.move rfl) rfl rfl <| .e (.move rfl) rfl rfl <| .on rfl <| .storeW sz3 rfl rfl rfl rfl rfl rfl (.there <| .there <| .here) <| .on rfl <| .storeW sz2 rfl rfl rfl rfl rfl rfl (.there <| .here) ?_
            refine .nil <| .blk_normal <| .blk_normal <| .go <| .region <| .e (.add rfl rfl (by first | exact wrap_succ (by omega) | exact IntWalk.i64_in _ (by omega) | exact rfl)) rfl rfl ?_
            refine .e (.move rfl) rfl rfl <| .nil ?_
            refine .tail ?_
            exact .mid ((k + 1, ((k : Int), (scoreR t l[k]).1))) ⟨by dsimp only; omega, by dsimp only; omega, hb.take (by omega) h47 h50⟩ ⟨rfl, trivial⟩ rfl rfl (.pre 29 rfl (.app rfl .base))
          · skip
            refine .cond_false rfl <| .skip <| .blk_normal <| .blk_normal <| .go <| .region ?_
            refine .e (.add rfl rfl (by first | exact wrap_succ (by omega) | exact IntWalk.i64_in _ (by omega) | exact rfl)) rfl rfl <| .e (.move rfl) rfl rfl <| .nil ?_
            refine .tail ?_
            exact .mid ((k + 1, s)) ⟨by dsimp only; omega, by dsimp only; omega, hb.stay (by omega) h47 h50⟩ ⟨rfl, trivial⟩ rfl rfl (.pre 27 rfl (.app rfl .base))
      · skip
        replace h37 := of_decide_eq_false h37
        refine .cond_false rfl <| .exit <| .exit <| .exit <| .blk_exit <| .go ?_
        refine .seq <| .seq <| .region <| .e (.load ag3 rfl (.there <| .here) rfl) rfl rfl <| .e (.lss rfl rfl) rfl rfl <| .nil ?_
        refine .go ?_
        refine .split 59 rfl (fun h59 => ?_) (fun h59 => ?_)
        · skip
          replace h59 := of_decide_eq_true h59
          refine .cond_true rfl <| .seq <| .region <| .e (.assign rfl) rfl rfl <| .e (.assign rfl) rfl rfl <| .nil ?_
          refine .go <| .ret <| .ret <| .sc_ret ?_
          refine Post.retsE rfl (.tmp rfl (.tmp rfl .nil)) rfl (fun w h => h.tail.tail.tail.tail) ?_
          exact pairV_eq (bestR_none (j := j) (by omega) h31 (k := k) (by omega) hb h59)
        · skip
          replace h59 := of_decide_eq_false h59
          refine .cond_false rfl <| .skip <| .go <| .seq <| .region <| .e (.load ag3 rfl (.there <| .here) rfl) rfl rfl ?_
          refine .e (.assign rfl) rfl rfl <| .e (.assign rfl) rfl rfl <| .nil <| .go <| .ret <| .sc_ret ?_
          refine Post.retsE rfl (.tmp rfl (.tmp rfl .nil)) rfl (fun w h => h.tail.tail.tail.tail) ?_
          exact pairV_eq (bestR_some (j := j) (by omega) h31 (k := k) (by omega) hb h59)

end Go.Proofs.YtdcblbcidjldmaaDoor
