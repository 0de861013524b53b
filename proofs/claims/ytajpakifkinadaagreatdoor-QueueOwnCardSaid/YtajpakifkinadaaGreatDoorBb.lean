/- Walks of functions over a symbolic memory, printed by a program of the session. -/
import Derived.Test.YtajpakifkinadaaGreatDoorBa
namespace Go.Proofs.YtajpakifkinadaaGreatDoor
open Go.Sy
set_option linter.unusedSimpArgs false
set_option linter.unusedVariables false


theorem eqBool {a b : Bool} : EqOk Tryz.prog 4 (.bool a) (.bool b) (decide (a = b)) := .bool Tryz.underlying4
theorem eqBoolT {a b : Bool} (h : a = b) : EqOk Tryz.prog 4 (.bool a) (.bool b) true := by have := @eqBool a b; simpa [h] using this
theorem prsNil {I : Imm} : PrsR I (.slice none 0 0) [] := SlR.nil
theorem strOk_of {s : ByteArray} (h : s.size ≤ 9223372036854775807) : StrOk s := h
def within (l of_ : List Pr) : Bool := l.all fun p => of_.any fun q => decide (p = q)

theorem row2 {J : Imm} {b : Nat} {T : TypeId} {fz : Nat × Nat} {x y : Int} (h : J b = some (.cells ⟨[.int .i64 x, .int .i64 y]⟩ T fz)) : SlR IntR 1 J (.slice (some ⟨b, 0, none⟩) 2 2) [x, y] :=
  SlR.ofRow h ⟨rfl, fun i u hu => by
    match i, hu with
    | 0, h => cases h; rfl
    | 1, h => cases h; rfl⟩ rfl (Nat.le_refl 2) (by decide)

set_option maxHeartbeats 1000000 in
set_option maxRecDepth 20000 in
theorem or2_ok {I : Imm} {O : Own} {b : Nat} {T : TypeId} {fz : Nat × Nat} {x y : Int} (hb : I b = some (.cells ⟨[.int .i64 x, .int .i64 y]⟩ T fz)) :
    Pure Tryz.prog 72 [.slice (some ⟨b, 0, none⟩) 2 2] I O (.int .i64 (if x ≠ 0 then x else y)) := by
  have hl0 := row2 hb
  refine Go.Sy.Does.enter Tryz.func72 rfl Tryz.ntmps72 rfl ?_
  refine .seq <| .region <| .e (.assign rfl) rfl rfl <| .nil <| .go <| .seq ?_
  refine .region <| .e (.assign rfl) rfl rfl <| .nil <| .go <| .seq <| .seq ?_
  refine .region <| .e (.move rfl) rfl rfl <| .e (.len sl147 rfl rfl) rfl rfl <| .e (.move rfl) rfl rfl <| .nil <| .go ?_
  refine .block <| .unroll 2 <| .seq <| .region <| .e (.lss rfl rfl) rfl rfl <| .nil ?_
  refine .go <| .seq <| .cond_true rfl <| .skip <| .go <| .seq ?_
  refine .block <| .seq <| .region ?_
  obtain ⟨eb10, eo10, cs10, hd10, hat10, hr10⟩ := SlR.at_ hl0 (k := 0) (by simp)
  cases hd10
  cases hr10
  refine .e (.indexAddrL sl147 rfl rfl rfl (by simp)) rfl rfl <| .e (.loadI ag3 rfl (hat10.cell (j := 0) rfl)) rfl rfl <| .e (.assign rfl) rfl rfl <| .nil <| .go <| .seq ?_
  refine .region <| .e (.move rfl) rfl rfl <| .e (.move rfl) rfl rfl <| .e (.neq rfl rfl) rfl rfl <| .nil <| .go ?_
  refine .split 14 rfl (fun h14 => ?_) (fun h14 => ?_)
  · skip
    first | replace h14 := of_decide_eq_false ((Bool.not_eq_true' _).mp h14) | replace h14 := of_decide_eq_false (by simpa using h14)
    refine .cond_true rfl <| .seq <| .region <| .e (.move rfl) rfl rfl <| .e (.assign rfl) rfl rfl <| .nil ?_
    refine .go <| .ret <| .blk_ret <| .ret <| .ret <| .blk_ret ?_
    refine .ret ?_
    refine Post.retE rfl rfl ?_
    simp_all
  · skip
    first | replace h14 := of_decide_eq_true ((Bool.not_eq_false' _).mp h14) | replace h14 := of_decide_eq_true (by simpa using h14)
    refine .cond_false rfl <| .skip <| .blk_normal <| .go <| .region <| .e (.add (c := 1) rfl rfl (by decide)) rfl rfl ?_
    refine .e (.move rfl) rfl rfl <| .nil <| .again <| .seq <| .region <| .e (.lss rfl rfl) rfl rfl ?_
    refine .nil <| .go <| .seq <| .cond_true rfl <| .skip <| .go ?_
    refine .seq <| .block <| .seq <| .region ?_
    obtain ⟨eb10, eo10, cs10, hd10, hat10, hr10⟩ := SlR.at_ hl0 (k := 1) (by simp)
    cases hd10
    cases hr10
    refine .e (.indexAddrL sl147 rfl rfl rfl (by simp)) rfl rfl <| .e (.loadI ag3 rfl (hat10.cell (j := 0) rfl)) rfl rfl <| .e (.assign rfl) rfl rfl <| .nil <| .go <| .seq ?_
    refine .region <| .e (.move rfl) rfl rfl <| .e (.move rfl) rfl rfl <| .e (.neq rfl rfl) rfl rfl <| .nil <| .go ?_
    refine .split 14 rfl (fun h14_2 => ?_) (fun h14_2 => ?_)
    · skip
      first | replace h14_2 := of_decide_eq_false ((Bool.not_eq_true' _).mp h14_2) | replace h14_2 := of_decide_eq_false (by simpa using h14_2)
      refine .cond_true rfl <| .seq <| .region <| .e (.move rfl) rfl rfl <| .e (.assign rfl) rfl rfl <| .nil ?_
      refine .go <| .ret <| .blk_ret <| .ret <| .ret <| .blk_ret ?_
      refine .ret ?_
      refine Post.retE rfl rfl ?_
      simp_all
    · skip
      first | replace h14_2 := of_decide_eq_true ((Bool.not_eq_false' _).mp h14_2) | replace h14_2 := of_decide_eq_true (by simpa using h14_2)
      refine .cond_false rfl <| .skip <| .blk_normal <| .go <| .region <| .e (.add (c := 2) rfl rfl (by decide)) rfl rfl ?_
      refine .e (.move rfl) rfl rfl <| .nil <| .again <| .seq <| .region <| .e (.lss rfl rfl) rfl rfl ?_
      refine .nil <| .go <| .seq <| .cond_false rfl <| .exit <| .exit ?_
      refine .exit <| .blk_exit <| .go <| .seq <| .region <| .e (.move rfl) rfl rfl ?_
      refine .e (.assign rfl) rfl rfl <| .nil <| .go <| .ret ?_
      refine Post.retE rfl rfl ?_
      simp_all

set_option maxHeartbeats 1000000 in
set_option maxRecDepth 20000 in
theorem order_ok {I : Imm} {O : Own} {pc qc : List Value} {p q : Pr} (hp : PrR I pc p) (hq : PrR I qc q) :
    Pure Tryz.prog 115 [.agg ⟨pc⟩, .agg ⟨qc⟩] I O (.int .i64 (ordI p q)) := by
  obtain ⟨rfl, -, -⟩ := hp
  obtain ⟨rfl, -, -⟩ := hq
  refine Go.Sy.Does.enter Tryz.func115 rfl Tryz.ntmps115 rfl ?_
  refine .seq <| .region <| .on rfl <| .box rfl rfl rfl fun c1 _ _ => .on rfl <| .box rfl rfl rfl fun c2 _ _ => .e (.assign rfl) rfl rfl <| .nil ?_
  refine .go <| .seq ?_
  refine .draw [(c1, _), (c2, _)] mixed (.cons (.there <| .here) (.cons .here .nil)) ?_
  refine .t 0 rfl (.fieldAddr fo45_0 rfl) rfl rfl (by kernel_rfl) <| .t 1 rfl (.load ag9 rfl .here rfl) rfl rfl (by kernel_rfl) <| .t 2 rfl (.fieldAddr fo45_0 rfl) rfl rfl (by kernel_rfl) <| .t 3 rfl (.load ag9 rfl (.there <| .here) rfl) rfl rfl (by kernel_rfl) <| .t 5 rfl (.fieldAddr fo45_1 rfl) rfl rfl (by kernel_rfl) <| .t 6 rfl (.load ag9 rfl .here rfl) rfl rfl (by kernel_rfl) ?_
  refine .t 7 rfl (.fieldAddr fo45_1 rfl) rfl rfl (by kernel_rfl) <| .t 8 rfl (.load ag9 rfl (.there <| .here) rfl) rfl rfl (by kernel_rfl) <| .one (i := 4) (by kernel_rfl) rfl rfl <| .callP cal74 rfl rfl rfl (cmpS_ok) ?_
  refine ⟨(.cons (.there <| .here) (.cons .here .nil)), Imm.le_refl _, ?_⟩
  refine .one (i := 9) (by kernel_rfl) rfl rfl <| .callP cal74 rfl rfl rfl (cmpS_ok) ?_
  refine ⟨(.cons (.there <| .here) (.cons .here .nil)), Imm.le_refl _, ?_⟩
  refine .one (i := 10) (by kernel_rfl) rfl rfl <| .buildSlice Tryz.underlying147 sz3 (by decide) (by decide) zv3 rfl rfl rfl rfl rfl fun c3 _ _ => ?_
  refine ⟨(.cons (.there <| .there <| .here) (.cons (.there <| .here) .nil)), Imm.le_refl _, ?_⟩
  refine .freeze fun J hJ hJb => ?_
  refine .one (i := 11) (by kernel_rfl) rfl rfl <| .callP cal72 rfl rfl rfl (or2_ok hJb) ?_
  refine ⟨(.cons (.there <| .here) (.cons .here .nil)), hJ, ?_⟩
  refine .t 12 rfl (.assign rfl) rfl rfl (by kernel_rfl) <| .done (by kernel_rfl) <| .go <| .ret ?_
  refine .tail <| .tail ?_
  refine .back hJ ?_
  refine Post.retE rfl rfl ?_
  rfl

set_option maxHeartbeats 1000000 in
set_option maxRecDepth 20000 in
theorem pairs_ok {I : Imm} {O : Own} {v : Value} {l : List Pr} (hl : PrsR I v l) :
    Pure Tryz.prog 79 [v] I O (.bool (prsOk l)) := by
  have hl0 := hl
  obtain ⟨la, lcap, rfl, hl1, hl2, -⟩ := hl
  refine Go.Sy.Does.enter Tryz.func79 rfl Tryz.ntmps79 rfl ?_
  refine .seq <| .region <| .e (.assign rfl) rfl rfl <| .nil <| .go <| .seq ?_
  refine .seq <| .region <| .e (.move rfl) rfl rfl <| .e (.len sl30 rfl rfl) rfl rfl <| .e (.move rfl) rfl rfl <| .nil ?_
  refine .go <| .block ?_
  refine .loopM [2, 3, 4, 7, 8, 9, 10, 11, 12, 13, 14, 15, 16, 17, 18, 19, 20, 21, 22, 23, 24, 25, 26, 27, 28, 29, 30, 31, 32, 33, 34, 35, 36] (fun k => l.length - k) (fun k => k ≤ l.length ∧ goodTo l k = true) (fun k => [(7, .int .i64 k)]) (fun _ => _) (fun _ => _) (0) ⟨by omega, rfl⟩ ⟨rfl, trivial⟩ rfl rfl ?_
  intro k hk
  obtain ⟨hk, hg⟩ := hk
  refine .seq <| .region <| .e (.lss rfl rfl) rfl rfl <| .nil <| .go <| .seq ?_
  refine .split 8 rfl (fun h8 => ?_) (fun h8 => ?_)
  · skip
    replace h8 := of_decide_eq_true h8
    refine .cond_true rfl <| .skip <| .go <| .seq <| .block <| .seq ?_
    refine .region <| .e (.move rfl) rfl rfl ?_
    obtain ⟨eb10, eo10, cs10, hd10, hat10, hr10⟩ := SlR.at_ hl0 (k := k) (by omega)
    cases hd10
    obtain ⟨e10, hk10, hv10⟩ := hr10
    subst e10
    refine .e (.indexAddrL sl30 rfl rfl rfl (by omega)) rfl rfl <| .e (.loadIA ag45 sz45 rfl hat10 rfl) rfl rfl <| .on rfl <| .alloc zr45 rfl fun c1 _ _ => .e (.assign rfl) rfl rfl <| .on rfl <| .storeW sz45 rfl rfl rfl rfl rfl rfl .here <| .nil ?_
    refine .go <| .seq ?_
    refine .draw [(c1, _)] mixed (.cons .here .nil) ?_
    refine .t 0 rfl (.fieldAddr fo45_0 rfl) rfl rfl (by kernel_rfl) <| .t 1 rfl (.load ag9 rfl .here rfl) rfl rfl (by kernel_rfl) <| .one (i := 2) (by kernel_rfl) rfl rfl <| .callP cal77 rfl rfl rfl (Name_ok hk10) ?_
    refine ⟨(.cons .here .nil), Imm.le_refl _, ?_⟩
    refine .t 3 rfl (.not rfl) rfl rfl (by kernel_rfl) <| .t 4 rfl (.move rfl) rfl rfl (by kernel_rfl) ?_
    refine .split 16 rfl (fun h16 => ?_) (fun h16 => ?_)
    · skip
      refine .s 5 rfl rfl rfl (by kernel_rfl) <| .s 6 rfl rfl rfl (by kernel_rfl) <| .none_ (i := 7) (by kernel_rfl) rfl rfl rfl <| .s 8 rfl rfl rfl (by kernel_rfl) <| .t 9 rfl (.pickT rfl rfl) rfl rfl (by kernel_rfl) <| .t 10 rfl (.move rfl) rfl rfl (by kernel_rfl) ?_
      refine .s 11 rfl rfl rfl (by kernel_rfl) <| .s 12 rfl rfl rfl (by kernel_rfl) <| .s 13 rfl rfl rfl (by kernel_rfl) <| .s 14 rfl rfl rfl (by kernel_rfl) <| .s 15 rfl rfl rfl (by kernel_rfl) <| .s 16 rfl rfl rfl (by kernel_rfl) ?_
      refine .s 17 rfl rfl rfl (by kernel_rfl) <| .s 18 rfl rfl rfl (by kernel_rfl) <| .s 19 rfl rfl rfl (by kernel_rfl) <| .none_ (i := 20) (by kernel_rfl) rfl rfl rfl <| .s 21 rfl rfl rfl (by kernel_rfl) <| .s 22 rfl rfl rfl (by kernel_rfl) ?_
      refine .t 23 rfl (.pickT rfl rfl) rfl rfl (by kernel_rfl) <| .done (by kernel_rfl) <| .go <| .cond_true rfl <| .seq <| .region ?_
      refine .e (.assign rfl) rfl rfl <| .nil <| .go <| .ret <| .blk_ret <| .ret ?_
      refine .ret <| .blk_ret <| .ret ?_
      refine .tail ?_
      refine Post.retE rfl rfl ?_
      refine congrArg Value.bool (prsOk_bad (k := k) (by omega) ?_).symm
      unfold badAt
      simp only [getD_at (show k < l.length by omega)]
      first | (simp_all; done) | (rw [getD_at (show k - 1 < l.length by omega), ← ordI_ge]; simp_all; done)
    · skip
      refine .t 5 rfl (.fieldAddr fo45_1 rfl) rfl rfl (by kernel_rfl) <| .t 6 rfl (.load ag9 rfl .here rfl) rfl rfl (by kernel_rfl) <| .one (i := 7) (by kernel_rfl) rfl rfl <| .callP cal80 rfl rfl rfl (named_ok hv10) ?_
      refine ⟨(.cons .here .nil), Imm.le_refl _, ?_⟩
      refine .t 8 rfl (.not rfl) rfl rfl (by kernel_rfl) <| .t 9 rfl (.pickF rfl rfl) rfl rfl (by kernel_rfl) <| .t 10 rfl (.move rfl) rfl rfl (by kernel_rfl) ?_
      refine .split 22 rfl (fun h22 => ?_) (fun h22 => ?_)
      · skip
        refine .s 11 rfl rfl rfl (by kernel_rfl) <| .s 12 rfl rfl rfl (by kernel_rfl) <| .s 13 rfl rfl rfl (by kernel_rfl) <| .s 14 rfl rfl rfl (by kernel_rfl) <| .s 15 rfl rfl rfl (by kernel_rfl) <| .s 16 rfl rfl rfl (by kernel_rfl) ?_
        refine .s 17 rfl rfl rfl (by kernel_rfl) <| .s 18 rfl rfl rfl (by kernel_rfl) <| .s 19 rfl rfl rfl (by kernel_rfl) <| .none_ (i := 20) (by kernel_rfl) rfl rfl rfl <| .s 21 rfl rfl rfl (by kernel_rfl) <| .s 22 rfl rfl rfl (by kernel_rfl) ?_
        refine .t 23 rfl (.pickT rfl rfl) rfl rfl (by kernel_rfl) <| .done (by kernel_rfl) <| .go <| .cond_true rfl <| .seq <| .region ?_
        refine .e (.assign rfl) rfl rfl <| .nil <| .go <| .ret <| .blk_ret <| .ret ?_
        refine .ret <| .blk_ret <| .ret ?_
        refine .tail ?_
        refine Post.retE rfl rfl ?_
        refine congrArg Value.bool (prsOk_bad (k := k) (by omega) ?_).symm
        unfold badAt
        simp only [getD_at (show k < l.length by omega)]
        first | (simp_all; done) | (rw [getD_at (show k - 1 < l.length by omega), ← ordI_ge]; simp_all; done)
      · skip
        refine .t 11 rfl (.move rfl) rfl rfl (by kernel_rfl) <| .t 12 rfl (.gtr rfl rfl) rfl rfl (by kernel_rfl) <| .t 13 rfl (.move rfl) rfl rfl (by kernel_rfl) ?_
        refine .split 25 rfl (fun h25 => ?_) (fun h25 => ?_)
        · skip
          replace h25 := of_decide_eq_true h25
          have hk0 : 0 < k := by omega
          refine .t 14 rfl (.move rfl) rfl rfl (by kernel_rfl) <| .t 15 rfl (.move rfl) rfl rfl (by kernel_rfl) <| .t 16 rfl (.sub rfl rfl (wrap_pred (by omega) (by omega))) rfl rfl (by kernel_rfl) ?_
          obtain ⟨eb29, eo29, cs29, hd29, hat29, hr29⟩ := SlR.at_ hl0 (k := k - 1) (by omega)
          cases hd29
          obtain ⟨e29, hk29, hv29⟩ := hr29
          subst e29
          refine .t 17 rfl (.indexAddrL sl30 rfl rfl rfl (by omega)) rfl rfl (by kernel_rfl) <| .t 18 rfl (.loadIA ag45 sz45 rfl hat29 rfl) rfl rfl (by kernel_rfl) <| .t 19 rfl (.loadW ag45 sz45 rfl .here rfl) rfl rfl (by kernel_rfl) <| .one (i := 20) (by kernel_rfl) rfl rfl <| .callP cal115 rfl rfl rfl (order_ok (p := l[k - 1]) (q := l[k]) ⟨rfl, hk29, hv29⟩ ⟨rfl, hk10, hv10⟩) ?_
          refine ⟨(.cons .here .nil), Imm.le_refl _, ?_⟩
          refine .t 21 rfl (.geq rfl rfl) rfl rfl (by kernel_rfl) <| .t 22 rfl (.pickT rfl rfl) rfl rfl (by kernel_rfl) <| .t 23 rfl (.pickF rfl rfl) rfl rfl (by kernel_rfl) <| .done (by kernel_rfl) <| .go ?_
          refine .split 35 rfl (fun h35 => ?_) (fun h35 => ?_)
          · skip
            replace h35 := of_decide_eq_true h35
            refine .cond_true rfl <| .seq <| .region <| .e (.assign rfl) rfl rfl <| .nil <| .go ?_
            refine .ret <| .blk_ret <| .ret <| .ret <| .blk_ret <| .ret ?_
            refine .tail ?_
            refine Post.retE rfl rfl ?_
            refine congrArg Value.bool (prsOk_bad (k := k) (by omega) ?_).symm
            unfold badAt
            simp only [getD_at (show k < l.length by omega)]
            first | (simp_all; done) | (rw [getD_at (show k - 1 < l.length by omega), ← ordI_ge]; simp_all; done)
          · skip
            replace h35 := of_decide_eq_false h35
            refine .cond_false rfl <| .skip <| .blk_normal <| .go <| .region <| .e (.add rfl rfl (by first | exact wrap_succ (by omega) | exact IntWalk.i64_in _ (by omega) | exact rfl)) rfl rfl ?_
            refine .e (.move rfl) rfl rfl <| .nil ?_
            refine .tail ?_
            exact .mid (k + 1) ⟨by omega, by omega, by rw [goodTo_succ, hg]; unfold badAt; simp only [getD_at (show k < l.length by omega)]; first | (simp_all; done) | (simp_all; omega) | (rw [getD_at (show k - 1 < l.length by omega), ← ordI_ge]; simp_all; done)⟩ ⟨rfl, trivial⟩ rfl rfl (.pre 37 rfl (.app rfl .base))
        · skip
          replace h25 := of_decide_eq_false h25
          have hk0 : k = 0 := by omega
          refine .s 14 rfl rfl rfl (by kernel_rfl) <| .s 15 rfl rfl rfl (by kernel_rfl) <| .s 16 rfl rfl rfl (by kernel_rfl) <| .s 17 rfl rfl rfl (by kernel_rfl) <| .s 18 rfl rfl rfl (by kernel_rfl) <| .s 19 rfl rfl rfl (by kernel_rfl) ?_
          refine .none_ (i := 20) (by kernel_rfl) rfl rfl rfl <| .s 21 rfl rfl rfl (by kernel_rfl) <| .t 22 rfl (.pickF rfl rfl) rfl rfl (by kernel_rfl) <| .t 23 rfl (.pickF rfl rfl) rfl rfl (by kernel_rfl) <| .done (by kernel_rfl) <| .go ?_
          refine .cond_false rfl <| .skip <| .blk_normal <| .go <| .region <| .e (.add rfl rfl (by first | exact wrap_succ (by omega) | exact IntWalk.i64_in _ (by omega) | exact rfl)) rfl rfl ?_
          refine .e (.move rfl) rfl rfl <| .nil ?_
          refine .tail ?_
          exact .mid (k + 1) ⟨by omega, by omega, by rw [goodTo_succ, hg]; unfold badAt; simp only [getD_at (show k < l.length by omega)]; first | (simp_all; done) | (simp_all; omega) | (rw [getD_at (show k - 1 < l.length by omega), ← ordI_ge]; simp_all; done)⟩ ⟨rfl, trivial⟩ rfl rfl (.pre 36 rfl (.app rfl .base))
  · skip
    replace h8 := of_decide_eq_false h8
    refine .cond_false rfl <| .exit <| .exit <| .exit <| .blk_exit <| .go ?_
    refine .seq <| .region <| .e (.move rfl) rfl rfl <| .e (.len sl30 rfl rfl) rfl rfl <| .e (.leq rfl rfl) rfl rfl <| .e (.assign rfl) rfl rfl ?_
    refine .nil <| .go <| .ret ?_
    refine Post.retE rfl rfl ?_
    refine congrArg Value.bool ?_
    unfold prsOk
    have e : k = l.length := by omega
    subst e
    rw [hg]
    exact (Bool.true_and _).symm ▸ decide_eq_decide.2 (by omega)

set_option maxHeartbeats 1000000 in
set_option maxRecDepth 20000 in
theorem CheckNode_ok {I : Imm} {O : Own} {nc : List Value} {n : Nod} (hn : NodR I nc n) :
    Pure Tryz.prog 39 [.agg ⟨nc⟩] I O (.int .i64 (nodWhy n)) := by
  have hn0 := hn
  obtain ⟨nl, nt, rfl, hnl, hnt⟩ := hn.ex
  have hname := hn0.name
  refine Go.Sy.Does.enter Tryz.func39 rfl Tryz.ntmps39 rfl ?_
  refine .seq <| .region <| .on rfl <| .box rfl rfl rfl fun c1 _ _ => .e (.assign rfl) rfl rfl <| .nil <| .go ?_
  refine .seq <| .block <| .seq <| .region <| .e (.fieldAddr fo32_0 rfl) rfl rfl <| .e (.load ag9 rfl .here rfl) rfl rfl ?_
  refine .on rfl <| .callP cal77 rfl rfl rfl (Name_ok hname) <| .e (.not rfl) rfl rfl <| .e (.assign rfl) rfl rfl <| .nil <| .go ?_
  refine .split 3 rfl (fun h3 => ?_) (fun h3 => ?_)
  · skip
    refine .cond_true rfl <| .seq <| .region <| .e (.assign rfl) rfl rfl <| .nil <| .go ?_
    refine .ret <| .blk_ret <| .ret ?_
    refine .tail ?_
    refine Post.retE rfl rfl ?_
    refine congrArg (Value.int .i64) ?_
    unfold nodWhy
    simp_all
  · skip
    refine .cond_false rfl <| .seq <| .region <| .e (.fieldAddr fo32_1 rfl) rfl rfl <| .e (.loadP ag29 sz29 rfl .here rfl) rfl rfl <| .on rfl <| .callP cal78 rfl rfl rfl (amt_ok (l := n.has) (by omega)) ?_
    refine .e (.not rfl) rfl rfl <| .e (.assign rfl) rfl rfl <| .nil <| .go ?_
    refine .split 8 rfl (fun h8 => ?_) (fun h8 => ?_)
    · skip
      refine .cond_true rfl <| .seq <| .region <| .e (.assign rfl) rfl rfl <| .nil <| .go ?_
      refine .ret <| .blk_ret <| .ret ?_
      refine .tail ?_
      refine Post.retE rfl rfl ?_
      refine congrArg (Value.int .i64) ?_
      unfold nodWhy
      simp_all
    · skip
      refine .cond_false rfl <| .seq <| .seq <| .region <| .e (.fieldAddr fo32_2 rfl) rfl rfl <| .e (.load ag30 rfl .here rfl) rfl rfl ?_
      refine .on rfl <| .callP cal79 rfl rfl rfl (pairs_ok hnl) <| .e (.not rfl) rfl rfl <| .e (.assign rfl) rfl rfl <| .nil <| .go ?_
      refine .split 13 rfl (fun h13 => ?_) (fun h13 => ?_)
      · skip
        refine .cond_true rfl <| .skip <| .go <| .cond_true rfl <| .seq <| .region ?_
        refine .e (.assign rfl) rfl rfl <| .nil <| .go <| .ret <| .blk_ret <| .ret ?_
        refine .tail ?_
        refine Post.retE rfl rfl ?_
        refine congrArg (Value.int .i64) ?_
        unfold nodWhy
        simp_all
      · skip
        refine .cond_false rfl <| .region <| .e (.fieldAddr fo32_3 rfl) rfl rfl <| .e (.load ag30 rfl .here rfl) rfl rfl <| .on rfl <| .callP cal79 rfl rfl rfl (pairs_ok hnt) <| .e (.not rfl) rfl rfl ?_
        refine .e (.assign rfl) rfl rfl <| .nil <| .go ?_
        refine .split 13 rfl (fun h13_2 => ?_) (fun h13_2 => ?_)
        · skip
          refine .cond_true rfl <| .seq <| .region <| .e (.assign rfl) rfl rfl <| .nil <| .go ?_
          refine .ret <| .blk_ret <| .ret ?_
          refine .tail ?_
          refine Post.retE rfl rfl ?_
          refine congrArg (Value.int .i64) ?_
          unfold nodWhy
          simp_all
        · skip
          refine .cond_false rfl <| .skip <| .blk_normal <| .go <| .seq <| .region ?_
          refine .e (.assign rfl) rfl rfl <| .nil <| .go <| .ret ?_
          refine .tail ?_
          refine Post.retE rfl rfl ?_
          refine congrArg (Value.int .i64) ?_
          unfold nodWhy
          simp_all

set_option maxHeartbeats 1000000 in
set_option maxRecDepth 20000 in
theorem CheckTask_ok {I : Imm} {O : Own} {tc : List Value} {t : Tsk} (ht : TskR I tc t) :
    Pure Tryz.prog 42 [.agg ⟨tc⟩] I O (.int .i64 (tskWhy t)) := by
  have ht0 := ht
  obtain ⟨tw, tb, rfl, htw, htb⟩ := ht.ex
  have hname := ht0.name
  have hgroup := ht0.group
  have hapart := ht0.apart
  refine Go.Sy.Does.enter Tryz.func42 rfl Tryz.ntmps42 rfl ?_
  refine .seq <| .region <| .on rfl <| .box rfl rfl rfl fun c1 _ _ => .e (.assign rfl) rfl rfl <| .nil <| .go ?_
  refine .seq <| .block <| .seq <| .region <| .e (.fieldAddr fo34_0 rfl) rfl rfl <| .e (.load ag9 rfl .here rfl) rfl rfl ?_
  refine .on rfl <| .callP cal77 rfl rfl rfl (Name_ok hname) <| .e (.not rfl) rfl rfl <| .e (.assign rfl) rfl rfl <| .nil <| .go ?_
  refine .split 3 rfl (fun h3 => ?_) (fun h3 => ?_)
  · skip
    refine .cond_true rfl <| .seq <| .region <| .e (.assign rfl) rfl rfl <| .nil <| .go ?_
    refine .ret <| .blk_ret <| .ret ?_
    refine .tail ?_
    refine Post.retE rfl rfl ?_
    refine congrArg (Value.int .i64) ?_
    unfold tskWhy
    by_cases hr1 : -1000 ≤ t.rank <;> by_cases hr2 : t.rank ≤ 1000 <;> first | omega | (simp_all; done) | (simp_all [okV]; done)
  · skip
    refine .cond_false rfl <| .seq <| .seq <| .region <| .e (.fieldAddr fo34_1 rfl) rfl rfl <| .e (.loadP ag29 sz29 rfl .here rfl) rfl rfl ?_
    refine .on rfl <| .callP cal78 rfl rfl rfl (amt_ok (l := t.needs) (by omega)) <| .e (.not rfl) rfl rfl <| .e (.assign rfl) rfl rfl <| .nil <| .go ?_
    refine .split 8 rfl (fun h8 => ?_) (fun h8 => ?_)
    · skip
      refine .cond_true rfl <| .skip <| .go <| .cond_true rfl <| .seq <| .region ?_
      refine .e (.assign rfl) rfl rfl <| .nil <| .go <| .ret <| .blk_ret <| .ret ?_
      refine .tail ?_
      refine Post.retE rfl rfl ?_
      refine congrArg (Value.int .i64) ?_
      unfold tskWhy
      by_cases hr1 : -1000 ≤ t.rank <;> by_cases hr2 : t.rank ≤ 1000 <;> first | omega | (simp_all; done) | (simp_all [okV]; done)
    · skip
      refine .cond_false rfl <| .seq <| .region <| .e (.fieldAddr fo34_6 rfl) rfl rfl <| .e (.load ag3 rfl .here rfl) rfl rfl <| .e (.lss rfl rfl) rfl rfl ?_
      refine .e (.assign rfl) rfl rfl <| .nil <| .go ?_
      refine .split 8 rfl (fun h8_2 => ?_) (fun h8_2 => ?_)
      · skip
        replace h8_2 := of_decide_eq_true h8_2
        refine .cond_true rfl <| .skip <| .go <| .cond_true rfl <| .seq <| .region ?_
        refine .e (.assign rfl) rfl rfl <| .nil <| .go <| .ret <| .blk_ret <| .ret ?_
        refine .tail ?_
        refine Post.retE rfl rfl ?_
        refine congrArg (Value.int .i64) ?_
        unfold tskWhy
        by_cases hr1 : -1000 ≤ t.rank <;> by_cases hr2 : t.rank ≤ 1000 <;> first | omega | (simp_all; done) | (simp_all [okV]; done)
      · skip
        replace h8_2 := of_decide_eq_false h8_2
        refine .cond_false rfl <| .region <| .e (.fieldAddr fo34_6 rfl) rfl rfl <| .e (.load ag3 rfl .here rfl) rfl rfl <| .e (.gtr rfl rfl) rfl rfl <| .e (.assign rfl) rfl rfl ?_
        refine .nil <| .go ?_
        refine .split 8 rfl (fun h8_3 => ?_) (fun h8_3 => ?_)
        · skip
          replace h8_3 := of_decide_eq_true h8_3
          refine .cond_true rfl <| .seq <| .region <| .e (.assign rfl) rfl rfl <| .nil <| .go ?_
          refine .ret <| .blk_ret <| .ret ?_
          refine .tail ?_
          refine Post.retE rfl rfl ?_
          refine congrArg (Value.int .i64) ?_
          unfold tskWhy
          by_cases hr1 : -1000 ≤ t.rank <;> by_cases hr2 : t.rank ≤ 1000 <;> first | omega | (simp_all; done) | (simp_all [okV]; done)
        · skip
          replace h8_3 := of_decide_eq_false h8_3
          refine .cond_false rfl <| .seq <| .seq <| .region <| .e (.fieldAddr fo34_2 rfl) rfl rfl <| .e (.load ag30 rfl .here rfl) rfl rfl ?_
          refine .on rfl <| .callP cal79 rfl rfl rfl (pairs_ok htw) <| .e (.not rfl) rfl rfl <| .e (.assign rfl) rfl rfl <| .nil <| .go ?_
          refine .split 19 rfl (fun h19 => ?_) (fun h19 => ?_)
          · skip
            refine .cond_true rfl <| .skip <| .go <| .cond_true rfl <| .seq <| .region ?_
            refine .e (.assign rfl) rfl rfl <| .nil <| .go <| .ret <| .blk_ret <| .ret ?_
            refine .tail ?_
            refine Post.retE rfl rfl ?_
            refine congrArg (Value.int .i64) ?_
            unfold tskWhy
            by_cases hr1 : -1000 ≤ t.rank <;> by_cases hr2 : t.rank ≤ 1000 <;> first | omega | (simp_all; done) | (simp_all [okV]; done)
          · skip
            refine .cond_false rfl <| .seq <| .region <| .e (.fieldAddr fo34_3 rfl) rfl rfl <| .e (.load ag30 rfl .here rfl) rfl rfl <| .on rfl <| .callP cal79 rfl rfl rfl (pairs_ok htb) ?_
            refine .e (.not rfl) rfl rfl <| .e (.assign rfl) rfl rfl <| .nil <| .go ?_
            refine .split 19 rfl (fun h19_2 => ?_) (fun h19_2 => ?_)
            · skip
              refine .cond_true rfl <| .skip <| .go <| .cond_true rfl <| .seq <| .region ?_
              refine .e (.assign rfl) rfl rfl <| .nil <| .go <| .ret <| .blk_ret <| .ret ?_
              refine .tail ?_
              refine Post.retE rfl rfl ?_
              refine congrArg (Value.int .i64) ?_
              unfold tskWhy
              by_cases hr1 : -1000 ≤ t.rank <;> by_cases hr2 : t.rank ≤ 1000 <;> first | omega | (simp_all; done) | (simp_all [okV]; done)
            · skip
              refine .cond_false rfl <| .seq <| .region <| .e (.fieldAddr fo34_4 rfl) rfl rfl <| .e (.load ag9 rfl .here rfl) rfl rfl <| .on rfl <| .callP cal80 rfl rfl rfl (named_ok hgroup) ?_
              refine .e (.not rfl) rfl rfl <| .e (.assign rfl) rfl rfl <| .nil <| .go ?_
              refine .split 19 rfl (fun h19_3 => ?_) (fun h19_3 => ?_)
              · skip
                refine .cond_true rfl <| .skip <| .go <| .cond_true rfl <| .seq <| .region ?_
                refine .e (.assign rfl) rfl rfl <| .nil <| .go <| .ret <| .blk_ret <| .ret ?_
                refine .tail ?_
                refine Post.retE rfl rfl ?_
                refine congrArg (Value.int .i64) ?_
                unfold tskWhy
                by_cases hr1 : -1000 ≤ t.rank <;> by_cases hr2 : t.rank ≤ 1000 <;> first | omega | (simp_all; done) | (simp_all [okV]; done)
              · skip
                refine .cond_false rfl <| .region <| .e (.fieldAddr fo34_5 rfl) rfl rfl <| .e (.load ag9 rfl .here rfl) rfl rfl <| .on rfl <| .callP cal80 rfl rfl rfl (named_ok hapart) <| .e (.not rfl) rfl rfl ?_
                refine .e (.assign rfl) rfl rfl <| .nil <| .go ?_
                refine .split 19 rfl (fun h19_4 => ?_) (fun h19_4 => ?_)
                · skip
                  refine .cond_true rfl <| .seq <| .region <| .e (.assign rfl) rfl rfl <| .nil <| .go ?_
                  refine .ret <| .blk_ret <| .ret ?_
                  refine .tail ?_
                  refine Post.retE rfl rfl ?_
                  refine congrArg (Value.int .i64) ?_
                  unfold tskWhy
                  by_cases hr1 : -1000 ≤ t.rank <;> by_cases hr2 : t.rank ≤ 1000 <;> first | omega | (simp_all; done) | (simp_all [okV]; done)
                · skip
                  refine .cond_false rfl <| .skip <| .blk_normal <| .go <| .seq <| .region ?_
                  refine .e (.assign rfl) rfl rfl <| .nil <| .go <| .ret ?_
                  refine .tail ?_
                  refine Post.retE rfl rfl ?_
                  refine congrArg (Value.int .i64) ?_
                  unfold tskWhy
                  by_cases hr1 : -1000 ≤ t.rank <;> by_cases hr2 : t.rank ≤ 1000 <;> first | omega | (simp_all; done) | (simp_all [okV]; done)

end Go.Proofs.YtajpakifkinadaaGreatDoor
