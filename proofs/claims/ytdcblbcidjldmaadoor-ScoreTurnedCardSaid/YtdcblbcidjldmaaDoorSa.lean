/- Walks of functions over a symbolic memory, printed by a program of the session. -/
import Derived.Test.YtdcblbcidjldmaaDoorNc
namespace Go.Proofs.YtdcblbcidjldmaaDoor
open Go.Sy
set_option linter.unusedSimpArgs false
set_option linter.unusedVariables false

theorem lodNode {I : Imm} {cs : List Value} {l : Lod} {lv tv : Value} (h : LodR I cs l) (h1 : PrsR I lv l.node.labels) (h2 : PrsR I tv l.node.taints) : NodR I (l.node.cells lv tv) l.node := ⟨⟨_, _, rfl, h1, h2⟩, h.name, h.has⟩
def orI (x y : Int) : Int := if x ≠ 0 then x else y
def cmpI (x y : Int) : Int := if x < y then -1 else if y < x then 1 else 0
def usedOk (l : Lod) : Bool := decide ((0 ≤ l.used.a ∧ l.used.a ≤ l.node.has.a) ∧ (0 ≤ l.used.b ∧ l.used.b ≤ l.node.has.b) ∧ (0 ≤ l.used.c ∧ l.used.c ≤ l.node.has.c))
def lodWhy (l : Lod) : Int := if nodWhy l.node ≠ 0 then nodWhy l.node else if usedOk l = false then 1 else 0
theorem lodWhy_node {l : Lod} (h : ¬nodWhy l.node = 0) : nodWhy l.node = lodWhy l := by unfold lodWhy; rw [if_pos h]
theorem lodWhy_bad {l : Lod} (h : nodWhy l.node = 0) (h2 : ¬((0 ≤ l.used.a ∧ l.used.a ≤ l.node.has.a) ∧ (0 ≤ l.used.b ∧ l.used.b ≤ l.node.has.b) ∧ (0 ≤ l.used.c ∧ l.used.c ≤ l.node.has.c))) : 1 = lodWhy l := by
  unfold lodWhy; rw [if_neg (by simp [h]), if_pos (show usedOk l = false from decide_eq_false h2)]
theorem lodWhy_ok {l : Lod} (h : nodWhy l.node = 0) (h2 : (0 ≤ l.used.a ∧ l.used.a ≤ l.node.has.a) ∧ (0 ≤ l.used.b ∧ l.used.b ≤ l.node.has.b) ∧ (0 ≤ l.used.c ∧ l.used.c ≤ l.node.has.c)) : 0 = lodWhy l := by
  unfold lodWhy; rw [if_neg (by simp [h]), if_neg (by rw [show usedOk l = true from decide_eq_true h2]; decide)]
theorem lodWhy_ok' {l : Lod} (h : nodWhy l.node = 0) (h2 : (0 ≤ l.used.a ∧ l.used.a ≤ l.node.has.a) ∧ (0 ≤ l.used.b ∧ l.used.b ≤ l.node.has.b) ∧ (0 ≤ l.used.c ∧ l.used.c ≤ l.node.has.c)) : nodWhy l.node = lodWhy l := h.trans (lodWhy_ok h h2)
def term (h u n : Int) : Int := if h = 0 then 0 else (1000 * (u + n)).tdiv h
def fullS (t : Tsk) (l : Lod) : Int := term l.node.has.a l.used.a t.needs.a + term l.node.has.b l.used.b t.needs.b + term l.node.has.c l.used.c t.needs.c
theorem quo_bd {h x : Int} (h0 : 0 < h) (h1 : 0 ≤ x) (h2 : x ≤ h) : 0 ≤ (1000 * x).tdiv h ∧ (1000 * x).tdiv h ≤ 1000 := by
  rw [Int.tdiv_eq_ediv_of_nonneg (by omega)]
  exact ⟨Int.ediv_nonneg (by omega) (by omega), Int.ediv_le_of_le_mul h0 (by omega)⟩
theorem quo_wrap {h x : Int} (h0 : 0 < h) (h1 : 0 ≤ x) (h2 : x ≤ h) : IntKind.i64.wrap ((1000 * x).tdiv h) = (1000 * x).tdiv h := by
  have := quo_bd h0 h1 h2
  exact IntWalk.i64_in _ (by omega)
theorem add_in {x y : Int} (h1 : 0 ≤ x) (h2 : x ≤ 2000) (h3 : 0 ≤ y ∧ y ≤ 1000) : IntKind.i64.wrap (x + y) = x + y := IntWalk.i64_in _ (by omega)
theorem room_out {n : Nod} {u d : A3} (h : room n u d = true) : n.has.amt 1 = true ∧ u.amt 32 = true ∧ d.amt 1 = true ∧ u.a + d.a ≤ n.has.a ∧ u.b + d.b ≤ n.has.b ∧ u.c + d.c ≤ n.has.c := by
  unfold room at h
  simp only [Bool.and_eq_true, decide_eq_true_eq] at h
  exact ⟨h.1.1.1, h.1.1.2, h.1.2, h.2⟩
def scoreR (t : Tsk) (l : Lod) : Int × Int := if orI (tskWhy t) (lodWhy l) ≠ 0 then (0, orI (tskWhy t) (lodWhy l)) else if (suits t l.node && room l.node l.used t.needs) = false then (0, 13) else (fullS t l, 0)
def pairV (p : Int × Int) : Value := .tuple ⟨[.int .i64 p.1, .int .i64 p.2]⟩
theorem pairV_eq {p : Int × Int} {a b : Int} (h : p = (a, b)) : Value.tuple ⟨[.int .i64 a, .int .i64 b]⟩ = pairV p := by subst h; rfl
theorem scoreR_why {t : Tsk} {l : Lod} {w : Int} (h : orI (tskWhy t) (lodWhy l) = w) (h0 : ¬w = 0) : scoreR t l = (0, w) := by subst h; unfold scoreR; rw [if_pos h0]
theorem scoreR_fit {t : Tsk} {l : Lod} (h : orI (tskWhy t) (lodWhy l) = 0) (h2 : suits t l.node = false ∨ room l.node l.used t.needs = false) : scoreR t l = (0, 13) := by
  unfold scoreR; rw [if_neg (by simp [h]), if_pos (by rcases h2 with h2 | h2 <;> simp [h2])]
theorem scoreR_ok {t : Tsk} {l : Lod} (h : orI (tskWhy t) (lodWhy l) = 0) (h1 : suits t l.node = true) (h2 : room l.node l.used t.needs = true) : scoreR t l = (fullS t l, 0) := by
  unfold scoreR; rw [if_neg (by simp [h]), if_neg (by simp [h1, h2])]
theorem or_zero {x y : Int} (h1 : x = 0) (h2 : y = 0) : orI x y = 0 := by simp [orI, h1, h2]
theorem or_left {x y : Int} (h1 : ¬x = 0) : orI x y = x := by simp [orI, h1]
theorem or_right {x y : Int} (h1 : x = 0) : orI x y = y := by simp [orI, h1]

set_option maxHeartbeats 1000000 in
set_option maxRecDepth 20000 in
theorem Check_ok {I : Imm} {O : Own} {lc : List Value} {l : Lod} (hl : LodR I lc l) :
    Pure Tryd.prog 12 [.agg ⟨lc⟩] I O (.int .i64 (lodWhy l)) := by
  have hl0 := hl
  obtain ⟨lv, tv, rfl, hlv, htv⟩ := hl.ex
  have hlv0 := hlv
  obtain ⟨lva, lvc, rfl, hlv1, hlv2, -⟩ := hlv
  have htv0 := htv
  obtain ⟨tva, tvc, rfl, htv1, htv2, -⟩ := htv
  have hnd := lodNode hl0 hlv0 htv0
  refine Does.enter Tryd.func12 rfl Tryd.ntmps12 rfl ?_
  refine .seq <| .region <| .on rfl <| .box rfl rfl rfl fun c1 _ _ => .e (.assign rfl) rfl rfl <| .nil <| .go ?_
  refine .seq <| .seq <| .region <| .e (.fieldAddr fo29_0 rfl) rfl rfl <| .e (.loadP ag27 sz27 rfl .here rfl) rfl rfl <| .on rfl <| .callP cal24 rfl rfl rfl (CheckNode_ok hnd) ?_
  refine .e (.assign rfl) rfl rfl <| .nil <| .go <| .seq <| .region <| .e (.move rfl) rfl rfl ?_
  refine .e (.neq rfl rfl) rfl rfl <| .nil <| .go ?_
  refine .split 10 rfl (fun h10 => ?_) (fun h10 => ?_)
  · skip
    first | replace h10 := of_decide_eq_false ((Bool.not_eq_true' _).mp h10) | replace h10 := of_decide_eq_false (by simpa using h10)
    refine .cond_true rfl <| .seq <| .region <| .e (.move rfl) rfl rfl <| .e (.assign rfl) rfl rfl <| .nil ?_
    refine .go <| .ret <| .ret ?_
    refine .tail ?_
    refine Post.retE rfl rfl ?_
    exact congrArg (Value.int .i64) (lodWhy_node (by omega))
  · skip
    first | replace h10 := of_decide_eq_true ((Bool.not_eq_false' _).mp h10) | replace h10 := of_decide_eq_true (by simpa using h10)
    refine .cond_false rfl <| .skip <| .go <| .seq <| .seq <| .region ?_
    refine .e (.fieldAddr fo29_1 rfl) rfl rfl <| .e (.loadP ag22 sz22 rfl .here rfl) rfl rfl <| .e (.move rfl) rfl rfl <| .nil <| .go <| .block ?_
    refine .unroll 3 <| .seq <| .region <| .e (.lss rfl rfl) rfl rfl <| .nil <| .go ?_
    refine .seq <| .cond_true rfl <| .skip <| .go <| .seq <| .block ?_
    refine .seq <| .region <| .e (.move rfl) rfl rfl <| .e (.index (j := 0) ar22 ag2 rfl rfl rfl (by first | decide | omega) rfl) rfl rfl <| .e (.assign rfl) rfl rfl <| .e (.assign rfl) rfl rfl ?_
    refine .nil <| .go <| .seq <| .region <| .e (.move rfl) rfl rfl <| .e (.lss rfl rfl) rfl rfl ?_
    refine .e (.move rfl) rfl rfl ?_
    refine .split 20 rfl (fun h20 => ?_) (fun h20 => ?_)
    · skip
      replace h20 := of_decide_eq_true h20
      refine .off rfl rfl <| .off rfl rfl <| .off rfl rfl <| .off rfl rfl <| .off rfl rfl <| .off rfl rfl ?_
      refine .off rfl rfl <| .e (.pickT rfl rfl) rfl rfl <| .nil <| .go <| .cond_true rfl <| .seq ?_
      refine .region <| .e (.assign rfl) rfl rfl <| .nil <| .go <| .ret <| .blk_ret ?_
      refine .ret <| .ret <| .blk_ret <| .ret ?_
      refine .tail ?_
      refine Post.retE rfl rfl ?_
      first | exact congrArg (Value.int .i64) (lodWhy_ok (by omega) (by omega)) | exact congrArg (Value.int .i64) (lodWhy_bad (by omega) (by omega))
    · skip
      replace h20 := of_decide_eq_false h20
      refine .e (.move rfl) rfl rfl <| .e (.move rfl) rfl rfl <| .e (.fieldAddr fo29_0 rfl) rfl rfl <| .e (.fieldAddr fo27_1 rfl) rfl rfl <| .e (.indexAddrA (j := 0) ar22 rfl rfl rfl (by first | decide | omega)) rfl rfl <| .e (.load ag2 rfl .here rfl) rfl rfl ?_
      refine .e (.gtr rfl rfl) rfl rfl <| .e (.pickF rfl rfl) rfl rfl <| .nil <| .go ?_
      refine .split 28 rfl (fun h28 => ?_) (fun h28 => ?_)
      · skip
        replace h28 := of_decide_eq_true h28
        refine .cond_true rfl <| .seq <| .region <| .e (.assign rfl) rfl rfl <| .nil <| .go ?_
        refine .ret <| .blk_ret <| .ret <| .ret <| .blk_ret <| .ret ?_
        refine .tail ?_
        refine Post.retE rfl rfl ?_
        first | exact congrArg (Value.int .i64) (lodWhy_ok (by omega) (by omega)) | exact congrArg (Value.int .i64) (lodWhy_bad (by omega) (by omega))
      · skip
        replace h28 := of_decide_eq_false h28
        refine .cond_false rfl <| .skip <| .blk_normal <| .go <| .region <| .e (.add (c := 1) rfl rfl (by decide)) rfl rfl ?_
        refine .e (.move rfl) rfl rfl <| .nil <| .again <| .seq <| .region <| .e (.lss rfl rfl) rfl rfl ?_
        refine .nil <| .go <| .seq <| .cond_true rfl <| .skip <| .go ?_
        refine .seq <| .block <| .seq <| .region <| .e (.move rfl) rfl rfl <| .e (.index (j := 1) ar22 ag2 rfl rfl rfl (by first | decide | omega) rfl) rfl rfl ?_
        refine .e (.assign rfl) rfl rfl <| .e (.assign rfl) rfl rfl <| .nil <| .go <| .seq <| .region ?_
        refine .e (.move rfl) rfl rfl <| .e (.lss rfl rfl) rfl rfl <| .e (.move rfl) rfl rfl ?_
        refine .split 20 rfl (fun h20_2 => ?_) (fun h20_2 => ?_)
        · skip
          replace h20_2 := of_decide_eq_true h20_2
          refine .off rfl rfl <| .off rfl rfl <| .off rfl rfl <| .off rfl rfl <| .off rfl rfl <| .off rfl rfl ?_
          refine .off rfl rfl <| .e (.pickT rfl rfl) rfl rfl <| .nil <| .go <| .cond_true rfl <| .seq ?_
          refine .region <| .e (.assign rfl) rfl rfl <| .nil <| .go <| .ret <| .blk_ret ?_
          refine .ret <| .ret <| .blk_ret <| .ret ?_
          refine .tail ?_
          refine Post.retE rfl rfl ?_
          first | exact congrArg (Value.int .i64) (lodWhy_ok (by omega) (by omega)) | exact congrArg (Value.int .i64) (lodWhy_bad (by omega) (by omega))
        · skip
          replace h20_2 := of_decide_eq_false h20_2
          refine .e (.move rfl) rfl rfl <| .e (.move rfl) rfl rfl <| .e (.fieldAddr fo29_0 rfl) rfl rfl <| .e (.fieldAddr fo27_1 rfl) rfl rfl <| .e (.indexAddrA (j := 1) ar22 rfl rfl rfl (by first | decide | omega)) rfl rfl <| .e (.load ag2 rfl .here rfl) rfl rfl ?_
          refine .e (.gtr rfl rfl) rfl rfl <| .e (.pickF rfl rfl) rfl rfl <| .nil <| .go ?_
          refine .split 28 rfl (fun h28_2 => ?_) (fun h28_2 => ?_)
          · skip
            replace h28_2 := of_decide_eq_true h28_2
            refine .cond_true rfl <| .seq <| .region <| .e (.assign rfl) rfl rfl <| .nil <| .go ?_
            refine .ret <| .blk_ret <| .ret <| .ret <| .blk_ret <| .ret ?_
            refine .tail ?_
            refine Post.retE rfl rfl ?_
            first | exact congrArg (Value.int .i64) (lodWhy_ok (by omega) (by omega)) | exact congrArg (Value.int .i64) (lodWhy_bad (by omega) (by omega))
          · skip
            replace h28_2 := of_decide_eq_false h28_2
            refine .cond_false rfl <| .skip <| .blk_normal <| .go <| .region <| .e (.add (c := 2) rfl rfl (by decide)) rfl rfl ?_
            refine .e (.move rfl) rfl rfl <| .nil <| .again <| .seq <| .region <| .e (.lss rfl rfl) rfl rfl ?_
            refine .nil <| .go <| .seq <| .cond_true rfl <| .skip <| .go ?_
            refine .seq <| .block <| .seq <| .region <| .e (.move rfl) rfl rfl <| .e (.index (j := 2) ar22 ag2 rfl rfl rfl (by first | decide | omega) rfl) rfl rfl ?_
            refine .e (.assign rfl) rfl rfl <| .e (.assign rfl) rfl rfl <| .nil <| .go <| .seq <| .region ?_
            refine .e (.move rfl) rfl rfl <| .e (.lss rfl rfl) rfl rfl <| .e (.move rfl) rfl rfl ?_
            refine .split 20 rfl (fun h20_3 => ?_) (fun h20_3 => ?_)
            · skip
              replace h20_3 := of_decide_eq_true h20_3
              refine .off rfl rfl <| .off rfl rfl <| .off rfl rfl <| .off rfl rfl <| .off rfl rfl <| .off rfl rfl ?_
              refine .off rfl rfl <| .e (.pickT rfl rfl) rfl rfl <| .nil <| .go <| .cond_true rfl <| .seq ?_
              refine .region <| .e (.assign rfl) rfl rfl <| .nil <| .go <| .ret <| .blk_ret ?_
              refine .ret <| .ret <| .blk_ret <| .ret ?_
              refine .tail ?_
              refine Post.retE rfl rfl ?_
              first | exact congrArg (Value.int .i64) (lodWhy_ok (by omega) (by omega)) | exact congrArg (Value.int .i64) (lodWhy_bad (by omega) (by omega))
            · skip
              replace h20_3 := of_decide_eq_false h20_3
              refine .e (.move rfl) rfl rfl <| .e (.move rfl) rfl rfl <| .e (.fieldAddr fo29_0 rfl) rfl rfl <| .e (.fieldAddr fo27_1 rfl) rfl rfl <| .e (.indexAddrA (j := 2) ar22 rfl rfl rfl (by first | decide | omega)) rfl rfl <| .e (.load ag2 rfl .here rfl) rfl rfl ?_
              refine .e (.gtr rfl rfl) rfl rfl <| .e (.pickF rfl rfl) rfl rfl <| .nil <| .go ?_
              refine .split 28 rfl (fun h28_3 => ?_) (fun h28_3 => ?_)
              · skip
                replace h28_3 := of_decide_eq_true h28_3
                refine .cond_true rfl <| .seq <| .region <| .e (.assign rfl) rfl rfl <| .nil <| .go ?_
                refine .ret <| .blk_ret <| .ret <| .ret <| .blk_ret <| .ret ?_
                refine .tail ?_
                refine Post.retE rfl rfl ?_
                first | exact congrArg (Value.int .i64) (lodWhy_ok (by omega) (by omega)) | exact congrArg (Value.int .i64) (lodWhy_bad (by omega) (by omega))
              · skip
                replace h28_3 := of_decide_eq_false h28_3
                refine .cond_false rfl <| .skip <| .blk_normal <| .go <| .region <| .e (.add (c := 3) rfl rfl (by decide)) rfl rfl ?_
                refine .e (.move rfl) rfl rfl <| .nil <| .again <| .seq <| .region <| .e (.lss rfl rfl) rfl rfl ?_
                refine .nil <| .go <| .seq <| .cond_false rfl <| .exit <| .exit ?_
                refine .exit <| .blk_exit <| .go <| .seq <| .region <| .e (.assign rfl) rfl rfl ?_
                refine .nil <| .go <| .ret ?_
                refine .tail ?_
                refine Post.retE rfl rfl ?_
                first | exact congrArg (Value.int .i64) (lodWhy_ok (by omega) (by omega)) | exact congrArg (Value.int .i64) (lodWhy_bad (by omega) (by omega))

set_option maxHeartbeats 1000000 in
set_option maxRecDepth 20000 in
theorem rCheck_ok {I : Imm} {O : Own} {lc : List Value} {l : Lod} (hl : LodR I lc l) :
    Pure Tryd.prog 13 [.agg ⟨lc⟩] I O (.int .i64 (lodWhy l)) := by
  have hl0 := hl
  obtain ⟨lv, tv, rfl, hlv, htv⟩ := hl.ex
  have hlv0 := hlv
  obtain ⟨lva, lvc, rfl, hlv1, hlv2, -⟩ := hlv
  have htv0 := htv
  obtain ⟨tva, tvc, rfl, htv1, htv2, -⟩ := htv
  have hnd := lodNode hl0 hlv0 htv0
  refine Does.enter Tryd.func13 rfl Tryd.ntmps13 rfl ?_
  refine .seq <| .region <| .on rfl <| .box rfl rfl rfl fun c1 _ _ => .e (.assign rfl) rfl rfl <| .nil <| .go ?_
  refine .seq <| .region <| .e (.fieldAddr fo29_0 rfl) rfl rfl <| .e (.loadP ag27 sz27 rfl .here rfl) rfl rfl <| .on rfl <| .callP cal25 rfl rfl rfl (rCheckNode_ok hnd) <| .e (.assign rfl) rfl rfl ?_
  refine .nil <| .go <| .seq <| .seq <| .region <| .e (.fieldAddr fo29_1 rfl) rfl rfl ?_
  refine .e (.loadP ag22 sz22 rfl .here rfl) rfl rfl <| .e (.move rfl) rfl rfl <| .nil <| .go <| .block <| .unroll 3 ?_
  refine .seq <| .region <| .e (.lss rfl rfl) rfl rfl <| .nil <| .go <| .seq ?_
  refine .cond_true rfl <| .skip <| .go <| .seq <| .block <| .seq ?_
  refine .region <| .e (.move rfl) rfl rfl <| .e (.index (j := 0) ar22 ag2 rfl rfl rfl (by first | decide | omega) rfl) rfl rfl <| .e (.assign rfl) rfl rfl <| .e (.assign rfl) rfl rfl <| .nil ?_
  refine .go <| .seq <| .region <| .e (.move rfl) rfl rfl <| .e (.eql rfl rfl) rfl rfl <| .e (.move rfl) rfl rfl ?_
  refine .split 17 rfl (fun h17 => ?_) (fun h17 => ?_)
  · skip
    replace h17 := of_decide_eq_true h17
    refine .e (.move rfl) rfl rfl <| .e (.lss rfl rfl) rfl rfl <| .e (.move rfl) rfl rfl ?_
    refine .split 20 rfl (fun h20 => ?_) (fun h20 => ?_)
    · skip
      replace h20 := of_decide_eq_true h20
      refine .off rfl rfl <| .off rfl rfl <| .off rfl rfl <| .off rfl rfl <| .off rfl rfl <| .off rfl rfl ?_
      refine .off rfl rfl <| .e (.pickT rfl rfl) rfl rfl <| .e (.pickT rfl rfl) rfl rfl <| .nil <| .go <| .cond_true rfl ?_
      refine .region <| .e (.assign rfl) rfl rfl <| .nil <| .blk_normal <| .go <| .region ?_
      refine .e (.add (c := 1) rfl rfl (by decide)) rfl rfl <| .e (.move rfl) rfl rfl <| .nil <| .again <| .seq <| .region ?_
      refine .e (.lss rfl rfl) rfl rfl <| .nil <| .go <| .seq <| .cond_true rfl <| .skip ?_
      refine .go <| .seq <| .block <| .seq <| .region <| .e (.move rfl) rfl rfl ?_
      refine .e (.index (j := 1) ar22 ag2 rfl rfl rfl (by first | decide | omega) rfl) rfl rfl <| .e (.assign rfl) rfl rfl <| .e (.assign rfl) rfl rfl <| .nil <| .go <| .seq ?_
      refine .region <| .e (.move rfl) rfl rfl <| .e (.eql rfl rfl) rfl rfl <| .e (.move rfl) rfl rfl <| .off rfl rfl <| .off rfl rfl ?_
      refine .off rfl rfl <| .off rfl rfl <| .off rfl rfl <| .off rfl rfl <| .off rfl rfl <| .off rfl rfl ?_
      refine .off rfl rfl <| .off rfl rfl <| .off rfl rfl <| .e (.pickF rfl rfl) rfl rfl <| .nil <| .go ?_
      refine .cond_false rfl <| .skip <| .blk_normal <| .go <| .region <| .e (.add (c := 2) rfl rfl (by decide)) rfl rfl ?_
      refine .e (.move rfl) rfl rfl <| .nil <| .again <| .seq <| .region <| .e (.lss rfl rfl) rfl rfl ?_
      refine .nil <| .go <| .seq <| .cond_true rfl <| .skip <| .go ?_
      refine .seq <| .block <| .seq <| .region <| .e (.move rfl) rfl rfl <| .e (.index (j := 2) ar22 ag2 rfl rfl rfl (by first | decide | omega) rfl) rfl rfl ?_
      refine .e (.assign rfl) rfl rfl <| .e (.assign rfl) rfl rfl <| .nil <| .go <| .seq <| .region ?_
      refine .e (.move rfl) rfl rfl <| .e (.eql rfl rfl) rfl rfl <| .e (.move rfl) rfl rfl <| .off rfl rfl <| .off rfl rfl <| .off rfl rfl ?_
      refine .off rfl rfl <| .off rfl rfl <| .off rfl rfl <| .off rfl rfl <| .off rfl rfl <| .off rfl rfl ?_
      refine .off rfl rfl <| .off rfl rfl <| .e (.pickF rfl rfl) rfl rfl <| .nil <| .go <| .cond_false rfl ?_
      refine .skip <| .blk_normal <| .go <| .region <| .e (.add (c := 3) rfl rfl (by decide)) rfl rfl <| .e (.move rfl) rfl rfl ?_
      refine .nil <| .again <| .seq <| .region <| .e (.lss rfl rfl) rfl rfl <| .nil ?_
      refine .go <| .seq <| .cond_false rfl <| .exit <| .exit <| .exit ?_
      refine .blk_exit <| .go <| .seq <| .region <| .e (.move rfl) rfl rfl <| .e (.assign rfl) rfl rfl ?_
      refine .nil <| .go <| .ret ?_
      refine .tail ?_
      refine Post.retE rfl rfl ?_
      first | exact congrArg (Value.int .i64) (lodWhy_node (by omega)) | exact congrArg (Value.int .i64) (lodWhy_ok (by omega) (by omega)) | exact congrArg (Value.int .i64) (lodWhy_bad (by omega) (by omega)) | exact congrArg (Value.int .i64) (lodWhy_ok' (by omega) (by omega)) | (exfalso; omega)
    · skip
      replace h20 := of_decide_eq_false h20
      refine .e (.move rfl) rfl rfl <| .e (.move rfl) rfl rfl <| .e (.fieldAddr fo29_0 rfl) rfl rfl <| .e (.fieldAddr fo27_1 rfl) rfl rfl <| .e (.indexAddrA (j := 0) ar22 rfl rfl rfl (by first | decide | omega)) rfl rfl <| .e (.load ag2 rfl .here rfl) rfl rfl ?_
      refine .e (.gtr rfl rfl) rfl rfl <| .e (.pickF rfl rfl) rfl rfl <| .e (.pickT rfl rfl) rfl rfl <| .nil <| .go ?_
      refine .split 29 rfl (fun h29 => ?_) (fun h29 => ?_)
      · skip
        replace h29 := of_decide_eq_true h29
        refine .cond_true rfl <| .region <| .e (.assign rfl) rfl rfl <| .nil <| .blk_normal <| .go ?_
        refine .region <| .e (.add (c := 1) rfl rfl (by decide)) rfl rfl <| .e (.move rfl) rfl rfl <| .nil <| .again <| .seq ?_
        refine .region <| .e (.lss rfl rfl) rfl rfl <| .nil <| .go <| .seq <| .cond_true rfl ?_
        refine .skip <| .go <| .seq <| .block <| .seq <| .region ?_
        refine .e (.move rfl) rfl rfl <| .e (.index (j := 1) ar22 ag2 rfl rfl rfl (by first | decide | omega) rfl) rfl rfl <| .e (.assign rfl) rfl rfl <| .e (.assign rfl) rfl rfl <| .nil <| .go ?_
        refine .seq <| .region <| .e (.move rfl) rfl rfl <| .e (.eql rfl rfl) rfl rfl <| .e (.move rfl) rfl rfl <| .off rfl rfl ?_
        refine .off rfl rfl <| .off rfl rfl <| .off rfl rfl <| .off rfl rfl <| .off rfl rfl <| .off rfl rfl ?_
        refine .off rfl rfl <| .off rfl rfl <| .off rfl rfl <| .off rfl rfl <| .e (.pickF rfl rfl) rfl rfl <| .nil ?_
        refine .go <| .cond_false rfl <| .skip <| .blk_normal <| .go <| .region ?_
        refine .e (.add (c := 2) rfl rfl (by decide)) rfl rfl <| .e (.move rfl) rfl rfl <| .nil <| .again <| .seq <| .region ?_
        refine .e (.lss rfl rfl) rfl rfl <| .nil <| .go <| .seq <| .cond_true rfl <| .skip ?_
        refine .go <| .seq <| .block <| .seq <| .region <| .e (.move rfl) rfl rfl ?_
        refine .e (.index (j := 2) ar22 ag2 rfl rfl rfl (by first | decide | omega) rfl) rfl rfl <| .e (.assign rfl) rfl rfl <| .e (.assign rfl) rfl rfl <| .nil <| .go <| .seq ?_
        refine .region <| .e (.move rfl) rfl rfl <| .e (.eql rfl rfl) rfl rfl <| .e (.move rfl) rfl rfl <| .off rfl rfl <| .off rfl rfl ?_
        refine .off rfl rfl <| .off rfl rfl <| .off rfl rfl <| .off rfl rfl <| .off rfl rfl <| .off rfl rfl ?_
        refine .off rfl rfl <| .off rfl rfl <| .off rfl rfl <| .e (.pickF rfl rfl) rfl rfl <| .nil <| .go ?_
        refine .cond_false rfl <| .skip <| .blk_normal <| .go <| .region <| .e (.add (c := 3) rfl rfl (by decide)) rfl rfl ?_
        refine .e (.move rfl) rfl rfl <| .nil <| .again <| .seq <| .region <| .e (.lss rfl rfl) rfl rfl ?_
        refine .nil <| .go <| .seq <| .cond_false rfl <| .exit <| .exit ?_
        refine .exit <| .blk_exit <| .go <| .seq <| .region <| .e (.move rfl) rfl rfl ?_
        refine .e (.assign rfl) rfl rfl <| .nil <| .go <| .ret ?_
        refine .tail ?_
        refine Post.retE rfl rfl ?_
        first | exact congrArg (Value.int .i64) (lodWhy_node (by omega)) | exact congrArg (Value.int .i64) (lodWhy_ok (by omega) (by omega)) | exact congrArg (Value.int .i64) (lodWhy_bad (by omega) (by omega)) | exact congrArg (Value.int .i64) (lodWhy_ok' (by omega) (by omega)) | (exfalso; omega)
      · skip
        replace h29 := of_decide_eq_false h29
        refine .cond_false rfl <| .skip <| .blk_normal <| .go <| .region <| .e (.add (c := 1) rfl rfl (by decide)) rfl rfl ?_
        refine .e (.move rfl) rfl rfl <| .nil <| .again <| .seq <| .region <| .e (.lss rfl rfl) rfl rfl ?_
        refine .nil <| .go <| .seq <| .cond_true rfl <| .skip <| .go ?_
        refine .seq <| .block <| .seq <| .region <| .e (.move rfl) rfl rfl <| .e (.index (j := 1) ar22 ag2 rfl rfl rfl (by first | decide | omega) rfl) rfl rfl ?_
        refine .e (.assign rfl) rfl rfl <| .e (.assign rfl) rfl rfl <| .nil <| .go <| .seq <| .region ?_
        refine .e (.move rfl) rfl rfl <| .e (.eql rfl rfl) rfl rfl <| .e (.move rfl) rfl rfl ?_
        refine .split 17 rfl (fun h17_2 => ?_) (fun h17_2 => ?_)
        · skip
          replace h17_2 := of_decide_eq_true h17_2
          refine .e (.move rfl) rfl rfl <| .e (.lss rfl rfl) rfl rfl <| .e (.move rfl) rfl rfl ?_
          refine .split 20 rfl (fun h20_2 => ?_) (fun h20_2 => ?_)
          · skip
            replace h20_2 := of_decide_eq_true h20_2
            refine .off rfl rfl <| .off rfl rfl <| .off rfl rfl <| .off rfl rfl <| .off rfl rfl <| .off rfl rfl ?_
            refine .off rfl rfl <| .e (.pickT rfl rfl) rfl rfl <| .e (.pickT rfl rfl) rfl rfl <| .nil <| .go <| .cond_true rfl ?_
            refine .region <| .e (.assign rfl) rfl rfl <| .nil <| .blk_normal <| .go <| .region ?_
            refine .e (.add (c := 2) rfl rfl (by decide)) rfl rfl <| .e (.move rfl) rfl rfl <| .nil <| .again <| .seq <| .region ?_
            refine .e (.lss rfl rfl) rfl rfl <| .nil <| .go <| .seq <| .cond_true rfl <| .skip ?_
            refine .go <| .seq <| .block <| .seq <| .region <| .e (.move rfl) rfl rfl ?_
            refine .e (.index (j := 2) ar22 ag2 rfl rfl rfl (by first | decide | omega) rfl) rfl rfl <| .e (.assign rfl) rfl rfl <| .e (.assign rfl) rfl rfl <| .nil <| .go <| .seq ?_
            refine .region <| .e (.move rfl) rfl rfl <| .e (.eql rfl rfl) rfl rfl <| .e (.move rfl) rfl rfl <| .off rfl rfl <| .off rfl rfl ?_
            refine .off rfl rfl <| .off rfl rfl <| .off rfl rfl <| .off rfl rfl <| .off rfl rfl <| .off rfl rfl ?_
            refine .off rfl rfl <| .off rfl rfl <| .off rfl rfl <| .e (.pickF rfl rfl) rfl rfl <| .nil <| .go ?_
            refine .cond_false rfl <| .skip <| .blk_normal <| .go <| .region <| .e (.add (c := 3) rfl rfl (by decide)) rfl rfl ?_
            refine .e (.move rfl) rfl rfl <| .nil <| .again <| .seq <| .region <| .e (.lss rfl rfl) rfl rfl ?_
            refine .nil <| .go <| .seq <| .cond_false rfl <| .exit <| .exit ?_
            refine .exit <| .blk_exit <| .go <| .seq <| .region <| .e (.move rfl) rfl rfl ?_
            refine .e (.assign rfl) rfl rfl <| .nil <| .go <| .ret ?_
            refine .tail ?_
            refine Post.retE rfl rfl ?_
            first | exact congrArg (Value.int .i64) (lodWhy_node (by omega)) | exact congrArg (Value.int .i64) (lodWhy_ok (by omega) (by omega)) | exact congrArg (Value.int .i64) (lodWhy_bad (by omega) (by omega)) | exact congrArg (Value.int .i64) (lodWhy_ok' (by omega) (by omega)) | (exfalso; omega)
          · skip
            replace h20_2 := of_decide_eq_false h20_2
            refine .e (.move rfl) rfl rfl <| .e (.move rfl) rfl rfl <| .e (.fieldAddr fo29_0 rfl) rfl rfl <| .e (.fieldAddr fo27_1 rfl) rfl rfl <| .e (.indexAddrA (j := 1) ar22 rfl rfl rfl (by first | decide | omega)) rfl rfl <| .e (.load ag2 rfl .here rfl) rfl rfl ?_
            refine .e (.gtr rfl rfl) rfl rfl <| .e (.pickF rfl rfl) rfl rfl <| .e (.pickT rfl rfl) rfl rfl <| .nil <| .go ?_
            refine .split 29 rfl (fun h29_2 => ?_) (fun h29_2 => ?_)
            · skip
              replace h29_2 := of_decide_eq_true h29_2
              refine .cond_true rfl <| .region <| .e (.assign rfl) rfl rfl <| .nil <| .blk_normal <| .go ?_
              refine .region <| .e (.add (c := 2) rfl rfl (by decide)) rfl rfl <| .e (.move rfl) rfl rfl <| .nil <| .again <| .seq ?_
              refine .region <| .e (.lss rfl rfl) rfl rfl <| .nil <| .go <| .seq <| .cond_true rfl ?_
              refine .skip <| .go <| .seq <| .block <| .seq <| .region ?_
              refine .e (.move rfl) rfl rfl <| .e (.index (j := 2) ar22 ag2 rfl rfl rfl (by first | decide | omega) rfl) rfl rfl <| .e (.assign rfl) rfl rfl <| .e (.assign rfl) rfl rfl <| .nil <| .go ?_
              refine .seq <| .region <| .e (.move rfl) rfl rfl <| .e (.eql rfl rfl) rfl rfl <| .e (.move rfl) rfl rfl <| .off rfl rfl ?_
              refine .off rfl rfl <| .off rfl rfl <| .off rfl rfl <| .off rfl rfl <| .off rfl rfl <| .off rfl rfl ?_
              refine .off rfl rfl <| .off rfl rfl <| .off rfl rfl <| .off rfl rfl <| .e (.pickF rfl rfl) rfl rfl <| .nil ?_
              refine .go <| .cond_false rfl <| .skip <| .blk_normal <| .go <| .region ?_
              refine .e (.add (c := 3) rfl rfl (by decide)) rfl rfl <| .e (.move rfl) rfl rfl <| .nil <| .again <| .seq <| .region ?_
              refine .e (.lss rfl rfl) rfl rfl <| .nil <| .go <| .seq <| .cond_false rfl <| .exit ?_
              refine .exit <| .exit <| .blk_exit <| .go <| .seq <| .region ?_
              refine .e (.move rfl) rfl rfl <| .e (.assign rfl) rfl rfl <| .nil <| .go <| .ret ?_
              refine .tail ?_
              refine Post.retE rfl rfl ?_
              first | exact congrArg (Value.int .i64) (lodWhy_node (by omega)) | exact congrArg (Value.int .i64) (lodWhy_ok (by omega) (by omega)) | exact congrArg (Value.int .i64) (lodWhy_bad (by omega) (by omega)) | exact congrArg (Value.int .i64) (lodWhy_ok' (by omega) (by omega)) | (exfalso; omega)
            · skip
              replace h29_2 := of_decide_eq_false h29_2
              refine .cond_false rfl <| .skip <| .blk_normal <| .go <| .region <| .e (.add (c := 2) rfl rfl (by decide)) rfl rfl ?_
              refine .e (.move rfl) rfl rfl <| .nil <| .again <| .seq <| .region <| .e (.lss rfl rfl) rfl rfl ?_
              refine .nil <| .go <| .seq <| .cond_true rfl <| .skip <| .go ?_
              refine .seq <| .block <| .seq <| .region <| .e (.move rfl) rfl rfl <| .e (.index (j := 2) ar22 ag2 rfl rfl rfl (by first | decide | omega) rfl) rfl rfl ?_
              refine .e (.assign rfl) rfl rfl <| .e (.assign rfl) rfl rfl <| .nil <| .go <| .seq <| .region ?_
              refine .e (.move rfl) rfl rfl <| .e (.eql rfl rfl) rfl rfl <| .e (.move rfl) rfl rfl ?_
              refine .split 17 rfl (fun h17_3 => ?_) (fun h17_3 => ?_)
              · skip
                replace h17_3 := of_decide_eq_true h17_3
                refine .e (.move rfl) rfl rfl <| .e (.lss rfl rfl) rfl rfl <| .e (.move rfl) rfl rfl ?_
                refine .split 20 rfl (fun h20_3 => ?_) (fun h20_3 => ?_)
                · skip
                  replace h20_3 := of_decide_eq_true h20_3
                  refine .off rfl rfl <| .off rfl rfl <| .off rfl rfl <| .off rfl rfl <| .off rfl rfl <| .off rfl rfl ?_
                  refine .off rfl rfl <| .e (.pickT rfl rfl) rfl rfl <| .e (.pickT rfl rfl) rfl rfl <| .nil <| .go <| .cond_true rfl ?_
                  refine .region <| .e (.assign rfl) rfl rfl <| .nil <| .blk_normal <| .go <| .region ?_
                  refine .e (.add (c := 3) rfl rfl (by decide)) rfl rfl <| .e (.move rfl) rfl rfl <| .nil <| .again <| .seq <| .region ?_
                  refine .e (.lss rfl rfl) rfl rfl <| .nil <| .go <| .seq <| .cond_false rfl <| .exit ?_
                  refine .exit <| .exit <| .blk_exit <| .go <| .seq <| .region ?_
                  refine .e (.move rfl) rfl rfl <| .e (.assign rfl) rfl rfl <| .nil <| .go <| .ret ?_
                  refine .tail ?_
                  refine Post.retE rfl rfl ?_
                  first | exact congrArg (Value.int .i64) (lodWhy_node (by omega)) | exact congrArg (Value.int .i64) (lodWhy_ok (by omega) (by omega)) | exact congrArg (Value.int .i64) (lodWhy_bad (by omega) (by omega)) | exact congrArg (Value.int .i64) (lodWhy_ok' (by omega) (by omega)) | (exfalso; omega)
                · skip
                  replace h20_3 := of_decide_eq_false h20_3
                  refine .e (.move rfl) rfl rfl <| .e (.move rfl) rfl rfl <| .e (.fieldAddr fo29_0 rfl) rfl rfl <| .e (.fieldAddr fo27_1 rfl) rfl rfl <| .e (.indexAddrA (j := 2) ar22 rfl rfl rfl (by first | decide | omega)) rfl rfl <| .e (.load ag2 rfl .here rfl) rfl rfl ?_
                  refine .e (.gtr rfl rfl) rfl rfl <| .e (.pickF rfl rfl) rfl rfl <| .e (.pickT rfl rfl) rfl rfl <| .nil <| .go ?_
                  refine .split 29 rfl (fun h29_3 => ?_) (fun h29_3 => ?_)
                  · skip
                    replace h29_3 := of_decide_eq_true h29_3
                    refine .cond_true rfl <| .region <| .e (.assign rfl) rfl rfl <| .nil <| .blk_normal <| .go ?_
                    refine .region <| .e (.add (c := 3) rfl rfl (by decide)) rfl rfl <| .e (.move rfl) rfl rfl <| .nil <| .again <| .seq ?_
                    refine .region <| .e (.lss rfl rfl) rfl rfl <| .nil <| .go <| .seq <| .cond_false rfl ?_
                    refine .exit <| .exit <| .exit <| .blk_exit <| .go <| .seq ?_
                    refine .region <| .e (.move rfl) rfl rfl <| .e (.assign rfl) rfl rfl <| .nil <| .go <| .ret ?_
                    refine .tail ?_
                    refine Post.retE rfl rfl ?_
                    first | exact congrArg (Value.int .i64) (lodWhy_node (by omega)) | exact congrArg (Value.int .i64) (lodWhy_ok (by omega) (by omega)) | exact congrArg (Value.int .i64) (lodWhy_bad (by omega) (by omega)) | exact congrArg (Value.int .i64) (lodWhy_ok' (by omega) (by omega)) | (exfalso; omega)
                  · skip
                    replace h29_3 := of_decide_eq_false h29_3
                    refine .cond_false rfl <| .skip <| .blk_normal <| .go <| .region <| .e (.add (c := 3) rfl rfl (by decide)) rfl rfl ?_
                    refine .e (.move rfl) rfl rfl <| .nil <| .again <| .seq <| .region <| .e (.lss rfl rfl) rfl rfl ?_
                    refine .nil <| .go <| .seq <| .cond_false rfl <| .exit <| .exit ?_
                    refine .exit <| .blk_exit <| .go <| .seq <| .region <| .e (.move rfl) rfl rfl ?_
                    refine .e (.assign rfl) rfl rfl <| .nil <| .go <| .ret ?_
                    refine .tail ?_
                    refine Post.retE rfl rfl ?_
                    first | exact congrArg (Value.int .i64) (lodWhy_node (by omega)) | exact congrArg (Value.int .i64) (lodWhy_ok (by omega) (by omega)) | exact congrArg (Value.int .i64) (lodWhy_bad (by omega) (by omega)) | exact congrArg (Value.int .i64) (lodWhy_ok' (by omega) (by omega)) | (exfalso; omega)
              · skip
                replace h17_3 := of_decide_eq_false h17_3
                refine .off rfl rfl <| .off rfl rfl <| .off rfl rfl <| .off rfl rfl <| .off rfl rfl <| .off rfl rfl ?_
                refine .off rfl rfl <| .off rfl rfl <| .off rfl rfl <| .off rfl rfl <| .off rfl rfl <| .e (.pickF rfl rfl) rfl rfl ?_
                refine .nil <| .go <| .cond_false rfl <| .skip <| .blk_normal <| .go ?_
                refine .region <| .e (.add (c := 3) rfl rfl (by decide)) rfl rfl <| .e (.move rfl) rfl rfl <| .nil <| .again <| .seq ?_
                refine .region <| .e (.lss rfl rfl) rfl rfl <| .nil <| .go <| .seq <| .cond_false rfl ?_
                refine .exit <| .exit <| .exit <| .blk_exit <| .go <| .seq ?_
                refine .region <| .e (.move rfl) rfl rfl <| .e (.assign rfl) rfl rfl <| .nil <| .go <| .ret ?_
                refine .tail ?_
                refine Post.retE rfl rfl ?_
                first | exact congrArg (Value.int .i64) (lodWhy_node (by omega)) | exact congrArg (Value.int .i64) (lodWhy_ok (by omega) (by omega)) | exact congrArg (Value.int .i64) (lodWhy_bad (by omega) (by omega)) | exact congrArg (Value.int .i64) (lodWhy_ok' (by omega) (by omega)) | (exfalso; omega)
        · skip
          replace h17_2 := of_decide_eq_false h17_2
          refine .off rfl rfl <| .off rfl rfl <| .off rfl rfl <| .off rfl rfl <| .off rfl rfl <| .off rfl rfl ?_
          refine .off rfl rfl <| .off rfl rfl <| .off rfl rfl <| .off rfl rfl <| .off rfl rfl <| .e (.pickF rfl rfl) rfl rfl ?_
          refine .nil <| .go <| .cond_false rfl <| .skip <| .blk_normal <| .go ?_
          refine .region <| .e (.add (c := 2) rfl rfl (by decide)) rfl rfl <| .e (.move rfl) rfl rfl <| .nil <| .again <| .seq ?_
          refine .region <| .e (.lss rfl rfl) rfl rfl <| .nil <| .go <| .seq <| .cond_true rfl ?_
          refine .skip <| .go <| .seq <| .block <| .seq <| .region ?_
          refine .e (.move rfl) rfl rfl <| .e (.index (j := 2) ar22 ag2 rfl rfl rfl (by first | decide | omega) rfl) rfl rfl <| .e (.assign rfl) rfl rfl <| .e (.assign rfl) rfl rfl <| .nil <| .go ?_
          refine .seq <| .region <| .e (.move rfl) rfl rfl <| .e (.eql rfl rfl) rfl rfl <| .e (.move rfl) rfl rfl ?_
          refine .split 17 rfl (fun h17_3 => ?_) (fun h17_3 => ?_)
          · skip
            replace h17_3 := of_decide_eq_true h17_3
            refine .e (.move rfl) rfl rfl <| .e (.lss rfl rfl) rfl rfl <| .e (.move rfl) rfl rfl ?_
            refine .split 20 rfl (fun h20_2 => ?_) (fun h20_2 => ?_)
            · skip
              replace h20_2 := of_decide_eq_true h20_2
              refine .off rfl rfl <| .off rfl rfl <| .off rfl rfl <| .off rfl rfl <| .off rfl rfl <| .off rfl rfl ?_
              refine .off rfl rfl <| .e (.pickT rfl rfl) rfl rfl <| .e (.pickT rfl rfl) rfl rfl <| .nil <| .go <| .cond_true rfl ?_
              refine .region <| .e (.assign rfl) rfl rfl <| .nil <| .blk_normal <| .go <| .region ?_
              refine .e (.add (c := 3) rfl rfl (by decide)) rfl rfl <| .e (.move rfl) rfl rfl <| .nil <| .again <| .seq <| .region ?_
              refine .e (.lss rfl rfl) rfl rfl <| .nil <| .go <| .seq <| .cond_false rfl <| .exit ?_
              refine .exit <| .exit <| .blk_exit <| .go <| .seq <| .region ?_
              refine .e (.move rfl) rfl rfl <| .e (.assign rfl) rfl rfl <| .nil <| .go <| .ret ?_
              refine .tail ?_
              refine Post.retE rfl rfl ?_
              first | exact congrArg (Value.int .i64) (lodWhy_node (by omega)) | exact congrArg (Value.int .i64) (lodWhy_ok (by omega) (by omega)) | exact congrArg (Value.int .i64) (lodWhy_bad (by omega) (by omega)) | exact congrArg (Value.int .i64) (lodWhy_ok' (by omega) (by omega)) | (exfalso; omega)
            · skip
              replace h20_2 := of_decide_eq_false h20_2
              refine .e (.move rfl) rfl rfl <| .e (.move rfl) rfl rfl <| .e (.fieldAddr fo29_0 rfl) rfl rfl <| .e (.fieldAddr fo27_1 rfl) rfl rfl <| .e (.indexAddrA (j := 2) ar22 rfl rfl rfl (by first | decide | omega)) rfl rfl <| .e (.load ag2 rfl .here rfl) rfl rfl ?_
              refine .e (.gtr rfl rfl) rfl rfl <| .e (.pickF rfl rfl) rfl rfl <| .e (.pickT rfl rfl) rfl rfl <| .nil <| .go ?_
              refine .split 29 rfl (fun h29_2 => ?_) (fun h29_2 => ?_)
              · skip
                replace h29_2 := of_decide_eq_true h29_2
                refine .cond_true rfl <| .region <| .e (.assign rfl) rfl rfl <| .nil <| .blk_normal <| .go ?_
                refine .region <| .e (.add (c := 3) rfl rfl (by decide)) rfl rfl <| .e (.move rfl) rfl rfl <| .nil <| .again <| .seq ?_
                refine .region <| .e (.lss rfl rfl) rfl rfl <| .nil <| .go <| .seq <| .cond_false rfl ?_
                refine .exit <| .exit <| .exit <| .blk_exit <| .go <| .seq ?_
                refine .region <| .e (.move rfl) rfl rfl <| .e (.assign rfl) rfl rfl <| .nil <| .go <| .ret ?_
                refine .tail ?_
                refine Post.retE rfl rfl ?_
                first | exact congrArg (Value.int .i64) (lodWhy_node (by omega)) | exact congrArg (Value.int .i64) (lodWhy_ok (by omega) (by omega)) | exact congrArg (Value.int .i64) (lodWhy_bad (by omega) (by omega)) | exact congrArg (Value.int .i64) (lodWhy_ok' (by omega) (by omega)) | (exfalso; omega)
              · skip
                replace h29_2 := of_decide_eq_false h29_2
                refine .cond_false rfl <| .skip <| .blk_normal <| .go <| .region <| .e (.add (c := 3) rfl rfl (by decide)) rfl rfl ?_
                refine .e (.move rfl) rfl rfl <| .nil <| .again <| .seq <| .region <| .e (.lss rfl rfl) rfl rfl ?_
                refine .nil <| .go <| .seq <| .cond_false rfl <| .exit <| .exit ?_
                refine .exit <| .blk_exit <| .go <| .seq <| .region <| .e (.move rfl) rfl rfl ?_
                refine .e (.assign rfl) rfl rfl <| .nil <| .go <| .ret ?_
                refine .tail ?_
                refine Post.retE rfl rfl ?_
                first | exact congrArg (Value.int .i64) (lodWhy_node (by omega)) | exact congrArg (Value.int .i64) (lodWhy_ok (by omega) (by omega)) | exact congrArg (Value.int .i64) (lodWhy_bad (by omega) (by omega)) | exact congrArg (Value.int .i64) (lodWhy_ok' (by omega) (by omega)) | (exfalso; omega)
          · skip
            replace h17_3 := of_decide_eq_false h17_3
            refine .off rfl rfl <| .off rfl rfl <| .off rfl rfl <| .off rfl rfl <| .off rfl rfl <| .off rfl rfl ?_
            refine .off rfl rfl <| .off rfl rfl <| .off rfl rfl <| .off rfl rfl <| .off rfl rfl <| .e (.pickF rfl rfl) rfl rfl ?_
            refine .nil <| .go <| .cond_false rfl <| .skip <| .blk_normal <| .go ?_
            refine .region <| .e (.add (c := 3) rfl rfl (by decide)) rfl rfl <| .e (.move rfl) rfl rfl <| .nil <| .again <| .seq ?_
            refine .region <| .e (.lss rfl rfl) rfl rfl <| .nil <| .go <| .seq <| .cond_false rfl ?_
            refine .exit <| .exit <| .exit <| .blk_exit <| .go <| .seq ?_
            refine .region <| .e (.move rfl) rfl rfl <| .e (.assign rfl) rfl rfl <| .nil <| .go <| .ret ?_
            refine .tail ?_
            refine Post.retE rfl rfl ?_
            first | exact congrArg (Value.int .i64) (lodWhy_node (by omega)) | exact congrArg (Value.int .i64) (lodWhy_ok (by omega) (by omega)) | exact congrArg (Value.int .i64) (lodWhy_bad (by omega) (by omega)) | exact congrArg (Value.int .i64) (lodWhy_ok' (by omega) (by omega)) | (exfalso; omega)
  · skip
    replace h17 := of_decide_eq_false h17
    refine .off rfl rfl <| .off rfl rfl <| .off rfl rfl <| .off rfl rfl <| .off rfl rfl <| .off rfl rfl ?_
    refine .off rfl rfl <| .off rfl rfl <| .off rfl rfl <| .off rfl rfl <| .off rfl rfl <| .e (.pickF rfl rfl) rfl rfl ?_
    refine .nil <| .go <| .cond_false rfl <| .skip <| .blk_normal <| .go ?_
    refine .region <| .e (.add (c := 1) rfl rfl (by decide)) rfl rfl <| .e (.move rfl) rfl rfl <| .nil <| .again <| .seq ?_
    refine .region <| .e (.lss rfl rfl) rfl rfl <| .nil <| .go <| .seq <| .cond_true rfl ?_
    refine .skip <| .go <| .seq <| .block <| .seq <| .region ?_
    refine .e (.move rfl) rfl rfl <| .e (.index (j := 1) ar22 ag2 rfl rfl rfl (by first | decide | omega) rfl) rfl rfl <| .e (.assign rfl) rfl rfl <| .e (.assign rfl) rfl rfl <| .nil <| .go ?_
    refine .seq <| .region <| .e (.move rfl) rfl rfl <| .e (.eql rfl rfl) rfl rfl <| .e (.move rfl) rfl rfl ?_
    refine .split 17 rfl (fun h17_2 => ?_) (fun h17_2 => ?_)
    · skip
      replace h17_2 := of_decide_eq_true h17_2
      refine .e (.move rfl) rfl rfl <| .e (.lss rfl rfl) rfl rfl <| .e (.move rfl) rfl rfl ?_
      refine .split 20 rfl (fun h20 => ?_) (fun h20 => ?_)
      · skip
        replace h20 := of_decide_eq_true h20
        refine .off rfl rfl <| .off rfl rfl <| .off rfl rfl <| .off rfl rfl <| .off rfl rfl <| .off rfl rfl ?_
        refine .off rfl rfl <| .e (.pickT rfl rfl) rfl rfl <| .e (.pickT rfl rfl) rfl rfl <| .nil <| .go <| .cond_true rfl ?_
        refine .region <| .e (.assign rfl) rfl rfl <| .nil <| .blk_normal <| .go <| .region ?_
        refine .e (.add (c := 2) rfl rfl (by decide)) rfl rfl <| .e (.move rfl) rfl rfl <| .nil <| .again <| .seq <| .region ?_
        refine .e (.lss rfl rfl) rfl rfl <| .nil <| .go <| .seq <| .cond_true rfl <| .skip ?_
        refine .go <| .seq <| .block <| .seq <| .region <| .e (.move rfl) rfl rfl ?_
        refine .e (.index (j := 2) ar22 ag2 rfl rfl rfl (by first | decide | omega) rfl) rfl rfl <| .e (.assign rfl) rfl rfl <| .e (.assign rfl) rfl rfl <| .nil <| .go <| .seq ?_
        refine .region <| .e (.move rfl) rfl rfl <| .e (.eql rfl rfl) rfl rfl <| .e (.move rfl) rfl rfl <| .off rfl rfl <| .off rfl rfl ?_
        refine .off rfl rfl <| .off rfl rfl <| .off rfl rfl <| .off rfl rfl <| .off rfl rfl <| .off rfl rfl ?_
        refine .off rfl rfl <| .off rfl rfl <| .off rfl rfl <| .e (.pickF rfl rfl) rfl rfl <| .nil <| .go ?_
        refine .cond_false rfl <| .skip <| .blk_normal <| .go <| .region <| .e (.add (c := 3) rfl rfl (by decide)) rfl rfl ?_
        refine .e (.move rfl) rfl rfl <| .nil <| .again <| .seq <| .region <| .e (.lss rfl rfl) rfl rfl ?_
        refine .nil <| .go <| .seq <| .cond_false rfl <| .exit <| .exit ?_
        refine .exit <| .blk_exit <| .go <| .seq <| .region <| .e (.move rfl) rfl rfl ?_
        refine .e (.assign rfl) rfl rfl <| .nil <| .go <| .ret ?_
        refine .tail ?_
        refine Post.retE rfl rfl ?_
        first | exact congrArg (Value.int .i64) (lodWhy_node (by omega)) | exact congrArg (Value.int .i64) (lodWhy_ok (by omega) (by omega)) | exact congrArg (Value.int .i64) (lodWhy_bad (by omega) (by omega)) | exact congrArg (Value.int .i64) (lodWhy_ok' (by omega) (by omega)) | (exfalso; omega)
      · skip
        replace h20 := of_decide_eq_false h20
        refine .e (.move rfl) rfl rfl <| .e (.move rfl) rfl rfl <| .e (.fieldAddr fo29_0 rfl) rfl rfl <| .e (.fieldAddr fo27_1 rfl) rfl rfl <| .e (.indexAddrA (j := 1) ar22 rfl rfl rfl (by first | decide | omega)) rfl rfl <| .e (.load ag2 rfl .here rfl) rfl rfl ?_
        refine .e (.gtr rfl rfl) rfl rfl <| .e (.pickF rfl rfl) rfl rfl <| .e (.pickT rfl rfl) rfl rfl <| .nil <| .go ?_
        refine .split 29 rfl (fun h29 => ?_) (fun h29 => ?_)
        · skip
          replace h29 := of_decide_eq_true h29
          refine .cond_true rfl <| .region <| .e (.assign rfl) rfl rfl <| .nil <| .blk_normal <| .go ?_
          refine .region <| .e (.add (c := 2) rfl rfl (by decide)) rfl rfl <| .e (.move rfl) rfl rfl <| .nil <| .again <| .seq ?_
          refine .region <| .e (.lss rfl rfl) rfl rfl <| .nil <| .go <| .seq <| .cond_true rfl ?_
          refine .skip <| .go <| .seq <| .block <| .seq <| .region ?_
          refine .e (.move rfl) rfl rfl <| .e (.index (j := 2) ar22 ag2 rfl rfl rfl (by first | decide | omega) rfl) rfl rfl <| .e (.assign rfl) rfl rfl <| .e (.assign rfl) rfl rfl <| .nil <| .go ?_
          refine .seq <| .region <| .e (.move rfl) rfl rfl <| .e (.eql rfl rfl) rfl rfl <| .e (.move rfl) rfl rfl <| .off rfl rfl ?_
          refine .off rfl rfl <| .off rfl rfl <| .off rfl rfl <| .off rfl rfl <| .off rfl rfl <| .off rfl rfl ?_
          refine .off rfl rfl <| .off rfl rfl <| .off rfl rfl <| .off rfl rfl <| .e (.pickF rfl rfl) rfl rfl <| .nil ?_
          refine .go <| .cond_false rfl <| .skip <| .blk_normal <| .go <| .region ?_
          refine .e (.add (c := 3) rfl rfl (by decide)) rfl rfl <| .e (.move rfl) rfl rfl <| .nil <| .again <| .seq <| .region ?_
          refine .e (.lss rfl rfl) rfl rfl <| .nil <| .go <| .seq <| .cond_false rfl <| .exit ?_
          refine .exit <| .exit <| .blk_exit <| .go <| .seq <| .region ?_
          refine .e (.move rfl) rfl rfl <| .e (.assign rfl) rfl rfl <| .nil <| .go <| .ret ?_
          refine .tail ?_
          refine Post.retE rfl rfl ?_
          first | exact congrArg (Value.int .i64) (lodWhy_node (by omega)) | exact congrArg (Value.int .i64) (lodWhy_ok (by omega) (by omega)) | exact congrArg (Value.int .i64) (lodWhy_bad (by omega) (by omega)) | exact congrArg (Value.int .i64) (lodWhy_ok' (by omega) (by omega)) | (exfalso; omega)
        · skip
          replace h29 := of_decide_eq_false h29
          refine .cond_false rfl <| .skip <| .blk_normal <| .go <| .region <| .e (.add (c := 2) rfl rfl (by decide)) rfl rfl ?_
          refine .e (.move rfl) rfl rfl <| .nil <| .again <| .seq <| .region <| .e (.lss rfl rfl) rfl rfl ?_
          refine .nil <| .go <| .seq <| .cond_true rfl <| .skip <| .go ?_
          refine .seq <| .block <| .seq <| .region <| .e (.move rfl) rfl rfl <| .e (.index (j := 2) ar22 ag2 rfl rfl rfl (by first | decide | omega) rfl) rfl rfl ?_
          refine .e (.assign rfl) rfl rfl <| .e (.assign rfl) rfl rfl <| .nil <| .go <| .seq <| .region ?_
          refine .e (.move rfl) rfl rfl <| .e (.eql rfl rfl) rfl rfl <| .e (.move rfl) rfl rfl ?_
          refine .split 17 rfl (fun h17_3 => ?_) (fun h17_3 => ?_)
          · skip
            replace h17_3 := of_decide_eq_true h17_3
            refine .e (.move rfl) rfl rfl <| .e (.lss rfl rfl) rfl rfl <| .e (.move rfl) rfl rfl ?_
            refine .split 20 rfl (fun h20_2 => ?_) (fun h20_2 => ?_)
            · skip
              replace h20_2 := of_decide_eq_true h20_2
              refine .off rfl rfl <| .off rfl rfl <| .off rfl rfl <| .off rfl rfl <| .off rfl rfl <| .off rfl rfl ?_
              refine .off rfl rfl <| .e (.pickT rfl rfl) rfl rfl <| .e (.pickT rfl rfl) rfl rfl <| .nil <| .go <| .cond_true rfl ?_
              refine .region <| .e (.assign rfl) rfl rfl <| .nil <| .blk_normal <| .go <| .region ?_
              refine .e (.add (c := 3) rfl rfl (by decide)) rfl rfl <| .e (.move rfl) rfl rfl <| .nil <| .again <| .seq <| .region ?_
              refine .e (.lss rfl rfl) rfl rfl <| .nil <| .go <| .seq <| .cond_false rfl <| .exit ?_
              refine .exit <| .exit <| .blk_exit <| .go <| .seq <| .region ?_
              refine .e (.move rfl) rfl rfl <| .e (.assign rfl) rfl rfl <| .nil <| .go <| .ret ?_
              refine .tail ?_
              refine Post.retE rfl rfl ?_
              first | exact congrArg (Value.int .i64) (lodWhy_node (by omega)) | exact congrArg (Value.int .i64) (lodWhy_ok (by omega) (by omega)) | exact congrArg (Value.int .i64) (lodWhy_bad (by omega) (by omega)) | exact congrArg (Value.int .i64) (lodWhy_ok' (by omega) (by omega)) | (exfalso; omega)
            · skip
              replace h20_2 := of_decide_eq_false h20_2
              refine .e (.move rfl) rfl rfl <| .e (.move rfl) rfl rfl <| .e (.fieldAddr fo29_0 rfl) rfl rfl <| .e (.fieldAddr fo27_1 rfl) rfl rfl <| .e (.indexAddrA (j := 2) ar22 rfl rfl rfl (by first | decide | omega)) rfl rfl <| .e (.load ag2 rfl .here rfl) rfl rfl ?_
              refine .e (.gtr rfl rfl) rfl rfl <| .e (.pickF rfl rfl) rfl rfl <| .e (.pickT rfl rfl) rfl rfl <| .nil <| .go ?_
              refine .split 29 rfl (fun h29_2 => ?_) (fun h29_2 => ?_)
              · skip
                replace h29_2 := of_decide_eq_true h29_2
                refine .cond_true rfl <| .region <| .e (.assign rfl) rfl rfl <| .nil <| .blk_normal <| .go ?_
                refine .region <| .e (.add (c := 3) rfl rfl (by decide)) rfl rfl <| .e (.move rfl) rfl rfl <| .nil <| .again <| .seq ?_
                refine .region <| .e (.lss rfl rfl) rfl rfl <| .nil <| .go <| .seq <| .cond_false rfl ?_
                refine .exit <| .exit <| .exit <| .blk_exit <| .go <| .seq ?_
                refine .region <| .e (.move rfl) rfl rfl <| .e (.assign rfl) rfl rfl <| .nil <| .go <| .ret ?_
                refine .tail ?_
                refine Post.retE rfl rfl ?_
                first | exact congrArg (Value.int .i64) (lodWhy_node (by omega)) | exact congrArg (Value.int .i64) (lodWhy_ok (by omega) (by omega)) | exact congrArg (Value.int .i64) (lodWhy_bad (by omega) (by omega)) | exact congrArg (Value.int .i64) (lodWhy_ok' (by omega) (by omega)) | (exfalso; omega)
              · skip
                replace h29_2 := of_decide_eq_false h29_2
                refine .cond_false rfl <| .skip <| .blk_normal <| .go <| .region <| .e (.add (c := 3) rfl rfl (by decide)) rfl rfl ?_
                refine .e (.move rfl) rfl rfl <| .nil <| .again <| .seq <| .region <| .e (.lss rfl rfl) rfl rfl ?_
                refine .nil <| .go <| .seq <| .cond_false rfl <| .exit <| .exit ?_
                refine .exit <| .blk_exit <| .go <| .seq <| .region <| .e (.move rfl) rfl rfl ?_
                refine .e (.assign rfl) rfl rfl <| .nil <| .go <| .ret ?_
                refine .tail ?_
                refine Post.retE rfl rfl ?_
                first | exact congrArg (Value.int .i64) (lodWhy_node (by omega)) | exact congrArg (Value.int .i64) (lodWhy_ok (by omega) (by omega)) | exact congrArg (Value.int .i64) (lodWhy_bad (by omega) (by omega)) | exact congrArg (Value.int .i64) (lodWhy_ok' (by omega) (by omega)) | (exfalso; omega)
          · skip
            replace h17_3 := of_decide_eq_false h17_3
            refine .off rfl rfl <| .off rfl rfl <| .off rfl rfl <| .off rfl rfl <| .off rfl rfl <| .off rfl rfl ?_
            refine .off rfl rfl <| .off rfl rfl <| .off rfl rfl <| .off rfl rfl <| .off rfl rfl <| .e (.pickF rfl rfl) rfl rfl ?_
            refine .nil <| .go <| .cond_false rfl <| .skip <| .blk_normal <| .go ?_
            refine .region <| .e (.add (c := 3) rfl rfl (by decide)) rfl rfl <| .e (.move rfl) rfl rfl <| .nil <| .again <| .seq ?_
            refine .region <| .e (.lss rfl rfl) rfl rfl <| .nil <| .go <| .seq <| .cond_false rfl ?_
            refine .exit <| .exit <| .exit <| .blk_exit <| .go <| .seq ?_
            refine .region <| .e (.move rfl) rfl rfl <| .e (.assign rfl) rfl rfl <| .nil <| .go <| .ret ?_
            refine .tail ?_
            refine Post.retE rfl rfl ?_
            first | exact congrArg (Value.int .i64) (lodWhy_node (by omega)) | exact congrArg (Value.int .i64) (lodWhy_ok (by omega) (by omega)) | exact congrArg (Value.int .i64) (lodWhy_bad (by omega) (by omega)) | exact congrArg (Value.int .i64) (lodWhy_ok' (by omega) (by omega)) | (exfalso; omega)
    · skip
      replace h17_2 := of_decide_eq_false h17_2
      refine .off rfl rfl <| .off rfl rfl <| .off rfl rfl <| .off rfl rfl <| .off rfl rfl <| .off rfl rfl ?_
      refine .off rfl rfl <| .off rfl rfl <| .off rfl rfl <| .off rfl rfl <| .off rfl rfl <| .e (.pickF rfl rfl) rfl rfl ?_
      refine .nil <| .go <| .cond_false rfl <| .skip <| .blk_normal <| .go ?_
      refine .region <| .e (.add (c := 2) rfl rfl (by decide)) rfl rfl <| .e (.move rfl) rfl rfl <| .nil <| .again <| .seq ?_
      refine .region <| .e (.lss rfl rfl) rfl rfl <| .nil <| .go <| .seq <| .cond_true rfl ?_
      refine .skip <| .go <| .seq <| .block <| .seq <| .region ?_
      refine .e (.move rfl) rfl rfl <| .e (.index (j := 2) ar22 ag2 rfl rfl rfl (by first | decide | omega) rfl) rfl rfl <| .e (.assign rfl) rfl rfl <| .e (.assign rfl) rfl rfl <| .nil <| .go ?_
      refine .seq <| .region <| .e (.move rfl) rfl rfl <| .e (.eql rfl rfl) rfl rfl <| .e (.move rfl) rfl rfl ?_
      refine .split 17 rfl (fun h17_3 => ?_) (fun h17_3 => ?_)
      · skip
        replace h17_3 := of_decide_eq_true h17_3
        refine .e (.move rfl) rfl rfl <| .e (.lss rfl rfl) rfl rfl <| .e (.move rfl) rfl rfl ?_
        refine .split 20 rfl (fun h20 => ?_) (fun h20 => ?_)
        · skip
          replace h20 := of_decide_eq_true h20
          refine .off rfl rfl <| .off rfl rfl <| .off rfl rfl <| .off rfl rfl <| .off rfl rfl <| .off rfl rfl ?_
          refine .off rfl rfl <| .e (.pickT rfl rfl) rfl rfl <| .e (.pickT rfl rfl) rfl rfl <| .nil <| .go <| .cond_true rfl ?_
          refine .region <| .e (.assign rfl) rfl rfl <| .nil <| .blk_normal <| .go <| .region ?_
          refine .e (.add (c := 3) rfl rfl (by decide)) rfl rfl <| .e (.move rfl) rfl rfl <| .nil <| .again <| .seq <| .region ?_
          refine .e (.lss rfl rfl) rfl rfl <| .nil <| .go <| .seq <| .cond_false rfl <| .exit ?_
          refine .exit <| .exit <| .blk_exit <| .go <| .seq <| .region ?_
          refine .e (.move rfl) rfl rfl <| .e (.assign rfl) rfl rfl <| .nil <| .go <| .ret ?_
          refine .tail ?_
          refine Post.retE rfl rfl ?_
          first | exact congrArg (Value.int .i64) (lodWhy_node (by omega)) | exact congrArg (Value.int .i64) (lodWhy_ok (by omega) (by omega)) | exact congrArg (Value.int .i64) (lodWhy_bad (by omega) (by omega)) | exact congrArg (Value.int .i64) (lodWhy_ok' (by omega) (by omega)) | (exfalso; omega)
        · skip
          replace h20 := of_decide_eq_false h20
          refine .e (.move rfl) rfl rfl <| .e (.move rfl) rfl rfl <| .e (.fieldAddr fo29_0 rfl) rfl rfl <| .e (.fieldAddr fo27_1 rfl) rfl rfl <| .e (.indexAddrA (j := 2) ar22 rfl rfl rfl (by first | decide | omega)) rfl rfl <| .e (.load ag2 rfl .here rfl) rfl rfl ?_
          refine .e (.gtr rfl rfl) rfl rfl <| .e (.pickF rfl rfl) rfl rfl <| .e (.pickT rfl rfl) rfl rfl <| .nil <| .go ?_
          refine .split 29 rfl (fun h29 => ?_) (fun h29 => ?_)
          · skip
            replace h29 := of_decide_eq_true h29
            refine .cond_true rfl <| .region <| .e (.assign rfl) rfl rfl <| .nil <| .blk_normal <| .go ?_
            refine .region <| .e (.add (c := 3) rfl rfl (by decide)) rfl rfl <| .e (.move rfl) rfl rfl <| .nil <| .again <| .seq ?_
            refine .region <| .e (.lss rfl rfl) rfl rfl <| .nil <| .go <| .seq <| .cond_false rfl ?_
            refine .exit <| .exit <| .exit <| .blk_exit <| .go <| .seq ?_
            refine .region <| .e (.move rfl) rfl rfl <| .e (.assign rfl) rfl rfl <| .nil <| .go <| .ret ?_
            refine .tail ?_
            refine Post.retE rfl rfl ?_
            first | exact congrArg (Value.int .i64) (lodWhy_node (by omega)) | exact congrArg (Value.int .i64) (lodWhy_ok (by omega) (by omega)) | exact congrArg (Value.int .i64) (lodWhy_bad (by omega) (by omega)) | exact congrArg (Value.int .i64) (lodWhy_ok' (by omega) (by omega)) | (exfalso; omega)
          · skip
            replace h29 := of_decide_eq_false h29
            refine .cond_false rfl <| .skip <| .blk_normal <| .go <| .region <| .e (.add (c := 3) rfl rfl (by decide)) rfl rfl ?_
            refine .e (.move rfl) rfl rfl <| .nil <| .again <| .seq <| .region <| .e (.lss rfl rfl) rfl rfl ?_
            refine .nil <| .go <| .seq <| .cond_false rfl <| .exit <| .exit ?_
            refine .exit <| .blk_exit <| .go <| .seq <| .region <| .e (.move rfl) rfl rfl ?_
            refine .e (.assign rfl) rfl rfl <| .nil <| .go <| .ret ?_
            refine .tail ?_
            refine Post.retE rfl rfl ?_
            first | exact congrArg (Value.int .i64) (lodWhy_node (by omega)) | exact congrArg (Value.int .i64) (lodWhy_ok (by omega) (by omega)) | exact congrArg (Value.int .i64) (lodWhy_bad (by omega) (by omega)) | exact congrArg (Value.int .i64) (lodWhy_ok' (by omega) (by omega)) | (exfalso; omega)
      · skip
        replace h17_3 := of_decide_eq_false h17_3
        refine .off rfl rfl <| .off rfl rfl <| .off rfl rfl <| .off rfl rfl <| .off rfl rfl <| .off rfl rfl ?_
        refine .off rfl rfl <| .off rfl rfl <| .off rfl rfl <| .off rfl rfl <| .off rfl rfl <| .e (.pickF rfl rfl) rfl rfl ?_
        refine .nil <| .go <| .cond_false rfl <| .skip <| .blk_normal <| .go ?_
        refine .region <| .e (.add (c := 3) rfl rfl (by decide)) rfl rfl <| .e (.move rfl) rfl rfl <| .nil <| .again <| .seq ?_
        refine .region <| .e (.lss rfl rfl) rfl rfl <| .nil <| .go <| .seq <| .cond_false rfl ?_
        refine .exit <| .exit <| .exit <| .blk_exit <| .go <| .seq ?_
        refine .region <| .e (.move rfl) rfl rfl <| .e (.assign rfl) rfl rfl <| .nil <| .go <| .ret ?_
        refine .tail ?_
        refine Post.retE rfl rfl ?_
        first | exact congrArg (Value.int .i64) (lodWhy_node (by omega)) | exact congrArg (Value.int .i64) (lodWhy_ok (by omega) (by omega)) | exact congrArg (Value.int .i64) (lodWhy_bad (by omega) (by omega)) | exact congrArg (Value.int .i64) (lodWhy_ok' (by omega) (by omega)) | (exfalso; omega)

set_option maxHeartbeats 1000000 in
set_option maxRecDepth 20000 in
theorem orE_ok {I : Imm} {O : Own} {b : Nat} {T : TypeId} {fz : Nat × Nat} {x y : Int} (hb : I b = some (.cells ⟨[.int .i64 x, .int .i64 y]⟩ T fz)) :
    Pure Tryd.prog 18 [.slice (some ⟨b, 0, none⟩) 2 2] I O (.int .i64 (orI x y)) := by
  have hl0 := row2 hb
  refine Does.enter Tryd.func18 rfl Tryd.ntmps18 rfl ?_
  refine .seq <| .region <| .e (.assign rfl) rfl rfl <| .nil <| .go <| .seq ?_
  refine .region <| .e (.assign rfl) rfl rfl <| .nil <| .go <| .seq <| .seq ?_
  refine .region <| .e (.move rfl) rfl rfl <| .e (.len sl53 rfl rfl) rfl rfl <| .e (.move rfl) rfl rfl <| .nil <| .go ?_
  refine .block <| .unroll 2 <| .seq <| .region <| .e (.lss rfl rfl) rfl rfl <| .nil ?_
  refine .go <| .seq <| .cond_true rfl <| .skip <| .go <| .seq ?_
  refine .block <| .seq <| .region ?_
  obtain ⟨eb10, eo10, cs10, hd10, hat10, hr10⟩ := SlR.at_ hl0 (k := 0) (by simp)
  cases hd10
  cases hr10
  refine .e (.indexAddrL sl53 rfl rfl rfl (by simp)) rfl rfl <| .e (.loadI ag30 rfl (hat10.cell (j := 0) rfl)) rfl rfl <| .e (.assign rfl) rfl rfl <| .nil <| .go <| .seq ?_
  refine .region <| .e (.move rfl) rfl rfl <| .e (.move rfl) rfl rfl <| .e (.neq rfl rfl) rfl rfl <| .nil <| .go ?_
  refine .split 14 rfl (fun h14 => ?_) (fun h14 => ?_)
  · skip
    first | replace h14 := of_decide_eq_false ((Bool.not_eq_true' _).mp h14) | replace h14 := of_decide_eq_false (by simpa using h14)
    refine .cond_true rfl <| .seq <| .region <| .e (.move rfl) rfl rfl <| .e (.assign rfl) rfl rfl <| .nil ?_
    refine .go <| .ret <| .blk_ret <| .ret <| .ret <| .blk_ret ?_
    refine .ret ?_
    refine Post.retE rfl rfl ?_
    simp_all [orI]
  · skip
    first | replace h14 := of_decide_eq_true ((Bool.not_eq_false' _).mp h14) | replace h14 := of_decide_eq_true (by simpa using h14)
    refine .cond_false rfl <| .skip <| .blk_normal <| .go <| .region <| .e (.add (c := 1) rfl rfl (by decide)) rfl rfl ?_
    refine .e (.move rfl) rfl rfl <| .nil <| .again <| .seq <| .region <| .e (.lss rfl rfl) rfl rfl ?_
    refine .nil <| .go <| .seq <| .cond_true rfl <| .skip <| .go ?_
    refine .seq <| .block <| .seq <| .region ?_
    obtain ⟨eb10, eo10, cs10, hd10, hat10, hr10⟩ := SlR.at_ hl0 (k := 1) (by simp)
    cases hd10
    cases hr10
    refine .e (.indexAddrL sl53 rfl rfl rfl (by simp)) rfl rfl <| .e (.loadI ag30 rfl (hat10.cell (j := 0) rfl)) rfl rfl <| .e (.assign rfl) rfl rfl <| .nil <| .go <| .seq ?_
    refine .region <| .e (.move rfl) rfl rfl <| .e (.move rfl) rfl rfl <| .e (.neq rfl rfl) rfl rfl <| .nil <| .go ?_
    refine .split 14 rfl (fun h14_2 => ?_) (fun h14_2 => ?_)
    · skip
      first | replace h14_2 := of_decide_eq_false ((Bool.not_eq_true' _).mp h14_2) | replace h14_2 := of_decide_eq_false (by simpa using h14_2)
      refine .cond_true rfl <| .seq <| .region <| .e (.move rfl) rfl rfl <| .e (.assign rfl) rfl rfl <| .nil ?_
      refine .go <| .ret <| .blk_ret <| .ret <| .ret <| .blk_ret ?_
      refine .ret ?_
      refine Post.retE rfl rfl ?_
      simp_all [orI]
    · skip
      first | replace h14_2 := of_decide_eq_true ((Bool.not_eq_false' _).mp h14_2) | replace h14_2 := of_decide_eq_true (by simpa using h14_2)
      refine .cond_false rfl <| .skip <| .blk_normal <| .go <| .region <| .e (.add (c := 2) rfl rfl (by decide)) rfl rfl ?_
      refine .e (.move rfl) rfl rfl <| .nil <| .again <| .seq <| .region <| .e (.lss rfl rfl) rfl rfl ?_
      refine .nil <| .go <| .seq <| .cond_false rfl <| .exit <| .exit ?_
      refine .exit <| .blk_exit <| .go <| .seq <| .region <| .e (.move rfl) rfl rfl ?_
      refine .e (.assign rfl) rfl rfl <| .nil <| .go <| .ret ?_
      refine Post.retE rfl rfl ?_
      simp_all [orI]

set_option maxHeartbeats 1000000 in
set_option maxRecDepth 20000 in
theorem isNaNI_ok {I : Imm} {O : Own} {s : Int} :
    Pure Tryd.prog 39 [.int .i64 s] I O (.bool false) := by
  refine Does.enter Tryd.func39 rfl Tryd.ntmps39 rfl ?_
  refine .seq <| .region <| .e (.assign rfl) rfl rfl <| .nil <| .go <| .seq ?_
  refine .region <| .e (.move rfl) rfl rfl <| .e (.move rfl) rfl rfl <| .e (.neq rfl rfl) rfl rfl <| .e (.assign rfl) rfl rfl <| .nil ?_
  refine .go <| .ret ?_
  refine Post.retE rfl rfl ?_
  simp

set_option maxHeartbeats 1000000 in
set_option maxRecDepth 20000 in
theorem cmpI_ok {I : Imm} {O : Own} {a b : Int} :
    Pure Tryd.prog 28 [.int .i64 a, .int .i64 b] I O (.int .i64 (cmpI a b)) := by
  refine Does.enter Tryd.func28 rfl Tryd.ntmps28 rfl ?_
  refine .seq <| .region <| .e (.assign rfl) rfl rfl <| .nil <| .go <| .seq ?_
  refine .region <| .e (.move rfl) rfl rfl <| .on rfl <| .callP cal39 rfl rfl rfl (isNaNI_ok) <| .e (.assign rfl) rfl rfl <| .nil <| .go ?_
  refine .seq <| .region <| .e (.move rfl) rfl rfl <| .on rfl <| .callP cal39 rfl rfl rfl (isNaNI_ok) <| .e (.assign rfl) rfl rfl <| .nil ?_
  refine .go <| .seq <| .seq <| .region <| .e (.move rfl) rfl rfl <| .nil ?_
  refine .go <| .cond_false rfl <| .skip <| .go <| .seq <| .seq ?_
  refine .region <| .e (.move rfl) rfl rfl <| .nil <| .go <| .cond_false rfl <| .skip ?_
  refine .go <| .seq <| .seq <| .region <| .e (.move rfl) rfl rfl <| .e (.move rfl) rfl rfl ?_
  refine .e (.lss rfl rfl) rfl rfl <| .nil <| .go ?_
  refine .split 16 rfl (fun h16 => ?_) (fun h16 => ?_)
  · skip
    replace h16 := of_decide_eq_true h16
    refine .cond_true rfl <| .seq <| .region <| .e (.assign rfl) rfl rfl <| .nil <| .go ?_
    refine .ret <| .ret ?_
    refine Post.retE rfl rfl ?_
    refine congrArg (Value.int .i64) ?_
    unfold cmpI
    first | (simp_all; done) | (split <;> (try split) <;> omega)
  · skip
    replace h16 := of_decide_eq_false h16
    refine .cond_false rfl <| .skip <| .go <| .seq <| .seq <| .region ?_
    refine .e (.move rfl) rfl rfl <| .e (.move rfl) rfl rfl <| .e (.gtr rfl rfl) rfl rfl <| .nil <| .go ?_
    refine .split 19 rfl (fun h19 => ?_) (fun h19 => ?_)
    · skip
      replace h19 := of_decide_eq_true h19
      refine .cond_true rfl <| .seq <| .region <| .e (.assign rfl) rfl rfl <| .nil <| .go ?_
      refine .ret <| .ret ?_
      refine Post.retE rfl rfl ?_
      refine congrArg (Value.int .i64) ?_
      unfold cmpI
      first | (simp_all; done) | (split <;> (try split) <;> omega)
    · skip
      replace h19 := of_decide_eq_false h19
      refine .cond_false rfl <| .skip <| .go <| .seq <| .region <| .e (.assign rfl) rfl rfl ?_
      refine .nil <| .go <| .ret ?_
      refine Post.retE rfl rfl ?_
      refine congrArg (Value.int .i64) ?_
      unfold cmpI
      first | (simp_all; done) | (split <;> (try split) <;> omega)

set_option maxHeartbeats 1000000 in
set_option maxRecDepth 20000 in
theorem full_ok {I : Imm} {O : Own} {tc lc : List Value} {t : Tsk} {l : Lod} (ht : TskR I tc t) (hl : LodR I lc l) (hr : room l.node l.used t.needs = true) :
    Pure Tryd.prog 20 [.agg ⟨tc⟩, .agg ⟨lc⟩] I O (.int .i64 (fullS t l)) := by
  have ht0 := ht
  obtain ⟨tw, tb, rfl, htw, htb⟩ := ht.ex
  have htw0 := htw
  obtain ⟨wa, wcap, rfl, hw1, hw2, -⟩ := htw
  have htb0 := htb
  obtain ⟨ba, bcap, rfl, hb1, hb2, -⟩ := htb
  have hl0 := hl
  obtain ⟨lv, tv, rfl, hlv, htv⟩ := hl.ex
  have hlv0 := hlv
  obtain ⟨lva, lvc, rfl, hlv1, hlv2, -⟩ := hlv
  have htv0 := htv
  obtain ⟨tva, tvc, rfl, htv1, htv2, -⟩ := htv
  have hnd := lodNode hl0 hlv0 htv0
  obtain ⟨r1, r2, r3, r4⟩ := room_out hr
  have r1 := A3.amt_out r1
  have r2 := A3.amt_out r2
  have r3 := A3.amt_out r3
  refine Does.enter Tryd.func20 rfl Tryd.ntmps20 rfl ?_
  refine .seq <| .region <| .on rfl <| .box rfl rfl rfl fun c1 _ _ => .on rfl <| .box rfl rfl rfl fun c2 _ _ => .e (.assign rfl) rfl rfl <| .nil ?_
  refine .go <| .scope <| .seq <| .label <| .go <| .seq ?_
  refine .seq <| .region <| .e (.fieldAddr fo29_0 rfl) rfl rfl <| .e (.fieldAddr fo27_1 rfl) rfl rfl <| .e (.loadP ag22 sz22 rfl .here rfl) rfl rfl <| .e (.move rfl) rfl rfl ?_
  refine .nil <| .go <| .block <| .unroll 3 <| .seq <| .region ?_
  refine .e (.lss rfl rfl) rfl rfl <| .nil <| .go <| .seq <| .cond_true rfl <| .skip ?_
  refine .go <| .seq <| .block <| .seq <| .region <| .e (.move rfl) rfl rfl ?_
  refine .e (.index (j := 0) ar22 ag2 rfl rfl rfl (by first | decide | omega) rfl) rfl rfl <| .e (.assign rfl) rfl rfl <| .e (.assign rfl) rfl rfl <| .nil <| .go <| .seq ?_
  refine .seq <| .region <| .e (.move rfl) rfl rfl <| .e (.eql rfl rfl) rfl rfl <| .nil <| .go ?_
  refine .split 15 rfl (fun h15 => ?_) (fun h15 => ?_)
  · skip
    replace h15 := of_decide_eq_true h15
    refine .cond_true rfl <| .exit <| .exit <| .blk_exit <| .go <| .region ?_
    refine .e (.add (c := 1) rfl rfl (by decide)) rfl rfl <| .e (.move rfl) rfl rfl <| .nil <| .again <| .seq <| .region ?_
    refine .e (.lss rfl rfl) rfl rfl <| .nil <| .go <| .seq <| .cond_true rfl <| .skip ?_
    refine .go <| .seq <| .block <| .seq <| .region <| .e (.move rfl) rfl rfl ?_
    refine .e (.index (j := 1) ar22 ag2 rfl rfl rfl (by first | decide | omega) rfl) rfl rfl <| .e (.assign rfl) rfl rfl <| .e (.assign rfl) rfl rfl <| .nil <| .go <| .seq ?_
    refine .seq <| .region <| .e (.move rfl) rfl rfl <| .e (.eql rfl rfl) rfl rfl <| .nil <| .go ?_
    refine .split 15 rfl (fun h15_2 => ?_) (fun h15_2 => ?_)
    · skip
      replace h15_2 := of_decide_eq_true h15_2
      refine .cond_true rfl <| .exit <| .exit <| .blk_exit <| .go <| .region ?_
      refine .e (.add (c := 2) rfl rfl (by decide)) rfl rfl <| .e (.move rfl) rfl rfl <| .nil <| .again <| .seq <| .region ?_
      refine .e (.lss rfl rfl) rfl rfl <| .nil <| .go <| .seq <| .cond_true rfl <| .skip ?_
      refine .go <| .seq <| .block <| .seq <| .region <| .e (.move rfl) rfl rfl ?_
      refine .e (.index (j := 2) ar22 ag2 rfl rfl rfl (by first | decide | omega) rfl) rfl rfl <| .e (.assign rfl) rfl rfl <| .e (.assign rfl) rfl rfl <| .nil <| .go <| .seq ?_
      refine .seq <| .region <| .e (.move rfl) rfl rfl <| .e (.eql rfl rfl) rfl rfl <| .nil <| .go ?_
      refine .split 15 rfl (fun h15_3 => ?_) (fun h15_3 => ?_)
      · skip
        replace h15_3 := of_decide_eq_true h15_3
        refine .cond_true rfl <| .exit <| .exit <| .blk_exit <| .go <| .region ?_
        refine .e (.add (c := 3) rfl rfl (by decide)) rfl rfl <| .e (.move rfl) rfl rfl <| .nil <| .again <| .seq <| .region ?_
        refine .e (.lss rfl rfl) rfl rfl <| .nil <| .go <| .seq <| .cond_false rfl <| .exit ?_
        refine .exit <| .exit <| .blk_exit <| .go <| .seq <| .region ?_
        refine .e (.move rfl) rfl rfl <| .e (.assign rfl) rfl rfl <| .nil <| .go <| .ret <| .sc_ret ?_
        refine .tail <| .tail ?_
        refine Post.retE rfl rfl ?_
        refine congrArg (Value.int .i64) ?_
        unfold fullS term
        simp [h15, h15_2, h15_3]
      · skip
        replace h15_3 := of_decide_eq_false h15_3
        have q2 := quo_bd (h := l.node.has.c) (x := l.used.c + t.needs.c) (by omega) (by omega) (by omega)
        refine .cond_false rfl <| .skip <| .go ?_
        refine .draw [(c2, _), (c1, _)] mixed (.cons .here (.cons (.there <| .here) .nil)) ?_
        refine .t 0 rfl (.move rfl) rfl rfl (by kernel_rfl) <| .t 1 rfl (.move rfl) rfl rfl (by kernel_rfl) <| .t 2 rfl (.fieldAddr fo29_1 rfl) rfl rfl (by kernel_rfl) <| .t 3 rfl (.indexAddrA (j := 2) ar22 rfl rfl rfl (by first | decide | omega)) rfl rfl (by kernel_rfl) <| .t 4 rfl (.load ag2 rfl .here rfl) rfl rfl (by kernel_rfl) <| .t 5 rfl (.move rfl) rfl rfl (by kernel_rfl) ?_
        refine .t 6 rfl (.fieldAddr fo25_1 rfl) rfl rfl (by kernel_rfl) <| .t 7 rfl (.indexAddrA (j := 2) ar22 rfl rfl rfl (by first | decide | omega)) rfl rfl (by kernel_rfl) <| .t 8 rfl (.load ag2 rfl (.there <| .here) rfl) rfl rfl (by kernel_rfl) <| .t 9 rfl (.add rfl rfl (IntWalk.i64_in _ (by omega))) rfl rfl (by kernel_rfl) <| .t 10 rfl (.mul rfl rfl (IntWalk.i64_in _ (by omega))) rfl rfl (by kernel_rfl) <| .t 11 rfl (.move rfl) rfl rfl (by kernel_rfl) ?_
        refine .t 12 rfl (.quo rfl rfl (by omega) (quo_wrap (by omega) (by omega) (by omega))) rfl rfl (by kernel_rfl) <| .t 13 rfl (.add rfl rfl (add_in (by first | decide | omega) (by first | decide | omega) (quo_bd (by omega) (by omega) (by omega)))) rfl rfl (by kernel_rfl) <| .t 14 rfl (.assign rfl) rfl rfl (by kernel_rfl) <| .done (by kernel_rfl) <| .blk_normal <| .go ?_
        refine .region <| .e (.add (c := 3) rfl rfl (by decide)) rfl rfl <| .e (.move rfl) rfl rfl <| .nil <| .again <| .seq ?_
        refine .region <| .e (.lss rfl rfl) rfl rfl <| .nil <| .go <| .seq <| .cond_false rfl ?_
        refine .exit <| .exit <| .exit <| .blk_exit <| .go <| .seq ?_
        refine .region <| .e (.move rfl) rfl rfl <| .e (.assign rfl) rfl rfl <| .nil <| .go <| .ret ?_
        refine .sc_ret ?_
        refine .tail <| .tail ?_
        refine Post.retE rfl rfl ?_
        refine congrArg (Value.int .i64) ?_
        unfold fullS term
        simp [h15, h15_2, h15_3]
    · skip
      replace h15_2 := of_decide_eq_false h15_2
      have q1 := quo_bd (h := l.node.has.b) (x := l.used.b + t.needs.b) (by omega) (by omega) (by omega)
      refine .cond_false rfl <| .skip <| .go ?_
      refine .draw [(c2, _), (c1, _)] mixed (.cons .here (.cons (.there <| .here) .nil)) ?_
      refine .t 0 rfl (.move rfl) rfl rfl (by kernel_rfl) <| .t 1 rfl (.move rfl) rfl rfl (by kernel_rfl) <| .t 2 rfl (.fieldAddr fo29_1 rfl) rfl rfl (by kernel_rfl) <| .t 3 rfl (.indexAddrA (j := 1) ar22 rfl rfl rfl (by first | decide | omega)) rfl rfl (by kernel_rfl) <| .t 4 rfl (.load ag2 rfl .here rfl) rfl rfl (by kernel_rfl) <| .t 5 rfl (.move rfl) rfl rfl (by kernel_rfl) ?_
      refine .t 6 rfl (.fieldAddr fo25_1 rfl) rfl rfl (by kernel_rfl) <| .t 7 rfl (.indexAddrA (j := 1) ar22 rfl rfl rfl (by first | decide | omega)) rfl rfl (by kernel_rfl) <| .t 8 rfl (.load ag2 rfl (.there <| .here) rfl) rfl rfl (by kernel_rfl) <| .t 9 rfl (.add rfl rfl (IntWalk.i64_in _ (by omega))) rfl rfl (by kernel_rfl) <| .t 10 rfl (.mul rfl rfl (IntWalk.i64_in _ (by omega))) rfl rfl (by kernel_rfl) <| .t 11 rfl (.move rfl) rfl rfl (by kernel_rfl) ?_
      refine .t 12 rfl (.quo rfl rfl (by omega) (quo_wrap (by omega) (by omega) (by omega))) rfl rfl (by kernel_rfl) <| .t 13 rfl (.add rfl rfl (add_in (by first | decide | omega) (by first | decide | omega) (quo_bd (by omega) (by omega) (by omega)))) rfl rfl (by kernel_rfl) <| .t 14 rfl (.assign rfl) rfl rfl (by kernel_rfl) <| .done (by kernel_rfl) <| .blk_normal <| .go ?_
      refine .region <| .e (.add (c := 2) rfl rfl (by decide)) rfl rfl <| .e (.move rfl) rfl rfl <| .nil <| .again <| .seq ?_
      refine .region <| .e (.lss rfl rfl) rfl rfl <| .nil <| .go <| .seq <| .cond_true rfl ?_
      refine .skip <| .go <| .seq <| .block <| .seq <| .region ?_
      refine .e (.move rfl) rfl rfl <| .e (.index (j := 2) ar22 ag2 rfl rfl rfl (by first | decide | omega) rfl) rfl rfl <| .e (.assign rfl) rfl rfl <| .e (.assign rfl) rfl rfl <| .nil <| .go ?_
      refine .seq <| .seq <| .region <| .e (.move rfl) rfl rfl <| .e (.eql rfl rfl) rfl rfl <| .nil ?_
      refine .go ?_
      refine .split 15 rfl (fun h15_3 => ?_) (fun h15_3 => ?_)
      · skip
        replace h15_3 := of_decide_eq_true h15_3
        refine .cond_true rfl <| .exit <| .exit <| .blk_exit <| .go <| .region ?_
        refine .e (.add (c := 3) rfl rfl (by decide)) rfl rfl <| .e (.move rfl) rfl rfl <| .nil <| .again <| .seq <| .region ?_
        refine .e (.lss rfl rfl) rfl rfl <| .nil <| .go <| .seq <| .cond_false rfl <| .exit ?_
        refine .exit <| .exit <| .blk_exit <| .go <| .seq <| .region ?_
        refine .e (.move rfl) rfl rfl <| .e (.assign rfl) rfl rfl <| .nil <| .go <| .ret <| .sc_ret ?_
        refine .tail <| .tail ?_
        refine Post.retE rfl rfl ?_
        refine congrArg (Value.int .i64) ?_
        unfold fullS term
        simp [h15, h15_2, h15_3]
      · skip
        replace h15_3 := of_decide_eq_false h15_3
        have q2 := quo_bd (h := l.node.has.c) (x := l.used.c + t.needs.c) (by omega) (by omega) (by omega)
        refine .cond_false rfl <| .skip <| .go ?_
        refine .draw [(c2, _), (c1, _)] mixed (.cons .here (.cons (.there <| .here) .nil)) ?_
        refine .t 0 rfl (.move rfl) rfl rfl (by kernel_rfl) <| .t 1 rfl (.move rfl) rfl rfl (by kernel_rfl) <| .t 2 rfl (.fieldAddr fo29_1 rfl) rfl rfl (by kernel_rfl) <| .t 3 rfl (.indexAddrA (j := 2) ar22 rfl rfl rfl (by first | decide | omega)) rfl rfl (by kernel_rfl) <| .t 4 rfl (.load ag2 rfl .here rfl) rfl rfl (by kernel_rfl) <| .t 5 rfl (.move rfl) rfl rfl (by kernel_rfl) ?_
        refine .t 6 rfl (.fieldAddr fo25_1 rfl) rfl rfl (by kernel_rfl) <| .t 7 rfl (.indexAddrA (j := 2) ar22 rfl rfl rfl (by first | decide | omega)) rfl rfl (by kernel_rfl) <| .t 8 rfl (.load ag2 rfl (.there <| .here) rfl) rfl rfl (by kernel_rfl) <| .t 9 rfl (.add rfl rfl (IntWalk.i64_in _ (by omega))) rfl rfl (by kernel_rfl) <| .t 10 rfl (.mul rfl rfl (IntWalk.i64_in _ (by omega))) rfl rfl (by kernel_rfl) <| .t 11 rfl (.move rfl) rfl rfl (by kernel_rfl) ?_
        refine .t 12 rfl (.quo rfl rfl (by omega) (quo_wrap (by omega) (by omega) (by omega))) rfl rfl (by kernel_rfl) <| .t 13 rfl (.add rfl rfl (add_in (by first | decide | omega) (by first | decide | omega) (quo_bd (by omega) (by omega) (by omega)))) rfl rfl (by kernel_rfl) <| .t 14 rfl (.assign rfl) rfl rfl (by kernel_rfl) <| .done (by kernel_rfl) <| .blk_normal <| .go ?_
        refine .region <| .e (.add (c := 3) rfl rfl (by decide)) rfl rfl <| .e (.move rfl) rfl rfl <| .nil <| .again <| .seq ?_
        refine .region <| .e (.lss rfl rfl) rfl rfl <| .nil <| .go <| .seq <| .cond_false rfl ?_
        refine .exit <| .exit <| .exit <| .blk_exit <| .go <| .seq ?_
        refine .region <| .e (.move rfl) rfl rfl <| .e (.assign rfl) rfl rfl <| .nil <| .go <| .ret ?_
        refine .sc_ret ?_
        refine .tail <| .tail ?_
        refine Post.retE rfl rfl ?_
        refine congrArg (Value.int .i64) ?_
        unfold fullS term
        simp [h15, h15_2, h15_3]
  · skip
    replace h15 := of_decide_eq_false h15
    have q0 := quo_bd (h := l.node.has.a) (x := l.used.a + t.needs.a) (by omega) (by omega) (by omega)
    refine .cond_false rfl <| .skip <| .go ?_
    refine .draw [(c2, _), (c1, _)] mixed (.cons .here (.cons (.there <| .here) .nil)) ?_
    refine .t 0 rfl (.move rfl) rfl rfl (by kernel_rfl) <| .t 1 rfl (.move rfl) rfl rfl (by kernel_rfl) <| .t 2 rfl (.fieldAddr fo29_1 rfl) rfl rfl (by kernel_rfl) <| .t 3 rfl (.indexAddrA (j := 0) ar22 rfl rfl rfl (by first | decide | omega)) rfl rfl (by kernel_rfl) <| .t 4 rfl (.load ag2 rfl .here rfl) rfl rfl (by kernel_rfl) <| .t 5 rfl (.move rfl) rfl rfl (by kernel_rfl) ?_
    refine .t 6 rfl (.fieldAddr fo25_1 rfl) rfl rfl (by kernel_rfl) <| .t 7 rfl (.indexAddrA (j := 0) ar22 rfl rfl rfl (by first | decide | omega)) rfl rfl (by kernel_rfl) <| .t 8 rfl (.load ag2 rfl (.there <| .here) rfl) rfl rfl (by kernel_rfl) <| .t 9 rfl (.add rfl rfl (IntWalk.i64_in _ (by omega))) rfl rfl (by kernel_rfl) <| .t 10 rfl (.mul rfl rfl (IntWalk.i64_in _ (by omega))) rfl rfl (by kernel_rfl) <| .t 11 rfl (.move rfl) rfl rfl (by kernel_rfl) ?_
    refine .t 12 rfl (.quo rfl rfl (by omega) (quo_wrap (by omega) (by omega) (by omega))) rfl rfl (by kernel_rfl) <| .t 13 rfl (.add rfl rfl (add_in (by first | decide | omega) (by first | decide | omega) (quo_bd (by omega) (by omega) (by omega)))) rfl rfl (by kernel_rfl) <| .t 14 rfl (.assign rfl) rfl rfl (by kernel_rfl) <| .done (by kernel_rfl) <| .blk_normal <| .go ?_
    refine .region <| .e (.add (c := 1) rfl rfl (by decide)) rfl rfl <| .e (.move rfl) rfl rfl <| .nil <| .again <| .seq ?_
    refine .region <| .e (.lss rfl rfl) rfl rfl <| .nil <| .go <| .seq <| .cond_true rfl ?_
    refine .skip <| .go <| .seq <| .block <| .seq <| .region ?_
    refine .e (.move rfl) rfl rfl <| .e (.index (j := 1) ar22 ag2 rfl rfl rfl (by first | decide | omega) rfl) rfl rfl <| .e (.assign rfl) rfl rfl <| .e (.assign rfl) rfl rfl <| .nil <| .go ?_
    refine .seq <| .seq <| .region <| .e (.move rfl) rfl rfl <| .e (.eql rfl rfl) rfl rfl <| .nil ?_
    refine .go ?_
    refine .split 15 rfl (fun h15_2 => ?_) (fun h15_2 => ?_)
    · skip
      replace h15_2 := of_decide_eq_true h15_2
      refine .cond_true rfl <| .exit <| .exit <| .blk_exit <| .go <| .region ?_
      refine .e (.add (c := 2) rfl rfl (by decide)) rfl rfl <| .e (.move rfl) rfl rfl <| .nil <| .again <| .seq <| .region ?_
      refine .e (.lss rfl rfl) rfl rfl <| .nil <| .go <| .seq <| .cond_true rfl <| .skip ?_
      refine .go <| .seq <| .block <| .seq <| .region <| .e (.move rfl) rfl rfl ?_
      refine .e (.index (j := 2) ar22 ag2 rfl rfl rfl (by first | decide | omega) rfl) rfl rfl <| .e (.assign rfl) rfl rfl <| .e (.assign rfl) rfl rfl <| .nil <| .go <| .seq ?_
      refine .seq <| .region <| .e (.move rfl) rfl rfl <| .e (.eql rfl rfl) rfl rfl <| .nil <| .go ?_
      refine .split 15 rfl (fun h15_3 => ?_) (fun h15_3 => ?_)
      · skip
        replace h15_3 := of_decide_eq_true h15_3
        refine .cond_true rfl <| .exit <| .exit <| .blk_exit <| .go <| .region ?_
        refine .e (.add (c := 3) rfl rfl (by decide)) rfl rfl <| .e (.move rfl) rfl rfl <| .nil <| .again <| .seq <| .region ?_
        refine .e (.lss rfl rfl) rfl rfl <| .nil <| .go <| .seq <| .cond_false rfl <| .exit ?_
        refine .exit <| .exit <| .blk_exit <| .go <| .seq <| .region ?_
        refine .e (.move rfl) rfl rfl <| .e (.assign rfl) rfl rfl <| .nil <| .go <| .ret <| .sc_ret ?_
        refine .tail <| .tail ?_
        refine Post.retE rfl rfl ?_
        refine congrArg (Value.int .i64) ?_
        unfold fullS term
        simp [h15, h15_2, h15_3]
      · skip
        replace h15_3 := of_decide_eq_false h15_3
        have q2 := quo_bd (h := l.node.has.c) (x := l.used.c + t.needs.c) (by omega) (by omega) (by omega)
        refine .cond_false rfl <| .skip <| .go ?_
        refine .draw [(c2, _), (c1, _)] mixed (.cons .here (.cons (.there <| .here) .nil)) ?_
        refine .t 0 rfl (.move rfl) rfl rfl (by kernel_rfl) <| .t 1 rfl (.move rfl) rfl rfl (by kernel_rfl) <| .t 2 rfl (.fieldAddr fo29_1 rfl) rfl rfl (by kernel_rfl) <| .t 3 rfl (.indexAddrA (j := 2) ar22 rfl rfl rfl (by first | decide | omega)) rfl rfl (by kernel_rfl) <| .t 4 rfl (.load ag2 rfl .here rfl) rfl rfl (by kernel_rfl) <| .t 5 rfl (.move rfl) rfl rfl (by kernel_rfl) ?_
        refine .t 6 rfl (.fieldAddr fo25_1 rfl) rfl rfl (by kernel_rfl) <| .t 7 rfl (.indexAddrA (j := 2) ar22 rfl rfl rfl (by first | decide | omega)) rfl rfl (by kernel_rfl) <| .t 8 rfl (.load ag2 rfl (.there <| .here) rfl) rfl rfl (by kernel_rfl) <| .t 9 rfl (.add rfl rfl (IntWalk.i64_in _ (by omega))) rfl rfl (by kernel_rfl) <| .t 10 rfl (.mul rfl rfl (IntWalk.i64_in _ (by omega))) rfl rfl (by kernel_rfl) <| .t 11 rfl (.move rfl) rfl rfl (by kernel_rfl) ?_
        refine .t 12 rfl (.quo rfl rfl (by omega) (quo_wrap (by omega) (by omega) (by omega))) rfl rfl (by kernel_rfl) <| .t 13 rfl (.add rfl rfl (add_in (by first | decide | omega) (by first | decide | omega) (quo_bd (by omega) (by omega) (by omega)))) rfl rfl (by kernel_rfl) <| .t 14 rfl (.assign rfl) rfl rfl (by kernel_rfl) <| .done (by kernel_rfl) <| .blk_normal <| .go ?_
        refine .region <| .e (.add (c := 3) rfl rfl (by decide)) rfl rfl <| .e (.move rfl) rfl rfl <| .nil <| .again <| .seq ?_
        refine .region <| .e (.lss rfl rfl) rfl rfl <| .nil <| .go <| .seq <| .cond_false rfl ?_
        refine .exit <| .exit <| .exit <| .blk_exit <| .go <| .seq ?_
        refine .region <| .e (.move rfl) rfl rfl <| .e (.assign rfl) rfl rfl <| .nil <| .go <| .ret ?_
        refine .sc_ret ?_
        refine .tail <| .tail ?_
        refine Post.retE rfl rfl ?_
        refine congrArg (Value.int .i64) ?_
        unfold fullS term
        simp [h15, h15_2, h15_3]
    · skip
      replace h15_2 := of_decide_eq_false h15_2
      have q1 := quo_bd (h := l.node.has.b) (x := l.used.b + t.needs.b) (by omega) (by omega) (by omega)
      refine .cond_false rfl <| .skip <| .go ?_
      refine .draw [(c2, _), (c1, _)] mixed (.cons .here (.cons (.there <| .here) .nil)) ?_
      refine .t 0 rfl (.move rfl) rfl rfl (by kernel_rfl) <| .t 1 rfl (.move rfl) rfl rfl (by kernel_rfl) <| .t 2 rfl (.fieldAddr fo29_1 rfl) rfl rfl (by kernel_rfl) <| .t 3 rfl (.indexAddrA (j := 1) ar22 rfl rfl rfl (by first | decide | omega)) rfl rfl (by kernel_rfl) <| .t 4 rfl (.load ag2 rfl .here rfl) rfl rfl (by kernel_rfl) <| .t 5 rfl (.move rfl) rfl rfl (by kernel_rfl) ?_
      refine .t 6 rfl (.fieldAddr fo25_1 rfl) rfl rfl (by kernel_rfl) <| .t 7 rfl (.indexAddrA (j := 1) ar22 rfl rfl rfl (by first | decide | omega)) rfl rfl (by kernel_rfl) <| .t 8 rfl (.load ag2 rfl (.there <| .here) rfl) rfl rfl (by kernel_rfl) <| .t 9 rfl (.add rfl rfl (IntWalk.i64_in _ (by omega))) rfl rfl (by kernel_rfl) <| .t 10 rfl (.mul rfl rfl (IntWalk.i64_in _ (by omega))) rfl rfl (by kernel_rfl) <| .t 11 rfl (.move rfl) rfl rfl (by kernel_rfl) ?_
      refine .t 12 rfl (.quo rfl rfl (by omega) (quo_wrap (by omega) (by omega) (by omega))) rfl rfl (by kernel_rfl) <| .t 13 rfl (.add rfl rfl (add_in (by first | decide | omega) (by first | decide | omega) (quo_bd (by omega) (by omega) (by omega)))) rfl rfl (by kernel_rfl) <| .t 14 rfl (.assign rfl) rfl rfl (by kernel_rfl) <| .done (by kernel_rfl) <| .blk_normal <| .go ?_
      refine .region <| .e (.add (c := 2) rfl rfl (by decide)) rfl rfl <| .e (.move rfl) rfl rfl <| .nil <| .again <| .seq ?_
      refine .region <| .e (.lss rfl rfl) rfl rfl <| .nil <| .go <| .seq <| .cond_true rfl ?_
      refine .skip <| .go <| .seq <| .block <| .seq <| .region ?_
      refine .e (.move rfl) rfl rfl <| .e (.index (j := 2) ar22 ag2 rfl rfl rfl (by first | decide | omega) rfl) rfl rfl <| .e (.assign rfl) rfl rfl <| .e (.assign rfl) rfl rfl <| .nil <| .go ?_
      refine .seq <| .seq <| .region <| .e (.move rfl) rfl rfl <| .e (.eql rfl rfl) rfl rfl <| .nil ?_
      refine .go ?_
      refine .split 15 rfl (fun h15_3 => ?_) (fun h15_3 => ?_)
      · skip
        replace h15_3 := of_decide_eq_true h15_3
        refine .cond_true rfl <| .exit <| .exit <| .blk_exit <| .go <| .region ?_
        refine .e (.add (c := 3) rfl rfl (by decide)) rfl rfl <| .e (.move rfl) rfl rfl <| .nil <| .again <| .seq <| .region ?_
        refine .e (.lss rfl rfl) rfl rfl <| .nil <| .go <| .seq <| .cond_false rfl <| .exit ?_
        refine .exit <| .exit <| .blk_exit <| .go <| .seq <| .region ?_
        refine .e (.move rfl) rfl rfl <| .e (.assign rfl) rfl rfl <| .nil <| .go <| .ret <| .sc_ret ?_
        refine .tail <| .tail ?_
        refine Post.retE rfl rfl ?_
        refine congrArg (Value.int .i64) ?_
        unfold fullS term
        simp [h15, h15_2, h15_3]
      · skip
        replace h15_3 := of_decide_eq_false h15_3
        have q2 := quo_bd (h := l.node.has.c) (x := l.used.c + t.needs.c) (by omega) (by omega) (by omega)
        refine .cond_false rfl <| .skip <| .go ?_
        refine .draw [(c2, _), (c1, _)] mixed (.cons .here (.cons (.there <| .here) .nil)) ?_
        refine .t 0 rfl (.move rfl) rfl rfl (by kernel_rfl) <| .t 1 rfl (.move rfl) rfl rfl (by kernel_rfl) <| .t 2 rfl (.fieldAddr fo29_1 rfl) rfl rfl (by kernel_rfl) <| .t 3 rfl (.indexAddrA (j := 2) ar22 rfl rfl rfl (by first | decide | omega)) rfl rfl (by kernel_rfl) <| .t 4 rfl (.load ag2 rfl .here rfl) rfl rfl (by kernel_rfl) <| .t 5 rfl (.move rfl) rfl rfl (by kernel_rfl) ?_
        refine .t 6 rfl (.fieldAddr fo25_1 rfl) rfl rfl (by kernel_rfl) <| .t 7 rfl (.indexAddrA (j := 2) ar22 rfl rfl rfl (by first | decide | omega)) rfl rfl (by kernel_rfl) <| .t 8 rfl (.load ag2 rfl (.there <| .here) rfl) rfl rfl (by kernel_rfl) <| .t 9 rfl (.add rfl rfl (IntWalk.i64_in _ (by omega))) rfl rfl (by kernel_rfl) <| .t 10 rfl (.mul rfl rfl (IntWalk.i64_in _ (by omega))) rfl rfl (by kernel_rfl) <| .t 11 rfl (.move rfl) rfl rfl (by kernel_rfl) ?_
        refine .t 12 rfl (.quo rfl rfl (by omega) (quo_wrap (by omega) (by omega) (by omega))) rfl rfl (by kernel_rfl) <| .t 13 rfl (.add rfl rfl (add_in (by first | decide | omega) (by first | decide | omega) (quo_bd (by omega) (by omega) (by omega)))) rfl rfl (by kernel_rfl) <| .t 14 rfl (.assign rfl) rfl rfl (by kernel_rfl) <| .done (by kernel_rfl) <| .blk_normal <| .go ?_
        refine .region <| .e (.add (c := 3) rfl rfl (by decide)) rfl rfl <| .e (.move rfl) rfl rfl <| .nil <| .again <| .seq ?_
        refine .region <| .e (.lss rfl rfl) rfl rfl <| .nil <| .go <| .seq <| .cond_false rfl ?_
        refine .exit <| .exit <| .exit <| .blk_exit <| .go <| .seq ?_
        refine .region <| .e (.move rfl) rfl rfl <| .e (.assign rfl) rfl rfl <| .nil <| .go <| .ret ?_
        refine .sc_ret ?_
        refine .tail <| .tail ?_
        refine Post.retE rfl rfl ?_
        refine congrArg (Value.int .i64) ?_
        unfold fullS term
        simp [h15, h15_2, h15_3]

set_option maxHeartbeats 1000000 in
set_option maxRecDepth 20000 in
theorem Score_ok {I : Imm} {O : Own} {tc lc : List Value} {t : Tsk} {l : Lod} (ht : TskR I tc t) (hl : LodR I lc l) :
    Pure Tryd.prog 9 [.agg ⟨tc⟩, .agg ⟨lc⟩] I O (pairV (scoreR t l)) := by
  have ht0 := ht
  obtain ⟨tw, tb, rfl, htw, htb⟩ := ht.ex
  have htw0 := htw
  obtain ⟨wa, wcap, rfl, hw1, hw2, -⟩ := htw
  have htb0 := htb
  obtain ⟨ba, bcap, rfl, hb1, hb2, -⟩ := htb
  have hl0 := hl
  obtain ⟨lv, tv, rfl, hlv, htv⟩ := hl.ex
  have hlv0 := hlv
  obtain ⟨lva, lvc, rfl, hlv1, hlv2, -⟩ := hlv
  have htv0 := htv
  obtain ⟨tva, tvc, rfl, htv1, htv2, -⟩ := htv
  have hnd := lodNode hl0 hlv0 htv0
  refine Does.enter Tryd.func9 rfl Tryd.ntmps9 rfl ?_
  refine .seq <| .region <| .on rfl <| .box rfl rfl rfl fun c1 _ _ => .on rfl <| .box rfl rfl rfl fun c2 _ _ => .e (.assign rfl) rfl rfl <| .e (.assign rfl) rfl rfl ?_
  refine .nil <| .go <| .seq <| .seq ?_
  refine .draw [(c1, _), (c2, _)] mixed (.cons (.there <| .here) (.cons .here .nil)) ?_
  refine .t 0 rfl (.loadW ag25 sz25 rfl .here rfl) rfl rfl (by kernel_rfl) <| .t 2 rfl (.loadW ag29 sz29 rfl (.there <| .here) rfl) rfl rfl (by kernel_rfl) <| .one (i := 1) (by kernel_rfl) rfl rfl <| .callP cal19 rfl rfl rfl (CheckTask_ok ht0) ?_
  refine ⟨(.cons (.there <| .here) (.cons .here .nil)), Imm.le_refl _, ?_⟩
  refine .one (i := 3) (by kernel_rfl) rfl rfl <| .callP cal12 rfl rfl rfl (Check_ok hl0) ?_
  refine ⟨(.cons (.there <| .here) (.cons .here .nil)), Imm.le_refl _, ?_⟩
  refine .one (i := 4) (by kernel_rfl) rfl rfl <| .buildSlice Tryd.underlying53 sz30 (by decide) (by decide) zv30 rfl rfl rfl rfl rfl fun c3 _ _ => ?_
  refine ⟨(.cons (.there <| .there <| .here) (.cons (.there <| .here) .nil)), Imm.le_refl _, ?_⟩
  refine .freeze fun J hJ hJb => ?_
  have htJ := ht0.mono hJ
  have hlJ := hl0.mono hJ
  have hnJ := hnd.mono hJ
  refine .one (i := 5) (by kernel_rfl) rfl rfl <| .callP cal18 rfl rfl rfl (orE_ok hJb) ?_
  refine ⟨(.cons (.there <| .here) (.cons .here .nil)), hJ, ?_⟩
  refine .t 6 rfl (.assign rfl) rfl rfl (by kernel_rfl) <| .done (by kernel_rfl) <| .go <| .seq <| .region <| .e (.move rfl) rfl rfl ?_
  refine .e (.neq rfl rfl) rfl rfl <| .nil <| .go ?_
  refine .split 14 rfl (fun h14 => ?_) (fun h14 => ?_)
  · skip
    first | replace h14 := of_decide_eq_false ((Bool.not_eq_true' _).mp h14) | replace h14 := of_decide_eq_false (by simpa using h14)
    refine .cond_true rfl <| .seq <| .region <| .e (.move rfl) rfl rfl <| .e (.assign rfl) rfl rfl <| .e (.assign rfl) rfl rfl ?_
    refine .nil <| .go <| .ret <| .ret ?_
    refine .back hJ ?_
    refine Post.retsE rfl (.tmp rfl (.tmp rfl .nil)) rfl (fun w h => h.tail.tail) ?_
    exact pairV_eq (scoreR_why rfl h14)
  · skip
    first | replace h14 := of_decide_eq_true ((Bool.not_eq_false' _).mp h14) | replace h14 := of_decide_eq_true (by simpa using h14)
    refine .cond_false rfl <| .skip <| .go <| .seq <| .seq <| .region ?_
    refine .e (.loadW ag25 sz25 rfl (.there <| .here) rfl) rfl rfl <| .e (.fieldAddr fo29_0 rfl) rfl rfl <| .e (.loadP ag27 sz27 rfl .here rfl) rfl rfl <| .on rfl <| .callP cal16 rfl rfl rfl (Suits_ok htJ hnJ) <| .e (.not rfl) rfl rfl <| .e (.move rfl) rfl rfl ?_
    refine .split 21 rfl (fun h21 => ?_) (fun h21 => ?_)
    · skip
      refine .off rfl rfl <| .off rfl rfl <| .off rfl rfl <| .off rfl rfl <| .off rfl rfl <| .off rfl rfl ?_
      refine .off rfl rfl <| .off rfl rfl <| .e (.pickT rfl rfl) rfl rfl <| .nil <| .go <| .cond_true rfl ?_
      refine .seq <| .region <| .e (.assign rfl) rfl rfl <| .e (.assign rfl) rfl rfl <| .nil <| .go ?_
      refine .ret <| .ret ?_
      refine .back hJ ?_
      refine Post.retsE rfl (.tmp rfl (.tmp rfl .nil)) rfl (fun w h => h.tail.tail) ?_
      exact pairV_eq (scoreR_fit h14 (by first | exact .inl (by simpa using h21) | exact .inr (by simpa using h30)))
    · skip
      refine .e (.fieldAddr fo29_0 rfl) rfl rfl <| .e (.loadP ag27 sz27 rfl .here rfl) rfl rfl <| .e (.fieldAddr fo29_1 rfl) rfl rfl <| .e (.loadP ag22 sz22 rfl .here rfl) rfl rfl <| .e (.fieldAddr fo25_1 rfl) rfl rfl <| .e (.loadP ag22 sz22 rfl (.there <| .here) rfl) rfl rfl ?_
      refine .on rfl <| .callP cal17 rfl rfl rfl (Room_ok (u := l.used) (d := t.needs) hnJ) <| .e (.not rfl) rfl rfl <| .e (.pickF rfl rfl) rfl rfl <| .nil <| .go ?_
      refine .split 30 rfl (fun h30 => ?_) (fun h30 => ?_)
      · skip
        refine .cond_true rfl <| .seq <| .region <| .e (.assign rfl) rfl rfl <| .e (.assign rfl) rfl rfl <| .nil ?_
        refine .go <| .ret <| .ret ?_
        refine .back hJ ?_
        refine Post.retsE rfl (.tmp rfl (.tmp rfl .nil)) rfl (fun w h => h.tail.tail) ?_
        exact pairV_eq (scoreR_fit h14 (by first | exact .inl (by simpa using h21) | exact .inr (by simpa using h30)))
      · skip
        refine .cond_false rfl <| .skip <| .go <| .seq <| .region <| .e (.loadW ag25 sz25 rfl (.there <| .here) rfl) rfl rfl ?_
        refine .e (.loadW ag29 sz29 rfl .here rfl) rfl rfl <| .on rfl <| .callP cal20 rfl rfl rfl (full_ok htJ hlJ (by simpa using h30)) <| .e (.assign rfl) rfl rfl <| .e (.assign rfl) rfl rfl <| .nil <| .go ?_
        refine .ret ?_
        refine .back hJ ?_
        refine Post.retsE rfl (.tmp rfl (.tmp rfl .nil)) rfl (fun w h => h.tail.tail) ?_
        exact pairV_eq (scoreR_ok h14 (by simpa using h21) (by simpa using h30))

set_option maxHeartbeats 1000000 in
set_option maxRecDepth 20000 in
theorem rScore_ok {I : Imm} {O : Own} {tc lc : List Value} {t : Tsk} {l : Lod} (ht : TskR I tc t) (hl : LodR I lc l) :
    Pure Tryd.prog 10 [.agg ⟨tc⟩, .agg ⟨lc⟩] I O (pairV (scoreR t l)) := by
  have ht0 := ht
  obtain ⟨tw, tb, rfl, htw, htb⟩ := ht.ex
  have htw0 := htw
  obtain ⟨wa, wcap, rfl, hw1, hw2, -⟩ := htw
  have htb0 := htb
  obtain ⟨ba, bcap, rfl, hb1, hb2, -⟩ := htb
  have hl0 := hl
  obtain ⟨lv, tv, rfl, hlv, htv⟩ := hl.ex
  have hlv0 := hlv
  obtain ⟨lva, lvc, rfl, hlv1, hlv2, -⟩ := hlv
  have htv0 := htv
  obtain ⟨tva, tvc, rfl, htv1, htv2, -⟩ := htv
  have hnd := lodNode hl0 hlv0 htv0
  refine Does.enter Tryd.func10 rfl Tryd.ntmps10 rfl ?_
  refine .seq <| .region <| .on rfl <| .box rfl rfl rfl fun c1 _ _ => .on rfl <| .box rfl rfl rfl fun c2 _ _ => .e (.assign rfl) rfl rfl <| .e (.assign rfl) rfl rfl ?_
  refine .nil <| .go <| .seq <| .region <| .e (.loadW ag25 sz25 rfl (.there <| .here) rfl) rfl rfl <| .on rfl <| .callP cal21 rfl rfl rfl (rCheckTask_ok ht0) ?_
  refine .e (.assign rfl) rfl rfl <| .nil <| .go <| .seq <| .seq <| .region ?_
  refine .e (.move rfl) rfl rfl <| .e (.eql rfl rfl) rfl rfl <| .nil <| .go ?_
  refine .split 13 rfl (fun h13 => ?_) (fun h13 => ?_)
  · skip
    replace h13 := of_decide_eq_true h13
    refine .cond_true rfl <| .region <| .e (.loadW ag29 sz29 rfl .here rfl) rfl rfl <| .on rfl <| .callP cal13 rfl rfl rfl (rCheck_ok hl0) <| .e (.assign rfl) rfl rfl <| .nil ?_
    refine .go <| .seq <| .seq <| .region <| .e (.move rfl) rfl rfl <| .e (.eql rfl rfl) rfl rfl ?_
    refine .e (.move rfl) rfl rfl ?_
    refine .split 18 rfl (fun h18 => ?_) (fun h18 => ?_)
    · skip
      replace h18 := of_decide_eq_true h18
      refine .e (.loadW ag25 sz25 rfl (.there <| .here) rfl) rfl rfl <| .e (.fieldAddr fo29_0 rfl) rfl rfl <| .e (.loadP ag27 sz27 rfl .here rfl) rfl rfl <| .on rfl <| .callP cal22 rfl rfl rfl (rSuits_ok ht0 hnd) <| .e (.move rfl) rfl rfl ?_
      refine .split 23 rfl (fun h23 => ?_) (fun h23 => ?_)
      · skip
        refine .e (.fieldAddr fo29_0 rfl) rfl rfl <| .e (.loadP ag27 sz27 rfl .here rfl) rfl rfl <| .e (.fieldAddr fo29_1 rfl) rfl rfl <| .e (.loadP ag22 sz22 rfl .here rfl) rfl rfl <| .e (.fieldAddr fo25_1 rfl) rfl rfl <| .e (.loadP ag22 sz22 rfl (.there <| .here) rfl) rfl rfl ?_
        refine .on rfl <| .callP cal23 rfl rfl rfl (rRoom_ok (u := l.used) (d := t.needs) hnd) <| .e (.pickT rfl rfl) rfl rfl <| .e (.not rfl) rfl rfl <| .e (.pickT rfl rfl) rfl rfl <| .nil <| .go ?_
        refine .split 33 rfl (fun h33 => ?_) (fun h33 => ?_)
        · skip
          refine .cond_true rfl <| .region <| .e (.assign rfl) rfl rfl <| .nil <| .go <| .seq ?_
          refine .seq <| .region <| .e (.move rfl) rfl rfl <| .e (.neq rfl rfl) rfl rfl <| .nil <| .go ?_
          refine .cond_true rfl <| .seq <| .region <| .e (.move rfl) rfl rfl <| .e (.assign rfl) rfl rfl <| .e (.assign rfl) rfl rfl ?_
          refine .nil <| .go <| .ret <| .ret ?_
          refine Post.retsE rfl (.tmp rfl (.tmp rfl .nil)) rfl (fun w h => h.tail.tail) ?_
          first | exact pairV_eq (scoreR_why (or_left (by omega)) (by omega)) | exact pairV_eq (scoreR_why (or_right (by omega)) (by omega)) | exact pairV_eq (scoreR_fit (or_zero (by omega) (by omega)) (by first | exact .inl (by simpa using h23) | exact .inr (by simp_all))) | (exfalso; omega)
        · skip
          have hrm : room l.node l.used t.needs = true := by simpa using h33
          obtain ⟨r1, r2, r3, r4⟩ := room_out hrm
          have r1 := A3.amt_out r1
          have r2 := A3.amt_out r2
          have r3 := A3.amt_out r3
          refine .cond_false rfl <| .skip <| .go <| .seq <| .seq <| .region ?_
          refine .e (.move rfl) rfl rfl <| .e (.neq rfl rfl) rfl rfl <| .nil <| .go ?_
          refine .split 35 rfl (fun h35 => ?_) (fun h35 => ?_)
          · skip
            first | replace h35 := of_decide_eq_false ((Bool.not_eq_true' _).mp h35) | replace h35 := of_decide_eq_false (by simpa using h35)
            refine .cond_true rfl <| .seq <| .region <| .e (.move rfl) rfl rfl <| .e (.assign rfl) rfl rfl <| .e (.assign rfl) rfl rfl ?_
            refine .nil <| .go <| .ret <| .ret ?_
            refine Post.retsE rfl (.tmp rfl (.tmp rfl .nil)) rfl (fun w h => h.tail.tail) ?_
            first | exact pairV_eq (scoreR_why (or_left (by omega)) (by omega)) | exact pairV_eq (scoreR_why (or_right (by omega)) (by omega)) | exact pairV_eq (scoreR_fit (or_zero (by omega) (by omega)) (by first | exact .inl (by simpa using h23) | exact .inr (by simp_all))) | (exfalso; omega)
          · skip
            first | replace h35 := of_decide_eq_true ((Bool.not_eq_false' _).mp h35) | replace h35 := of_decide_eq_true (by simpa using h35)
            refine .cond_false rfl <| .skip <| .go <| .seq <| .region <| .e (.assign rfl) rfl rfl ?_
            refine .nil <| .go <| .seq <| .seq <| .region <| .e (.fieldAddr fo29_0 rfl) rfl rfl ?_
            refine .e (.fieldAddr fo27_1 rfl) rfl rfl <| .e (.loadP ag22 sz22 rfl .here rfl) rfl rfl <| .e (.move rfl) rfl rfl <| .nil <| .go <| .block ?_
            refine .unroll 3 <| .seq <| .region <| .e (.lss rfl rfl) rfl rfl <| .nil <| .go ?_
            refine .seq <| .cond_true rfl <| .skip <| .go <| .seq <| .block ?_
            refine .seq <| .region <| .e (.move rfl) rfl rfl <| .e (.index (j := 0) ar22 ag2 rfl rfl rfl (by first | decide | omega) rfl) rfl rfl <| .e (.assign rfl) rfl rfl <| .e (.assign rfl) rfl rfl ?_
            refine .nil <| .go <| .seq <| .region <| .e (.move rfl) rfl rfl <| .e (.gtr rfl rfl) rfl rfl ?_
            refine .nil <| .go ?_
            refine .split 45 rfl (fun h45 => ?_) (fun h45 => ?_)
            · skip
              replace h45 := of_decide_eq_true h45
              have z0 : ¬l.node.has.a = 0 := by omega
              have q0 := quo_bd (h := l.node.has.a) (x := l.used.a + t.needs.a) (by omega) (by omega) (by omega)
              refine .cond_true rfl ?_
              refine .draw [(c2, _), (c1, _)] mixed (.cons .here (.cons (.there <| .here) .nil)) ?_
              refine .t 0 rfl (.move rfl) rfl rfl (by kernel_rfl) <| .t 1 rfl (.move rfl) rfl rfl (by kernel_rfl) <| .t 2 rfl (.fieldAddr fo29_1 rfl) rfl rfl (by kernel_rfl) <| .t 3 rfl (.indexAddrA (j := 0) ar22 rfl rfl rfl (by first | decide | omega)) rfl rfl (by kernel_rfl) <| .t 4 rfl (.load ag2 rfl .here rfl) rfl rfl (by kernel_rfl) <| .t 5 rfl (.move rfl) rfl rfl (by kernel_rfl) ?_
              refine .t 6 rfl (.fieldAddr fo25_1 rfl) rfl rfl (by kernel_rfl) <| .t 7 rfl (.indexAddrA (j := 0) ar22 rfl rfl rfl (by first | decide | omega)) rfl rfl (by kernel_rfl) <| .t 8 rfl (.load ag2 rfl (.there <| .here) rfl) rfl rfl (by kernel_rfl) <| .t 9 rfl (.add rfl rfl (IntWalk.i64_in _ (by omega))) rfl rfl (by kernel_rfl) <| .t 10 rfl (.mul rfl rfl (IntWalk.i64_in _ (by omega))) rfl rfl (by kernel_rfl) <| .t 11 rfl (.move rfl) rfl rfl (by kernel_rfl) ?_
              refine .t 12 rfl (.quo rfl rfl (by omega) (quo_wrap (by omega) (by omega) (by omega))) rfl rfl (by kernel_rfl) <| .t 13 rfl (.add rfl rfl (add_in (by first | decide | omega) (by first | decide | omega) (quo_bd (by omega) (by omega) (by omega)))) rfl rfl (by kernel_rfl) <| .t 14 rfl (.assign rfl) rfl rfl (by kernel_rfl) <| .done (by kernel_rfl) <| .blk_normal <| .go ?_
              refine .region <| .e (.add (c := 1) rfl rfl (by decide)) rfl rfl <| .e (.move rfl) rfl rfl <| .nil <| .again <| .seq ?_
              refine .region <| .e (.lss rfl rfl) rfl rfl <| .nil <| .go <| .seq <| .cond_true rfl ?_
              refine .skip <| .go <| .seq <| .block <| .seq <| .region ?_
              refine .e (.move rfl) rfl rfl <| .e (.index (j := 1) ar22 ag2 rfl rfl rfl (by first | decide | omega) rfl) rfl rfl <| .e (.assign rfl) rfl rfl <| .e (.assign rfl) rfl rfl <| .nil <| .go ?_
              refine .seq <| .region <| .e (.move rfl) rfl rfl <| .e (.gtr rfl rfl) rfl rfl <| .nil <| .go ?_
              refine .split 45 rfl (fun h45_2 => ?_) (fun h45_2 => ?_)
              · skip
                replace h45_2 := of_decide_eq_true h45_2
                have z1 : ¬l.node.has.b = 0 := by omega
                have q1 := quo_bd (h := l.node.has.b) (x := l.used.b + t.needs.b) (by omega) (by omega) (by omega)
                refine .cond_true rfl ?_
                refine .draw [(c2, _), (c1, _)] mixed (.cons .here (.cons (.there <| .here) .nil)) ?_
                refine .t 0 rfl (.move rfl) rfl rfl (by kernel_rfl) <| .t 1 rfl (.move rfl) rfl rfl (by kernel_rfl) <| .t 2 rfl (.fieldAddr fo29_1 rfl) rfl rfl (by kernel_rfl) <| .t 3 rfl (.indexAddrA (j := 1) ar22 rfl rfl rfl (by first | decide | omega)) rfl rfl (by kernel_rfl) <| .t 4 rfl (.load ag2 rfl .here rfl) rfl rfl (by kernel_rfl) <| .t 5 rfl (.move rfl) rfl rfl (by kernel_rfl) ?_
                refine .t 6 rfl (.fieldAddr fo25_1 rfl) rfl rfl (by kernel_rfl) <| .t 7 rfl (.indexAddrA (j := 1) ar22 rfl rfl rfl (by first | decide | omega)) rfl rfl (by kernel_rfl) <| .t 8 rfl (.load ag2 rfl (.there <| .here) rfl) rfl rfl (by kernel_rfl) <| .t 9 rfl (.add rfl rfl (IntWalk.i64_in _ (by omega))) rfl rfl (by kernel_rfl) <| .t 10 rfl (.mul rfl rfl (IntWalk.i64_in _ (by omega))) rfl rfl (by kernel_rfl) <| .t 11 rfl (.move rfl) rfl rfl (by kernel_rfl) ?_
                refine .t 12 rfl (.quo rfl rfl (by omega) (quo_wrap (by omega) (by omega) (by omega))) rfl rfl (by kernel_rfl) <| .t 13 rfl (.add rfl rfl (add_in (by first | decide | omega) (by first | decide | omega) (quo_bd (by omega) (by omega) (by omega)))) rfl rfl (by kernel_rfl) <| .t 14 rfl (.assign rfl) rfl rfl (by kernel_rfl) <| .done (by kernel_rfl) <| .blk_normal <| .go ?_
                refine .region <| .e (.add (c := 2) rfl rfl (by decide)) rfl rfl <| .e (.move rfl) rfl rfl <| .nil <| .again <| .seq ?_
                refine .region <| .e (.lss rfl rfl) rfl rfl <| .nil <| .go <| .seq <| .cond_true rfl ?_
                refine .skip <| .go <| .seq <| .block <| .seq <| .region ?_
                refine .e (.move rfl) rfl rfl <| .e (.index (j := 2) ar22 ag2 rfl rfl rfl (by first | decide | omega) rfl) rfl rfl <| .e (.assign rfl) rfl rfl <| .e (.assign rfl) rfl rfl <| .nil <| .go ?_
                refine .seq <| .region <| .e (.move rfl) rfl rfl <| .e (.gtr rfl rfl) rfl rfl <| .nil <| .go ?_
                refine .split 45 rfl (fun h45_3 => ?_) (fun h45_3 => ?_)
                · skip
                  replace h45_3 := of_decide_eq_true h45_3
                  have z2 : ¬l.node.has.c = 0 := by omega
                  have q2 := quo_bd (h := l.node.has.c) (x := l.used.c + t.needs.c) (by omega) (by omega) (by omega)
                  refine .cond_true rfl ?_
                  refine .draw [(c2, _), (c1, _)] mixed (.cons .here (.cons (.there <| .here) .nil)) ?_
                  refine .t 0 rfl (.move rfl) rfl rfl (by kernel_rfl) <| .t 1 rfl (.move rfl) rfl rfl (by kernel_rfl) <| .t 2 rfl (.fieldAddr fo29_1 rfl) rfl rfl (by kernel_rfl) <| .t 3 rfl (.indexAddrA (j := 2) ar22 rfl rfl rfl (by first | decide | omega)) rfl rfl (by kernel_rfl) <| .t 4 rfl (.load ag2 rfl .here rfl) rfl rfl (by kernel_rfl) <| .t 5 rfl (.move rfl) rfl rfl (by kernel_rfl) ?_
                  refine .t 6 rfl (.fieldAddr fo25_1 rfl) rfl rfl (by kernel_rfl) <| .t 7 rfl (.indexAddrA (j := 2) ar22 rfl rfl rfl (by first | decide | omega)) rfl rfl (by kernel_rfl) <| .t 8 rfl (.load ag2 rfl (.there <| .here) rfl) rfl rfl (by kernel_rfl) <| .t 9 rfl (.add rfl rfl (IntWalk.i64_in _ (by omega))) rfl rfl (by kernel_rfl) <| .t 10 rfl (.mul rfl rfl (IntWalk.i64_in _ (by omega))) rfl rfl (by kernel_rfl) <| .t 11 rfl (.move rfl) rfl rfl (by kernel_rfl) ?_
                  refine .t 12 rfl (.quo rfl rfl (by omega) (quo_wrap (by omega) (by omega) (by omega))) rfl rfl (by kernel_rfl) <| .t 13 rfl (.add rfl rfl (add_in (by first | decide | omega) (by first | decide | omega) (quo_bd (by omega) (by omega) (by omega)))) rfl rfl (by kernel_rfl) <| .t 14 rfl (.assign rfl) rfl rfl (by kernel_rfl) <| .done (by kernel_rfl) <| .blk_normal <| .go ?_
                  refine .region <| .e (.add (c := 3) rfl rfl (by decide)) rfl rfl <| .e (.move rfl) rfl rfl <| .nil <| .again <| .seq ?_
                  refine .region <| .e (.lss rfl rfl) rfl rfl <| .nil <| .go <| .seq <| .cond_false rfl ?_
                  refine .exit <| .exit <| .exit <| .blk_exit <| .go <| .seq ?_
                  refine .region <| .e (.move rfl) rfl rfl <| .e (.assign rfl) rfl rfl <| .e (.assign rfl) rfl rfl <| .nil <| .go ?_
                  refine .ret ?_
                  refine Post.retsE rfl (.tmp rfl (.tmp rfl .nil)) rfl (fun w h => h.tail.tail) ?_
                  refine pairV_eq ((scoreR_ok (or_zero (by omega) (by omega)) h23 hrm).trans ?_)
                  unfold fullS term
                  simp [z0, z1, z2]
                · skip
                  replace h45_3 := of_decide_eq_false h45_3
                  have z2 : l.node.has.c = 0 := by omega
                  refine .cond_false rfl <| .skip <| .blk_normal <| .go <| .region <| .e (.add (c := 3) rfl rfl (by decide)) rfl rfl ?_
                  refine .e (.move rfl) rfl rfl <| .nil <| .again <| .seq <| .region <| .e (.lss rfl rfl) rfl rfl ?_
                  refine .nil <| .go <| .seq <| .cond_false rfl <| .exit <| .exit ?_
                  refine .exit <| .blk_exit <| .go <| .seq <| .region <| .e (.move rfl) rfl rfl ?_
                  refine .e (.assign rfl) rfl rfl <| .e (.assign rfl) rfl rfl <| .nil <| .go <| .ret ?_
                  refine Post.retsE rfl (.tmp rfl (.tmp rfl .nil)) rfl (fun w h => h.tail.tail) ?_
                  refine pairV_eq ((scoreR_ok (or_zero (by omega) (by omega)) h23 hrm).trans ?_)
                  unfold fullS term
                  simp [z0, z1, z2]
              · skip
                replace h45_2 := of_decide_eq_false h45_2
                have z1 : l.node.has.b = 0 := by omega
                refine .cond_false rfl <| .skip <| .blk_normal <| .go <| .region <| .e (.add (c := 2) rfl rfl (by decide)) rfl rfl ?_
                refine .e (.move rfl) rfl rfl <| .nil <| .again <| .seq <| .region <| .e (.lss rfl rfl) rfl rfl ?_
                refine .nil <| .go <| .seq <| .cond_true rfl <| .skip <| .go ?_
                refine .seq <| .block <| .seq <| .region <| .e (.move rfl) rfl rfl <| .e (.index (j := 2) ar22 ag2 rfl rfl rfl (by first | decide | omega) rfl) rfl rfl ?_
                refine .e (.assign rfl) rfl rfl <| .e (.assign rfl) rfl rfl <| .nil <| .go <| .seq <| .region ?_
                refine .e (.move rfl) rfl rfl <| .e (.gtr rfl rfl) rfl rfl <| .nil <| .go ?_
                refine .split 45 rfl (fun h45_3 => ?_) (fun h45_3 => ?_)
                · skip
                  replace h45_3 := of_decide_eq_true h45_3
                  have z2 : ¬l.node.has.c = 0 := by omega
                  have q2 := quo_bd (h := l.node.has.c) (x := l.used.c + t.needs.c) (by omega) (by omega) (by omega)
                  refine .cond_true rfl ?_
                  refine .draw [(c2, _), (c1, _)] mixed (.cons .here (.cons (.there <| .here) .nil)) ?_
                  refine .t 0 rfl (.move rfl) rfl rfl (by kernel_rfl) <| .t 1 rfl (.move rfl) rfl rfl (by kernel_rfl) <| .t 2 rfl (.fieldAddr fo29_1 rfl) rfl rfl (by kernel_rfl) <| .t 3 rfl (.indexAddrA (j := 2) ar22 rfl rfl rfl (by first | decide | omega)) rfl rfl (by kernel_rfl) <| .t 4 rfl (.load ag2 rfl .here rfl) rfl rfl (by kernel_rfl) <| .t 5 rfl (.move rfl) rfl rfl (by kernel_rfl) ?_
                  refine .t 6 rfl (.fieldAddr fo25_1 rfl) rfl rfl (by kernel_rfl) <| .t 7 rfl (.indexAddrA (j := 2) ar22 rfl rfl rfl (by first | decide | omega)) rfl rfl (by kernel_rfl) <| .t 8 rfl (.load ag2 rfl (.there <| .here) rfl) rfl rfl (by kernel_rfl) <| .t 9 rfl (.add rfl rfl (IntWalk.i64_in _ (by omega))) rfl rfl (by kernel_rfl) <| .t 10 rfl (.mul rfl rfl (IntWalk.i64_in _ (by omega))) rfl rfl (by kernel_rfl) <| .t 11 rfl (.move rfl) rfl rfl (by kernel_rfl) ?_
                  refine .t 12 rfl (.quo rfl rfl (by omega) (quo_wrap (by omega) (by omega) (by omega))) rfl rfl (by kernel_rfl) <| .t 13 rfl (.add rfl rfl (add_in (by first | decide | omega) (by first | decide | omega) (quo_bd (by omega) (by omega) (by omega)))) rfl rfl (by kernel_rfl) <| .t 14 rfl (.assign rfl) rfl rfl (by kernel_rfl) <| .done (by kernel_rfl) <| .blk_normal <| .go ?_
                  refine .region <| .e (.add (c := 3) rfl rfl (by decide)) rfl rfl <| .e (.move rfl) rfl rfl <| .nil <| .again <| .seq ?_
                  refine .region <| .e (.lss rfl rfl) rfl rfl <| .nil <| .go <| .seq <| .cond_false rfl ?_
                  refine .exit <| .exit <| .exit <| .blk_exit <| .go <| .seq ?_
                  refine .region <| .e (.move rfl) rfl rfl <| .e (.assign rfl) rfl rfl <| .e (.assign rfl) rfl rfl <| .nil <| .go ?_
                  refine .ret ?_
                  refine Post.retsE rfl (.tmp rfl (.tmp rfl .nil)) rfl (fun w h => h.tail.tail) ?_
                  refine pairV_eq ((scoreR_ok (or_zero (by omega) (by omega)) h23 hrm).trans ?_)
                  unfold fullS term
                  simp [z0, z1, z2]
                · skip
                  replace h45_3 := of_decide_eq_false h45_3
                  have z2 : l.node.has.c = 0 := by omega
                  refine .cond_false rfl <| .skip <| .blk_normal <| .go <| .region <| .e (.add (c := 3) rfl rfl (by decide)) rfl rfl ?_
                  refine .e (.move rfl) rfl rfl <| .nil <| .again <| .seq <| .region <| .e (.lss rfl rfl) rfl rfl ?_
                  refine .nil <| .go <| .seq <| .cond_false rfl <| .exit <| .exit ?_
                  refine .exit <| .blk_exit <| .go <| .seq <| .region <| .e (.move rfl) rfl rfl ?_
                  refine .e (.assign rfl) rfl rfl <| .e (.assign rfl) rfl rfl <| .nil <| .go <| .ret ?_
                  refine Post.retsE rfl (.tmp rfl (.tmp rfl .nil)) rfl (fun w h => h.tail.tail) ?_
                  refine pairV_eq ((scoreR_ok (or_zero (by omega) (by omega)) h23 hrm).trans ?_)
                  unfold fullS term
                  simp [z0, z1, z2]
            · skip
              replace h45 := of_decide_eq_false h45
              have z0 : l.node.has.a = 0 := by omega
              refine .cond_false rfl <| .skip <| .blk_normal <| .go <| .region <| .e (.add (c := 1) rfl rfl (by decide)) rfl rfl ?_
              refine .e (.move rfl) rfl rfl <| .nil <| .again <| .seq <| .region <| .e (.lss rfl rfl) rfl rfl ?_
              refine .nil <| .go <| .seq <| .cond_true rfl <| .skip <| .go ?_
              refine .seq <| .block <| .seq <| .region <| .e (.move rfl) rfl rfl <| .e (.index (j := 1) ar22 ag2 rfl rfl rfl (by first | decide | omega) rfl) rfl rfl ?_
              refine .e (.assign rfl) rfl rfl <| .e (.assign rfl) rfl rfl <| .nil <| .go <| .seq <| .region ?_
              refine .e (.move rfl) rfl rfl <| .e (.gtr rfl rfl) rfl rfl <| .nil <| .go ?_
              refine .split 45 rfl (fun h45_2 => ?_) (fun h45_2 => ?_)
              · skip
                replace h45_2 := of_decide_eq_true h45_2
                have z1 : ¬l.node.has.b = 0 := by omega
                have q1 := quo_bd (h := l.node.has.b) (x := l.used.b + t.needs.b) (by omega) (by omega) (by omega)
                refine .cond_true rfl ?_
                refine .draw [(c2, _), (c1, _)] mixed (.cons .here (.cons (.there <| .here) .nil)) ?_
                refine .t 0 rfl (.move rfl) rfl rfl (by kernel_rfl) <| .t 1 rfl (.move rfl) rfl rfl (by kernel_rfl) <| .t 2 rfl (.fieldAddr fo29_1 rfl) rfl rfl (by kernel_rfl) <| .t 3 rfl (.indexAddrA (j := 1) ar22 rfl rfl rfl (by first | decide | omega)) rfl rfl (by kernel_rfl) <| .t 4 rfl (.load ag2 rfl .here rfl) rfl rfl (by kernel_rfl) <| .t 5 rfl (.move rfl) rfl rfl (by kernel_rfl) ?_
                refine .t 6 rfl (.fieldAddr fo25_1 rfl) rfl rfl (by kernel_rfl) <| .t 7 rfl (.indexAddrA (j := 1) ar22 rfl rfl rfl (by first | decide | omega)) rfl rfl (by kernel_rfl) <| .t 8 rfl (.load ag2 rfl (.there <| .here) rfl) rfl rfl (by kernel_rfl) <| .t 9 rfl (.add rfl rfl (IntWalk.i64_in _ (by omega))) rfl rfl (by kernel_rfl) <| .t 10 rfl (.mul rfl rfl (IntWalk.i64_in _ (by omega))) rfl rfl (by kernel_rfl) <| .t 11 rfl (.move rfl) rfl rfl (by kernel_rfl) ?_
                refine .t 12 rfl (.quo rfl rfl (by omega) (quo_wrap (by omega) (by omega) (by omega))) rfl rfl (by kernel_rfl) <| .t 13 rfl (.add rfl rfl (add_in (by first | decide | omega) (by first | decide | omega) (quo_bd (by omega) (by omega) (by omega)))) rfl rfl (by kernel_rfl) <| .t 14 rfl (.assign rfl) rfl rfl (by kernel_rfl) <| .done (by kernel_rfl) <| .blk_normal <| .go ?_
                refine .region <| .e (.add (c := 2) rfl rfl (by decide)) rfl rfl <| .e (.move rfl) rfl rfl <| .nil <| .again <| .seq ?_
                refine .region <| .e (.lss rfl rfl) rfl rfl <| .nil <| .go <| .seq <| .cond_true rfl ?_
                refine .skip <| .go <| .seq <| .block <| .seq <| .region ?_
                refine .e (.move rfl) rfl rfl <| .e (.index (j := 2) ar22 ag2 rfl rfl rfl (by first | decide | omega) rfl) rfl rfl <| .e (.assign rfl) rfl rfl <| .e (.assign rfl) rfl rfl <| .nil <| .go ?_
                refine .seq <| .region <| .e (.move rfl) rfl rfl <| .e (.gtr rfl rfl) rfl rfl <| .nil <| .go ?_
                refine .split 45 rfl (fun h45_3 => ?_) (fun h45_3 => ?_)
                · skip
                  replace h45_3 := of_decide_eq_true h45_3
                  have z2 : ¬l.node.has.c = 0 := by omega
                  have q2 := quo_bd (h := l.node.has.c) (x := l.used.c + t.needs.c) (by omega) (by omega) (by omega)
                  refine .cond_true rfl ?_
                  refine .draw [(c2, _), (c1, _)] mixed (.cons .here (.cons (.there <| .here) .nil)) ?_
                  refine .t 0 rfl (.move rfl) rfl rfl (by kernel_rfl) <| .t 1 rfl (.move rfl) rfl rfl (by kernel_rfl) <| .t 2 rfl (.fieldAddr fo29_1 rfl) rfl rfl (by kernel_rfl) <| .t 3 rfl (.indexAddrA (j := 2) ar22 rfl rfl rfl (by first | decide | omega)) rfl rfl (by kernel_rfl) <| .t 4 rfl (.load ag2 rfl .here rfl) rfl rfl (by kernel_rfl) <| .t 5 rfl (.move rfl) rfl rfl (by kernel_rfl) ?_
                  refine .t 6 rfl (.fieldAddr fo25_1 rfl) rfl rfl (by kernel_rfl) <| .t 7 rfl (.indexAddrA (j := 2) ar22 rfl rfl rfl (by first | decide | omega)) rfl rfl (by kernel_rfl) <| .t 8 rfl (.load ag2 rfl (.there <| .here) rfl) rfl rfl (by kernel_rfl) <| .t 9 rfl (.add rfl rfl (IntWalk.i64_in _ (by omega))) rfl rfl (by kernel_rfl) <| .t 10 rfl (.mul rfl rfl (IntWalk.i64_in _ (by omega))) rfl rfl (by kernel_rfl) <| .t 11 rfl (.move rfl) rfl rfl (by kernel_rfl) ?_
                  refine .t 12 rfl (.quo rfl rfl (by omega) (quo_wrap (by omega) (by omega) (by omega))) rfl rfl (by kernel_rfl) <| .t 13 rfl (.add rfl rfl (add_in (by first | decide | omega) (by first | decide | omega) (quo_bd (by omega) (by omega) (by omega)))) rfl rfl (by kernel_rfl) <| .t 14 rfl (.assign rfl) rfl rfl (by kernel_rfl) <| .done (by kernel_rfl) <| .blk_normal <| .go ?_
                  refine .region <| .e (.add (c := 3) rfl rfl (by decide)) rfl rfl <| .e (.move rfl) rfl rfl <| .nil <| .again <| .seq ?_
                  refine .region <| .e (.lss rfl rfl) rfl rfl <| .nil <| .go <| .seq <| .cond_false rfl ?_
                  refine .exit <| .exit <| .exit <| .blk_exit <| .go <| .seq ?_
                  refine .region <| .e (.move rfl) rfl rfl <| .e (.assign rfl) rfl rfl <| .e (.assign rfl) rfl rfl <| .nil <| .go ?_
                  refine .ret ?_
                  refine Post.retsE rfl (.tmp rfl (.tmp rfl .nil)) rfl (fun w h => h.tail.tail) ?_
                  refine pairV_eq ((scoreR_ok (or_zero (by omega) (by omega)) h23 hrm).trans ?_)
                  unfold fullS term
                  simp [z0, z1, z2]
                · skip
                  replace h45_3 := of_decide_eq_false h45_3
                  have z2 : l.node.has.c = 0 := by omega
                  refine .cond_false rfl <| .skip <| .blk_normal <| .go <| .region <| .e (.add (c := 3) rfl rfl (by decide)) rfl rfl ?_
                  refine .e (.move rfl) rfl rfl <| .nil <| .again <| .seq <| .region <| .e (.lss rfl rfl) rfl rfl ?_
                  refine .nil <| .go <| .seq <| .cond_false rfl <| .exit <| .exit ?_
                  refine .exit <| .blk_exit <| .go <| .seq <| .region <| .e (.move rfl) rfl rfl ?_
                  refine .e (.assign rfl) rfl rfl <| .e (.assign rfl) rfl rfl <| .nil <| .go <| .ret ?_
                  refine Post.retsE rfl (.tmp rfl (.tmp rfl .nil)) rfl (fun w h => h.tail.tail) ?_
                  refine pairV_eq ((scoreR_ok (or_zero (by omega) (by omega)) h23 hrm).trans ?_)
                  unfold fullS term
                  simp [z0, z1, z2]
              · skip
                replace h45_2 := of_decide_eq_false h45_2
                have z1 : l.node.has.b = 0 := by omega
                refine .cond_false rfl <| .skip <| .blk_normal <| .go <| .region <| .e (.add (c := 2) rfl rfl (by decide)) rfl rfl ?_
                refine .e (.move rfl) rfl rfl <| .nil <| .again <| .seq <| .region <| .e (.lss rfl rfl) rfl rfl ?_
                refine .nil <| .go <| .seq <| .cond_true rfl <| .skip <| .go ?_
                refine .seq <| .block <| .seq <| .region <| .e (.move rfl) rfl rfl <| .e (.index (j := 2) ar22 ag2 rfl rfl rfl (by first | decide | omega) rfl) rfl rfl ?_
                refine .e (.assign rfl) rfl rfl <| .e (.assign rfl) rfl rfl <| .nil <| .go <| .seq <| .region ?_
                refine .e (.move rfl) rfl rfl <| .e (.gtr rfl rfl) rfl rfl <| .nil <| .go ?_
                refine .split 45 rfl (fun h45_3 => ?_) (fun h45_3 => ?_)
                · skip
                  replace h45_3 := of_decide_eq_true h45_3
                  have z2 : ¬l.node.has.c = 0 := by omega
                  have q2 := quo_bd (h := l.node.has.c) (x := l.used.c + t.needs.c) (by omega) (by omega) (by omega)
                  refine .cond_true rfl ?_
                  refine .draw [(c2, _), (c1, _)] mixed (.cons .here (.cons (.there <| .here) .nil)) ?_
                  refine .t 0 rfl (.move rfl) rfl rfl (by kernel_rfl) <| .t 1 rfl (.move rfl) rfl rfl (by kernel_rfl) <| .t 2 rfl (.fieldAddr fo29_1 rfl) rfl rfl (by kernel_rfl) <| .t 3 rfl (.indexAddrA (j := 2) ar22 rfl rfl rfl (by first | decide | omega)) rfl rfl (by kernel_rfl) <| .t 4 rfl (.load ag2 rfl .here rfl) rfl rfl (by kernel_rfl) <| .t 5 rfl (.move rfl) rfl rfl (by kernel_rfl) ?_
                  refine .t 6 rfl (.fieldAddr fo25_1 rfl) rfl rfl (by kernel_rfl) <| .t 7 rfl (.indexAddrA (j := 2) ar22 rfl rfl rfl (by first | decide | omega)) rfl rfl (by kernel_rfl) <| .t 8 rfl (.load ag2 rfl (.there <| .here) rfl) rfl rfl (by kernel_rfl) <| .t 9 rfl (.add rfl rfl (IntWalk.i64_in _ (by omega))) rfl rfl (by kernel_rfl) <| .t 10 rfl (.mul rfl rfl (IntWalk.i64_in _ (by omega))) rfl rfl (by kernel_rfl) <| .t 11 rfl (.move rfl) rfl rfl (by kernel_rfl) ?_
                  refine .t 12 rfl (.quo rfl rfl (by omega) (quo_wrap (by omega) (by omega) (by omega))) rfl rfl (by kernel_rfl) <| .t 13 rfl (.add rfl rfl (add_in (by first | decide | omega) (by first | decide | omega) (quo_bd (by omega) (by omega) (by omega)))) rfl rfl (by kernel_rfl) <| .t 14 rfl (.assign rfl) rfl rfl (by kernel_rfl) <| .done (by kernel_rfl) <| .blk_normal <| .go ?_
                  refine .region <| .e (.add (c := 3) rfl rfl (by decide)) rfl rfl <| .e (.move rfl) rfl rfl <| .nil <| .again <| .seq ?_
                  refine .region <| .e (.lss rfl rfl) rfl rfl <| .nil <| .go <| .seq <| .cond_false rfl ?_
                  refine .exit <| .exit <| .exit <| .blk_exit <| .go <| .seq ?_
                  refine .region <| .e (.move rfl) rfl rfl <| .e (.assign rfl) rfl rfl <| .e (.assign rfl) rfl rfl <| .nil <| .go ?_
                  refine .ret ?_
                  refine Post.retsE rfl (.tmp rfl (.tmp rfl .nil)) rfl (fun w h => h.tail.tail) ?_
                  refine pairV_eq ((scoreR_ok (or_zero (by omega) (by omega)) h23 hrm).trans ?_)
                  unfold fullS term
                  simp [z0, z1, z2]
                · skip
                  replace h45_3 := of_decide_eq_false h45_3
                  have z2 : l.node.has.c = 0 := by omega
                  refine .cond_false rfl <| .skip <| .blk_normal <| .go <| .region <| .e (.add (c := 3) rfl rfl (by decide)) rfl rfl ?_
                  refine .e (.move rfl) rfl rfl <| .nil <| .again <| .seq <| .region <| .e (.lss rfl rfl) rfl rfl ?_
                  refine .nil <| .go <| .seq <| .cond_false rfl <| .exit <| .exit ?_
                  refine .exit <| .blk_exit <| .go <| .seq <| .region <| .e (.move rfl) rfl rfl ?_
                  refine .e (.assign rfl) rfl rfl <| .e (.assign rfl) rfl rfl <| .nil <| .go <| .ret ?_
                  refine Post.retsE rfl (.tmp rfl (.tmp rfl .nil)) rfl (fun w h => h.tail.tail) ?_
                  refine pairV_eq ((scoreR_ok (or_zero (by omega) (by omega)) h23 hrm).trans ?_)
                  unfold fullS term
                  simp [z0, z1, z2]
      · skip
        refine .off rfl rfl <| .off rfl rfl <| .off rfl rfl <| .off rfl rfl <| .off rfl rfl <| .off rfl rfl ?_
        refine .off rfl rfl <| .e (.pickF rfl rfl) rfl rfl <| .e (.not rfl) rfl rfl <| .e (.pickT rfl rfl) rfl rfl <| .nil <| .go ?_
        refine .cond_true rfl <| .region <| .e (.assign rfl) rfl rfl <| .nil <| .go <| .seq ?_
        refine .seq <| .region <| .e (.move rfl) rfl rfl <| .e (.neq rfl rfl) rfl rfl <| .nil <| .go ?_
        refine .cond_true rfl <| .seq <| .region <| .e (.move rfl) rfl rfl <| .e (.assign rfl) rfl rfl <| .e (.assign rfl) rfl rfl ?_
        refine .nil <| .go <| .ret <| .ret ?_
        refine Post.retsE rfl (.tmp rfl (.tmp rfl .nil)) rfl (fun w h => h.tail.tail) ?_
        first | exact pairV_eq (scoreR_why (or_left (by omega)) (by omega)) | exact pairV_eq (scoreR_why (or_right (by omega)) (by omega)) | exact pairV_eq (scoreR_fit (or_zero (by omega) (by omega)) (by first | exact .inl (by simpa using h23) | exact .inr (by simp_all))) | (exfalso; omega)
    · skip
      replace h18 := of_decide_eq_false h18
      refine .off rfl rfl <| .off rfl rfl <| .off rfl rfl <| .off rfl rfl <| .off rfl rfl <| .off rfl rfl ?_
      refine .off rfl rfl <| .off rfl rfl <| .off rfl rfl <| .off rfl rfl <| .off rfl rfl <| .off rfl rfl ?_
      refine .off rfl rfl <| .off rfl rfl <| .e (.pickF rfl rfl) rfl rfl <| .nil <| .go <| .cond_false rfl ?_
      refine .skip <| .go <| .seq <| .seq <| .region <| .e (.move rfl) rfl rfl ?_
      refine .e (.neq rfl rfl) rfl rfl <| .nil <| .go ?_
      refine .split 35 rfl (fun h35 => ?_) (fun h35 => ?_)
      · skip
        first | replace h35 := of_decide_eq_false ((Bool.not_eq_true' _).mp h35) | replace h35 := of_decide_eq_false (by simpa using h35)
        refine .cond_true rfl <| .seq <| .region <| .e (.move rfl) rfl rfl <| .e (.assign rfl) rfl rfl <| .e (.assign rfl) rfl rfl ?_
        refine .nil <| .go <| .ret <| .ret ?_
        refine Post.retsE rfl (.tmp rfl (.tmp rfl .nil)) rfl (fun w h => h.tail.tail) ?_
        first | exact pairV_eq (scoreR_why (or_left (by omega)) (by omega)) | exact pairV_eq (scoreR_why (or_right (by omega)) (by omega)) | exact pairV_eq (scoreR_fit (or_zero (by omega) (by omega)) (by first | exact .inl (by simpa using h23) | exact .inr (by simp_all))) | (exfalso; omega)
      · skip
        first | replace h35 := of_decide_eq_true ((Bool.not_eq_false' _).mp h35) | replace h35 := of_decide_eq_true (by simpa using h35)
        exfalso; omega
  · skip
    replace h13 := of_decide_eq_false h13
    refine .cond_false rfl <| .skip <| .go <| .seq <| .seq <| .region ?_
    refine .e (.move rfl) rfl rfl <| .e (.eql rfl rfl) rfl rfl <| .e (.move rfl) rfl rfl ?_
    refine .split 18 rfl (fun h18 => ?_) (fun h18 => ?_)
    · skip
      replace h18 := of_decide_eq_true h18
      refine .e (.loadW ag25 sz25 rfl (.there <| .here) rfl) rfl rfl <| .e (.fieldAddr fo29_0 rfl) rfl rfl <| .e (.loadP ag27 sz27 rfl .here rfl) rfl rfl <| .on rfl <| .callP cal22 rfl rfl rfl (rSuits_ok ht0 hnd) <| .e (.move rfl) rfl rfl ?_
      refine .split 23 rfl (fun h23 => ?_) (fun h23 => ?_)
      · skip
        refine .e (.fieldAddr fo29_0 rfl) rfl rfl <| .e (.loadP ag27 sz27 rfl .here rfl) rfl rfl <| .e (.fieldAddr fo29_1 rfl) rfl rfl <| .e (.loadP ag22 sz22 rfl .here rfl) rfl rfl <| .e (.fieldAddr fo25_1 rfl) rfl rfl <| .e (.loadP ag22 sz22 rfl (.there <| .here) rfl) rfl rfl ?_
        refine .on rfl <| .callP cal23 rfl rfl rfl (rRoom_ok (u := l.used) (d := t.needs) hnd) <| .e (.pickT rfl rfl) rfl rfl <| .e (.not rfl) rfl rfl <| .e (.pickT rfl rfl) rfl rfl <| .nil <| .go ?_
        refine .split 33 rfl (fun h33 => ?_) (fun h33 => ?_)
        · skip
          refine .cond_true rfl <| .region <| .e (.assign rfl) rfl rfl <| .nil <| .go <| .seq ?_
          refine .seq <| .region <| .e (.move rfl) rfl rfl <| .e (.neq rfl rfl) rfl rfl <| .nil <| .go ?_
          refine .cond_true rfl <| .seq <| .region <| .e (.move rfl) rfl rfl <| .e (.assign rfl) rfl rfl <| .e (.assign rfl) rfl rfl ?_
          refine .nil <| .go <| .ret <| .ret ?_
          refine Post.retsE rfl (.tmp rfl (.tmp rfl .nil)) rfl (fun w h => h.tail.tail) ?_
          first | exact pairV_eq (scoreR_why (or_left (by omega)) (by omega)) | exact pairV_eq (scoreR_why (or_right (by omega)) (by omega)) | exact pairV_eq (scoreR_fit (or_zero (by omega) (by omega)) (by first | exact .inl (by simpa using h23) | exact .inr (by simp_all))) | (exfalso; omega)
        · skip
          have hrm : room l.node l.used t.needs = true := by simpa using h33
          obtain ⟨r1, r2, r3, r4⟩ := room_out hrm
          have r1 := A3.amt_out r1
          have r2 := A3.amt_out r2
          have r3 := A3.amt_out r3
          refine .cond_false rfl <| .skip <| .go <| .seq <| .seq <| .region ?_
          refine .e (.move rfl) rfl rfl <| .e (.neq rfl rfl) rfl rfl <| .nil <| .go ?_
          refine .split 35 rfl (fun h35 => ?_) (fun h35 => ?_)
          · skip
            first | replace h35 := of_decide_eq_false ((Bool.not_eq_true' _).mp h35) | replace h35 := of_decide_eq_false (by simpa using h35)
            refine .cond_true rfl <| .seq <| .region <| .e (.move rfl) rfl rfl <| .e (.assign rfl) rfl rfl <| .e (.assign rfl) rfl rfl ?_
            refine .nil <| .go <| .ret <| .ret ?_
            refine Post.retsE rfl (.tmp rfl (.tmp rfl .nil)) rfl (fun w h => h.tail.tail) ?_
            first | exact pairV_eq (scoreR_why (or_left (by omega)) (by omega)) | exact pairV_eq (scoreR_why (or_right (by omega)) (by omega)) | exact pairV_eq (scoreR_fit (or_zero (by omega) (by omega)) (by first | exact .inl (by simpa using h23) | exact .inr (by simp_all))) | (exfalso; omega)
          · skip
            first | replace h35 := of_decide_eq_true ((Bool.not_eq_false' _).mp h35) | replace h35 := of_decide_eq_true (by simpa using h35)
            refine .cond_false rfl <| .skip <| .go <| .seq <| .region <| .e (.assign rfl) rfl rfl ?_
            refine .nil <| .go <| .seq <| .seq <| .region <| .e (.fieldAddr fo29_0 rfl) rfl rfl ?_
            refine .e (.fieldAddr fo27_1 rfl) rfl rfl <| .e (.loadP ag22 sz22 rfl .here rfl) rfl rfl <| .e (.move rfl) rfl rfl <| .nil <| .go <| .block ?_
            refine .unroll 3 <| .seq <| .region <| .e (.lss rfl rfl) rfl rfl <| .nil <| .go ?_
            refine .seq <| .cond_true rfl <| .skip <| .go <| .seq <| .block ?_
            refine .seq <| .region <| .e (.move rfl) rfl rfl <| .e (.index (j := 0) ar22 ag2 rfl rfl rfl (by first | decide | omega) rfl) rfl rfl <| .e (.assign rfl) rfl rfl <| .e (.assign rfl) rfl rfl ?_
            refine .nil <| .go <| .seq <| .region <| .e (.move rfl) rfl rfl <| .e (.gtr rfl rfl) rfl rfl ?_
            refine .nil <| .go ?_
            refine .split 45 rfl (fun h45 => ?_) (fun h45 => ?_)
            · skip
              replace h45 := of_decide_eq_true h45
              have z0 : ¬l.node.has.a = 0 := by omega
              have q0 := quo_bd (h := l.node.has.a) (x := l.used.a + t.needs.a) (by omega) (by omega) (by omega)
              refine .cond_true rfl ?_
              refine .draw [(c2, _), (c1, _)] mixed (.cons .here (.cons (.there <| .here) .nil)) ?_
              refine .t 0 rfl (.move rfl) rfl rfl (by kernel_rfl) <| .t 1 rfl (.move rfl) rfl rfl (by kernel_rfl) <| .t 2 rfl (.fieldAddr fo29_1 rfl) rfl rfl (by kernel_rfl) <| .t 3 rfl (.indexAddrA (j := 0) ar22 rfl rfl rfl (by first | decide | omega)) rfl rfl (by kernel_rfl) <| .t 4 rfl (.load ag2 rfl .here rfl) rfl rfl (by kernel_rfl) <| .t 5 rfl (.move rfl) rfl rfl (by kernel_rfl) ?_
              refine .t 6 rfl (.fieldAddr fo25_1 rfl) rfl rfl (by kernel_rfl) <| .t 7 rfl (.indexAddrA (j := 0) ar22 rfl rfl rfl (by first | decide | omega)) rfl rfl (by kernel_rfl) <| .t 8 rfl (.load ag2 rfl (.there <| .here) rfl) rfl rfl (by kernel_rfl) <| .t 9 rfl (.add rfl rfl (IntWalk.i64_in _ (by omega))) rfl rfl (by kernel_rfl) <| .t 10 rfl (.mul rfl rfl (IntWalk.i64_in _ (by omega))) rfl rfl (by kernel_rfl) <| .t 11 rfl (.move rfl) rfl rfl (by kernel_rfl) ?_
              refine .t 12 rfl (.quo rfl rfl (by omega) (quo_wrap (by omega) (by omega) (by omega))) rfl rfl (by kernel_rfl) <| .t 13 rfl (.add rfl rfl (add_in (by first | decide | omega) (by first | decide | omega) (quo_bd (by omega) (by omega) (by omega)))) rfl rfl (by kernel_rfl) <| .t 14 rfl (.assign rfl) rfl rfl (by kernel_rfl) <| .done (by kernel_rfl) <| .blk_normal <| .go ?_
              refine .region <| .e (.add (c := 1) rfl rfl (by decide)) rfl rfl <| .e (.move rfl) rfl rfl <| .nil <| .again <| .seq ?_
              refine .region <| .e (.lss rfl rfl) rfl rfl <| .nil <| .go <| .seq <| .cond_true rfl ?_
              refine .skip <| .go <| .seq <| .block <| .seq <| .region ?_
              refine .e (.move rfl) rfl rfl <| .e (.index (j := 1) ar22 ag2 rfl rfl rfl (by first | decide | omega) rfl) rfl rfl <| .e (.assign rfl) rfl rfl <| .e (.assign rfl) rfl rfl <| .nil <| .go ?_
              refine .seq <| .region <| .e (.move rfl) rfl rfl <| .e (.gtr rfl rfl) rfl rfl <| .nil <| .go ?_
              refine .split 45 rfl (fun h45_2 => ?_) (fun h45_2 => ?_)
              · skip
                replace h45_2 := of_decide_eq_true h45_2
                have z1 : ¬l.node.has.b = 0 := by omega
                have q1 := quo_bd (h := l.node.has.b) (x := l.used.b + t.needs.b) (by omega) (by omega) (by omega)
                refine .cond_true rfl ?_
                refine .draw [(c2, _), (c1, _)] mixed (.cons .here (.cons (.there <| .here) .nil)) ?_
                refine .t 0 rfl (.move rfl) rfl rfl (by kernel_rfl) <| .t 1 rfl (.move rfl) rfl rfl (by kernel_rfl) <| .t 2 rfl (.fieldAddr fo29_1 rfl) rfl rfl (by kernel_rfl) <| .t 3 rfl (.indexAddrA (j := 1) ar22 rfl rfl rfl (by first | decide | omega)) rfl rfl (by kernel_rfl) <| .t 4 rfl (.load ag2 rfl .here rfl) rfl rfl (by kernel_rfl) <| .t 5 rfl (.move rfl) rfl rfl (by kernel_rfl) ?_
                refine .t 6 rfl (.fieldAddr fo25_1 rfl) rfl rfl (by kernel_rfl) <| .t 7 rfl (.indexAddrA (j := 1) ar22 rfl rfl rfl (by first | decide | omega)) rfl rfl (by kernel_rfl) <| .t 8 rfl (.load ag2 rfl (.there <| .here) rfl) rfl rfl (by kernel_rfl) <| .t 9 rfl (.add rfl rfl (IntWalk.i64_in _ (by omega))) rfl rfl (by kernel_rfl) <| .t 10 rfl (.mul rfl rfl (IntWalk.i64_in _ (by omega))) rfl rfl (by kernel_rfl) <| .t 11 rfl (.move rfl) rfl rfl (by kernel_rfl) ?_
                refine .t 12 rfl (.quo rfl rfl (by omega) (quo_wrap (by omega) (by omega) (by omega))) rfl rfl (by kernel_rfl) <| .t 13 rfl (.add rfl rfl (add_in (by first | decide | omega) (by first | decide | omega) (quo_bd (by omega) (by omega) (by omega)))) rfl rfl (by kernel_rfl) <| .t 14 rfl (.assign rfl) rfl rfl (by kernel_rfl) <| .done (by kernel_rfl) <| .blk_normal <| .go ?_
                refine .region <| .e (.add (c := 2) rfl rfl (by decide)) rfl rfl <| .e (.move rfl) rfl rfl <| .nil <| .again <| .seq ?_
                refine .region <| .e (.lss rfl rfl) rfl rfl <| .nil <| .go <| .seq <| .cond_true rfl ?_
                refine .skip <| .go <| .seq <| .block <| .seq <| .region ?_
                refine .e (.move rfl) rfl rfl <| .e (.index (j := 2) ar22 ag2 rfl rfl rfl (by first | decide | omega) rfl) rfl rfl <| .e (.assign rfl) rfl rfl <| .e (.assign rfl) rfl rfl <| .nil <| .go ?_
                refine .seq <| .region <| .e (.move rfl) rfl rfl <| .e (.gtr rfl rfl) rfl rfl <| .nil <| .go ?_
                refine .split 45 rfl (fun h45_3 => ?_) (fun h45_3 => ?_)
                · skip
                  replace h45_3 := of_decide_eq_true h45_3
                  have z2 : ¬l.node.has.c = 0 := by omega
                  have q2 := quo_bd (h := l.node.has.c) (x := l.used.c + t.needs.c) (by omega) (by omega) (by omega)
                  refine .cond_true rfl ?_
                  refine .draw [(c2, _), (c1, _)] mixed (.cons .here (.cons (.there <| .here) .nil)) ?_
                  refine .t 0 rfl (.move rfl) rfl rfl (by kernel_rfl) <| .t 1 rfl (.move rfl) rfl rfl (by kernel_rfl) <| .t 2 rfl (.fieldAddr fo29_1 rfl) rfl rfl (by kernel_rfl) <| .t 3 rfl (.indexAddrA (j := 2) ar22 rfl rfl rfl (by first | decide | omega)) rfl rfl (by kernel_rfl) <| .t 4 rfl (.load ag2 rfl .here rfl) rfl rfl (by kernel_rfl) <| .t 5 rfl (.move rfl) rfl rfl (by kernel_rfl) ?_
                  refine .t 6 rfl (.fieldAddr fo25_1 rfl) rfl rfl (by kernel_rfl) <| .t 7 rfl (.indexAddrA (j := 2) ar22 rfl rfl rfl (by first | decide | omega)) rfl rfl (by kernel_rfl) <| .t 8 rfl (.load ag2 rfl (.there <| .here) rfl) rfl rfl (by kernel_rfl) <| .t 9 rfl (.add rfl rfl (IntWalk.i64_in _ (by omega))) rfl rfl (by kernel_rfl) <| .t 10 rfl (.mul rfl rfl (IntWalk.i64_in _ (by omega))) rfl rfl (by kernel_rfl) <| .t 11 rfl (.move rfl) rfl rfl (by kernel_rfl) ?_
                  refine .t 12 rfl (.quo rfl rfl (by omega) (quo_wrap (by omega) (by omega) (by omega))) rfl rfl (by kernel_rfl) <| .t 13 rfl (.add rfl rfl (add_in (by first | decide | omega) (by first | decide | omega) (quo_bd (by omega) (by omega) (by omega)))) rfl rfl (by kernel_rfl) <| .t 14 rfl (.assign rfl) rfl rfl (by kernel_rfl) <| .done (by kernel_rfl) <| .blk_normal <| .go ?_
                  refine .region <| .e (.add (c := 3) rfl rfl (by decide)) rfl rfl <| .e (.move rfl) rfl rfl <| .nil <| .again <| .seq ?_
                  refine .region <| .e (.lss rfl rfl) rfl rfl <| .nil <| .go <| .seq <| .cond_false rfl ?_
                  refine .exit <| .exit <| .exit <| .blk_exit <| .go <| .seq ?_
                  refine .region <| .e (.move rfl) rfl rfl <| .e (.assign rfl) rfl rfl <| .e (.assign rfl) rfl rfl <| .nil <| .go ?_
                  refine .ret ?_
                  refine Post.retsE rfl (.tmp rfl (.tmp rfl .nil)) rfl (fun w h => h.tail.tail) ?_
                  refine pairV_eq ((scoreR_ok (or_zero (by omega) (by omega)) h23 hrm).trans ?_)
                  unfold fullS term
                  simp [z0, z1, z2]
                · skip
                  replace h45_3 := of_decide_eq_false h45_3
                  have z2 : l.node.has.c = 0 := by omega
                  refine .cond_false rfl <| .skip <| .blk_normal <| .go <| .region <| .e (.add (c := 3) rfl rfl (by decide)) rfl rfl ?_
                  refine .e (.move rfl) rfl rfl <| .nil <| .again <| .seq <| .region <| .e (.lss rfl rfl) rfl rfl ?_
                  refine .nil <| .go <| .seq <| .cond_false rfl <| .exit <| .exit ?_
                  refine .exit <| .blk_exit <| .go <| .seq <| .region <| .e (.move rfl) rfl rfl ?_
                  refine .e (.assign rfl) rfl rfl <| .e (.assign rfl) rfl rfl <| .nil <| .go <| .ret ?_
                  refine Post.retsE rfl (.tmp rfl (.tmp rfl .nil)) rfl (fun w h => h.tail.tail) ?_
                  refine pairV_eq ((scoreR_ok (or_zero (by omega) (by omega)) h23 hrm).trans ?_)
                  unfold fullS term
                  simp [z0, z1, z2]
              · skip
                replace h45_2 := of_decide_eq_false h45_2
                have z1 : l.node.has.b = 0 := by omega
                refine .cond_false rfl <| .skip <| .blk_normal <| .go <| .region <| .e (.add (c := 2) rfl rfl (by decide)) rfl rfl ?_
                refine .e (.move rfl) rfl rfl <| .nil <| .again <| .seq <| .region <| .e (.lss rfl rfl) rfl rfl ?_
                refine .nil <| .go <| .seq <| .cond_true rfl <| .skip <| .go ?_
                refine .seq <| .block <| .seq <| .region <| .e (.move rfl) rfl rfl <| .e (.index (j := 2) ar22 ag2 rfl rfl rfl (by first | decide | omega) rfl) rfl rfl ?_
                refine .e (.assign rfl) rfl rfl <| .e (.assign rfl) rfl rfl <| .nil <| .go <| .seq <| .region ?_
                refine .e (.move rfl) rfl rfl <| .e (.gtr rfl rfl) rfl rfl <| .nil <| .go ?_
                refine .split 45 rfl (fun h45_3 => ?_) (fun h45_3 => ?_)
                · skip
                  replace h45_3 := of_decide_eq_true h45_3
                  have z2 : ¬l.node.has.c = 0 := by omega
                  have q2 := quo_bd (h := l.node.has.c) (x := l.used.c + t.needs.c) (by omega) (by omega) (by omega)
                  refine .cond_true rfl ?_
                  refine .draw [(c2, _), (c1, _)] mixed (.cons .here (.cons (.there <| .here) .nil)) ?_
                  refine .t 0 rfl (.move rfl) rfl rfl (by kernel_rfl) <| .t 1 rfl (.move rfl) rfl rfl (by kernel_rfl) <| .t 2 rfl (.fieldAddr fo29_1 rfl) rfl rfl (by kernel_rfl) <| .t 3 rfl (.indexAddrA (j := 2) ar22 rfl rfl rfl (by first | decide | omega)) rfl rfl (by kernel_rfl) <| .t 4 rfl (.load ag2 rfl .here rfl) rfl rfl (by kernel_rfl) <| .t 5 rfl (.move rfl) rfl rfl (by kernel_rfl) ?_
                  refine .t 6 rfl (.fieldAddr fo25_1 rfl) rfl rfl (by kernel_rfl) <| .t 7 rfl (.indexAddrA (j := 2) ar22 rfl rfl rfl (by first | decide | omega)) rfl rfl (by kernel_rfl) <| .t 8 rfl (.load ag2 rfl (.there <| .here) rfl) rfl rfl (by kernel_rfl) <| .t 9 rfl (.add rfl rfl (IntWalk.i64_in _ (by omega))) rfl rfl (by kernel_rfl) <| .t 10 rfl (.mul rfl rfl (IntWalk.i64_in _ (by omega))) rfl rfl (by kernel_rfl) <| .t 11 rfl (.move rfl) rfl rfl (by kernel_rfl) ?_
                  refine .t 12 rfl (.quo rfl rfl (by omega) (quo_wrap (by omega) (by omega) (by omega))) rfl rfl (by kernel_rfl) <| .t 13 rfl (.add rfl rfl (add_in (by first | decide | omega) (by first | decide | omega) (quo_bd (by omega) (by omega) (by omega)))) rfl rfl (by kernel_rfl) <| .t 14 rfl (.assign rfl) rfl rfl (by kernel_rfl) <| .done (by kernel_rfl) <| .blk_normal <| .go ?_
                  refine .region <| .e (.add (c := 3) rfl rfl (by decide)) rfl rfl <| .e (.move rfl) rfl rfl <| .nil <| .again <| .seq ?_
                  refine .region <| .e (.lss rfl rfl) rfl rfl <| .nil <| .go <| .seq <| .cond_false rfl ?_
                  refine .exit <| .exit <| .exit <| .blk_exit <| .go <| .seq ?_
                  refine .region <| .e (.move rfl) rfl rfl <| .e (.assign rfl) rfl rfl <| .e (.assign rfl) rfl rfl <| .nil <| .go ?_
                  refine .ret ?_
                  refine Post.retsE rfl (.tmp rfl (.tmp rfl .nil)) rfl (fun w h => h.tail.tail) ?_
                  refine pairV_eq ((scoreR_ok (or_zero (by omega) (by omega)) h23 hrm).trans ?_)
                  unfold fullS term
                  simp [z0, z1, z2]
                · skip
                  replace h45_3 := of_decide_eq_false h45_3
                  have z2 : l.node.has.c = 0 := by omega
                  refine .cond_false rfl <| .skip <| .blk_normal <| .go <| .region <| .e (.add (c := 3) rfl rfl (by decide)) rfl rfl ?_
                  refine .e (.move rfl) rfl rfl <| .nil <| .again <| .seq <| .region <| .e (.lss rfl rfl) rfl rfl ?_
                  refine .nil <| .go <| .seq <| .cond_false rfl <| .exit <| .exit ?_
                  refine .exit <| .blk_exit <| .go <| .seq <| .region <| .e (.move rfl) rfl rfl ?_
                  refine .e (.assign rfl) rfl rfl <| .e (.assign rfl) rfl rfl <| .nil <| .go <| .ret ?_
                  refine Post.retsE rfl (.tmp rfl (.tmp rfl .nil)) rfl (fun w h => h.tail.tail) ?_
                  refine pairV_eq ((scoreR_ok (or_zero (by omega) (by omega)) h23 hrm).trans ?_)
                  unfold fullS term
                  simp [z0, z1, z2]
            · skip
              replace h45 := of_decide_eq_false h45
              have z0 : l.node.has.a = 0 := by omega
              refine .cond_false rfl <| .skip <| .blk_normal <| .go <| .region <| .e (.add (c := 1) rfl rfl (by decide)) rfl rfl ?_
              refine .e (.move rfl) rfl rfl <| .nil <| .again <| .seq <| .region <| .e (.lss rfl rfl) rfl rfl ?_
              refine .nil <| .go <| .seq <| .cond_true rfl <| .skip <| .go ?_
              refine .seq <| .block <| .seq <| .region <| .e (.move rfl) rfl rfl <| .e (.index (j := 1) ar22 ag2 rfl rfl rfl (by first | decide | omega) rfl) rfl rfl ?_
              refine .e (.assign rfl) rfl rfl <| .e (.assign rfl) rfl rfl <| .nil <| .go <| .seq <| .region ?_
              refine .e (.move rfl) rfl rfl <| .e (.gtr rfl rfl) rfl rfl <| .nil <| .go ?_
              refine .split 45 rfl (fun h45_2 => ?_) (fun h45_2 => ?_)
              · skip
                replace h45_2 := of_decide_eq_true h45_2
                have z1 : ¬l.node.has.b = 0 := by omega
                have q1 := quo_bd (h := l.node.has.b) (x := l.used.b + t.needs.b) (by omega) (by omega) (by omega)
                refine .cond_true rfl ?_
                refine .draw [(c2, _), (c1, _)] mixed (.cons .here (.cons (.there <| .here) .nil)) ?_
                refine .t 0 rfl (.move rfl) rfl rfl (by kernel_rfl) <| .t 1 rfl (.move rfl) rfl rfl (by kernel_rfl) <| .t 2 rfl (.fieldAddr fo29_1 rfl) rfl rfl (by kernel_rfl) <| .t 3 rfl (.indexAddrA (j := 1) ar22 rfl rfl rfl (by first | decide | omega)) rfl rfl (by kernel_rfl) <| .t 4 rfl (.load ag2 rfl .here rfl) rfl rfl (by kernel_rfl) <| .t 5 rfl (.move rfl) rfl rfl (by kernel_rfl) ?_
                refine .t 6 rfl (.fieldAddr fo25_1 rfl) rfl rfl (by kernel_rfl) <| .t 7 rfl (.indexAddrA (j := 1) ar22 rfl rfl rfl (by first | decide | omega)) rfl rfl (by kernel_rfl) <| .t 8 rfl (.load ag2 rfl (.there <| .here) rfl) rfl rfl (by kernel_rfl) <| .t 9 rfl (.add rfl rfl (IntWalk.i64_in _ (by omega))) rfl rfl (by kernel_rfl) <| .t 10 rfl (.mul rfl rfl (IntWalk.i64_in _ (by omega))) rfl rfl (by kernel_rfl) <| .t 11 rfl (.move rfl) rfl rfl (by kernel_rfl) ?_
                refine .t 12 rfl (.quo rfl rfl (by omega) (quo_wrap (by omega) (by omega) (by omega))) rfl rfl (by kernel_rfl) <| .t 13 rfl (.add rfl rfl (add_in (by first | decide | omega) (by first | decide | omega) (quo_bd (by omega) (by omega) (by omega)))) rfl rfl (by kernel_rfl) <| .t 14 rfl (.assign rfl) rfl rfl (by kernel_rfl) <| .done (by kernel_rfl) <| .blk_normal <| .go ?_
                refine .region <| .e (.add (c := 2) rfl rfl (by decide)) rfl rfl <| .e (.move rfl) rfl rfl <| .nil <| .again <| .seq ?_
                refine .region <| .e (.lss rfl rfl) rfl rfl <| .nil <| .go <| .seq <| .cond_true rfl ?_
                refine .skip <| .go <| .seq <| .block <| .seq <| .region ?_
                refine .e (.move rfl) rfl rfl <| .e (.index (j := 2) ar22 ag2 rfl rfl rfl (by first | decide | omega) rfl) rfl rfl <| .e (.assign rfl) rfl rfl <| .e (.assign rfl) rfl rfl <| .nil <| .go ?_
                refine .seq <| .region <| .e (.move rfl) rfl rfl <| .e (.gtr rfl rfl) rfl rfl <| .nil <| .go ?_
                refine .split 45 rfl (fun h45_3 => ?_) (fun h45_3 => ?_)
                · skip
                  replace h45_3 := of_decide_eq_true h45_3
                  have z2 : ¬l.node.has.c = 0 := by omega
                  have q2 := quo_bd (h := l.node.has.c) (x := l.used.c + t.needs.c) (by omega) (by omega) (by omega)
                  refine .cond_true rfl ?_
                  refine .draw [(c2, _), (c1, _)] mixed (.cons .here (.cons (.there <| .here) .nil)) ?_
                  refine .t 0 rfl (.move rfl) rfl rfl (by kernel_rfl) <| .t 1 rfl (.move rfl) rfl rfl (by kernel_rfl) <| .t 2 rfl (.fieldAddr fo29_1 rfl) rfl rfl (by kernel_rfl) <| .t 3 rfl (.indexAddrA (j := 2) ar22 rfl rfl rfl (by first | decide | omega)) rfl rfl (by kernel_rfl) <| .t 4 rfl (.load ag2 rfl .here rfl) rfl rfl (by kernel_rfl) <| .t 5 rfl (.move rfl) rfl rfl (by kernel_rfl) ?_
                  refine .t 6 rfl (.fieldAddr fo25_1 rfl) rfl rfl (by kernel_rfl) <| .t 7 rfl (.indexAddrA (j := 2) ar22 rfl rfl rfl (by first | decide | omega)) rfl rfl (by kernel_rfl) <| .t 8 rfl (.load ag2 rfl (.there <| .here) rfl) rfl rfl (by kernel_rfl) <| .t 9 rfl (.add rfl rfl (IntWalk.i64_in _ (by omega))) rfl rfl (by kernel_rfl) <| .t 10 rfl (.mul rfl rfl (IntWalk.i64_in _ (by omega))) rfl rfl (by kernel_rfl) <| .t 11 rfl (.move rfl) rfl rfl (by kernel_rfl) ?_
                  refine .t 12 rfl (.quo rfl rfl (by omega) (quo_wrap (by omega) (by omega) (by omega))) rfl rfl (by kernel_rfl) <| .t 13 rfl (.add rfl rfl (add_in (by first | decide | omega) (by first | decide | omega) (quo_bd (by omega) (by omega) (by omega)))) rfl rfl (by kernel_rfl) <| .t 14 rfl (.assign rfl) rfl rfl (by kernel_rfl) <| .done (by kernel_rfl) <| .blk_normal <| .go ?_
                  refine .region <| .e (.add (c := 3) rfl rfl (by decide)) rfl rfl <| .e (.move rfl) rfl rfl <| .nil <| .again <| .seq ?_
                  refine .region <| .e (.lss rfl rfl) rfl rfl <| .nil <| .go <| .seq <| .cond_false rfl ?_
                  refine .exit <| .exit <| .exit <| .blk_exit <| .go <| .seq ?_
                  refine .region <| .e (.move rfl) rfl rfl <| .e (.assign rfl) rfl rfl <| .e (.assign rfl) rfl rfl <| .nil <| .go ?_
                  refine .ret ?_
                  refine Post.retsE rfl (.tmp rfl (.tmp rfl .nil)) rfl (fun w h => h.tail.tail) ?_
                  refine pairV_eq ((scoreR_ok (or_zero (by omega) (by omega)) h23 hrm).trans ?_)
                  unfold fullS term
                  simp [z0, z1, z2]
                · skip
                  replace h45_3 := of_decide_eq_false h45_3
                  have z2 : l.node.has.c = 0 := by omega
                  refine .cond_false rfl <| .skip <| .blk_normal <| .go <| .region <| .e (.add (c := 3) rfl rfl (by decide)) rfl rfl ?_
                  refine .e (.move rfl) rfl rfl <| .nil <| .again <| .seq <| .region <| .e (.lss rfl rfl) rfl rfl ?_
                  refine .nil <| .go <| .seq <| .cond_false rfl <| .exit <| .exit ?_
                  refine .exit <| .blk_exit <| .go <| .seq <| .region <| .e (.move rfl) rfl rfl ?_
                  refine .e (.assign rfl) rfl rfl <| .e (.assign rfl) rfl rfl <| .nil <| .go <| .ret ?_
                  refine Post.retsE rfl (.tmp rfl (.tmp rfl .nil)) rfl (fun w h => h.tail.tail) ?_
                  refine pairV_eq ((scoreR_ok (or_zero (by omega) (by omega)) h23 hrm).trans ?_)
                  unfold fullS term
                  simp [z0, z1, z2]
              · skip
                replace h45_2 := of_decide_eq_false h45_2
                have z1 : l.node.has.b = 0 := by omega
                refine .cond_false rfl <| .skip <| .blk_normal <| .go <| .region <| .e (.add (c := 2) rfl rfl (by decide)) rfl rfl ?_
                refine .e (.move rfl) rfl rfl <| .nil <| .again <| .seq <| .region <| .e (.lss rfl rfl) rfl rfl ?_
                refine .nil <| .go <| .seq <| .cond_true rfl <| .skip <| .go ?_
                refine .seq <| .block <| .seq <| .region <| .e (.move rfl) rfl rfl <| .e (.index (j := 2) ar22 ag2 rfl rfl rfl (by first | decide | omega) rfl) rfl rfl ?_
                refine .e (.assign rfl) rfl rfl <| .e (.assign rfl) rfl rfl <| .nil <| .go <| .seq <| .region ?_
                refine .e (.move rfl) rfl rfl <| .e (.gtr rfl rfl) rfl rfl <| .nil <| .go ?_
                refine .split 45 rfl (fun h45_3 => ?_) (fun h45_3 => ?_)
                · skip
                  replace h45_3 := of_decide_eq_true h45_3
                  have z2 : ¬l.node.has.c = 0 := by omega
                  have q2 := quo_bd (h := l.node.has.c) (x := l.used.c + t.needs.c) (by omega) (by omega) (by omega)
                  refine .cond_true rfl ?_
                  refine .draw [(c2, _), (c1, _)] mixed (.cons .here (.cons (.there <| .here) .nil)) ?_
                  refine .t 0 rfl (.move rfl) rfl rfl (by kernel_rfl) <| .t 1 rfl (.move rfl) rfl rfl (by kernel_rfl) <| .t 2 rfl (.fieldAddr fo29_1 rfl) rfl rfl (by kernel_rfl) <| .t 3 rfl (.indexAddrA (j := 2) ar22 rfl rfl rfl (by first | decide | omega)) rfl rfl (by kernel_rfl) <| .t 4 rfl (.load ag2 rfl .here rfl) rfl rfl (by kernel_rfl) <| .t 5 rfl (.move rfl) rfl rfl (by kernel_rfl) ?_
                  refine .t 6 rfl (.fieldAddr fo25_1 rfl) rfl rfl (by kernel_rfl) <| .t 7 rfl (.indexAddrA (j := 2) ar22 rfl rfl rfl (by first | decide | omega)) rfl rfl (by kernel_rfl) <| .t 8 rfl (.load ag2 rfl (.there <| .here) rfl) rfl rfl (by kernel_rfl) <| .t 9 rfl (.add rfl rfl (IntWalk.i64_in _ (by omega))) rfl rfl (by kernel_rfl) <| .t 10 rfl (.mul rfl rfl (IntWalk.i64_in _ (by omega))) rfl rfl (by kernel_rfl) <| .t 11 rfl (.move rfl) rfl rfl (by kernel_rfl) ?_
                  refine .t 12 rfl (.quo rfl rfl (by omega) (quo_wrap (by omega) (by omega) (by omega))) rfl rfl (by kernel_rfl) <| .t 13 rfl (.add rfl rfl (add_in (by first | decide | omega) (by first | decide | omega) (quo_bd (by omega) (by omega) (by omega)))) rfl rfl (by kernel_rfl) <| .t 14 rfl (.assign rfl) rfl rfl (by kernel_rfl) <| .done (by kernel_rfl) <| .blk_normal <| .go ?_
                  refine .region <| .e (.add (c := 3) rfl rfl (by decide)) rfl rfl <| .e (.move rfl) rfl rfl <| .nil <| .again <| .seq ?_
                  refine .region <| .e (.lss rfl rfl) rfl rfl <| .nil <| .go <| .seq <| .cond_false rfl ?_
                  refine .exit <| .exit <| .exit <| .blk_exit <| .go <| .seq ?_
                  refine .region <| .e (.move rfl) rfl rfl <| .e (.assign rfl) rfl rfl <| .e (.assign rfl) rfl rfl <| .nil <| .go ?_
                  refine .ret ?_
                  refine Post.retsE rfl (.tmp rfl (.tmp rfl .nil)) rfl (fun w h => h.tail.tail) ?_
                  refine pairV_eq ((scoreR_ok (or_zero (by omega) (by omega)) h23 hrm).trans ?_)
                  unfold fullS term
                  simp [z0, z1, z2]
                · skip
                  replace h45_3 := of_decide_eq_false h45_3
                  have z2 : l.node.has.c = 0 := by omega
                  refine .cond_false rfl <| .skip <| .blk_normal <| .go <| .region <| .e (.add (c := 3) rfl rfl (by decide)) rfl rfl ?_
                  refine .e (.move rfl) rfl rfl <| .nil <| .again <| .seq <| .region <| .e (.lss rfl rfl) rfl rfl ?_
                  refine .nil <| .go <| .seq <| .cond_false rfl <| .exit <| .exit ?_
                  refine .exit <| .blk_exit <| .go <| .seq <| .region <| .e (.move rfl) rfl rfl ?_
                  refine .e (.assign rfl) rfl rfl <| .e (.assign rfl) rfl rfl <| .nil <| .go <| .ret ?_
                  refine Post.retsE rfl (.tmp rfl (.tmp rfl .nil)) rfl (fun w h => h.tail.tail) ?_
                  refine pairV_eq ((scoreR_ok (or_zero (by omega) (by omega)) h23 hrm).trans ?_)
                  unfold fullS term
                  simp [z0, z1, z2]
      · skip
        refine .off rfl rfl <| .off rfl rfl <| .off rfl rfl <| .off rfl rfl <| .off rfl rfl <| .off rfl rfl ?_
        refine .off rfl rfl <| .e (.pickF rfl rfl) rfl rfl <| .e (.not rfl) rfl rfl <| .e (.pickT rfl rfl) rfl rfl <| .nil <| .go ?_
        refine .cond_true rfl <| .region <| .e (.assign rfl) rfl rfl <| .nil <| .go <| .seq ?_
        refine .seq <| .region <| .e (.move rfl) rfl rfl <| .e (.neq rfl rfl) rfl rfl <| .nil <| .go ?_
        refine .cond_true rfl <| .seq <| .region <| .e (.move rfl) rfl rfl <| .e (.assign rfl) rfl rfl <| .e (.assign rfl) rfl rfl ?_
        refine .nil <| .go <| .ret <| .ret ?_
        refine Post.retsE rfl (.tmp rfl (.tmp rfl .nil)) rfl (fun w h => h.tail.tail) ?_
        first | exact pairV_eq (scoreR_why (or_left (by omega)) (by omega)) | exact pairV_eq (scoreR_why (or_right (by omega)) (by omega)) | exact pairV_eq (scoreR_fit (or_zero (by omega) (by omega)) (by first | exact .inl (by simpa using h23) | exact .inr (by simp_all))) | (exfalso; omega)
    · skip
      replace h18 := of_decide_eq_false h18
      refine .off rfl rfl <| .off rfl rfl <| .off rfl rfl <| .off rfl rfl <| .off rfl rfl <| .off rfl rfl ?_
      refine .off rfl rfl <| .off rfl rfl <| .off rfl rfl <| .off rfl rfl <| .off rfl rfl <| .off rfl rfl ?_
      refine .off rfl rfl <| .off rfl rfl <| .e (.pickF rfl rfl) rfl rfl <| .nil <| .go <| .cond_false rfl ?_
      refine .skip <| .go <| .seq <| .seq <| .region <| .e (.move rfl) rfl rfl ?_
      refine .e (.neq rfl rfl) rfl rfl <| .nil <| .go ?_
      refine .split 35 rfl (fun h35 => ?_) (fun h35 => ?_)
      · skip
        first | replace h35 := of_decide_eq_false ((Bool.not_eq_true' _).mp h35) | replace h35 := of_decide_eq_false (by simpa using h35)
        refine .cond_true rfl <| .seq <| .region <| .e (.move rfl) rfl rfl <| .e (.assign rfl) rfl rfl <| .e (.assign rfl) rfl rfl ?_
        refine .nil <| .go <| .ret <| .ret ?_
        refine Post.retsE rfl (.tmp rfl (.tmp rfl .nil)) rfl (fun w h => h.tail.tail) ?_
        first | exact pairV_eq (scoreR_why (or_left (by omega)) (by omega)) | exact pairV_eq (scoreR_why (or_right (by omega)) (by omega)) | exact pairV_eq (scoreR_fit (or_zero (by omega) (by omega)) (by first | exact .inl (by simpa using h23) | exact .inr (by simp_all))) | (exfalso; omega)
      · skip
        first | replace h35 := of_decide_eq_true ((Bool.not_eq_false' _).mp h35) | replace h35 := of_decide_eq_true (by simpa using h35)
        exfalso; omega

end Go.Proofs.YtdcblbcidjldmaaDoor
