/- Walks of functions over a symbolic memory, printed by a program of the session. -/
import Derived.Test.YtmmokaockpghaaaGreatDoorBp
import Derived.Test.YtmmokaockpghaaaGreatDoorFact3
namespace Go.Proofs.YtmmokaockpghaaaGreatDoor
open Go.Sy
set_option linter.unusedSimpArgs false
set_option linter.unusedVariables false

theorem lodNode {I : Imm} {cs : List Value} {l : Lod} {lv tv : Value} (h : LodR I cs l) (h1 : PrsR I lv l.node.labels) (h2 : PrsR I tv l.node.taints) : NodR I (l.node.cells lv tv) l.node := ⟨⟨_, _, rfl, h1, h2⟩, h.name, h.has⟩
def orI (x y : Int) : Int := if x ≠ 0 then x else y
def cmpI (x y : Int) : Int := if x < y then -1 else if y < x then 1 else 0
def usedOk (l : Lod) : Bool := decide ((0 ≤ l.used.a ∧ l.used.a ≤ l.node.has.a) ∧ (0 ≤ l.used.b ∧ l.used.b ≤ l.node.has.b) ∧ (0 ≤ l.used.c ∧ l.used.c ≤ l.node.has.c))
def lodWhy (l : Lod) : Int := if nodWhy l.node ≠ 0 then nodWhy l.node else if usedOk l = false then 1 else 0
theorem lodWhy_node {l : Lod} (h : ¬nodWhy l.node = 0) : nodWhy l.node = lodWhy l := by unfold lodWhy; rw [if_pos h]
theorem lodWhy_bad {l : Lod} (h : nodWhy l.node = 0) (h2 : ¬((0 ≤ l.used.a ∧ l.used.a ≤ l.node.has.a) ∧ (0 ≤ l.used.b ∧ l.used.b ≤ l.node.has.b) ∧ (0 ≤ l.used.c ∧ l.used.c ≤ l.node.has.c))) : 1 = lodWhy l := by
  unfold lodWhy; rw [if_neg (by simp [h]), if_pos (show usedOk l = false from decide_eq_false h2)]
theorem lodWhy_ok {l : Lod} (h : nodWhy l.node = 0) (h2 : (0 ≤ l.used.a ∧ l.used.a ≤ l.node.has.a) ∧ (0 ≤ l.used.b ∧ l.used.b ≤ l.node.has.b) ∧ (0 ≤ l.used.c ∧ l.used.c ≤ l.node.has.c)) : 0 = lodWhy l := by
  unfold lodWhy; rw [if_neg (by simp [h]), if_neg (by rw [show usedOk l = true from decide_eq_true h2]; decide)]
theorem lodWhy_ok' {l : Lod} (h : nodWhy l.node = 0) (h2 : (0 ≤ l.used.a ∧ l.used.a ≤ l.node.has.a) ∧ (0 ≤ l.used.b ∧ l.used.b ≤ l.node.has.b) ∧ (0 ≤ l.used.c ∧ l.used.c ≤ l.node.has.c)) : nodWhy l.node = lodWhy l := h.trans (lodWhy_ok h h2)
def term (h u n : Int) : Int := if h = 0 then 0 else (1000 * (u + n)).tdiv h
def fullS (t : Tsk) (l : Lod) : Int := term l.node.has.a l.used.a t.needs.a + term l.node.has.b l.used.b t.needs.b + term l.node.has.c l.used.c t.needs.c
theorem quo_bd {h x : Int} (h0 : 0 < h) (h1 : 0 ≤ x) (h2 : x ≤ h) : 0 ≤ (1000 * x).tdiv h ∧ (1000 * x).tdiv h ≤ 1000 := by
  rw [Int.tdiv_eq_ediv_of_nonneg (by omega)]
  exact ⟨Int.ediv_nonneg (by omega) (by omega), Int.ediv_le_of_le_mul h0 (by omega)⟩
theorem quo_wrap {h x : Int} (h0 : 0 < h) (h1 : 0 ≤ x) (h2 : x ≤ h) : IntKind.i64.wrap ((1000 * x).tdiv h) = (1000 * x).tdiv h := by
  have := quo_bd h0 h1 h2
  exact IntWalk.i64_in _ (by omega)
theorem add_in {x y : Int} (h1 : 0 ≤ x) (h2 : x ≤ 2000) (h3 : 0 ≤ y ∧ y ≤ 1000) : IntKind.i64.wrap (x + y) = x + y := IntWalk.i64_in _ (by omega)
theorem room_out {n : Nod} {u d : A3} (h : room n u d = true) : n.has.amt 1 = true ∧ u.amt 32 = true ∧ d.amt 1 = true ∧ u.a + d.a ≤ n.has.a ∧ u.b + d.b ≤ n.has.b ∧ u.c + d.c ≤ n.has.c := by
  unfold room at h
  simp only [Bool.and_eq_true, decide_eq_true_eq] at h
  exact ⟨h.1.1.1, h.1.1.2, h.1.2, h.2⟩
def scoreR (t : Tsk) (l : Lod) : Int × Int := if orI (tskWhy t) (lodWhy l) ≠ 0 then (0, orI (tskWhy t) (lodWhy l)) else if (suits t l.node && room l.node l.used t.needs) = false then (0, 13) else (fullS t l, 0)
def pairV (p : Int × Int) : Value := .tuple ⟨[.int .i64 p.1, .int .i64 p.2]⟩
theorem pairV_eq {p : Int × Int} {a b : Int} (h : p = (a, b)) : Value.tuple ⟨[.int .i64 a, .int .i64 b]⟩ = pairV p := by subst h; rfl
theorem scoreR_why {t : Tsk} {l : Lod} {w : Int} (h : orI (tskWhy t) (lodWhy l) = w) (h0 : ¬w = 0) : scoreR t l = (0, w) := by subst h; unfold scoreR; rw [if_pos h0]
theorem scoreR_fit {t : Tsk} {l : Lod} (h : orI (tskWhy t) (lodWhy l) = 0) (h2 : suits t l.node = false ∨ room l.node l.used t.needs = false) : scoreR t l = (0, 13) := by
  unfold scoreR; rw [if_neg (by simp [h]), if_pos (by rcases h2 with h2 | h2 <;> simp [h2])]
theorem scoreR_ok {t : Tsk} {l : Lod} (h : orI (tskWhy t) (lodWhy l) = 0) (h1 : suits t l.node = true) (h2 : room l.node l.used t.needs = true) : scoreR t l = (fullS t l, 0) := by
  unfold scoreR; rw [if_neg (by simp [h]), if_neg (by simp [h1, h2])]
theorem or_zero {x y : Int} (h1 : x = 0) (h2 : y = 0) : orI x y = 0 := by simp [orI, h1, h2]
theorem or_left {x y : Int} (h1 : ¬x = 0) : orI x y = x := by simp [orI, h1]
theorem or_right {x y : Int} (h1 : x = 0) : orI x y = y := by simp [orI, h1]

set_option maxHeartbeats 1000000 in
set_option maxRecDepth 20000 in
theorem Check_ok {I : Imm} {O : Own} {lc : List Value} {l : Lod} (hl : LodR I lc l) :
    Pure Tryz.prog 89 [.agg ⟨lc⟩] I O (.int .i64 (lodWhy l)) := by
  have hl0 := hl
  obtain ⟨lv, tv, rfl, hlv, htv⟩ := hl.ex
  have hlv0 := hlv
  obtain ⟨lva, lvc, rfl, hlv1, hlv2, -⟩ := hlv
  have htv0 := htv
  obtain ⟨tva, tvc, rfl, htv1, htv2, -⟩ := htv
  have hnd := lodNode hl0 hlv0 htv0
  refine Go.Sy.Does.enter Tryz.func89 rfl Tryz.ntmps89 rfl ?_
  refine .seq <| .region <| .on rfl <| .box rfl rfl rfl fun c1 _ _ => .e (.assign rfl) rfl rfl <| .nil <| .go ?_
  refine .seq <| .seq <| .region <| .e (.fieldAddr fo47_0 rfl) rfl rfl <| .e (.loadP ag45 sz45 rfl .here rfl) rfl rfl <| .on rfl <| .callP cal63 rfl rfl rfl (CheckNode_ok hnd) ?_
  refine .e (.assign rfl) rfl rfl <| .nil <| .go <| .seq <| .region <| .e (.move rfl) rfl rfl ?_
  refine .e (.neq rfl rfl) rfl rfl <| .nil <| .go ?_
  refine .split 10 rfl (fun h10 => ?_) (fun h10 => ?_)
  · skip
    first | replace h10 := of_decide_eq_false ((Bool.not_eq_true' _).mp h10) | replace h10 := of_decide_eq_false (by simpa using h10)
    refine .cond_true rfl <| .seq <| .region <| .e (.move rfl) rfl rfl <| .e (.assign rfl) rfl rfl <| .nil ?_
    refine .go <| .ret <| .ret ?_
    refine .tail ?_
    refine Post.retE rfl rfl ?_
    exact congrArg (Value.int .i64) (lodWhy_node (by omega))
  · skip
    first | replace h10 := of_decide_eq_true ((Bool.not_eq_false' _).mp h10) | replace h10 := of_decide_eq_true (by simpa using h10)
    refine .cond_false rfl <| .skip <| .go <| .seq <| .seq <| .region ?_
    refine .e (.fieldAddr fo47_1 rfl) rfl rfl <| .e (.loadP ag39 sz39 rfl .here rfl) rfl rfl <| .e (.move rfl) rfl rfl <| .nil <| .go <| .block ?_
    refine .unroll 3 <| .seq <| .region <| .e (.lss rfl rfl) rfl rfl <| .nil <| .go ?_
    refine .seq <| .cond_true rfl <| .skip <| .go <| .seq <| .block ?_
    refine .seq <| .region <| .e (.move rfl) rfl rfl <| .e (.index (j := 0) ar39 ag2 rfl rfl rfl (by first | decide | omega) rfl) rfl rfl <| .e (.assign rfl) rfl rfl <| .e (.assign rfl) rfl rfl ?_
    refine .nil <| .go <| .seq <| .region <| .e (.move rfl) rfl rfl <| .e (.lss rfl rfl) rfl rfl ?_
    refine .e (.move rfl) rfl rfl ?_
    refine .split 20 rfl (fun h20 => ?_) (fun h20 => ?_)
    · skip
      replace h20 := of_decide_eq_true h20
      refine .off rfl rfl <| .off rfl rfl <| .off rfl rfl <| .off rfl rfl <| .off rfl rfl <| .off rfl rfl ?_
      refine .off rfl rfl <| .e (.pickT rfl rfl) rfl rfl <| .nil <| .go <| .cond_true rfl <| .seq ?_
      refine .region <| .e (.assign rfl) rfl rfl <| .nil <| .go <| .ret <| .blk_ret ?_
      refine .ret <| .ret <| .blk_ret <| .ret ?_
      refine .tail ?_
      refine Post.retE rfl rfl ?_
      first | exact congrArg (Value.int .i64) (lodWhy_ok (by omega) (by omega)) | exact congrArg (Value.int .i64) (lodWhy_bad (by omega) (by omega))
    · skip
      replace h20 := of_decide_eq_false h20
      refine .e (.move rfl) rfl rfl <| .e (.move rfl) rfl rfl <| .e (.fieldAddr fo47_0 rfl) rfl rfl <| .e (.fieldAddr fo45_1 rfl) rfl rfl <| .e (.indexAddrA (j := 0) ar39 rfl rfl rfl (by first | decide | omega)) rfl rfl <| .e (.load ag2 rfl .here rfl) rfl rfl ?_
      refine .e (.gtr rfl rfl) rfl rfl <| .e (.pickF rfl rfl) rfl rfl <| .nil <| .go ?_
      refine .split 28 rfl (fun h28 => ?_) (fun h28 => ?_)
      · skip
        replace h28 := of_decide_eq_true h28
        refine .cond_true rfl <| .seq <| .region <| .e (.assign rfl) rfl rfl <| .nil <| .go ?_
        refine .ret <| .blk_ret <| .ret <| .ret <| .blk_ret <| .ret ?_
        refine .tail ?_
        refine Post.retE rfl rfl ?_
        first | exact congrArg (Value.int .i64) (lodWhy_ok (by omega) (by omega)) | exact congrArg (Value.int .i64) (lodWhy_bad (by omega) (by omega))
      · skip
        replace h28 := of_decide_eq_false h28
        refine .cond_false rfl <| .skip <| .blk_normal <| .go <| .region <| .e (.add (c := 1) rfl rfl (by decide)) rfl rfl ?_
        refine .e (.move rfl) rfl rfl <| .nil <| .again <| .seq <| .region <| .e (.lss rfl rfl) rfl rfl ?_
        refine .nil <| .go <| .seq <| .cond_true rfl <| .skip <| .go ?_
        refine .seq <| .block <| .seq <| .region <| .e (.move rfl) rfl rfl <| .e (.index (j := 1) ar39 ag2 rfl rfl rfl (by first | decide | omega) rfl) rfl rfl ?_
        refine .e (.assign rfl) rfl rfl <| .e (.assign rfl) rfl rfl <| .nil <| .go <| .seq <| .region ?_
        refine .e (.move rfl) rfl rfl <| .e (.lss rfl rfl) rfl rfl <| .e (.move rfl) rfl rfl ?_
        refine .split 20 rfl (fun h20_2 => ?_) (fun h20_2 => ?_)
        · skip
          replace h20_2 := of_decide_eq_true h20_2
          refine .off rfl rfl <| .off rfl rfl <| .off rfl rfl <| .off rfl rfl <| .off rfl rfl <| .off rfl rfl ?_
          refine .off rfl rfl <| .e (.pickT rfl rfl) rfl rfl <| .nil <| .go <| .cond_true rfl <| .seq ?_
          refine .region <| .e (.assign rfl) rfl rfl <| .nil <| .go <| .ret <| .blk_ret ?_
          refine .ret <| .ret <| .blk_ret <| .ret ?_
          refine .tail ?_
          refine Post.retE rfl rfl ?_
          first | exact congrArg (Value.int .i64) (lodWhy_ok (by omega) (by omega)) | exact congrArg (Value.int .i64) (lodWhy_bad (by omega) (by omega))
        · skip
          replace h20_2 := of_decide_eq_false h20_2
          refine .e (.move rfl) rfl rfl <| .e (.move rfl) rfl rfl <| .e (.fieldAddr fo47_0 rfl) rfl rfl <| .e (.fieldAddr fo45_1 rfl) rfl rfl <| .e (.indexAddrA (j := 1) ar39 rfl rfl rfl (by first | decide | omega)) rfl rfl <| .e (.load ag2 rfl .here rfl) rfl rfl ?_
          refine .e (.gtr rfl rfl) rfl rfl <| .e (.pickF rfl rfl) rfl rfl <| .nil <| .go ?_
          refine .split 28 rfl (fun h28_2 => ?_) (fun h28_2 => ?_)
          · skip
            replace h28_2 := of_decide_eq_true h28_2
            refine .cond_true rfl <| .seq <| .region <| .e (.assign rfl) rfl rfl <| .nil <| .go ?_
            refine .ret <| .blk_ret <| .ret <| .ret <| .blk_ret <| .ret ?_
            refine .tail ?_
            refine Post.retE rfl rfl ?_
            first | exact congrArg (Value.int .i64) (lodWhy_ok (by omega) (by omega)) | exact congrArg (Value.int .i64) (lodWhy_bad (by omega) (by omega))
          · skip
            replace h28_2 := of_decide_eq_false h28_2
            refine .cond_false rfl <| .skip <| .blk_normal <| .go <| .region <| .e (.add (c := 2) rfl rfl (by decide)) rfl rfl ?_
            refine .e (.move rfl) rfl rfl <| .nil <| .again <| .seq <| .region <| .e (.lss rfl rfl) rfl rfl ?_
            refine .nil <| .go <| .seq <| .cond_true rfl <| .skip <| .go ?_
            refine .seq <| .block <| .seq <| .region <| .e (.move rfl) rfl rfl <| .e (.index (j := 2) ar39 ag2 rfl rfl rfl (by first | decide | omega) rfl) rfl rfl ?_
            refine .e (.assign rfl) rfl rfl <| .e (.assign rfl) rfl rfl <| .nil <| .go <| .seq <| .region ?_
            refine .e (.move rfl) rfl rfl <| .e (.lss rfl rfl) rfl rfl <| .e (.move rfl) rfl rfl ?_
            refine .split 20 rfl (fun h20_3 => ?_) (fun h20_3 => ?_)
            · skip
              replace h20_3 := of_decide_eq_true h20_3
              refine .off rfl rfl <| .off rfl rfl <| .off rfl rfl <| .off rfl rfl <| .off rfl rfl <| .off rfl rfl ?_
              refine .off rfl rfl <| .e (.pickT rfl rfl) rfl rfl <| .nil <| .go <| .cond_true rfl <| .seq ?_
              refine .region <| .e (.assign rfl) rfl rfl <| .nil <| .go <| .ret <| .blk_ret ?_
              refine .ret <| .ret <| .blk_ret <| .ret ?_
              refine .tail ?_
              refine Post.retE rfl rfl ?_
              first | exact congrArg (Value.int .i64) (lodWhy_ok (by omega) (by omega)) | exact congrArg (Value.int .i64) (lodWhy_bad (by omega) (by omega))
            · skip
              replace h20_3 := of_decide_eq_false h20_3
              refine .e (.move rfl) rfl rfl <| .e (.move rfl) rfl rfl <| .e (.fieldAddr fo47_0 rfl) rfl rfl <| .e (.fieldAddr fo45_1 rfl) rfl rfl <| .e (.indexAddrA (j := 2) ar39 rfl rfl rfl (by first | decide | omega)) rfl rfl <| .e (.load ag2 rfl .here rfl) rfl rfl ?_
              refine .e (.gtr rfl rfl) rfl rfl <| .e (.pickF rfl rfl) rfl rfl <| .nil <| .go ?_
              refine .split 28 rfl (fun h28_3 => ?_) (fun h28_3 => ?_)
              · skip
                replace h28_3 := of_decide_eq_true h28_3
                refine .cond_true rfl <| .seq <| .region <| .e (.assign rfl) rfl rfl <| .nil <| .go ?_
                refine .ret <| .blk_ret <| .ret <| .ret <| .blk_ret <| .ret ?_
                refine .tail ?_
                refine Post.retE rfl rfl ?_
                first | exact congrArg (Value.int .i64) (lodWhy_ok (by omega) (by omega)) | exact congrArg (Value.int .i64) (lodWhy_bad (by omega) (by omega))
              · skip
                replace h28_3 := of_decide_eq_false h28_3
                refine .cond_false rfl <| .skip <| .blk_normal <| .go <| .region <| .e (.add (c := 3) rfl rfl (by decide)) rfl rfl ?_
                refine .e (.move rfl) rfl rfl <| .nil <| .again <| .seq <| .region <| .e (.lss rfl rfl) rfl rfl ?_
                refine .nil <| .go <| .seq <| .cond_false rfl <| .exit <| .exit ?_
                refine .exit <| .blk_exit <| .go <| .seq <| .region <| .e (.assign rfl) rfl rfl ?_
                refine .nil <| .go <| .ret ?_
                refine .tail ?_
                refine Post.retE rfl rfl ?_
                first | exact congrArg (Value.int .i64) (lodWhy_ok (by omega) (by omega)) | exact congrArg (Value.int .i64) (lodWhy_bad (by omega) (by omega))

set_option maxHeartbeats 1000000 in
set_option maxRecDepth 20000 in
theorem rCheck_ok {I : Imm} {O : Own} {lc : List Value} {l : Lod} (hl : LodR I lc l) :
    Pure Tryz.prog 179 [.agg ⟨lc⟩] I O (.int .i64 (lodWhy l)) := by
  have hl0 := hl
  obtain ⟨lv, tv, rfl, hlv, htv⟩ := hl.ex
  have hlv0 := hlv
  obtain ⟨lva, lvc, rfl, hlv1, hlv2, -⟩ := hlv
  have htv0 := htv
  obtain ⟨tva, tvc, rfl, htv1, htv2, -⟩ := htv
  have hnd := lodNode hl0 hlv0 htv0
  refine Go.Sy.Does.enter Tryz.func179 rfl Tryz.ntmps179 rfl ?_
  refine .seq <| .region <| .on rfl <| .box rfl rfl rfl fun c1 _ _ => .e (.assign rfl) rfl rfl <| .nil <| .go ?_
  refine .seq <| .region <| .e (.fieldAddr fo47_0 rfl) rfl rfl <| .e (.loadP ag45 sz45 rfl .here rfl) rfl rfl <| .on rfl <| .callP cal156 rfl rfl rfl (rCheckNode_ok hnd) <| .e (.assign rfl) rfl rfl ?_
  refine .nil <| .go <| .seq <| .seq <| .region <| .e (.fieldAddr fo47_1 rfl) rfl rfl ?_
  refine .e (.loadP ag39 sz39 rfl .here rfl) rfl rfl <| .e (.move rfl) rfl rfl <| .nil <| .go <| .block <| .unroll 3 ?_
  refine .seq <| .region <| .e (.lss rfl rfl) rfl rfl <| .nil <| .go <| .seq ?_
  refine .cond_true rfl <| .skip <| .go <| .seq <| .block <| .seq ?_
  refine .region <| .e (.move rfl) rfl rfl <| .e (.index (j := 0) ar39 ag2 rfl rfl rfl (by first | decide | omega) rfl) rfl rfl <| .e (.assign rfl) rfl rfl <| .e (.assign rfl) rfl rfl <| .nil ?_
  refine .go <| .seq <| .region <| .e (.move rfl) rfl rfl <| .e (.eql rfl rfl) rfl rfl <| .e (.move rfl) rfl rfl ?_
  refine .split 17 rfl (fun h17 => ?_) (fun h17 => ?_)
  · skip
    replace h17 := of_decide_eq_true h17
    refine .e (.move rfl) rfl rfl <| .e (.lss rfl rfl) rfl rfl <| .e (.move rfl) rfl rfl ?_
    refine .split 20 rfl (fun h20 => ?_) (fun h20 => ?_)
    · skip
      replace h20 := of_decide_eq_true h20
      refine .off rfl rfl <| .off rfl rfl <| .off rfl rfl <| .off rfl rfl <| .off rfl rfl <| .off rfl rfl ?_
      refine .off rfl rfl <| .e (.pickT rfl rfl) rfl rfl <| .e (.pickT rfl rfl) rfl rfl <| .nil <| .go <| .cond_true rfl ?_
      refine .region <| .e (.assign rfl) rfl rfl <| .nil <| .blk_normal <| .go <| .region ?_
      refine .e (.add (c := 1) rfl rfl (by decide)) rfl rfl <| .e (.move rfl) rfl rfl <| .nil <| .again <| .seq <| .region ?_
      refine .e (.lss rfl rfl) rfl rfl <| .nil <| .go <| .seq <| .cond_true rfl <| .skip ?_
      refine .go <| .seq <| .block <| .seq <| .region <| .e (.move rfl) rfl rfl ?_
      refine .e (.index (j := 1) ar39 ag2 rfl rfl rfl (by first | decide | omega) rfl) rfl rfl <| .e (.assign rfl) rfl rfl <| .e (.assign rfl) rfl rfl <| .nil <| .go <| .seq ?_
      refine .region <| .e (.move rfl) rfl rfl <| .e (.eql rfl rfl) rfl rfl <| .e (.move rfl) rfl rfl <| .off rfl rfl <| .off rfl rfl ?_
      refine .off rfl rfl <| .off rfl rfl <| .off rfl rfl <| .off rfl rfl <| .off rfl rfl <| .off rfl rfl ?_
      refine .off rfl rfl <| .off rfl rfl <| .off rfl rfl <| .e (.pickF rfl rfl) rfl rfl <| .nil <| .go ?_
      refine .cond_false rfl <| .skip <| .blk_normal <| .go <| .region <| .e (.add (c := 2) rfl rfl (by decide)) rfl rfl ?_
      refine .e (.move rfl) rfl rfl <| .nil <| .again <| .seq <| .region <| .e (.lss rfl rfl) rfl rfl ?_
      refine .nil <| .go <| .seq <| .cond_true rfl <| .skip <| .go ?_
      refine .seq <| .block <| .seq <| .region <| .e (.move rfl) rfl rfl <| .e (.index (j := 2) ar39 ag2 rfl rfl rfl (by first | decide | omega) rfl) rfl rfl ?_
      refine .e (.assign rfl) rfl rfl <| .e (.assign rfl) rfl rfl <| .nil <| .go <| .seq <| .region ?_
      refine .e (.move rfl) rfl rfl <| .e (.eql rfl rfl) rfl rfl <| .e (.move rfl) rfl rfl <| .off rfl rfl <| .off rfl rfl <| .off rfl rfl ?_
      refine .off rfl rfl <| .off rfl rfl <| .off rfl rfl <| .off rfl rfl <| .off rfl rfl <| .off rfl rfl ?_
      refine .off rfl rfl <| .off rfl rfl <| .e (.pickF rfl rfl) rfl rfl <| .nil <| .go <| .cond_false rfl ?_
      refine .skip <| .blk_normal <| .go <| .region <| .e (.add (c := 3) rfl rfl (by decide)) rfl rfl <| .e (.move rfl) rfl rfl ?_
      refine .nil <| .again <| .seq <| .region <| .e (.lss rfl rfl) rfl rfl <| .nil ?_
      refine .go <| .seq <| .cond_false rfl <| .exit <| .exit <| .exit ?_
      refine .blk_exit <| .go <| .seq <| .region <| .e (.move rfl) rfl rfl <| .e (.assign rfl) rfl rfl ?_
      refine .nil <| .go <| .ret ?_
      refine .tail ?_
      refine Post.retE rfl rfl ?_
      first | exact congrArg (Value.int .i64) (lodWhy_node (by omega)) | exact congrArg (Value.int .i64) (lodWhy_ok (by omega) (by omega)) | exact congrArg (Value.int .i64) (lodWhy_bad (by omega) (by omega)) | exact congrArg (Value.int .i64) (lodWhy_ok' (by omega) (by omega)) | (exfalso; omega)
    · skip
      replace h20 := of_decide_eq_false h20
      refine .e (.move rfl) rfl rfl <| .e (.move rfl) rfl rfl <| .e (.fieldAddr fo47_0 rfl) rfl rfl <| .e (.fieldAddr fo45_1 rfl) rfl rfl <| .e (.indexAddrA (j := 0) ar39 rfl rfl rfl (by first | decide | omega)) rfl rfl <| .e (.load ag2 rfl .here rfl) rfl rfl ?_
      refine .e (.gtr rfl rfl) rfl rfl <| .e (.pickF rfl rfl) rfl rfl <| .e (.pickT rfl rfl) rfl rfl <| .nil <| .go ?_
      refine .split 29 rfl (fun h29 => ?_) (fun h29 => ?_)
      · skip
        replace h29 := of_decide_eq_true h29
        refine .cond_true rfl <| .region <| .e (.assign rfl) rfl rfl <| .nil <| .blk_normal <| .go ?_
        refine .region <| .e (.add (c := 1) rfl rfl (by decide)) rfl rfl <| .e (.move rfl) rfl rfl <| .nil <| .again <| .seq ?_
        refine .region <| .e (.lss rfl rfl) rfl rfl <| .nil <| .go <| .seq <| .cond_true rfl ?_
        refine .skip <| .go <| .seq <| .block <| .seq <| .region ?_
        refine .e (.move rfl) rfl rfl <| .e (.index (j := 1) ar39 ag2 rfl rfl rfl (by first | decide | omega) rfl) rfl rfl <| .e (.assign rfl) rfl rfl <| .e (.assign rfl) rfl rfl <| .nil <| .go ?_
        refine .seq <| .region <| .e (.move rfl) rfl rfl <| .e (.eql rfl rfl) rfl rfl <| .e (.move rfl) rfl rfl <| .off rfl rfl ?_
        refine .off rfl rfl <| .off rfl rfl <| .off rfl rfl <| .off rfl rfl <| .off rfl rfl <| .off rfl rfl ?_
        refine .off rfl rfl <| .off rfl rfl <| .off rfl rfl <| .off rfl rfl <| .e (.pickF rfl rfl) rfl rfl <| .nil ?_
        refine .go <| .cond_false rfl <| .skip <| .blk_normal <| .go <| .region ?_
        refine .e (.add (c := 2) rfl rfl (by decide)) rfl rfl <| .e (.move rfl) rfl rfl <| .nil <| .again <| .seq <| .region ?_
        refine .e (.lss rfl rfl) rfl rfl <| .nil <| .go <| .seq <| .cond_true rfl <| .skip ?_
        refine .go <| .seq <| .block <| .seq <| .region <| .e (.move rfl) rfl rfl ?_
        refine .e (.index (j := 2) ar39 ag2 rfl rfl rfl (by first | decide | omega) rfl) rfl rfl <| .e (.assign rfl) rfl rfl <| .e (.assign rfl) rfl rfl <| .nil <| .go <| .seq ?_
        refine .region <| .e (.move rfl) rfl rfl <| .e (.eql rfl rfl) rfl rfl <| .e (.move rfl) rfl rfl <| .off rfl rfl <| .off rfl rfl ?_
        refine .off rfl rfl <| .off rfl rfl <| .off rfl rfl <| .off rfl rfl <| .off rfl rfl <| .off rfl rfl ?_
        refine .off rfl rfl <| .off rfl rfl <| .off rfl rfl <| .e (.pickF rfl rfl) rfl rfl <| .nil <| .go ?_
        refine .cond_false rfl <| .skip <| .blk_normal <| .go <| .region <| .e (.add (c := 3) rfl rfl (by decide)) rfl rfl ?_
        refine .e (.move rfl) rfl rfl <| .nil <| .again <| .seq <| .region <| .e (.lss rfl rfl) rfl rfl ?_
        refine .nil <| .go <| .seq <| .cond_false rfl <| .exit <| .exit ?_
        refine .exit <| .blk_exit <| .go <| .seq <| .region <| .e (.move rfl) rfl rfl ?_
        refine .e (.assign rfl) rfl rfl <| .nil <| .go <| .ret ?_
        refine .tail ?_
        refine Post.retE rfl rfl ?_
        first | exact congrArg (Value.int .i64) (lodWhy_node (by omega)) | exact congrArg (Value.int .i64) (lodWhy_ok (by omega) (by omega)) | exact congrArg (Value.int .i64) (lodWhy_bad (by omega) (by omega)) | exact congrArg (Value.int .i64) (lodWhy_ok' (by omega) (by omega)) | (exfalso; omega)
      · skip
        replace h29 := of_decide_eq_false h29
        refine .cond_false rfl <| .skip <| .blk_normal <| .go <| .region <| .e (.add (c := 1) rfl rfl (by decide)) rfl rfl ?_
        refine .e (.move rfl) rfl rfl <| .nil <| .again <| .seq <| .region <| .e (.lss rfl rfl) rfl rfl ?_
        refine .nil <| .go <| .seq <| .cond_true rfl <| .skip <| .go ?_
        refine .seq <| .block <| .seq <| .region <| .e (.move rfl) rfl rfl <| .e (.index (j := 1) ar39 ag2 rfl rfl rfl (by first | decide | omega) rfl) rfl rfl ?_
        refine .e (.assign rfl) rfl rfl <| .e (.assign rfl) rfl rfl <| .nil <| .go <| .seq <| .region ?_
        refine .e (.move rfl) rfl rfl <| .e (.eql rfl rfl) rfl rfl <| .e (.move rfl) rfl rfl ?_
        refine .split 17 rfl (fun h17_2 => ?_) (fun h17_2 => ?_)
        · skip
          replace h17_2 := of_decide_eq_true h17_2
          refine .e (.move rfl) rfl rfl <| .e (.lss rfl rfl) rfl rfl <| .e (.move rfl) rfl rfl ?_
          refine .split 20 rfl (fun h20_2 => ?_) (fun h20_2 => ?_)
          · skip
            replace h20_2 := of_decide_eq_true h20_2
            refine .off rfl rfl <| .off rfl rfl <| .off rfl rfl <| .off rfl rfl <| .off rfl rfl <| .off rfl rfl ?_
            refine .off rfl rfl <| .e (.pickT rfl rfl) rfl rfl <| .e (.pickT rfl rfl) rfl rfl <| .nil <| .go <| .cond_true rfl ?_
            refine .region <| .e (.assign rfl) rfl rfl <| .nil <| .blk_normal <| .go <| .region ?_
            refine .e (.add (c := 2) rfl rfl (by decide)) rfl rfl <| .e (.move rfl) rfl rfl <| .nil <| .again <| .seq <| .region ?_
            refine .e (.lss rfl rfl) rfl rfl <| .nil <| .go <| .seq <| .cond_true rfl <| .skip ?_
            refine .go <| .seq <| .block <| .seq <| .region <| .e (.move rfl) rfl rfl ?_
            refine .e (.index (j := 2) ar39 ag2 rfl rfl rfl (by first | decide | omega) rfl) rfl rfl <| .e (.assign rfl) rfl rfl <| .e (.assign rfl) rfl rfl <| .nil <| .go <| .seq ?_
            refine .region <| .e (.move rfl) rfl rfl <| .e (.eql rfl rfl) rfl rfl <| .e (.move rfl) rfl rfl <| .off rfl rfl <| .off rfl rfl ?_
            refine .off rfl rfl <| .off rfl rfl <| .off rfl rfl <| .off rfl rfl <| .off rfl rfl <| .off rfl rfl ?_
            refine .off rfl rfl <| .off rfl rfl <| .off rfl rfl <| .e (.pickF rfl rfl) rfl rfl <| .nil <| .go ?_
            refine .cond_false rfl <| .skip <| .blk_normal <| .go <| .region <| .e (.add (c := 3) rfl rfl (by decide)) rfl rfl ?_
            refine .e (.move rfl) rfl rfl <| .nil <| .again <| .seq <| .region <| .e (.lss rfl rfl) rfl rfl ?_
            refine .nil <| .go <| .seq <| .cond_false rfl <| .exit <| .exit ?_
            refine .exit <| .blk_exit <| .go <| .seq <| .region <| .e (.move rfl) rfl rfl ?_
            refine .e (.assign rfl) rfl rfl <| .nil <| .go <| .ret ?_
            refine .tail ?_
            refine Post.retE rfl rfl ?_
            first | exact congrArg (Value.int .i64) (lodWhy_node (by omega)) | exact congrArg (Value.int .i64) (lodWhy_ok (by omega) (by omega)) | exact congrArg (Value.int .i64) (lodWhy_bad (by omega) (by omega)) | exact congrArg (Value.int .i64) (lodWhy_ok' (by omega) (by omega)) | (exfalso; omega)
          · skip
            replace h20_2 := of_decide_eq_false h20_2
            refine .e (.move rfl) rfl rfl <| .e (.move rfl) rfl rfl <| .e (.fieldAddr fo47_0 rfl) rfl rfl <| .e (.fieldAddr fo45_1 rfl) rfl rfl <| .e (.indexAddrA (j := 1) ar39 rfl rfl rfl (by first | decide | omega)) rfl rfl <| .e (.load ag2 rfl .here rfl) rfl rfl ?_
            refine .e (.gtr rfl rfl) rfl rfl <| .e (.pickF rfl rfl) rfl rfl <| .e (.pickT rfl rfl) rfl rfl <| .nil <| .go ?_
            refine .split 29 rfl (fun h29_2 => ?_) (fun h29_2 => ?_)
            · skip
              replace h29_2 := of_decide_eq_true h29_2
              refine .cond_true rfl <| .region <| .e (.assign rfl) rfl rfl <| .nil <| .blk_normal <| .go ?_
              refine .region <| .e (.add (c := 2) rfl rfl (by decide)) rfl rfl <| .e (.move rfl) rfl rfl <| .nil <| .again <| .seq ?_
              refine .region <| .e (.lss rfl rfl) rfl rfl <| .nil <| .go <| .seq <| .cond_true rfl ?_
              refine .skip <| .go <| .seq <| .block <| .seq <| .region ?_
              refine .e (.move rfl) rfl rfl <| .e (.index (j := 2) ar39 ag2 rfl rfl rfl (by first | decide | omega) rfl) rfl rfl <| .e (.assign rfl) rfl rfl <| .e (.assign rfl) rfl rfl <| .nil <| .go ?_
              refine .seq <| .region <| .e (.move rfl) rfl rfl <| .e (.eql rfl rfl) rfl rfl <| .e (.move rfl) rfl rfl <| .off rfl rfl ?_
              refine .off rfl rfl <| .off rfl rfl <| .off rfl rfl <| .off rfl rfl <| .off rfl rfl <| .off rfl rfl ?_
              refine .off rfl rfl <| .off rfl rfl <| .off rfl rfl <| .off rfl rfl <| .e (.pickF rfl rfl) rfl rfl <| .nil ?_
              refine .go <| .cond_false rfl <| .skip <| .blk_normal <| .go <| .region ?_
              refine .e (.add (c := 3) rfl rfl (by decide)) rfl rfl <| .e (.move rfl) rfl rfl <| .nil <| .again <| .seq <| .region ?_
              refine .e (.lss rfl rfl) rfl rfl <| .nil <| .go <| .seq <| .cond_false rfl <| .exit ?_
              refine .exit <| .exit <| .blk_exit <| .go <| .seq <| .region ?_
              refine .e (.move rfl) rfl rfl <| .e (.assign rfl) rfl rfl <| .nil <| .go <| .ret ?_
              refine .tail ?_
              refine Post.retE rfl rfl ?_
              first | exact congrArg (Value.int .i64) (lodWhy_node (by omega)) | exact congrArg (Value.int .i64) (lodWhy_ok (by omega) (by omega)) | exact congrArg (Value.int .i64) (lodWhy_bad (by omega) (by omega)) | exact congrArg (Value.int .i64) (lodWhy_ok' (by omega) (by omega)) | (exfalso; omega)
            · skip
              replace h29_2 := of_decide_eq_false h29_2
              refine .cond_false rfl <| .skip <| .blk_normal <| .go <| .region <| .e (.add (c := 2) rfl rfl (by decide)) rfl rfl ?_
              refine .e (.move rfl) rfl rfl <| .nil <| .again <| .seq <| .region <| .e (.lss rfl rfl) rfl rfl ?_
              refine .nil <| .go <| .seq <| .cond_true rfl <| .skip <| .go ?_
              refine .seq <| .block <| .seq <| .region <| .e (.move rfl) rfl rfl <| .e (.index (j := 2) ar39 ag2 rfl rfl rfl (by first | decide | omega) rfl) rfl rfl ?_
              refine .e (.assign rfl) rfl rfl <| .e (.assign rfl) rfl rfl <| .nil <| .go <| .seq <| .region ?_
              refine .e (.move rfl) rfl rfl <| .e (.eql rfl rfl) rfl rfl <| .e (.move rfl) rfl rfl ?_
              refine .split 17 rfl (fun h17_3 => ?_) (fun h17_3 => ?_)
              · skip
                replace h17_3 := of_decide_eq_true h17_3
                refine .e (.move rfl) rfl rfl <| .e (.lss rfl rfl) rfl rfl <| .e (.move rfl) rfl rfl ?_
                refine .split 20 rfl (fun h20_3 => ?_) (fun h20_3 => ?_)
                · skip
                  replace h20_3 := of_decide_eq_true h20_3
                  refine .off rfl rfl <| .off rfl rfl <| .off rfl rfl <| .off rfl rfl <| .off rfl rfl <| .off rfl rfl ?_
                  refine .off rfl rfl <| .e (.pickT rfl rfl) rfl rfl <| .e (.pickT rfl rfl) rfl rfl <| .nil <| .go <| .cond_true rfl ?_
                  refine .region <| .e (.assign rfl) rfl rfl <| .nil <| .blk_normal <| .go <| .region ?_
                  refine .e (.add (c := 3) rfl rfl (by decide)) rfl rfl <| .e (.move rfl) rfl rfl <| .nil <| .again <| .seq <| .region ?_
                  refine .e (.lss rfl rfl) rfl rfl <| .nil <| .go <| .seq <| .cond_false rfl <| .exit ?_
                  refine .exit <| .exit <| .blk_exit <| .go <| .seq <| .region ?_
                  refine .e (.move rfl) rfl rfl <| .e (.assign rfl) rfl rfl <| .nil <| .go <| .ret ?_
                  refine .tail ?_
                  refine Post.retE rfl rfl ?_
                  first | exact congrArg (Value.int .i64) (lodWhy_node (by omega)) | exact congrArg (Value.int .i64) (lodWhy_ok (by omega) (by omega)) | exact congrArg (Value.int .i64) (lodWhy_bad (by omega) (by omega)) | exact congrArg (Value.int .i64) (lodWhy_ok' (by omega) (by omega)) | (exfalso; omega)
                · skip
                  replace h20_3 := of_decide_eq_false h20_3
                  refine .e (.move rfl) rfl rfl <| .e (.move rfl) rfl rfl <| .e (.fieldAddr fo47_0 rfl) rfl rfl <| .e (.fieldAddr fo45_1 rfl) rfl rfl <| .e (.indexAddrA (j := 2) ar39 rfl rfl rfl (by first | decide | omega)) rfl rfl <| .e (.load ag2 rfl .here rfl) rfl rfl ?_
                  refine .e (.gtr rfl rfl) rfl rfl <| .e (.pickF rfl rfl) rfl rfl <| .e (.pickT rfl rfl) rfl rfl <| .nil <| .go ?_
                  refine .split 29 rfl (fun h29_3 => ?_) (fun h29_3 => ?_)
                  · skip
                    replace h29_3 := of_decide_eq_true h29_3
                    refine .cond_true rfl <| .region <| .e (.assign rfl) rfl rfl <| .nil <| .blk_normal <| .go ?_
                    refine .region <| .e (.add (c := 3) rfl rfl (by decide)) rfl rfl <| .e (.move rfl) rfl rfl <| .nil <| .again <| .seq ?_
                    refine .region <| .e (.lss rfl rfl) rfl rfl <| .nil <| .go <| .seq <| .cond_false rfl ?_
                    refine .exit <| .exit <| .exit <| .blk_exit <| .go <| .seq ?_
                    refine .region <| .e (.move rfl) rfl rfl <| .e (.assign rfl) rfl rfl <| .nil <| .go <| .ret ?_
                    refine .tail ?_
                    refine Post.retE rfl rfl ?_
                    first | exact congrArg (Value.int .i64) (lodWhy_node (by omega)) | exact congrArg (Value.int .i64) (lodWhy_ok (by omega) (by omega)) | exact congrArg (Value.int .i64) (lodWhy_bad (by omega) (by omega)) | exact congrArg (Value.int .i64) (lodWhy_ok' (by omega) (by omega)) | (exfalso; omega)
                  · skip
                    replace h29_3 := of_decide_eq_false h29_3
                    refine .cond_false rfl <| .skip <| .blk_normal <| .go <| .region <| .e (.add (c := 3) rfl rfl (by decide)) rfl rfl ?_
                    refine .e (.move rfl) rfl rfl <| .nil <| .again <| .seq <| .region <| .e (.lss rfl rfl) rfl rfl ?_
                    refine .nil <| .go <| .seq <| .cond_false rfl <| .exit <| .exit ?_
                    refine .exit <| .blk_exit <| .go <| .seq <| .region <| .e (.move rfl) rfl rfl ?_
                    refine .e (.assign rfl) rfl rfl <| .nil <| .go <| .ret ?_
                    refine .tail ?_
                    refine Post.retE rfl rfl ?_
                    first | exact congrArg (Value.int .i64) (lodWhy_node (by omega)) | exact congrArg (Value.int .i64) (lodWhy_ok (by omega) (by omega)) | exact congrArg (Value.int .i64) (lodWhy_bad (by omega) (by omega)) | exact congrArg (Value.int .i64) (lodWhy_ok' (by omega) (by omega)) | (exfalso; omega)
              · skip
                replace h17_3 := of_decide_eq_false h17_3
                refine .off rfl rfl <| .off rfl rfl <| .off rfl rfl <| .off rfl rfl <| .off rfl rfl <| .off rfl rfl ?_
                refine .off rfl rfl <| .off rfl rfl <| .off rfl rfl <| .off rfl rfl <| .off rfl rfl <| .e (.pickF rfl rfl) rfl rfl ?_
                refine .nil <| .go <| .cond_false rfl <| .skip <| .blk_normal <| .go ?_
                refine .region <| .e (.add (c := 3) rfl rfl (by decide)) rfl rfl <| .e (.move rfl) rfl rfl <| .nil <| .again <| .seq ?_
                refine .region <| .e (.lss rfl rfl) rfl rfl <| .nil <| .go <| .seq <| .cond_false rfl ?_
                refine .exit <| .exit <| .exit <| .blk_exit <| .go <| .seq ?_
                refine .region <| .e (.move rfl) rfl rfl <| .e (.assign rfl) rfl rfl <| .nil <| .go <| .ret ?_
                refine .tail ?_
                refine Post.retE rfl rfl ?_
                first | exact congrArg (Value.int .i64) (lodWhy_node (by omega)) | exact congrArg (Value.int .i64) (lodWhy_ok (by omega) (by omega)) | exact congrArg (Value.int .i64) (lodWhy_bad (by omega) (by omega)) | exact congrArg (Value.int .i64) (lodWhy_ok' (by omega) (by omega)) | (exfalso; omega)
        · skip
          replace h17_2 := of_decide_eq_false h17_2
          refine .off rfl rfl <| .off rfl rfl <| .off rfl rfl <| .off rfl rfl <| .off rfl rfl <| .off rfl rfl ?_
          refine .off rfl rfl <| .off rfl rfl <| .off rfl rfl <| .off rfl rfl <| .off rfl rfl <| .e (.pickF rfl rfl) rfl rfl ?_
          refine .nil <| .go <| .cond_false rfl <| .skip <| .blk_normal <| .go ?_
          refine .region <| .e (.add (c := 2) rfl rfl (by decide)) rfl rfl <| .e (.move rfl) rfl rfl <| .nil <| .again <| .seq ?_
          refine .region <| .e (.lss rfl rfl) rfl rfl <| .nil <| .go <| .seq <| .cond_true rfl ?_
          refine .skip <| .go <| .seq <| .block <| .seq <| .region ?_
          refine .e (.move rfl) rfl rfl <| .e (.index (j := 2) ar39 ag2 rfl rfl rfl (by first | decide | omega) rfl) rfl rfl <| .e (.assign rfl) rfl rfl <| .e (.assign rfl) rfl rfl <| .nil <| .go ?_
          refine .seq <| .region <| .e (.move rfl) rfl rfl <| .e (.eql rfl rfl) rfl rfl <| .e (.move rfl) rfl rfl ?_
          refine .split 17 rfl (fun h17_3 => ?_) (fun h17_3 => ?_)
          · skip
            replace h17_3 := of_decide_eq_true h17_3
            refine .e (.move rfl) rfl rfl <| .e (.lss rfl rfl) rfl rfl <| .e (.move rfl) rfl rfl ?_
            refine .split 20 rfl (fun h20_2 => ?_) (fun h20_2 => ?_)
            · skip
              replace h20_2 := of_decide_eq_true h20_2
              refine .off rfl rfl <| .off rfl rfl <| .off rfl rfl <| .off rfl rfl <| .off rfl rfl <| .off rfl rfl ?_
              refine .off rfl rfl <| .e (.pickT rfl rfl) rfl rfl <| .e (.pickT rfl rfl) rfl rfl <| .nil <| .go <| .cond_true rfl ?_
              refine .region <| .e (.assign rfl) rfl rfl <| .nil <| .blk_normal <| .go <| .region ?_
              refine .e (.add (c := 3) rfl rfl (by decide)) rfl rfl <| .e (.move rfl) rfl rfl <| .nil <| .again <| .seq <| .region ?_
              refine .e (.lss rfl rfl) rfl rfl <| .nil <| .go <| .seq <| .cond_false rfl <| .exit ?_
              refine .exit <| .exit <| .blk_exit <| .go <| .seq <| .region ?_
              refine .e (.move rfl) rfl rfl <| .e (.assign rfl) rfl rfl <| .nil <| .go <| .ret ?_
              refine .tail ?_
              refine Post.retE rfl rfl ?_
              first | exact congrArg (Value.int .i64) (lodWhy_node (by omega)) | exact congrArg (Value.int .i64) (lodWhy_ok (by omega) (by omega)) | exact congrArg (Value.int .i64) (lodWhy_bad (by omega) (by omega)) | exact congrArg (Value.int .i64) (lodWhy_ok' (by omega) (by omega)) | (exfalso; omega)
            · skip
              replace h20_2 := of_decide_eq_false h20_2
              refine .e (.move rfl) rfl rfl <| .e (.move rfl) rfl rfl <| .e (.fieldAddr fo47_0 rfl) rfl rfl <| .e (.fieldAddr fo45_1 rfl) rfl rfl <| .e (.indexAddrA (j := 2) ar39 rfl rfl rfl (by first | decide | omega)) rfl rfl <| .e (.load ag2 rfl .here rfl) rfl rfl ?_
              refine .e (.gtr rfl rfl) rfl rfl <| .e (.pickF rfl rfl) rfl rfl <| .e (.pickT rfl rfl) rfl rfl <| .nil <| .go ?_
              refine .split 29 rfl (fun h29_2 => ?_) (fun h29_2 => ?_)
              · skip
                replace h29_2 := of_decide_eq_true h29_2
                refine .cond_true rfl <| .region <| .e (.assign rfl) rfl rfl <| .nil <| .blk_normal <| .go ?_
                refine .region <| .e (.add (c := 3) rfl rfl (by decide)) rfl rfl <| .e (.move rfl) rfl rfl <| .nil <| .again <| .seq ?_
                refine .region <| .e (.lss rfl rfl) rfl rfl <| .nil <| .go <| .seq <| .cond_false rfl ?_
                refine .exit <| .exit <| .exit <| .blk_exit <| .go <| .seq ?_
                refine .region <| .e (.move rfl) rfl rfl <| .e (.assign rfl) rfl rfl <| .nil <| .go <| .ret ?_
                refine .tail ?_
                refine Post.retE rfl rfl ?_
                first | exact congrArg (Value.int .i64) (lodWhy_node (by omega)) | exact congrArg (Value.int .i64) (lodWhy_ok (by omega) (by omega)) | exact congrArg (Value.int .i64) (lodWhy_bad (by omega) (by omega)) | exact congrArg (Value.int .i64) (lodWhy_ok' (by omega) (by omega)) | (exfalso; omega)
              · skip
                replace h29_2 := of_decide_eq_false h29_2
                refine .cond_false rfl <| .skip <| .blk_normal <| .go <| .region <| .e (.add (c := 3) rfl rfl (by decide)) rfl rfl ?_
                refine .e (.move rfl) rfl rfl <| .nil <| .again <| .seq <| .region <| .e (.lss rfl rfl) rfl rfl ?_
                refine .nil <| .go <| .seq <| .cond_false rfl <| .exit <| .exit ?_
                refine .exit <| .blk_exit <| .go <| .seq <| .region <| .e (.move rfl) rfl rfl ?_
                refine .e (.assign rfl) rfl rfl <| .nil <| .go <| .ret ?_
                refine .tail ?_
                refine Post.retE rfl rfl ?_
                first | exact congrArg (Value.int .i64) (lodWhy_node (by omega)) | exact congrArg (Value.int .i64) (lodWhy_ok (by omega) (by omega)) | exact congrArg (Value.int .i64) (lodWhy_bad (by omega) (by omega)) | exact congrArg (Value.int .i64) (lodWhy_ok' (by omega) (by omega)) | (exfalso; omega)
          · skip
            replace h17_3 := of_decide_eq_false h17_3
            refine .off rfl rfl <| .off rfl rfl <| .off rfl rfl <| .off rfl rfl <| .off rfl rfl <| .off rfl rfl ?_
            refine .off rfl rfl <| .off rfl rfl <| .off rfl rfl <| .off rfl rfl <| .off rfl rfl <| .e (.pickF rfl rfl) rfl rfl ?_
            refine .nil <| .go <| .cond_false rfl <| .skip <| .blk_normal <| .go ?_
            refine .region <| .e (.add (c := 3) rfl rfl (by decide)) rfl rfl <| .e (.move rfl) rfl rfl <| .nil <| .again <| .seq ?_
            refine .region <| .e (.lss rfl rfl) rfl rfl <| .nil <| .go <| .seq <| .cond_false rfl ?_
            refine .exit <| .exit <| .exit <| .blk_exit <| .go <| .seq ?_
            refine .region <| .e (.move rfl) rfl rfl <| .e (.assign rfl) rfl rfl <| .nil <| .go <| .ret ?_
            refine .tail ?_
            refine Post.retE rfl rfl ?_
            first | exact congrArg (Value.int .i64) (lodWhy_node (by omega)) | exact congrArg (Value.int .i64) (lodWhy_ok (by omega) (by omega)) | exact congrArg (Value.int .i64) (lodWhy_bad (by omega) (by omega)) | exact congrArg (Value.int .i64) (lodWhy_ok' (by omega) (by omega)) | (exfalso; omega)
  · skip
    replace h17 := of_decide_eq_false h17
    refine .off rfl rfl <| .off rfl rfl <| .off rfl rfl <| .off rfl rfl <| .off rfl rfl <| .off rfl rfl ?_
    refine .off rfl rfl <| .off rfl rfl <| .off rfl rfl <| .off rfl rfl <| .off rfl rfl <| .e (.pickF rfl rfl) rfl rfl ?_
    refine .nil <| .go <| .cond_false rfl <| .skip <| .blk_normal <| .go ?_
    refine .region <| .e (.add (c := 1) rfl rfl (by decide)) rfl rfl <| .e (.move rfl) rfl rfl <| .nil <| .again <| .seq ?_
    refine .region <| .e (.lss rfl rfl) rfl rfl <| .nil <| .go <| .seq <| .cond_true rfl ?_
    refine .skip <| .go <| .seq <| .block <| .seq <| .region ?_
    refine .e (.move rfl) rfl rfl <| .e (.index (j := 1) ar39 ag2 rfl rfl rfl (by first | decide | omega) rfl) rfl rfl <| .e (.assign rfl) rfl rfl <| .e (.assign rfl) rfl rfl <| .nil <| .go ?_
    refine .seq <| .region <| .e (.move rfl) rfl rfl <| .e (.eql rfl rfl) rfl rfl <| .e (.move rfl) rfl rfl ?_
    refine .split 17 rfl (fun h17_2 => ?_) (fun h17_2 => ?_)
    · skip
      replace h17_2 := of_decide_eq_true h17_2
      refine .e (.move rfl) rfl rfl <| .e (.lss rfl rfl) rfl rfl <| .e (.move rfl) rfl rfl ?_
      refine .split 20 rfl (fun h20 => ?_) (fun h20 => ?_)
      · skip
        replace h20 := of_decide_eq_true h20
        refine .off rfl rfl <| .off rfl rfl <| .off rfl rfl <| .off rfl rfl <| .off rfl rfl <| .off rfl rfl ?_
        refine .off rfl rfl <| .e (.pickT rfl rfl) rfl rfl <| .e (.pickT rfl rfl) rfl rfl <| .nil <| .go <| .cond_true rfl ?_
        refine .region <| .e (.assign rfl) rfl rfl <| .nil <| .blk_normal <| .go <| .region ?_
        refine .e (.add (c := 2) rfl rfl (by decide)) rfl rfl <| .e (.move rfl) rfl rfl <| .nil <| .again <| .seq <| .region ?_
        refine .e (.lss rfl rfl) rfl rfl <| .nil <| .go <| .seq <| .cond_true rfl <| .skip ?_
        refine .go <| .seq <| .block <| .seq <| .region <| .e (.move rfl) rfl rfl ?_
        refine .e (.index (j := 2) ar39 ag2 rfl rfl rfl (by first | decide | omega) rfl) rfl rfl <| .e (.assign rfl) rfl rfl <| .e (.assign rfl) rfl rfl <| .nil <| .go <| .seq ?_
        refine .region <| .e (.move rfl) rfl rfl <| .e (.eql rfl rfl) rfl rfl <| .e (.move rfl) rfl rfl <| .off rfl rfl <| .off rfl rfl ?_
        refine .off rfl rfl <| .off rfl rfl <| .off rfl rfl <| .off rfl rfl <| .off rfl rfl <| .off rfl rfl ?_
        refine .off rfl rfl <| .off rfl rfl <| .off rfl rfl <| .e (.pickF rfl rfl) rfl rfl <| .nil <| .go ?_
        refine .cond_false rfl <| .skip <| .blk_normal <| .go <| .region <| .e (.add (c := 3) rfl rfl (by decide)) rfl rfl ?_
        refine .e (.move rfl) rfl rfl <| .nil <| .again <| .seq <| .region <| .e (.lss rfl rfl) rfl rfl ?_
        refine .nil <| .go <| .seq <| .cond_false rfl <| .exit <| .exit ?_
        refine .exit <| .blk_exit <| .go <| .seq <| .region <| .e (.move rfl) rfl rfl ?_
        refine .e (.assign rfl) rfl rfl <| .nil <| .go <| .ret ?_
        refine .tail ?_
        refine Post.retE rfl rfl ?_
        first | exact congrArg (Value.int .i64) (lodWhy_node (by omega)) | exact congrArg (Value.int .i64) (lodWhy_ok (by omega) (by omega)) | exact congrArg (Value.int .i64) (lodWhy_bad (by omega) (by omega)) | exact congrArg (Value.int .i64) (lodWhy_ok' (by omega) (by omega)) | (exfalso; omega)
      · skip
        replace h20 := of_decide_eq_false h20
        refine .e (.move rfl) rfl rfl <| .e (.move rfl) rfl rfl <| .e (.fieldAddr fo47_0 rfl) rfl rfl <| .e (.fieldAddr fo45_1 rfl) rfl rfl <| .e (.indexAddrA (j := 1) ar39 rfl rfl rfl (by first | decide | omega)) rfl rfl <| .e (.load ag2 rfl .here rfl) rfl rfl ?_
        refine .e (.gtr rfl rfl) rfl rfl <| .e (.pickF rfl rfl) rfl rfl <| .e (.pickT rfl rfl) rfl rfl <| .nil <| .go ?_
        refine .split 29 rfl (fun h29 => ?_) (fun h29 => ?_)
        · skip
          replace h29 := of_decide_eq_true h29
          refine .cond_true rfl <| .region <| .e (.assign rfl) rfl rfl <| .nil <| .blk_normal <| .go ?_
          refine .region <| .e (.add (c := 2) rfl rfl (by decide)) rfl rfl <| .e (.move rfl) rfl rfl <| .nil <| .again <| .seq ?_
          refine .region <| .e (.lss rfl rfl) rfl rfl <| .nil <| .go <| .seq <| .cond_true rfl ?_
          refine .skip <| .go <| .seq <| .block <| .seq <| .region ?_
          refine .e (.move rfl) rfl rfl <| .e (.index (j := 2) ar39 ag2 rfl rfl rfl (by first | decide | omega) rfl) rfl rfl <| .e (.assign rfl) rfl rfl <| .e (.assign rfl) rfl rfl <| .nil <| .go ?_
          refine .seq <| .region <| .e (.move rfl) rfl rfl <| .e (.eql rfl rfl) rfl rfl <| .e (.move rfl) rfl rfl <| .off rfl rfl ?_
          refine .off rfl rfl <| .off rfl rfl <| .off rfl rfl <| .off rfl rfl <| .off rfl rfl <| .off rfl rfl ?_
          refine .off rfl rfl <| .off rfl rfl <| .off rfl rfl <| .off rfl rfl <| .e (.pickF rfl rfl) rfl rfl <| .nil ?_
          refine .go <| .cond_false rfl <| .skip <| .blk_normal <| .go <| .region ?_
          refine .e (.add (c := 3) rfl rfl (by decide)) rfl rfl <| .e (.move rfl) rfl rfl <| .nil <| .again <| .seq <| .region ?_
          refine .e (.lss rfl rfl) rfl rfl <| .nil <| .go <| .seq <| .cond_false rfl <| .exit ?_
          refine .exit <| .exit <| .blk_exit <| .go <| .seq <| .region ?_
          refine .e (.move rfl) rfl rfl <| .e (.assign rfl) rfl rfl <| .nil <| .go <| .ret ?_
          refine .tail ?_
          refine Post.retE rfl rfl ?_
          first | exact congrArg (Value.int .i64) (lodWhy_node (by omega)) | exact congrArg (Value.int .i64) (lodWhy_ok (by omega) (by omega)) | exact congrArg (Value.int .i64) (lodWhy_bad (by omega) (by omega)) | exact congrArg (Value.int .i64) (lodWhy_ok' (by omega) (by omega)) | (exfalso; omega)
        · skip
          replace h29 := of_decide_eq_false h29
          refine .cond_false rfl <| .skip <| .blk_normal <| .go <| .region <| .e (.add (c := 2) rfl rfl (by decide)) rfl rfl ?_
          refine .e (.move rfl) rfl rfl <| .nil <| .again <| .seq <| .region <| .e (.lss rfl rfl) rfl rfl ?_
          refine .nil <| .go <| .seq <| .cond_true rfl <| .skip <| .go ?_
          refine .seq <| .block <| .seq <| .region <| .e (.move rfl) rfl rfl <| .e (.index (j := 2) ar39 ag2 rfl rfl rfl (by first | decide | omega) rfl) rfl rfl ?_
          refine .e (.assign rfl) rfl rfl <| .e (.assign rfl) rfl rfl <| .nil <| .go <| .seq <| .region ?_
          refine .e (.move rfl) rfl rfl <| .e (.eql rfl rfl) rfl rfl <| .e (.move rfl) rfl rfl ?_
          refine .split 17 rfl (fun h17_3 => ?_) (fun h17_3 => ?_)
          · skip
            replace h17_3 := of_decide_eq_true h17_3
            refine .e (.move rfl) rfl rfl <| .e (.lss rfl rfl) rfl rfl <| .e (.move rfl) rfl rfl ?_
            refine .split 20 rfl (fun h20_2 => ?_) (fun h20_2 => ?_)
            · skip
              replace h20_2 := of_decide_eq_true h20_2
              refine .off rfl rfl <| .off rfl rfl <| .off rfl rfl <| .off rfl rfl <| .off rfl rfl <| .off rfl rfl ?_
              refine .off rfl rfl <| .e (.pickT rfl rfl) rfl rfl <| .e (.pickT rfl rfl) rfl rfl <| .nil <| .go <| .cond_true rfl ?_
              refine .region <| .e (.assign rfl) rfl rfl <| .nil <| .blk_normal <| .go <| .region ?_
              refine .e (.add (c := 3) rfl rfl (by decide)) rfl rfl <| .e (.move rfl) rfl rfl <| .nil <| .again <| .seq <| .region ?_
              refine .e (.lss rfl rfl) rfl rfl <| .nil <| .go <| .seq <| .cond_false rfl <| .exit ?_
              refine .exit <| .exit <| .blk_exit <| .go <| .seq <| .region ?_
              refine .e (.move rfl) rfl rfl <| .e (.assign rfl) rfl rfl <| .nil <| .go <| .ret ?_
              refine .tail ?_
              refine Post.retE rfl rfl ?_
              first | exact congrArg (Value.int .i64) (lodWhy_node (by omega)) | exact congrArg (Value.int .i64) (lodWhy_ok (by omega) (by omega)) | exact congrArg (Value.int .i64) (lodWhy_bad (by omega) (by omega)) | exact congrArg (Value.int .i64) (lodWhy_ok' (by omega) (by omega)) | (exfalso; omega)
            · skip
              replace h20_2 := of_decide_eq_false h20_2
              refine .e (.move rfl) rfl rfl <| .e (.move rfl) rfl rfl <| .e (.fieldAddr fo47_0 rfl) rfl rfl <| .e (.fieldAddr fo45_1 rfl) rfl rfl <| .e (.indexAddrA (j := 2) ar39 rfl rfl rfl (by first | decide | omega)) rfl rfl <| .e (.load ag2 rfl .here rfl) rfl rfl ?_
              refine .e (.gtr rfl rfl) rfl rfl <| .e (.pickF rfl rfl) rfl rfl <| .e (.pickT rfl rfl) rfl rfl <| .nil <| .go ?_
              refine .split 29 rfl (fun h29_2 => ?_) (fun h29_2 => ?_)
              · skip
                replace h29_2 := of_decide_eq_true h29_2
                refine .cond_true rfl <| .region <| .e (.assign rfl) rfl rfl <| .nil <| .blk_normal <| .go ?_
                refine .region <| .e (.add (c := 3) rfl rfl (by decide)) rfl rfl <| .e (.move rfl) rfl rfl <| .nil <| .again <| .seq ?_
                refine .region <| .e (.lss rfl rfl) rfl rfl <| .nil <| .go <| .seq <| .cond_false rfl ?_
                refine .exit <| .exit <| .exit <| .blk_exit <| .go <| .seq ?_
                refine .region <| .e (.move rfl) rfl rfl <| .e (.assign rfl) rfl rfl <| .nil <| .go <| .ret ?_
                refine .tail ?_
                refine Post.retE rfl rfl ?_
                first | exact congrArg (Value.int .i64) (lodWhy_node (by omega)) | exact congrArg (Value.int .i64) (lodWhy_ok (by omega) (by omega)) | exact congrArg (Value.int .i64) (lodWhy_bad (by omega) (by omega)) | exact congrArg (Value.int .i64) (lodWhy_ok' (by omega) (by omega)) | (exfalso; omega)
              · skip
                replace h29_2 := of_decide_eq_false h29_2
                refine .cond_false rfl <| .skip <| .blk_normal <| .go <| .region <| .e (.add (c := 3) rfl rfl (by decide)) rfl rfl ?_
                refine .e (.move rfl) rfl rfl <| .nil <| .again <| .seq <| .region <| .e (.lss rfl rfl) rfl rfl ?_
                refine .nil <| .go <| .seq <| .cond_false rfl <| .exit <| .exit ?_
                refine .exit <| .blk_exit <| .go <| .seq <| .region <| .e (.move rfl) rfl rfl ?_
                refine .e (.assign rfl) rfl rfl <| .nil <| .go <| .ret ?_
                refine .tail ?_
                refine Post.retE rfl rfl ?_
                first | exact congrArg (Value.int .i64) (lodWhy_node (by omega)) | exact congrArg (Value.int .i64) (lodWhy_ok (by omega) (by omega)) | exact congrArg (Value.int .i64) (lodWhy_bad (by omega) (by omega)) | exact congrArg (Value.int .i64) (lodWhy_ok' (by omega) (by omega)) | (exfalso; omega)
          · skip
            replace h17_3 := of_decide_eq_false h17_3
            refine .off rfl rfl <| .off rfl rfl <| .off rfl rfl <| .off rfl rfl <| .off rfl rfl <| .off rfl rfl ?_
            refine .off rfl rfl <| .off rfl rfl <| .off rfl rfl <| .off rfl rfl <| .off rfl rfl <| .e (.pickF rfl rfl) rfl rfl ?_
            refine .nil <| .go <| .cond_false rfl <| .skip <| .blk_normal <| .go ?_
            refine .region <| .e (.add (c := 3) rfl rfl (by decide)) rfl rfl <| .e (.move rfl) rfl rfl <| .nil <| .again <| .seq ?_
            refine .region <| .e (.lss rfl rfl) rfl rfl <| .nil <| .go <| .seq <| .cond_false rfl ?_
            refine .exit <| .exit <| .exit <| .blk_exit <| .go <| .seq ?_
            refine .region <| .e (.move rfl) rfl rfl <| .e (.assign rfl) rfl rfl <| .nil <| .go <| .ret ?_
            refine .tail ?_
            refine Post.retE rfl rfl ?_
            first | exact congrArg (Value.int .i64) (lodWhy_node (by omega)) | exact congrArg (Value.int .i64) (lodWhy_ok (by omega) (by omega)) | exact congrArg (Value.int .i64) (lodWhy_bad (by omega) (by omega)) | exact congrArg (Value.int .i64) (lodWhy_ok' (by omega) (by omega)) | (exfalso; omega)
    · skip
      replace h17_2 := of_decide_eq_false h17_2
      refine .off rfl rfl <| .off rfl rfl <| .off rfl rfl <| .off rfl rfl <| .off rfl rfl <| .off rfl rfl ?_
      refine .off rfl rfl <| .off rfl rfl <| .off rfl rfl <| .off rfl rfl <| .off rfl rfl <| .e (.pickF rfl rfl) rfl rfl ?_
      refine .nil <| .go <| .cond_false rfl <| .skip <| .blk_normal <| .go ?_
      refine .region <| .e (.add (c := 2) rfl rfl (by decide)) rfl rfl <| .e (.move rfl) rfl rfl <| .nil <| .again <| .seq ?_
      refine .region <| .e (.lss rfl rfl) rfl rfl <| .nil <| .go <| .seq <| .cond_true rfl ?_
      refine .skip <| .go <| .seq <| .block <| .seq <| .region ?_
      refine .e (.move rfl) rfl rfl <| .e (.index (j := 2) ar39 ag2 rfl rfl rfl (by first | decide | omega) rfl) rfl rfl <| .e (.assign rfl) rfl rfl <| .e (.assign rfl) rfl rfl <| .nil <| .go ?_
      refine .seq <| .region <| .e (.move rfl) rfl rfl <| .e (.eql rfl rfl) rfl rfl <| .e (.move rfl) rfl rfl ?_
      refine .split 17 rfl (fun h17_3 => ?_) (fun h17_3 => ?_)
      · skip
        replace h17_3 := of_decide_eq_true h17_3
        refine .e (.move rfl) rfl rfl <| .e (.lss rfl rfl) rfl rfl <| .e (.move rfl) rfl rfl ?_
        refine .split 20 rfl (fun h20 => ?_) (fun h20 => ?_)
        · skip
          replace h20 := of_decide_eq_true h20
          refine .off rfl rfl <| .off rfl rfl <| .off rfl rfl <| .off rfl rfl <| .off rfl rfl <| .off rfl rfl ?_
          refine .off rfl rfl <| .e (.pickT rfl rfl) rfl rfl <| .e (.pickT rfl rfl) rfl rfl <| .nil <| .go <| .cond_true rfl ?_
          refine .region <| .e (.assign rfl) rfl rfl <| .nil <| .blk_normal <| .go <| .region ?_
          refine .e (.add (c := 3) rfl rfl (by decide)) rfl rfl <| .e (.move rfl) rfl rfl <| .nil <| .again <| .seq <| .region ?_
          refine .e (.lss rfl rfl) rfl rfl <| .nil <| .go <| .seq <| .cond_false rfl <| .exit ?_
          refine .exit <| .exit <| .blk_exit <| .go <| .seq <| .region ?_
          refine .e (.move rfl) rfl rfl <| .e (.assign rfl) rfl rfl <| .nil <| .go <| .ret ?_
          refine .tail ?_
          refine Post.retE rfl rfl ?_
          first | exact congrArg (Value.int .i64) (lodWhy_node (by omega)) | exact congrArg (Value.int .i64) (lodWhy_ok (by omega) (by omega)) | exact congrArg (Value.int .i64) (lodWhy_bad (by omega) (by omega)) | exact congrArg (Value.int .i64) (lodWhy_ok' (by omega) (by omega)) | (exfalso; omega)
        · skip
          replace h20 := of_decide_eq_false h20
          refine .e (.move rfl) rfl rfl <| .e (.move rfl) rfl rfl <| .e (.fieldAddr fo47_0 rfl) rfl rfl <| .e (.fieldAddr fo45_1 rfl) rfl rfl <| .e (.indexAddrA (j := 2) ar39 rfl rfl rfl (by first | decide | omega)) rfl rfl <| .e (.load ag2 rfl .here rfl) rfl rfl ?_
          refine .e (.gtr rfl rfl) rfl rfl <| .e (.pickF rfl rfl) rfl rfl <| .e (.pickT rfl rfl) rfl rfl <| .nil <| .go ?_
          refine .split 29 rfl (fun h29 => ?_) (fun h29 => ?_)
          · skip
            replace h29 := of_decide_eq_true h29
            refine .cond_true rfl <| .region <| .e (.assign rfl) rfl rfl <| .nil <| .blk_normal <| .go ?_
            refine .region <| .e (.add (c := 3) rfl rfl (by decide)) rfl rfl <| .e (.move rfl) rfl rfl <| .nil <| .again <| .seq ?_
            refine .region <| .e (.lss rfl rfl) rfl rfl <| .nil <| .go <| .seq <| .cond_false rfl ?_
            refine .exit <| .exit <| .exit <| .blk_exit <| .go <| .seq ?_
            refine .region <| .e (.move rfl) rfl rfl <| .e (.assign rfl) rfl rfl <| .nil <| .go <| .ret ?_
            refine .tail ?_
            refine Post.retE rfl rfl ?_
            first | exact congrArg (Value.int .i64) (lodWhy_node (by omega)) | exact congrArg (Value.int .i64) (lodWhy_ok (by omega) (by omega)) | exact congrArg (Value.int .i64) (lodWhy_bad (by omega) (by omega)) | exact congrArg (Value.int .i64) (lodWhy_ok' (by omega) (by omega)) | (exfalso; omega)
          · skip
            replace h29 := of_decide_eq_false h29
            refine .cond_false rfl <| .skip <| .blk_normal <| .go <| .region <| .e (.add (c := 3) rfl rfl (by decide)) rfl rfl ?_
            refine .e (.move rfl) rfl rfl <| .nil <| .again <| .seq <| .region <| .e (.lss rfl rfl) rfl rfl ?_
            refine .nil <| .go <| .seq <| .cond_false rfl <| .exit <| .exit ?_
            refine .exit <| .blk_exit <| .go <| .seq <| .region <| .e (.move rfl) rfl rfl ?_
            refine .e (.assign rfl) rfl rfl <| .nil <| .go <| .ret ?_
            refine .tail ?_
            refine Post.retE rfl rfl ?_
            first | exact congrArg (Value.int .i64) (lodWhy_node (by omega)) | exact congrArg (Value.int .i64) (lodWhy_ok (by omega) (by omega)) | exact congrArg (Value.int .i64) (lodWhy_bad (by omega) (by omega)) | exact congrArg (Value.int .i64) (lodWhy_ok' (by omega) (by omega)) | (exfalso; omega)
      · skip
        replace h17_3 := of_decide_eq_false h17_3
        refine .off rfl rfl <| .off rfl rfl <| .off rfl rfl <| .off rfl rfl <| .off rfl rfl <| .off rfl rfl ?_
        refine .off rfl rfl <| .off rfl rfl <| .off rfl rfl <| .off rfl rfl <| .off rfl rfl <| .e (.pickF rfl rfl) rfl rfl ?_
        refine .nil <| .go <| .cond_false rfl <| .skip <| .blk_normal <| .go ?_
        refine .region <| .e (.add (c := 3) rfl rfl (by decide)) rfl rfl <| .e (.move rfl) rfl rfl <| .nil <| .again <| .seq ?_
        refine .region <| .e (.lss rfl rfl) rfl rfl <| .nil <| .go <| .seq <| .cond_false rfl ?_
        refine .exit <| .exit <| .exit <| .blk_exit <| .go <| .seq ?_
        refine .region <| .e (.move rfl) rfl rfl <| .e (.assign rfl) rfl rfl <| .nil <| .go <| .ret ?_
        refine .tail ?_
        refine Post.retE rfl rfl ?_
        first | exact congrArg (Value.int .i64) (lodWhy_node (by omega)) | exact congrArg (Value.int .i64) (lodWhy_ok (by omega) (by omega)) | exact congrArg (Value.int .i64) (lodWhy_bad (by omega) (by omega)) | exact congrArg (Value.int .i64) (lodWhy_ok' (by omega) (by omega)) | (exfalso; omega)

set_option maxHeartbeats 1000000 in
set_option maxRecDepth 20000 in
theorem orE_ok {I : Imm} {O : Own} {b : Nat} {T : TypeId} {fz : Nat × Nat} {x y : Int} (hb : I b = some (.cells ⟨[.int .i64 x, .int .i64 y]⟩ T fz)) :
    Pure Tryz.prog 88 [.slice (some ⟨b, 0, none⟩) 2 2] I O (.int .i64 (orI x y)) := by
  have hl0 := row2 hb
  refine Go.Sy.Does.enter Tryz.func88 rfl Tryz.ntmps88 rfl ?_
  refine .seq <| .region <| .e (.assign rfl) rfl rfl <| .nil <| .go <| .seq ?_
  refine .region <| .e (.assign rfl) rfl rfl <| .nil <| .go <| .seq <| .seq ?_
  refine .region <| .e (.move rfl) rfl rfl <| .e (.len sl171 rfl rfl) rfl rfl <| .e (.move rfl) rfl rfl <| .nil <| .go ?_
  refine .block <| .unroll 2 <| .seq <| .region <| .e (.lss rfl rfl) rfl rfl <| .nil ?_
  refine .go <| .seq <| .cond_true rfl <| .skip <| .go <| .seq ?_
  refine .block <| .seq <| .region ?_
  obtain ⟨eb10, eo10, cs10, hd10, hat10, hr10⟩ := SlR.at_ hl0 (k := 0) (by simp)
  cases hd10
  cases hr10
  refine .e (.indexAddrL sl171 rfl rfl rfl (by simp)) rfl rfl <| .e (.loadI ag28 rfl (hat10.cell (j := 0) rfl)) rfl rfl <| .e (.assign rfl) rfl rfl <| .nil <| .go <| .seq ?_
  refine .region <| .e (.move rfl) rfl rfl <| .e (.move rfl) rfl rfl <| .e (.neq rfl rfl) rfl rfl <| .nil <| .go ?_
  refine .split 14 rfl (fun h14 => ?_) (fun h14 => ?_)
  · skip
    first | replace h14 := of_decide_eq_false ((Bool.not_eq_true' _).mp h14) | replace h14 := of_decide_eq_false (by simpa using h14)
    refine .cond_true rfl <| .seq <| .region <| .e (.move rfl) rfl rfl <| .e (.assign rfl) rfl rfl <| .nil ?_
    refine .go <| .ret <| .blk_ret <| .ret <| .ret <| .blk_ret ?_
    refine .ret ?_
    refine Post.retE rfl rfl ?_
    simp_all [orI]
  · skip
    first | replace h14 := of_decide_eq_true ((Bool.not_eq_false' _).mp h14) | replace h14 := of_decide_eq_true (by simpa using h14)
    refine .cond_false rfl <| .skip <| .blk_normal <| .go <| .region <| .e (.add (c := 1) rfl rfl (by decide)) rfl rfl ?_
    refine .e (.move rfl) rfl rfl <| .nil <| .again <| .seq <| .region <| .e (.lss rfl rfl) rfl rfl ?_
    refine .nil <| .go <| .seq <| .cond_true rfl <| .skip <| .go ?_
    refine .seq <| .block <| .seq <| .region ?_
    obtain ⟨eb10, eo10, cs10, hd10, hat10, hr10⟩ := SlR.at_ hl0 (k := 1) (by simp)
    cases hd10
    cases hr10
    refine .e (.indexAddrL sl171 rfl rfl rfl (by simp)) rfl rfl <| .e (.loadI ag28 rfl (hat10.cell (j := 0) rfl)) rfl rfl <| .e (.assign rfl) rfl rfl <| .nil <| .go <| .seq ?_
    refine .region <| .e (.move rfl) rfl rfl <| .e (.move rfl) rfl rfl <| .e (.neq rfl rfl) rfl rfl <| .nil <| .go ?_
    refine .split 14 rfl (fun h14_2 => ?_) (fun h14_2 => ?_)
    · skip
      first | replace h14_2 := of_decide_eq_false ((Bool.not_eq_true' _).mp h14_2) | replace h14_2 := of_decide_eq_false (by simpa using h14_2)
      refine .cond_true rfl <| .seq <| .region <| .e (.move rfl) rfl rfl <| .e (.assign rfl) rfl rfl <| .nil ?_
      refine .go <| .ret <| .blk_ret <| .ret <| .ret <| .blk_ret ?_
      refine .ret ?_
      refine Post.retE rfl rfl ?_
      simp_all [orI]
    · skip
      first | replace h14_2 := of_decide_eq_true ((Bool.not_eq_false' _).mp h14_2) | replace h14_2 := of_decide_eq_true (by simpa using h14_2)
      refine .cond_false rfl <| .skip <| .blk_normal <| .go <| .region <| .e (.add (c := 2) rfl rfl (by decide)) rfl rfl ?_
      refine .e (.move rfl) rfl rfl <| .nil <| .again <| .seq <| .region <| .e (.lss rfl rfl) rfl rfl ?_
      refine .nil <| .go <| .seq <| .cond_false rfl <| .exit <| .exit ?_
      refine .exit <| .blk_exit <| .go <| .seq <| .region <| .e (.move rfl) rfl rfl ?_
      refine .e (.assign rfl) rfl rfl <| .nil <| .go <| .ret ?_
      refine Post.retE rfl rfl ?_
      simp_all [orI]

set_option maxHeartbeats 1000000 in
set_option maxRecDepth 20000 in
theorem isNaNI_ok {I : Imm} {O : Own} {s : Int} :
    Pure Tryz.prog 141 [.int .i64 s] I O (.bool false) := by
  refine Go.Sy.Does.enter Tryz.func141 rfl Tryz.ntmps141 rfl ?_
  refine .seq <| .region <| .e (.assign rfl) rfl rfl <| .nil <| .go <| .seq ?_
  refine .region <| .e (.move rfl) rfl rfl <| .e (.move rfl) rfl rfl <| .e (.neq rfl rfl) rfl rfl <| .e (.assign rfl) rfl rfl <| .nil ?_
  refine .go <| .ret ?_
  refine Post.retE rfl rfl ?_
  simp

set_option maxHeartbeats 1000000 in
set_option maxRecDepth 20000 in
theorem cmpI_ok {I : Imm} {O : Own} {a b : Int} :
    Pure Tryz.prog 92 [.int .i64 a, .int .i64 b] I O (.int .i64 (cmpI a b)) := by
  refine Go.Sy.Does.enter Tryz.func92 rfl Tryz.ntmps92 rfl ?_
  refine .seq <| .region <| .e (.assign rfl) rfl rfl <| .nil <| .go <| .seq ?_
  refine .region <| .e (.move rfl) rfl rfl <| .on rfl <| .callP cal141 rfl rfl rfl (isNaNI_ok) <| .e (.assign rfl) rfl rfl <| .nil <| .go ?_
  refine .seq <| .region <| .e (.move rfl) rfl rfl <| .on rfl <| .callP cal141 rfl rfl rfl (isNaNI_ok) <| .e (.assign rfl) rfl rfl <| .nil ?_
  refine .go <| .seq <| .seq <| .region <| .e (.move rfl) rfl rfl <| .nil ?_
  refine .go <| .cond_false rfl <| .skip <| .go <| .seq <| .seq ?_
  refine .region <| .e (.move rfl) rfl rfl <| .nil <| .go <| .cond_false rfl <| .skip ?_
  refine .go <| .seq <| .seq <| .region <| .e (.move rfl) rfl rfl <| .e (.move rfl) rfl rfl ?_
  refine .e (.lss rfl rfl) rfl rfl <| .nil <| .go ?_
  refine .split 16 rfl (fun h16 => ?_) (fun h16 => ?_)
  · skip
    replace h16 := of_decide_eq_true h16
    refine .cond_true rfl <| .seq <| .region <| .e (.assign rfl) rfl rfl <| .nil <| .go ?_
    refine .ret <| .ret ?_
    refine Post.retE rfl rfl ?_
    refine congrArg (Value.int .i64) ?_
    unfold cmpI
    first | (simp_all; done) | (split <;> (try split) <;> omega)
  · skip
    replace h16 := of_decide_eq_false h16
    refine .cond_false rfl <| .skip <| .go <| .seq <| .seq <| .region ?_
    refine .e (.move rfl) rfl rfl <| .e (.move rfl) rfl rfl <| .e (.gtr rfl rfl) rfl rfl <| .nil <| .go ?_
    refine .split 19 rfl (fun h19 => ?_) (fun h19 => ?_)
    · skip
      replace h19 := of_decide_eq_true h19
      refine .cond_true rfl <| .seq <| .region <| .e (.assign rfl) rfl rfl <| .nil <| .go ?_
      refine .ret <| .ret ?_
      refine Post.retE rfl rfl ?_
      refine congrArg (Value.int .i64) ?_
      unfold cmpI
      first | (simp_all; done) | (split <;> (try split) <;> omega)
    · skip
      replace h19 := of_decide_eq_false h19
      refine .cond_false rfl <| .skip <| .go <| .seq <| .region <| .e (.assign rfl) rfl rfl ?_
      refine .nil <| .go <| .ret ?_
      refine Post.retE rfl rfl ?_
      refine congrArg (Value.int .i64) ?_
      unfold cmpI
      first | (simp_all; done) | (split <;> (try split) <;> omega)

set_option maxHeartbeats 1000000 in
set_option maxRecDepth 20000 in
theorem full_ok {I : Imm} {O : Own} {tc lc : List Value} {t : Tsk} {l : Lod} (ht : TskR I tc t) (hl : LodR I lc l) (hr : room l.node l.used t.needs = true) :
    Pure Tryz.prog 143 [.agg ⟨tc⟩, .agg ⟨lc⟩] I O (.int .i64 (fullS t l)) := by
  have ht0 := ht
  obtain ⟨tw, tb, rfl, htw, htb⟩ := ht.ex
  have htw0 := htw
  obtain ⟨wa, wcap, rfl, hw1, hw2, -⟩ := htw
  have htb0 := htb
  obtain ⟨ba, bcap, rfl, hb1, hb2, -⟩ := htb
  have hl0 := hl
  obtain ⟨lv, tv, rfl, hlv, htv⟩ := hl.ex
  have hlv0 := hlv
  obtain ⟨lva, lvc, rfl, hlv1, hlv2, -⟩ := hlv
  have htv0 := htv
  obtain ⟨tva, tvc, rfl, htv1, htv2, -⟩ := htv
  have hnd := lodNode hl0 hlv0 htv0
  obtain ⟨r1, r2, r3, r4⟩ := room_out hr
  have r1 := A3.amt_out r1
  have r2 := A3.amt_out r2
  have r3 := A3.amt_out r3
  refine Go.Sy.Does.enter Tryz.func143 rfl Tryz.ntmps143 rfl ?_
  refine .seq <| .region <| .on rfl <| .box rfl rfl rfl fun c1 _ _ => .on rfl <| .box rfl rfl rfl fun c2 _ _ => .e (.assign rfl) rfl rfl <| .nil ?_
  refine .go <| .scope <| .seq <| .label <| .go <| .seq ?_
  refine .seq <| .region <| .e (.fieldAddr fo47_0 rfl) rfl rfl <| .e (.fieldAddr fo45_1 rfl) rfl rfl <| .e (.loadP ag39 sz39 rfl .here rfl) rfl rfl <| .e (.move rfl) rfl rfl ?_
  refine .nil <| .go <| .block <| .unroll 3 <| .seq <| .region ?_
  refine .e (.lss rfl rfl) rfl rfl <| .nil <| .go <| .seq <| .cond_true rfl <| .skip ?_
  refine .go <| .seq <| .block <| .seq <| .region <| .e (.move rfl) rfl rfl ?_
  refine .e (.index (j := 0) ar39 ag2 rfl rfl rfl (by first | decide | omega) rfl) rfl rfl <| .e (.assign rfl) rfl rfl <| .e (.assign rfl) rfl rfl <| .nil <| .go <| .seq ?_
  refine .seq <| .region <| .e (.move rfl) rfl rfl <| .e (.eql rfl rfl) rfl rfl <| .nil <| .go ?_
  refine .split 15 rfl (fun h15 => ?_) (fun h15 => ?_)
  · skip
    replace h15 := of_decide_eq_true h15
    refine .cond_true rfl <| .exit <| .exit <| .blk_exit <| .go <| .region ?_
    refine .e (.add (c := 1) rfl rfl (by decide)) rfl rfl <| .e (.move rfl) rfl rfl <| .nil <| .again <| .seq <| .region ?_
    refine .e (.lss rfl rfl) rfl rfl <| .nil <| .go <| .seq <| .cond_true rfl <| .skip ?_
    refine .go <| .seq <| .block <| .seq <| .region <| .e (.move rfl) rfl rfl ?_
    refine .e (.index (j := 1) ar39 ag2 rfl rfl rfl (by first | decide | omega) rfl) rfl rfl <| .e (.assign rfl) rfl rfl <| .e (.assign rfl) rfl rfl <| .nil <| .go <| .seq ?_
    refine .seq <| .region <| .e (.move rfl) rfl rfl <| .e (.eql rfl rfl) rfl rfl <| .nil <| .go ?_
    refine .split 15 rfl (fun h15_2 => ?_) (fun h15_2 => ?_)
    · skip
      replace h15_2 := of_decide_eq_true h15_2
      refine .cond_true rfl <| .exit <| .exit <| .blk_exit <| .go <| .region ?_
      refine .e (.add (c := 2) rfl rfl (by decide)) rfl rfl <| .e (.move rfl) rfl rfl <| .nil <| .again <| .seq <| .region ?_
      refine .e (.lss rfl rfl) rfl rfl <| .nil <| .go <| .seq <| .cond_true rfl <| .skip ?_
      refine .go <| .seq <| .block <| .seq <| .region <| .e (.move rfl) rfl rfl ?_
      refine .e (.index (j := 2) ar39 ag2 rfl rfl rfl (by first | decide | omega) rfl) rfl rfl <| .e (.assign rfl) rfl rfl <| .e (.assign rfl) rfl rfl <| .nil <| .go <| .seq ?_
      refine .seq <| .region <| .e (.move rfl) rfl rfl <| .e (.eql rfl rfl) rfl rfl <| .nil <| .go ?_
      refine .split 15 rfl (fun h15_3 => ?_) (fun h15_3 => ?_)
      · skip
        replace h15_3 := of_decide_eq_true h15_3
        refine .cond_true rfl <| .exit <| .exit <| .blk_exit <| .go <| .region ?_
        refine .e (.add (c := 3) rfl rfl (by decide)) rfl rfl <| .e (.move rfl) rfl rfl <| .nil <| .again <| .seq <| .region ?_
        refine .e (.lss rfl rfl) rfl rfl <| .nil <| .go <| .seq <| .cond_false rfl <| .exit ?_
        refine .exit <| .exit <| .blk_exit <| .go <| .seq <| .region ?_
        refine .e (.move rfl) rfl rfl <| .e (.assign rfl) rfl rfl <| .nil <| .go <| .ret <| .sc_ret ?_
        refine .tail <| .tail ?_
        refine Post.retE rfl rfl ?_
        refine congrArg (Value.int .i64) ?_
        unfold fullS term
        simp [h15, h15_2, h15_3]
      · skip
        replace h15_3 := of_decide_eq_false h15_3
        have q2 := quo_bd (h := l.node.has.c) (x := l.used.c + t.needs.c) (by omega) (by omega) (by omega)
        refine .cond_false rfl <| .skip <| .go ?_
        refine .draw [(c2, _), (c1, _)] mixed (.cons .here (.cons (.there <| .here) .nil)) ?_
        refine .t 0 rfl (.move rfl) rfl rfl (by kernel_rfl) <| .t 1 rfl (.move rfl) rfl rfl (by kernel_rfl) <| .t 2 rfl (.fieldAddr fo47_1 rfl) rfl rfl (by kernel_rfl) <| .t 3 rfl (.indexAddrA (j := 2) ar39 rfl rfl rfl (by first | decide | omega)) rfl rfl (by kernel_rfl) <| .t 4 rfl (.load ag2 rfl .here rfl) rfl rfl (by kernel_rfl) <| .t 5 rfl (.move rfl) rfl rfl (by kernel_rfl) ?_
        refine .t 6 rfl (.fieldAddr fo42_1 rfl) rfl rfl (by kernel_rfl) <| .t 7 rfl (.indexAddrA (j := 2) ar39 rfl rfl rfl (by first | decide | omega)) rfl rfl (by kernel_rfl) <| .t 8 rfl (.load ag2 rfl (.there <| .here) rfl) rfl rfl (by kernel_rfl) <| .t 9 rfl (.add rfl rfl (IntWalk.i64_in _ (by omega))) rfl rfl (by kernel_rfl) <| .t 10 rfl (.mul rfl rfl (IntWalk.i64_in _ (by omega))) rfl rfl (by kernel_rfl) <| .t 11 rfl (.move rfl) rfl rfl (by kernel_rfl) ?_
        refine .t 12 rfl (.quo rfl rfl (by omega) (quo_wrap (by omega) (by omega) (by omega))) rfl rfl (by kernel_rfl) <| .t 13 rfl (.add rfl rfl (add_in (by first | decide | omega) (by first | decide | omega) (quo_bd (by omega) (by omega) (by omega)))) rfl rfl (by kernel_rfl) <| .t 14 rfl (.assign rfl) rfl rfl (by kernel_rfl) <| .done (by kernel_rfl) <| .blk_normal <| .go ?_
        refine .region <| .e (.add (c := 3) rfl rfl (by decide)) rfl rfl <| .e (.move rfl) rfl rfl <| .nil <| .again <| .seq ?_
        refine .region <| .e (.lss rfl rfl) rfl rfl <| .nil <| .go <| .seq <| .cond_false rfl ?_
        refine .exit <| .exit <| .exit <| .blk_exit <| .go <| .seq ?_
        refine .region <| .e (.move rfl) rfl rfl <| .e (.assign rfl) rfl rfl <| .nil <| .go <| .ret ?_
        refine .sc_ret ?_
        refine .tail <| .tail ?_
        refine Post.retE rfl rfl ?_
        refine congrArg (Value.int .i64) ?_
        unfold fullS term
        simp [h15, h15_2, h15_3]
    · skip
      replace h15_2 := of_decide_eq_false h15_2
      have q1 := quo_bd (h := l.node.has.b) (x := l.used.b + t.needs.b) (by omega) (by omega) (by omega)
      refine .cond_false rfl <| .skip <| .go ?_
      refine .draw [(c2, _), (c1, _)] mixed (.cons .here (.cons (.there <| .here) .nil)) ?_
      refine .t 0 rfl (.move rfl) rfl rfl (by kernel_rfl) <| .t 1 rfl (.move rfl) rfl rfl (by kernel_rfl) <| .t 2 rfl (.fieldAddr fo47_1 rfl) rfl rfl (by kernel_rfl) <| .t 3 rfl (.indexAddrA (j := 1) ar39 rfl rfl rfl (by first | decide | omega)) rfl rfl (by kernel_rfl) <| .t 4 rfl (.load ag2 rfl .here rfl) rfl rfl (by kernel_rfl) <| .t 5 rfl (.move rfl) rfl rfl (by kernel_rfl) ?_
      refine .t 6 rfl (.fieldAddr fo42_1 rfl) rfl rfl (by kernel_rfl) <| .t 7 rfl (.indexAddrA (j := 1) ar39 rfl rfl rfl (by first | decide | omega)) rfl rfl (by kernel_rfl) <| .t 8 rfl (.load ag2 rfl (.there <| .here) rfl) rfl rfl (by kernel_rfl) <| .t 9 rfl (.add rfl rfl (IntWalk.i64_in _ (by omega))) rfl rfl (by kernel_rfl) <| .t 10 rfl (.mul rfl rfl (IntWalk.i64_in _ (by omega))) rfl rfl (by kernel_rfl) <| .t 11 rfl (.move rfl) rfl rfl (by kernel_rfl) ?_
      refine .t 12 rfl (.quo rfl rfl (by omega) (quo_wrap (by omega) (by omega) (by omega))) rfl rfl (by kernel_rfl) <| .t 13 rfl (.add rfl rfl (add_in (by first | decide | omega) (by first | decide | omega) (quo_bd (by omega) (by omega) (by omega)))) rfl rfl (by kernel_rfl) <| .t 14 rfl (.assign rfl) rfl rfl (by kernel_rfl) <| .done (by kernel_rfl) <| .blk_normal <| .go ?_
      refine .region <| .e (.add (c := 2) rfl rfl (by decide)) rfl rfl <| .e (.move rfl) rfl rfl <| .nil <| .again <| .seq ?_
      refine .region <| .e (.lss rfl rfl) rfl rfl <| .nil <| .go <| .seq <| .cond_true rfl ?_
      refine .skip <| .go <| .seq <| .block <| .seq <| .region ?_
      refine .e (.move rfl) rfl rfl <| .e (.index (j := 2) ar39 ag2 rfl rfl rfl (by first | decide | omega) rfl) rfl rfl <| .e (.assign rfl) rfl rfl <| .e (.assign rfl) rfl rfl <| .nil <| .go ?_
      refine .seq <| .seq <| .region <| .e (.move rfl) rfl rfl <| .e (.eql rfl rfl) rfl rfl <| .nil ?_
      refine .go ?_
      refine .split 15 rfl (fun h15_3 => ?_) (fun h15_3 => ?_)
      · skip
        replace h15_3 := of_decide_eq_true h15_3
        refine .cond_true rfl <| .exit <| .exit <| .blk_exit <| .go <| .region ?_
        refine .e (.add (c := 3) rfl rfl (by decide)) rfl rfl <| .e (.move rfl) rfl rfl <| .nil <| .again <| .seq <| .region ?_
        refine .e (.lss rfl rfl) rfl rfl <| .nil <| .go <| .seq <| .cond_false rfl <| .exit ?_
        refine .exit <| .exit <| .blk_exit <| .go <| .seq <| .region ?_
        refine .e (.move rfl) rfl rfl <| .e (.assign rfl) rfl rfl <| .nil <| .go <| .ret <| .sc_ret ?_
        refine .tail <| .tail ?_
        refine Post.retE rfl rfl ?_
        refine congrArg (Value.int .i64) ?_
        unfold fullS term
        simp [h15, h15_2, h15_3]
      · skip
        replace h15_3 := of_decide_eq_false h15_3
        have q2 := quo_bd (h := l.node.has.c) (x := l.used.c + t.needs.c) (by omega) (by omega) (by omega)
        refine .cond_false rfl <| .skip <| .go ?_
        refine .draw [(c2, _), (c1, _)] mixed (.cons .here (.cons (.there <| .here) .nil)) ?_
        refine .t 0 rfl (.move rfl) rfl rfl (by kernel_rfl) <| .t 1 rfl (.move rfl) rfl rfl (by kernel_rfl) <| .t 2 rfl (.fieldAddr fo47_1 rfl) rfl rfl (by kernel_rfl) <| .t 3 rfl (.indexAddrA (j := 2) ar39 rfl rfl rfl (by first | decide | omega)) rfl rfl (by kernel_rfl) <| .t 4 rfl (.load ag2 rfl .here rfl) rfl rfl (by kernel_rfl) <| .t 5 rfl (.move rfl) rfl rfl (by kernel_rfl) ?_
        refine .t 6 rfl (.fieldAddr fo42_1 rfl) rfl rfl (by kernel_rfl) <| .t 7 rfl (.indexAddrA (j := 2) ar39 rfl rfl rfl (by first | decide | omega)) rfl rfl (by kernel_rfl) <| .t 8 rfl (.load ag2 rfl (.there <| .here) rfl) rfl rfl (by kernel_rfl) <| .t 9 rfl (.add rfl rfl (IntWalk.i64_in _ (by omega))) rfl rfl (by kernel_rfl) <| .t 10 rfl (.mul rfl rfl (IntWalk.i64_in _ (by omega))) rfl rfl (by kernel_rfl) <| .t 11 rfl (.move rfl) rfl rfl (by kernel_rfl) ?_
        refine .t 12 rfl (.quo rfl rfl (by omega) (quo_wrap (by omega) (by omega) (by omega))) rfl rfl (by kernel_rfl) <| .t 13 rfl (.add rfl rfl (add_in (by first | decide | omega) (by first | decide | omega) (quo_bd (by omega) (by omega) (by omega)))) rfl rfl (by kernel_rfl) <| .t 14 rfl (.assign rfl) rfl rfl (by kernel_rfl) <| .done (by kernel_rfl) <| .blk_normal <| .go ?_
        refine .region <| .e (.add (c := 3) rfl rfl (by decide)) rfl rfl <| .e (.move rfl) rfl rfl <| .nil <| .again <| .seq ?_
        refine .region <| .e (.lss rfl rfl) rfl rfl <| .nil <| .go <| .seq <| .cond_false rfl ?_
        refine .exit <| .exit <| .exit <| .blk_exit <| .go <| .seq ?_
        refine .region <| .e (.move rfl) rfl rfl <| .e (.assign rfl) rfl rfl <| .nil <| .go <| .ret ?_
        refine .sc_ret ?_
        refine .tail <| .tail ?_
        refine Post.retE rfl rfl ?_
        refine congrArg (Value.int .i64) ?_
        unfold fullS term
        simp [h15, h15_2, h15_3]
  · skip
    replace h15 := of_decide_eq_false h15
    have q0 := quo_bd (h := l.node.has.a) (x := l.used.a + t.needs.a) (by omega) (by omega) (by omega)
    refine .cond_false rfl <| .skip <| .go ?_
    refine .draw [(c2, _), (c1, _)] mixed (.cons .here (.cons (.there <| .here) .nil)) ?_
    refine .t 0 rfl (.move rfl) rfl rfl (by kernel_rfl) <| .t 1 rfl (.move rfl) rfl rfl (by kernel_rfl) <| .t 2 rfl (.fieldAddr fo47_1 rfl) rfl rfl (by kernel_rfl) <| .t 3 rfl (.indexAddrA (j := 0) ar39 rfl rfl rfl (by first | decide | omega)) rfl rfl (by kernel_rfl) <| .t 4 rfl (.load ag2 rfl .here rfl) rfl rfl (by kernel_rfl) <| .t 5 rfl (.move rfl) rfl rfl (by kernel_rfl) ?_
    refine .t 6 rfl (.fieldAddr fo42_1 rfl) rfl rfl (by kernel_rfl) <| .t 7 rfl (.indexAddrA (j := 0) ar39 rfl rfl rfl (by first | decide | omega)) rfl rfl (by kernel_rfl) <| .t 8 rfl (.load ag2 rfl (.there <| .here) rfl) rfl rfl (by kernel_rfl) <| .t 9 rfl (.add rfl rfl (IntWalk.i64_in _ (by omega))) rfl rfl (by kernel_rfl) <| .t 10 rfl (.mul rfl rfl (IntWalk.i64_in _ (by omega))) rfl rfl (by kernel_rfl) <| .t 11 rfl (.move rfl) rfl rfl (by kernel_rfl) ?_
    refine .t 12 rfl (.quo rfl rfl (by omega) (quo_wrap (by omega) (by omega) (by omega))) rfl rfl (by kernel_rfl) <| .t 13 rfl (.add rfl rfl (add_in (by first | decide | omega) (by first | decide | omega) (quo_bd (by omega) (by omega) (by omega)))) rfl rfl (by kernel_rfl) <| .t 14 rfl (.assign rfl) rfl rfl (by kernel_rfl) <| .done (by kernel_rfl) <| .blk_normal <| .go ?_
    refine .region <| .e (.add (c := 1) rfl rfl (by decide)) rfl rfl <| .e (.move rfl) rfl rfl <| .nil <| .again <| .seq ?_
    refine .region <| .e (.lss rfl rfl) rfl rfl <| .nil <| .go <| .seq <| .cond_true rfl ?_
    refine .skip <| .go <| .seq <| .block <| .seq <| .region ?_
    refine .e (.move rfl) rfl rfl <| .e (.index (j := 1) ar39 ag2 rfl rfl rfl (by first | decide | omega) rfl) rfl rfl <| .e (.assign rfl) rfl rfl <| .e (.assign rfl) rfl rfl <| .nil <| .go ?_
    refine .seq <| .seq <| .region <| .e (.move rfl) rfl rfl <| .e (.eql rfl rfl) rfl rfl <| .nil ?_
    refine .go ?_
    refine .split 15 rfl (fun h15_2 => ?_) (fun h15_2 => ?_)
    · skip
      replace h15_2 := of_decide_eq_true h15_2
      refine .cond_true rfl <| .exit <| .exit <| .blk_exit <| .go <| .region ?_
      refine .e (.add (c := 2) rfl rfl (by decide)) rfl rfl <| .e (.move rfl) rfl rfl <| .nil <| .again <| .seq <| .region ?_
      refine .e (.lss rfl rfl) rfl rfl <| .nil <| .go <| .seq <| .cond_true rfl <| .skip ?_
      refine .go <| .seq <| .block <| .seq <| .region <| .e (.move rfl) rfl rfl ?_
      refine .e (.index (j := 2) ar39 ag2 rfl rfl rfl (by first | decide | omega) rfl) rfl rfl <| .e (.assign rfl) rfl rfl <| .e (.assign rfl) rfl rfl <| .nil <| .go <| .seq ?_
      refine .seq <| .region <| .e (.move rfl) rfl rfl <| .e (.eql rfl rfl) rfl rfl <| .nil <| .go ?_
      refine .split 15 rfl (fun h15_3 => ?_) (fun h15_3 => ?_)
      · skip
        replace h15_3 := of_decide_eq_true h15_3
        refine .cond_true rfl <| .exit <| .exit <| .blk_exit <| .go <| .region ?_
        refine .e (.add (c := 3) rfl rfl (by decide)) rfl rfl <| .e (.move rfl) rfl rfl <| .nil <| .again <| .seq <| .region ?_
        refine .e (.lss rfl rfl) rfl rfl <| .nil <| .go <| .seq <| .cond_false rfl <| .exit ?_
        refine .exit <| .exit <| .blk_exit <| .go <| .seq <| .region ?_
        refine .e (.move rfl) rfl rfl <| .e (.assign rfl) rfl rfl <| .nil <| .go <| .ret <| .sc_ret ?_
        refine .tail <| .tail ?_
        refine Post.retE rfl rfl ?_
        refine congrArg (Value.int .i64) ?_
        unfold fullS term
        simp [h15, h15_2, h15_3]
      · skip
        replace h15_3 := of_decide_eq_false h15_3
        have q2 := quo_bd (h := l.node.has.c) (x := l.used.c + t.needs.c) (by omega) (by omega) (by omega)
        refine .cond_false rfl <| .skip <| .go ?_
        refine .draw [(c2, _), (c1, _)] mixed (.cons .here (.cons (.there <| .here) .nil)) ?_
        refine .t 0 rfl (.move rfl) rfl rfl (by kernel_rfl) <| .t 1 rfl (.move rfl) rfl rfl (by kernel_rfl) <| .t 2 rfl (.fieldAddr fo47_1 rfl) rfl rfl (by kernel_rfl) <| .t 3 rfl (.indexAddrA (j := 2) ar39 rfl rfl rfl (by first | decide | omega)) rfl rfl (by kernel_rfl) <| .t 4 rfl (.load ag2 rfl .here rfl) rfl rfl (by kernel_rfl) <| .t 5 rfl (.move rfl) rfl rfl (by kernel_rfl) ?_
        refine .t 6 rfl (.fieldAddr fo42_1 rfl) rfl rfl (by kernel_rfl) <| .t 7 rfl (.indexAddrA (j := 2) ar39 rfl rfl rfl (by first | decide | omega)) rfl rfl (by kernel_rfl) <| .t 8 rfl (.load ag2 rfl (.there <| .here) rfl) rfl rfl (by kernel_rfl) <| .t 9 rfl (.add rfl rfl (IntWalk.i64_in _ (by omega))) rfl rfl (by kernel_rfl) <| .t 10 rfl (.mul rfl rfl (IntWalk.i64_in _ (by omega))) rfl rfl (by kernel_rfl) <| .t 11 rfl (.move rfl) rfl rfl (by kernel_rfl) ?_
        refine .t 12 rfl (.quo rfl rfl (by omega) (quo_wrap (by omega) (by omega) (by omega))) rfl rfl (by kernel_rfl) <| .t 13 rfl (.add rfl rfl (add_in (by first | decide | omega) (by first | decide | omega) (quo_bd (by omega) (by omega) (by omega)))) rfl rfl (by kernel_rfl) <| .t 14 rfl (.assign rfl) rfl rfl (by kernel_rfl) <| .done (by kernel_rfl) <| .blk_normal <| .go ?_
        refine .region <| .e (.add (c := 3) rfl rfl (by decide)) rfl rfl <| .e (.move rfl) rfl rfl <| .nil <| .again <| .seq ?_
        refine .region <| .e (.lss rfl rfl) rfl rfl <| .nil <| .go <| .seq <| .cond_false rfl ?_
        refine .exit <| .exit <| .exit <| .blk_exit <| .go <| .seq ?_
        refine .region <| .e (.move rfl) rfl rfl <| .e (.assign rfl) rfl rfl <| .nil <| .go <| .ret ?_
        refine .sc_ret ?_
        refine .tail <| .tail ?_
        refine Post.retE rfl rfl ?_
        refine congrArg (Value.int .i64) ?_
        unfold fullS term
        simp [h15, h15_2, h15_3]
    · skip
      replace h15_2 := of_decide_eq_false h15_2
      have q1 := quo_bd (h := l.node.has.b) (x := l.used.b + t.needs.b) (by omega) (by omega) (by omega)
      refine .cond_false rfl <| .skip <| .go ?_
      refine .draw [(c2, _), (c1, _)] mixed (.cons .here (.cons (.there <| .here) .nil)) ?_
      refine .t 0 rfl (.move rfl) rfl rfl (by kernel_rfl) <| .t 1 rfl (.move rfl) rfl rfl (by kernel_rfl) <| .t 2 rfl (.fieldAddr fo47_1 rfl) rfl rfl (by kernel_rfl) <| .t 3 rfl (.indexAddrA (j := 1) ar39 rfl rfl rfl (by first | decide | omega)) rfl rfl (by kernel_rfl) <| .t 4 rfl (.load ag2 rfl .here rfl) rfl rfl (by kernel_rfl) <| .t 5 rfl (.move rfl) rfl rfl (by kernel_rfl) ?_
      refine .t 6 rfl (.fieldAddr fo42_1 rfl) rfl rfl (by kernel_rfl) <| .t 7 rfl (.indexAddrA (j := 1) ar39 rfl rfl rfl (by first | decide | omega)) rfl rfl (by kernel_rfl) <| .t 8 rfl (.load ag2 rfl (.there <| .here) rfl) rfl rfl (by kernel_rfl) <| .t 9 rfl (.add rfl rfl (IntWalk.i64_in _ (by omega))) rfl rfl (by kernel_rfl) <| .t 10 rfl (.mul rfl rfl (IntWalk.i64_in _ (by omega))) rfl rfl (by kernel_rfl) <| .t 11 rfl (.move rfl) rfl rfl (by kernel_rfl) ?_
      refine .t 12 rfl (.quo rfl rfl (by omega) (quo_wrap (by omega) (by omega) (by omega))) rfl rfl (by kernel_rfl) <| .t 13 rfl (.add rfl rfl (add_in (by first | decide | omega) (by first | decide | omega) (quo_bd (by omega) (by omega) (by omega)))) rfl rfl (by kernel_rfl) <| .t 14 rfl (.assign rfl) rfl rfl (by kernel_rfl) <| .done (by kernel_rfl) <| .blk_normal <| .go ?_
      refine .region <| .e (.add (c := 2) rfl rfl (by decide)) rfl rfl <| .e (.move rfl) rfl rfl <| .nil <| .again <| .seq ?_
      refine .region <| .e (.lss rfl rfl) rfl rfl <| .nil <| .go <| .seq <| .cond_true rfl ?_
      refine .skip <| .go <| .seq <| .block <| .seq <| .region ?_
      refine .e (.move rfl) rfl rfl <| .e (.index (j := 2) ar39 ag2 rfl rfl rfl (by first | decide | omega) rfl) rfl rfl <| .e (.assign rfl) rfl rfl <| .e (.assign rfl) rfl rfl <| .nil <| .go ?_
      refine .seq <| .seq <| .region <| .e (.move rfl) rfl rfl <| .e (.eql rfl rfl) rfl rfl <| .nil ?_
      refine .go ?_
      refine .split 15 rfl (fun h15_3 => ?_) (fun h15_3 => ?_)
      · skip
        replace h15_3 := of_decide_eq_true h15_3
        refine .cond_true rfl <| .exit <| .exit <| .blk_exit <| .go <| .region ?_
        refine .e (.add (c := 3) rfl rfl (by decide)) rfl rfl <| .e (.move rfl) rfl rfl <| .nil <| .again <| .seq <| .region ?_
        refine .e (.lss rfl rfl) rfl rfl <| .nil <| .go <| .seq <| .cond_false rfl <| .exit ?_
        refine .exit <| .exit <| .blk_exit <| .go <| .seq <| .region ?_
        refine .e (.move rfl) rfl rfl <| .e (.assign rfl) rfl rfl <| .nil <| .go <| .ret <| .sc_ret ?_
        refine .tail <| .tail ?_
        refine Post.retE rfl rfl ?_
        refine congrArg (Value.int .i64) ?_
        unfold fullS term
        simp [h15, h15_2, h15_3]
      · skip
        replace h15_3 := of_decide_eq_false h15_3
        have q2 := quo_bd (h := l.node.has.c) (x := l.used.c + t.needs.c) (by omega) (by omega) (by omega)
        refine .cond_false rfl <| .skip <| .go ?_
        refine .draw [(c2, _), (c1, _)] mixed (.cons .here (.cons (.there <| .here) .nil)) ?_
        refine .t 0 rfl (.move rfl) rfl rfl (by kernel_rfl) <| .t 1 rfl (.move rfl) rfl rfl (by kernel_rfl) <| .t 2 rfl (.fieldAddr fo47_1 rfl) rfl rfl (by kernel_rfl) <| .t 3 rfl (.indexAddrA (j := 2) ar39 rfl rfl rfl (by first | decide | omega)) rfl rfl (by kernel_rfl) <| .t 4 rfl (.load ag2 rfl .here rfl) rfl rfl (by kernel_rfl) <| .t 5 rfl (.move rfl) rfl rfl (by kernel_rfl) ?_
        refine .t 6 rfl (.fieldAddr fo42_1 rfl) rfl rfl (by kernel_rfl) <| .t 7 rfl (.indexAddrA (j := 2) ar39 rfl rfl rfl (by first | decide | omega)) rfl rfl (by kernel_rfl) <| .t 8 rfl (.load ag2 rfl (.there <| .here) rfl) rfl rfl (by kernel_rfl) <| .t 9 rfl (.add rfl rfl (IntWalk.i64_in _ (by omega))) rfl rfl (by kernel_rfl) <| .t 10 rfl (.mul rfl rfl (IntWalk.i64_in _ (by omega))) rfl rfl (by kernel_rfl) <| .t 11 rfl (.move rfl) rfl rfl (by kernel_rfl) ?_
        refine .t 12 rfl (.quo rfl rfl (by omega) (quo_wrap (by omega) (by omega) (by omega))) rfl rfl (by kernel_rfl) <| .t 13 rfl (.add rfl rfl (add_in (by first | decide | omega) (by first | decide | omega) (quo_bd (by omega) (by omega) (by omega)))) rfl rfl (by kernel_rfl) <| .t 14 rfl (.assign rfl) rfl rfl (by kernel_rfl) <| .done (by kernel_rfl) <| .blk_normal <| .go ?_
        refine .region <| .e (.add (c := 3) rfl rfl (by decide)) rfl rfl <| .e (.move rfl) rfl rfl <| .nil <| .again <| .seq ?_
        refine .region <| .e (.lss rfl rfl) rfl rfl <| .nil <| .go <| .seq <| .cond_false rfl ?_
        refine .exit <| .exit <| .exit <| .blk_exit <| .go <| .seq ?_
        refine .region <| .e (.move rfl) rfl rfl <| .e (.assign rfl) rfl rfl <| .nil <| .go <| .ret ?_
        refine .sc_ret ?_
        refine .tail <| .tail ?_
        refine Post.retE rfl rfl ?_
        refine congrArg (Value.int .i64) ?_
        unfold fullS term
        simp [h15, h15_2, h15_3]

set_option maxHeartbeats 1000000 in
set_option maxRecDepth 20000 in
theorem Score_ok {I : Imm} {O : Own} {tc lc : List Value} {t : Tsk} {l : Lod} (ht : TskR I tc t) (hl : LodR I lc l) :
    Pure Tryz.prog 94 [.agg ⟨tc⟩, .agg ⟨lc⟩] I O (pairV (scoreR t l)) := by
  have ht0 := ht
  obtain ⟨tw, tb, rfl, htw, htb⟩ := ht.ex
  have htw0 := htw
  obtain ⟨wa, wcap, rfl, hw1, hw2, -⟩ := htw
  have htb0 := htb
  obtain ⟨ba, bcap, rfl, hb1, hb2, -⟩ := htb
  have hl0 := hl
  obtain ⟨lv, tv, rfl, hlv, htv⟩ := hl.ex
  have hlv0 := hlv
  obtain ⟨lva, lvc, rfl, hlv1, hlv2, -⟩ := hlv
  have htv0 := htv
  obtain ⟨tva, tvc, rfl, htv1, htv2, -⟩ := htv
  have hnd := lodNode hl0 hlv0 htv0
  refine Go.Sy.Does.enter Tryz.func94 rfl Tryz.ntmps94 rfl ?_
  refine .seq <| .region <| .on rfl <| .box rfl rfl rfl fun c1 _ _ => .on rfl <| .box rfl rfl rfl fun c2 _ _ => .e (.assign rfl) rfl rfl <| .e (.assign rfl) rfl rfl ?_
  refine .nil <| .go <| .seq <| .seq ?_
  refine .draw [(c1, _), (c2, _)] mixed (.cons (.there <| .here) (.cons .here .nil)) ?_
  refine .t 0 rfl (.loadW ag42 sz42 rfl .here rfl) rfl rfl (by kernel_rfl) <| .t 2 rfl (.loadW ag47 sz47 rfl (.there <| .here) rfl) rfl rfl (by kernel_rfl) <| .one (i := 1) (by kernel_rfl) rfl rfl <| .callP cal66 rfl rfl rfl (CheckTask_ok ht0) ?_
  refine ⟨(.cons (.there <| .here) (.cons .here .nil)), Imm.le_refl _, ?_⟩
  refine .one (i := 3) (by kernel_rfl) rfl rfl <| .callP cal89 rfl rfl rfl (Check_ok hl0) ?_
  refine ⟨(.cons (.there <| .here) (.cons .here .nil)), Imm.le_refl _, ?_⟩
  refine .one (i := 4) (by kernel_rfl) rfl rfl <| .buildSlice Tryz.underlying171 sz28 (by decide) (by decide) zv28 rfl rfl rfl rfl rfl fun c3 _ _ => ?_
  refine ⟨(.cons (.there <| .there <| .here) (.cons (.there <| .here) .nil)), Imm.le_refl _, ?_⟩
  refine .freeze fun J hJ hJb => ?_
  have htJ := ht0.mono hJ
  have hlJ := hl0.mono hJ
  have hnJ := hnd.mono hJ
  refine .one (i := 5) (by kernel_rfl) rfl rfl <| .callP cal88 rfl rfl rfl (orE_ok hJb) ?_
  refine ⟨(.cons (.there <| .here) (.cons .here .nil)), hJ, ?_⟩
  refine .t 6 rfl (.assign rfl) rfl rfl (by kernel_rfl) <| .done (by kernel_rfl) <| .go <| .seq <| .region <| .e (.move rfl) rfl rfl ?_
  refine .e (.neq rfl rfl) rfl rfl <| .nil <| .go ?_
  refine .split 14 rfl (fun h14 => ?_) (fun h14 => ?_)
  · skip
    first | replace h14 := of_decide_eq_false ((Bool.not_eq_true' _).mp h14) | replace h14 := of_decide_eq_false (by simpa using h14)
    refine .cond_true rfl <| .seq <| .region <| .e (.move rfl) rfl rfl <| .e (.assign rfl) rfl rfl <| .e (.assign rfl) rfl rfl ?_
    refine .nil <| .go <| .ret <| .ret ?_
    refine .back hJ ?_
    refine Post.retsE rfl (.tmp rfl (.tmp rfl .nil)) rfl (fun w h => h.tail.tail) ?_
    exact pairV_eq (scoreR_why rfl h14)
  · skip
    first | replace h14 := of_decide_eq_true ((Bool.not_eq_false' _).mp h14) | replace h14 := of_decide_eq_true (by simpa using h14)
    refine .cond_false rfl <| .skip <| .go <| .seq <| .seq <| .region ?_
    refine .e (.loadW ag42 sz42 rfl (.there <| .here) rfl) rfl rfl <| .e (.fieldAddr fo47_0 rfl) rfl rfl <| .e (.loadP ag45 sz45 rfl .here rfl) rfl rfl <| .on rfl <| .callP cal118 rfl rfl rfl (Suits_ok htJ hnJ) <| .e (.not rfl) rfl rfl <| .e (.move rfl) rfl rfl ?_
    refine .split 21 rfl (fun h21 => ?_) (fun h21 => ?_)
    · skip
      refine .off rfl rfl <| .off rfl rfl <| .off rfl rfl <| .off rfl rfl <| .off rfl rfl <| .off rfl rfl ?_
      refine .off rfl rfl <| .off rfl rfl <| .e (.pickT rfl rfl) rfl rfl <| .nil <| .go <| .cond_true rfl ?_
      refine .seq <| .region <| .e (.assign rfl) rfl rfl <| .e (.assign rfl) rfl rfl <| .nil <| .go ?_
      refine .ret <| .ret ?_
      refine .back hJ ?_
      refine Post.retsE rfl (.tmp rfl (.tmp rfl .nil)) rfl (fun w h => h.tail.tail) ?_
      exact pairV_eq (scoreR_fit h14 (by first | exact .inl (by simpa using h21) | exact .inr (by simpa using h30)))
    · skip
      refine .e (.fieldAddr fo47_0 rfl) rfl rfl <| .e (.loadP ag45 sz45 rfl .here rfl) rfl rfl <| .e (.fieldAddr fo47_1 rfl) rfl rfl <| .e (.loadP ag39 sz39 rfl .here rfl) rfl rfl <| .e (.fieldAddr fo42_1 rfl) rfl rfl <| .e (.loadP ag39 sz39 rfl (.there <| .here) rfl) rfl rfl ?_
      refine .on rfl <| .callP cal117 rfl rfl rfl (Room_ok (u := l.used) (d := t.needs) hnJ) <| .e (.not rfl) rfl rfl <| .e (.pickF rfl rfl) rfl rfl <| .nil <| .go ?_
      refine .split 30 rfl (fun h30 => ?_) (fun h30 => ?_)
      · skip
        refine .cond_true rfl <| .seq <| .region <| .e (.assign rfl) rfl rfl <| .e (.assign rfl) rfl rfl <| .nil ?_
        refine .go <| .ret <| .ret ?_
        refine .back hJ ?_
        refine Post.retsE rfl (.tmp rfl (.tmp rfl .nil)) rfl (fun w h => h.tail.tail) ?_
        exact pairV_eq (scoreR_fit h14 (by first | exact .inl (by simpa using h21) | exact .inr (by simpa using h30)))
      · skip
        refine .cond_false rfl <| .skip <| .go <| .seq <| .region <| .e (.loadW ag42 sz42 rfl (.there <| .here) rfl) rfl rfl ?_
        refine .e (.loadW ag47 sz47 rfl .here rfl) rfl rfl <| .on rfl <| .callP cal143 rfl rfl rfl (full_ok htJ hlJ (by simpa using h30)) <| .e (.assign rfl) rfl rfl <| .e (.assign rfl) rfl rfl <| .nil <| .go ?_
        refine .ret ?_
        refine .back hJ ?_
        refine Post.retsE rfl (.tmp rfl (.tmp rfl .nil)) rfl (fun w h => h.tail.tail) ?_
        exact pairV_eq (scoreR_ok h14 (by simpa using h21) (by simpa using h30))

set_option maxHeartbeats 1000000 in
set_option maxRecDepth 20000 in
theorem rScore_ok {I : Imm} {O : Own} {tc lc : List Value} {t : Tsk} {l : Lod} (ht : TskR I tc t) (hl : LodR I lc l) :
    Pure Tryz.prog 180 [.agg ⟨tc⟩, .agg ⟨lc⟩] I O (pairV (scoreR t l)) := by
  have ht0 := ht
  obtain ⟨tw, tb, rfl, htw, htb⟩ := ht.ex
  have htw0 := htw
  obtain ⟨wa, wcap, rfl, hw1, hw2, -⟩ := htw
  have htb0 := htb
  obtain ⟨ba, bcap, rfl, hb1, hb2, -⟩ := htb
  have hl0 := hl
  obtain ⟨lv, tv, rfl, hlv, htv⟩ := hl.ex
  have hlv0 := hlv
  obtain ⟨lva, lvc, rfl, hlv1, hlv2, -⟩ := hlv
  have htv0 := htv
  obtain ⟨tva, tvc, rfl, htv1, htv2, -⟩ := htv
  have hnd := lodNode hl0 hlv0 htv0
  refine Go.Sy.Does.enter Tryz.func180 rfl Tryz.ntmps180 rfl ?_
  refine .seq <| .region <| .on rfl <| .box rfl rfl rfl fun c1 _ _ => .on rfl <| .box rfl rfl rfl fun c2 _ _ => .e (.assign rfl) rfl rfl <| .e (.assign rfl) rfl rfl ?_
  refine .nil <| .go <| .seq <| .region <| .e (.loadW ag42 sz42 rfl (.there <| .here) rfl) rfl rfl <| .on rfl <| .callP cal157 rfl rfl rfl (rCheckTask_ok ht0) ?_
  refine .e (.assign rfl) rfl rfl <| .nil <| .go <| .seq <| .seq <| .region ?_
  refine .e (.move rfl) rfl rfl <| .e (.eql rfl rfl) rfl rfl <| .nil <| .go ?_
  refine .split 13 rfl (fun h13 => ?_) (fun h13 => ?_)
  · skip
    replace h13 := of_decide_eq_true h13
    refine .cond_true rfl <| .region <| .e (.loadW ag47 sz47 rfl .here rfl) rfl rfl <| .on rfl <| .callP cal179 rfl rfl rfl (rCheck_ok hl0) <| .e (.assign rfl) rfl rfl <| .nil ?_
    refine .go <| .seq <| .seq <| .region <| .e (.move rfl) rfl rfl <| .e (.eql rfl rfl) rfl rfl ?_
    refine .e (.move rfl) rfl rfl ?_
    refine .split 18 rfl (fun h18 => ?_) (fun h18 => ?_)
    · skip
      replace h18 := of_decide_eq_true h18
      refine .e (.loadW ag42 sz42 rfl (.there <| .here) rfl) rfl rfl <| .e (.fieldAddr fo47_0 rfl) rfl rfl <| .e (.loadP ag45 sz45 rfl .here rfl) rfl rfl <| .on rfl <| .callP cal160 rfl rfl rfl (rSuits_ok ht0 hnd) <| .e (.move rfl) rfl rfl ?_
      refine .split 23 rfl (fun h23 => ?_) (fun h23 => ?_)
      · skip
        refine .e (.fieldAddr fo47_0 rfl) rfl rfl <| .e (.loadP ag45 sz45 rfl .here rfl) rfl rfl <| .e (.fieldAddr fo47_1 rfl) rfl rfl <| .e (.loadP ag39 sz39 rfl .here rfl) rfl rfl <| .e (.fieldAddr fo42_1 rfl) rfl rfl <| .e (.loadP ag39 sz39 rfl (.there <| .here) rfl) rfl rfl ?_
        refine .on rfl <| .callP cal162 rfl rfl rfl (rRoom_ok (u := l.used) (d := t.needs) hnd) <| .e (.pickT rfl rfl) rfl rfl <| .e (.not rfl) rfl rfl <| .e (.pickT rfl rfl) rfl rfl <| .nil <| .go ?_
        refine .split 33 rfl (fun h33 => ?_) (fun h33 => ?_)
        · skip
          refine .cond_true rfl <| .region <| .e (.assign rfl) rfl rfl <| .nil <| .go <| .seq ?_
          refine .seq <| .region <| .e (.move rfl) rfl rfl <| .e (.neq rfl rfl) rfl rfl <| .nil <| .go ?_
          refine .cond_true rfl <| .seq <| .region <| .e (.move rfl) rfl rfl <| .e (.assign rfl) rfl rfl <| .e (.assign rfl) rfl rfl ?_
          refine .nil <| .go <| .ret <| .ret ?_
          refine Post.retsE rfl (.tmp rfl (.tmp rfl .nil)) rfl (fun w h => h.tail.tail) ?_
          first | exact pairV_eq (scoreR_why (or_left (by omega)) (by omega)) | exact pairV_eq (scoreR_why (or_right (by omega)) (by omega)) | exact pairV_eq (scoreR_fit (or_zero (by omega) (by omega)) (by first | exact .inl (by simpa using h23) | exact .inr (by simp_all))) | (exfalso; omega)
        · skip
          have hrm : room l.node l.used t.needs = true := by simpa using h33
          obtain ⟨r1, r2, r3, r4⟩ := room_out hrm
          have r1 := A3.amt_out r1
          have r2 := A3.amt_out r2
          have r3 := A3.amt_out r3
          refine .cond_false rfl <| .skip <| .go <| .seq <| .seq <| .region ?_
          refine .e (.move rfl) rfl rfl <| .e (.neq rfl rfl) rfl rfl <| .nil <| .go ?_
          refine .split 35 rfl (fun h35 => ?_) (fun h35 => ?_)
          · skip
            first | replace h35 := of_decide_eq_false ((Bool.not_eq_true' _).mp h35) | replace h35 := of_decide_eq_false (by simpa using h35)
            refine .cond_true rfl <| .seq <| .region <| .e (.move rfl) rfl rfl <| .e (.assign rfl) rfl rfl <| .e (.assign rfl) rfl rfl ?_
            refine .nil <| .go <| .ret <| .ret ?_
            refine Post.retsE rfl (.tmp rfl (.tmp rfl .nil)) rfl (fun w h => h.tail.tail) ?_
            first | exact pairV_eq (scoreR_why (or_left (by omega)) (by omega)) | exact pairV_eq (scoreR_why (or_right (by omega)) (by omega)) | exact pairV_eq (scoreR_fit (or_zero (by omega) (by omega)) (by first | exact .inl (by simpa using h23) | exact .inr (by simp_all))) | (exfalso; omega)
          · skip
            first | replace h35 := of_decide_eq_true ((Bool.not_eq_false' _).mp h35) | replace h35 := of_decide_eq_true (by simpa using h35)
            refine .cond_false rfl <| .skip <| .go <| .seq <| .region <| .e (.assign rfl) rfl rfl ?_
            refine .nil <| .go <| .seq <| .seq <| .region <| .e (.fieldAddr fo47_0 rfl) rfl rfl ?_
            refine .e (.fieldAddr fo45_1 rfl) rfl rfl <| .e (.loadP ag39 sz39 rfl .here rfl) rfl rfl <| .e (.move rfl) rfl rfl <| .nil <| .go <| .block ?_
            refine .unroll 3 <| .seq <| .region <| .e (.lss rfl rfl) rfl rfl <| .nil <| .go ?_
            refine .seq <| .cond_true rfl <| .skip <| .go <| .seq <| .block ?_
            refine .seq <| .region <| .e (.move rfl) rfl rfl <| .e (.index (j := 0) ar39 ag2 rfl rfl rfl (by first | decide | omega) rfl) rfl rfl <| .e (.assign rfl) rfl rfl <| .e (.assign rfl) rfl rfl ?_
            refine .nil <| .go <| .seq <| .region <| .e (.move rfl) rfl rfl <| .e (.gtr rfl rfl) rfl rfl ?_
            refine .nil <| .go ?_
            refine .split 45 rfl (fun h45 => ?_) (fun h45 => ?_)
            · skip
              replace h45 := of_decide_eq_true h45
              have z0 : ¬l.node.has.a = 0 := by omega
              have q0 := quo_bd (h := l.node.has.a) (x := l.used.a + t.needs.a) (by omega) (by omega) (by omega)
              refine .cond_true rfl ?_
              refine .draw [(c2, _), (c1, _)] mixed (.cons .here (.cons (.there <| .here) .nil)) ?_
              refine .t 0 rfl (.move rfl) rfl rfl (by kernel_rfl) <| .t 1 rfl (.move rfl) rfl rfl (by kernel_rfl) <| .t 2 rfl (.fieldAddr fo47_1 rfl) rfl rfl (by kernel_rfl) <| .t 3 rfl (.indexAddrA (j := 0) ar39 rfl rfl rfl (by first | decide | omega)) rfl rfl (by kernel_rfl) <| .t 4 rfl (.load ag2 rfl .here rfl) rfl rfl (by kernel_rfl) <| .t 5 rfl (.move rfl) rfl rfl (by kernel_rfl) ?_
              refine .t 6 rfl (.fieldAddr fo42_1 rfl) rfl rfl (by kernel_rfl) <| .t 7 rfl (.indexAddrA (j := 0) ar39 rfl rfl rfl (by first | decide | omega)) rfl rfl (by kernel_rfl) <| .t 8 rfl (.load ag2 rfl (.there <| .here) rfl) rfl rfl (by kernel_rfl) <| .t 9 rfl (.add rfl rfl (IntWalk.i64_in _ (by omega))) rfl rfl (by kernel_rfl) <| .t 10 rfl (.mul rfl rfl (IntWalk.i64_in _ (by omega))) rfl rfl (by kernel_rfl) <| .t 11 rfl (.move rfl) rfl rfl (by kernel_rfl) ?_
              refine .t 12 rfl (.quo rfl rfl (by omega) (quo_wrap (by omega) (by omega) (by omega))) rfl rfl (by kernel_rfl) <| .t 13 rfl (.add rfl rfl (add_in (by first | decide | omega) (by first | decide | omega) (quo_bd (by omega) (by omega) (by omega)))) rfl rfl (by kernel_rfl) <| .t 14 rfl (.assign rfl) rfl rfl (by kernel_rfl) <| .done (by kernel_rfl) <| .blk_normal <| .go ?_
              refine .region <| .e (.add (c := 1) rfl rfl (by decide)) rfl rfl <| .e (.move rfl) rfl rfl <| .nil <| .again <| .seq ?_
              refine .region <| .e (.lss rfl rfl) rfl rfl <| .nil <| .go <| .seq <| .cond_true rfl ?_
              refine .skip <| .go <| .seq <| .block <| .seq <| .region ?_
              refine .e (.move rfl) rfl rfl <| .e (.index (j := 1) ar39 ag2 rfl rfl rfl (by first | decide | omega) rfl) rfl rfl <| .e (.assign rfl) rfl rfl <| .e (.assign rfl) rfl rfl <| .nil <| .go ?_
              refine .seq <| .region <| .e (.move rfl) rfl rfl <| .e (.gtr rfl rfl) rfl rfl <| .nil <| .go ?_
              refine .split 45 rfl (fun h45_2 => ?_) (fun h45_2 => ?_)
              · skip
                replace h45_2 := of_decide_eq_true h45_2
                have z1 : ¬l.node.has.b = 0 := by omega
                have q1 := quo_bd (h := l.node.has.b) (x := l.used.b + t.needs.b) (by omega) (by omega) (by omega)
                refine .cond_true rfl ?_
                refine .draw [(c2, _), (c1, _)] mixed (.cons .here (.cons (.there <| .here) .nil)) ?_
                refine .t 0 rfl (.move rfl) rfl rfl (by kernel_rfl) <| .t 1 rfl (.move rfl) rfl rfl (by kernel_rfl) <| .t 2 rfl (.fieldAddr fo47_1 rfl) rfl rfl (by kernel_rfl) <| .t 3 rfl (.indexAddrA (j := 1) ar39 rfl rfl rfl (by first | decide | omega)) rfl rfl (by kernel_rfl) <| .t 4 rfl (.load ag2 rfl .here rfl) rfl rfl (by kernel_rfl) <| .t 5 rfl (.move rfl) rfl rfl (by kernel_rfl) ?_
                refine .t 6 rfl (.fieldAddr fo42_1 rfl) rfl rfl (by kernel_rfl) <| .t 7 rfl (.indexAddrA (j := 1) ar39 rfl rfl rfl (by first | decide | omega)) rfl rfl (by kernel_rfl) <| .t 8 rfl (.load ag2 rfl (.there <| .here) rfl) rfl rfl (by kernel_rfl) <| .t 9 rfl (.add rfl rfl (IntWalk.i64_in _ (by omega))) rfl rfl (by kernel_rfl) <| .t 10 rfl (.mul rfl rfl (IntWalk.i64_in _ (by omega))) rfl rfl (by kernel_rfl) <| .t 11 rfl (.move rfl) rfl rfl (by kernel_rfl) ?_
                refine .t 12 rfl (.quo rfl rfl (by omega) (quo_wrap (by omega) (by omega) (by omega))) rfl rfl (by kernel_rfl) <| .t 13 rfl (.add rfl rfl (add_in (by first | decide | omega) (by first | decide | omega) (quo_bd (by omega) (by omega) (by omega)))) rfl rfl (by kernel_rfl) <| .t 14 rfl (.assign rfl) rfl rfl (by kernel_rfl) <| .done (by kernel_rfl) <| .blk_normal <| .go ?_
                refine .region <| .e (.add (c := 2) rfl rfl (by decide)) rfl rfl <| .e (.move rfl) rfl rfl <| .nil <| .again <| .seq ?_
                refine .region <| .e (.lss rfl rfl) rfl rfl <| .nil <| .go <| .seq <| .cond_true rfl ?_
                refine .skip <| .go <| .seq <| .block <| .seq <| .region ?_
                refine .e (.move rfl) rfl rfl <| .e (.index (j := 2) ar39 ag2 rfl rfl rfl (by first | decide | omega) rfl) rfl rfl <| .e (.assign rfl) rfl rfl <| .e (.assign rfl) rfl rfl <| .nil <| .go ?_
                refine .seq <| .region <| .e (.move rfl) rfl rfl <| .e (.gtr rfl rfl) rfl rfl <| .nil <| .go ?_
                refine .split 45 rfl (fun h45_3 => ?_) (fun h45_3 => ?_)
                · skip
                  replace h45_3 := of_decide_eq_true h45_3
                  have z2 : ¬l.node.has.c = 0 := by omega
                  have q2 := quo_bd (h := l.node.has.c) (x := l.used.c + t.needs.c) (by omega) (by omega) (by omega)
                  refine .cond_true rfl ?_
                  refine .draw [(c2, _), (c1, _)] mixed (.cons .here (.cons (.there <| .here) .nil)) ?_
                  refine .t 0 rfl (.move rfl) rfl rfl (by kernel_rfl) <| .t 1 rfl (.move rfl) rfl rfl (by kernel_rfl) <| .t 2 rfl (.fieldAddr fo47_1 rfl) rfl rfl (by kernel_rfl) <| .t 3 rfl (.indexAddrA (j := 2) ar39 rfl rfl rfl (by first | decide | omega)) rfl rfl (by kernel_rfl) <| .t 4 rfl (.load ag2 rfl .here rfl) rfl rfl (by kernel_rfl) <| .t 5 rfl (.move rfl) rfl rfl (by kernel_rfl) ?_
                  refine .t 6 rfl (.fieldAddr fo42_1 rfl) rfl rfl (by kernel_rfl) <| .t 7 rfl (.indexAddrA (j := 2) ar39 rfl rfl rfl (by first | decide | omega)) rfl rfl (by kernel_rfl) <| .t 8 rfl (.load ag2 rfl (.there <| .here) rfl) rfl rfl (by kernel_rfl) <| .t 9 rfl (.add rfl rfl (IntWalk.i64_in _ (by omega))) rfl rfl (by kernel_rfl) <| .t 10 rfl (.mul rfl rfl (IntWalk.i64_in _ (by omega))) rfl rfl (by kernel_rfl) <| .t 11 rfl (.move rfl) rfl rfl (by kernel_rfl) ?_
                  refine .t 12 rfl (.quo rfl rfl (by omega) (quo_wrap (by omega) (by omega) (by omega))) rfl rfl (by kernel_rfl) <| .t 13 rfl (.add rfl rfl (add_in (by first | decide | omega) (by first | decide | omega) (quo_bd (by omega) (by omega) (by omega)))) rfl rfl (by kernel_rfl) <| .t 14 rfl (.assign rfl) rfl rfl (by kernel_rfl) <| .done (by kernel_rfl) <| .blk_normal <| .go ?_
                  refine .region <| .e (.add (c := 3) rfl rfl (by decide)) rfl rfl <| .e (.move rfl) rfl rfl <| .nil <| .again <| .seq ?_
                  refine .region <| .e (.lss rfl rfl) rfl rfl <| .nil <| .go <| .seq <| .cond_false rfl ?_
                  refine .exit <| .exit <| .exit <| .blk_exit <| .go <| .seq ?_
                  refine .region <| .e (.move rfl) rfl rfl <| .e (.assign rfl) rfl rfl <| .e (.assign rfl) rfl rfl <| .nil <| .go ?_
                  refine .ret ?_
                  refine Post.retsE rfl (.tmp rfl (.tmp rfl .nil)) rfl (fun w h => h.tail.tail) ?_
                  refine pairV_eq ((scoreR_ok (or_zero (by omega) (by omega)) h23 hrm).trans ?_)
                  unfold fullS term
                  simp [z0, z1, z2]
                · skip
                  replace h45_3 := of_decide_eq_false h45_3
                  have z2 : l.node.has.c = 0 := by omega
                  refine .cond_false rfl <| .skip <| .blk_normal <| .go <| .region <| .e (.add (c := 3) rfl rfl (by decide)) rfl rfl ?_
                  refine .e (.move rfl) rfl rfl <| .nil <| .again <| .seq <| .region <| .e (.lss rfl rfl) rfl rfl ?_
                  refine .nil <| .go <| .seq <| .cond_false rfl <| .exit <| .exit ?_
                  refine .exit <| .blk_exit <| .go <| .seq <| .region <| .e (.move rfl) rfl rfl ?_
                  refine .e (.assign rfl) rfl rfl <| .e (.assign rfl) rfl rfl <| .nil <| .go <| .ret ?_
                  refine Post.retsE rfl (.tmp rfl (.tmp rfl .nil)) rfl (fun w h => h.tail.tail) ?_
                  refine pairV_eq ((scoreR_ok (or_zero (by omega) (by omega)) h23 hrm).trans ?_)
                  unfold fullS term
                  simp [z0, z1, z2]
              · skip
                replace h45_2 := of_decide_eq_false h45_2
                have z1 : l.node.has.b = 0 := by omega
                refine .cond_false rfl <| .skip <| .blk_normal <| .go <| .region <| .e (.add (c := 2) rfl rfl (by decide)) rfl rfl ?_
                refine .e (.move rfl) rfl rfl <| .nil <| .again <| .seq <| .region <| .e (.lss rfl rfl) rfl rfl ?_
                refine .nil <| .go <| .seq <| .cond_true rfl <| .skip <| .go ?_
                refine .seq <| .block <| .seq <| .region <| .e (.move rfl) rfl rfl <| .e (.index (j := 2) ar39 ag2 rfl rfl rfl (by first | decide | omega) rfl) rfl rfl ?_
                refine .e (.assign rfl) rfl rfl <| .e (.assign rfl) rfl rfl <| .nil <| .go <| .seq <| .region ?_
                refine .e (.move rfl) rfl rfl <| .e (.gtr rfl rfl) rfl rfl <| .nil <| .go ?_
                refine .split 45 rfl (fun h45_3 => ?_) (fun h45_3 => ?_)
                · skip
                  replace h45_3 := of_decide_eq_true h45_3
                  have z2 : ¬l.node.has.c = 0 := by omega
                  have q2 := quo_bd (h := l.node.has.c) (x := l.used.c + t.needs.c) (by omega) (by omega) (by omega)
                  refine .cond_true rfl ?_
                  refine .draw [(c2, _), (c1, _)] mixed (.cons .here (.cons (.there <| .here) .nil)) ?_
                  refine .t 0 rfl (.move rfl) rfl rfl (by kernel_rfl) <| .t 1 rfl (.move rfl) rfl rfl (by kernel_rfl) <| .t 2 rfl (.fieldAddr fo47_1 rfl) rfl rfl (by kernel_rfl) <| .t 3 rfl (.indexAddrA (j := 2) ar39 rfl rfl rfl (by first | decide | omega)) rfl rfl (by kernel_rfl) <| .t 4 rfl (.load ag2 rfl .here rfl) rfl rfl (by kernel_rfl) <| .t 5 rfl (.move rfl) rfl rfl (by kernel_rfl) ?_
                  refine .t 6 rfl (.fieldAddr fo42_1 rfl) rfl rfl (by kernel_rfl) <| .t 7 rfl (.indexAddrA (j := 2) ar39 rfl rfl rfl (by first | decide | omega)) rfl rfl (by kernel_rfl) <| .t 8 rfl (.load ag2 rfl (.there <| .here) rfl) rfl rfl (by kernel_rfl) <| .t 9 rfl (.add rfl rfl (IntWalk.i64_in _ (by omega))) rfl rfl (by kernel_rfl) <| .t 10 rfl (.mul rfl rfl (IntWalk.i64_in _ (by omega))) rfl rfl (by kernel_rfl) <| .t 11 rfl (.move rfl) rfl rfl (by kernel_rfl) ?_
                  refine .t 12 rfl (.quo rfl rfl (by omega) (quo_wrap (by omega) (by omega) (by omega))) rfl rfl (by kernel_rfl) <| .t 13 rfl (.add rfl rfl (add_in (by first | decide | omega) (by first | decide | omega) (quo_bd (by omega) (by omega) (by omega)))) rfl rfl (by kernel_rfl) <| .t 14 rfl (.assign rfl) rfl rfl (by kernel_rfl) <| .done (by kernel_rfl) <| .blk_normal <| .go ?_
                  refine .region <| .e (.add (c := 3) rfl rfl (by decide)) rfl rfl <| .e (.move rfl) rfl rfl <| .nil <| .again <| .seq ?_
                  refine .region <| .e (.lss rfl rfl) rfl rfl <| .nil <| .go <| .seq <| .cond_false rfl ?_
                  refine .exit <| .exit <| .exit <| .blk_exit <| .go <| .seq ?_
                  refine .region <| .e (.move rfl) rfl rfl <| .e (.assign rfl) rfl rfl <| .e (.assign rfl) rfl rfl <| .nil <| .go ?_
                  refine .ret ?_
                  refine Post.retsE rfl (.tmp rfl (.tmp rfl .nil)) rfl (fun w h => h.tail.tail) ?_
                  refine pairV_eq ((scoreR_ok (or_zero (by omega) (by omega)) h23 hrm).trans ?_)
                  unfold fullS term
                  simp [z0, z1, z2]
                · skip
                  replace h45_3 := of_decide_eq_false h45_3
                  have z2 : l.node.has.c = 0 := by omega
                  refine .cond_false rfl <| .skip <| .blk_normal <| .go <| .region <| .e (.add (c := 3) rfl rfl (by decide)) rfl rfl ?_
                  refine .e (.move rfl) rfl rfl <| .nil <| .again <| .seq <| .region <| .e (.lss rfl rfl) rfl rfl ?_
                  refine .nil <| .go <| .seq <| .cond_false rfl <| .exit <| .exit ?_
                  refine .exit <| .blk_exit <| .go <| .seq <| .region <| .e (.move rfl) rfl rfl ?_
                  refine .e (.assign rfl) rfl rfl <| .e (.assign rfl) rfl rfl <| .nil <| .go <| .ret ?_
                  refine Post.retsE rfl (.tmp rfl (.tmp rfl .nil)) rfl (fun w h => h.tail.tail) ?_
                  refine pairV_eq ((scoreR_ok (or_zero (by omega) (by omega)) h23 hrm).trans ?_)
                  unfold fullS term
                  simp [z0, z1, z2]
            · skip
              replace h45 := of_decide_eq_false h45
              have z0 : l.node.has.a = 0 := by omega
              refine .cond_false rfl <| .skip <| .blk_normal <| .go <| .region <| .e (.add (c := 1) rfl rfl (by decide)) rfl rfl ?_
              refine .e (.move rfl) rfl rfl <| .nil <| .again <| .seq <| .region <| .e (.lss rfl rfl) rfl rfl ?_
              refine .nil <| .go <| .seq <| .cond_true rfl <| .skip <| .go ?_
              refine .seq <| .block <| .seq <| .region <| .e (.move rfl) rfl rfl <| .e (.index (j := 1) ar39 ag2 rfl rfl rfl (by first | decide | omega) rfl) rfl rfl ?_
              refine .e (.assign rfl) rfl rfl <| .e (.assign rfl) rfl rfl <| .nil <| .go <| .seq <| .region ?_
              refine .e (.move rfl) rfl rfl <| .e (.gtr rfl rfl) rfl rfl <| .nil <| .go ?_
              refine .split 45 rfl (fun h45_2 => ?_) (fun h45_2 => ?_)
              · skip
                replace h45_2 := of_decide_eq_true h45_2
                have z1 : ¬l.node.has.b = 0 := by omega
                have q1 := quo_bd (h := l.node.has.b) (x := l.used.b + t.needs.b) (by omega) (by omega) (by omega)
                refine .cond_true rfl ?_
                refine .draw [(c2, _), (c1, _)] mixed (.cons .here (.cons (.there <| .here) .nil)) ?_
                refine .t 0 rfl (.move rfl) rfl rfl (by kernel_rfl) <| .t 1 rfl (.move rfl) rfl rfl (by kernel_rfl) <| .t 2 rfl (.fieldAddr fo47_1 rfl) rfl rfl (by kernel_rfl) <| .t 3 rfl (.indexAddrA (j := 1) ar39 rfl rfl rfl (by first | decide | omega)) rfl rfl (by kernel_rfl) <| .t 4 rfl (.load ag2 rfl .here rfl) rfl rfl (by kernel_rfl) <| .t 5 rfl (.move rfl) rfl rfl (by kernel_rfl) ?_
                refine .t 6 rfl (.fieldAddr fo42_1 rfl) rfl rfl (by kernel_rfl) <| .t 7 rfl (.indexAddrA (j := 1) ar39 rfl rfl rfl (by first | decide | omega)) rfl rfl (by kernel_rfl) <| .t 8 rfl (.load ag2 rfl (.there <| .here) rfl) rfl rfl (by kernel_rfl) <| .t 9 rfl (.add rfl rfl (IntWalk.i64_in _ (by omega))) rfl rfl (by kernel_rfl) <| .t 10 rfl (.mul rfl rfl (IntWalk.i64_in _ (by omega))) rfl rfl (by kernel_rfl) <| .t 11 rfl (.move rfl) rfl rfl (by kernel_rfl) ?_
                refine .t 12 rfl (.quo rfl rfl (by omega) (quo_wrap (by omega) (by omega) (by omega))) rfl rfl (by kernel_rfl) <| .t 13 rfl (.add rfl rfl (add_in (by first | decide | omega) (by first | decide | omega) (quo_bd (by omega) (by omega) (by omega)))) rfl rfl (by kernel_rfl) <| .t 14 rfl (.assign rfl) rfl rfl (by kernel_rfl) <| .done (by kernel_rfl) <| .blk_normal <| .go ?_
                refine .region <| .e (.add (c := 2) rfl rfl (by decide)) rfl rfl <| .e (.move rfl) rfl rfl <| .nil <| .again <| .seq ?_
                refine .region <| .e (.lss rfl rfl) rfl rfl <| .nil <| .go <| .seq <| .cond_true rfl ?_
                refine .skip <| .go <| .seq <| .block <| .seq <| .region ?_
                refine .e (.move rfl) rfl rfl <| .e (.index (j := 2) ar39 ag2 rfl rfl rfl (by first | decide | omega) rfl) rfl rfl <| .e (.assign rfl) rfl rfl <| .e (.assign rfl) rfl rfl <| .nil <| .go ?_
                refine .seq <| .region <| .e (.move rfl) rfl rfl <| .e (.gtr rfl rfl) rfl rfl <| .nil <| .go ?_
                refine .split 45 rfl (fun h45_3 => ?_) (fun h45_3 => ?_)
                · skip
                  replace h45_3 := of_decide_eq_true h45_3
                  have z2 : ¬l.node.has.c = 0 := by omega
                  have q2 := quo_bd (h := l.node.has.c) (x := l.used.c + t.needs.c) (by omega) (by omega) (by omega)
                  refine .cond_true rfl ?_
                  refine .draw [(c2, _), (c1, _)] mixed (.cons .here (.cons (.there <| .here) .nil)) ?_
                  refine .t 0 rfl (.move rfl) rfl rfl (by kernel_rfl) <| .t 1 rfl (.move rfl) rfl rfl (by kernel_rfl) <| .t 2 rfl (.fieldAddr fo47_1 rfl) rfl rfl (by kernel_rfl) <| .t 3 rfl (.indexAddrA (j := 2) ar39 rfl rfl rfl (by first | decide | omega)) rfl rfl (by kernel_rfl) <| .t 4 rfl (.load ag2 rfl .here rfl) rfl rfl (by kernel_rfl) <| .t 5 rfl (.move rfl) rfl rfl (by kernel_rfl) ?_
                  refine .t 6 rfl (.fieldAddr fo42_1 rfl) rfl rfl (by kernel_rfl) <| .t 7 rfl (.indexAddrA (j := 2) ar39 rfl rfl rfl (by first | decide | omega)) rfl rfl (by kernel_rfl) <| .t 8 rfl (.load ag2 rfl (.there <| .here) rfl) rfl rfl (by kernel_rfl) <| .t 9 rfl (.add rfl rfl (IntWalk.i64_in _ (by omega))) rfl rfl (by kernel_rfl) <| .t 10 rfl (.mul rfl rfl (IntWalk.i64_in _ (by omega))) rfl rfl (by kernel_rfl) <| .t 11 rfl (.move rfl) rfl rfl (by kernel_rfl) ?_
                  refine .t 12 rfl (.quo rfl rfl (by omega) (quo_wrap (by omega) (by omega) (by omega))) rfl rfl (by kernel_rfl) <| .t 13 rfl (.add rfl rfl (add_in (by first | decide | omega) (by first | decide | omega) (quo_bd (by omega) (by omega) (by omega)))) rfl rfl (by kernel_rfl) <| .t 14 rfl (.assign rfl) rfl rfl (by kernel_rfl) <| .done (by kernel_rfl) <| .blk_normal <| .go ?_
                  refine .region <| .e (.add (c := 3) rfl rfl (by decide)) rfl rfl <| .e (.move rfl) rfl rfl <| .nil <| .again <| .seq ?_
                  refine .region <| .e (.lss rfl rfl) rfl rfl <| .nil <| .go <| .seq <| .cond_false rfl ?_
                  refine .exit <| .exit <| .exit <| .blk_exit <| .go <| .seq ?_
                  refine .region <| .e (.move rfl) rfl rfl <| .e (.assign rfl) rfl rfl <| .e (.assign rfl) rfl rfl <| .nil <| .go ?_
                  refine .ret ?_
                  refine Post.retsE rfl (.tmp rfl (.tmp rfl .nil)) rfl (fun w h => h.tail.tail) ?_
                  refine pairV_eq ((scoreR_ok (or_zero (by omega) (by omega)) h23 hrm).trans ?_)
                  unfold fullS term
                  simp [z0, z1, z2]
                · skip
                  replace h45_3 := of_decide_eq_false h45_3
                  have z2 : l.node.has.c = 0 := by omega
                  refine .cond_false rfl <| .skip <| .blk_normal <| .go <| .region <| .e (.add (c := 3) rfl rfl (by decide)) rfl rfl ?_
                  refine .e (.move rfl) rfl rfl <| .nil <| .again <| .seq <| .region <| .e (.lss rfl rfl) rfl rfl ?_
                  refine .nil <| .go <| .seq <| .cond_false rfl <| .exit <| .exit ?_
                  refine .exit <| .blk_exit <| .go <| .seq <| .region <| .e (.move rfl) rfl rfl ?_
                  refine .e (.assign rfl) rfl rfl <| .e (.assign rfl) rfl rfl <| .nil <| .go <| .ret ?_
                  refine Post.retsE rfl (.tmp rfl (.tmp rfl .nil)) rfl (fun w h => h.tail.tail) ?_
                  refine pairV_eq ((scoreR_ok (or_zero (by omega) (by omega)) h23 hrm).trans ?_)
                  unfold fullS term
                  simp [z0, z1, z2]
              · skip
                replace h45_2 := of_decide_eq_false h45_2
                have z1 : l.node.has.b = 0 := by omega
                refine .cond_false rfl <| .skip <| .blk_normal <| .go <| .region <| .e (.add (c := 2) rfl rfl (by decide)) rfl rfl ?_
                refine .e (.move rfl) rfl rfl <| .nil <| .again <| .seq <| .region <| .e (.lss rfl rfl) rfl rfl ?_
                refine .nil <| .go <| .seq <| .cond_true rfl <| .skip <| .go ?_
                refine .seq <| .block <| .seq <| .region <| .e (.move rfl) rfl rfl <| .e (.index (j := 2) ar39 ag2 rfl rfl rfl (by first | decide | omega) rfl) rfl rfl ?_
                refine .e (.assign rfl) rfl rfl <| .e (.assign rfl) rfl rfl <| .nil <| .go <| .seq <| .region ?_
                refine .e (.move rfl) rfl rfl <| .e (.gtr rfl rfl) rfl rfl <| .nil <| .go ?_
                refine .split 45 rfl (fun h45_3 => ?_) (fun h45_3 => ?_)
                · skip
                  replace h45_3 := of_decide_eq_true h45_3
                  have z2 : ¬l.node.has.c = 0 := by omega
                  have q2 := quo_bd (h := l.node.has.c) (x := l.used.c + t.needs.c) (by omega) (by omega) (by omega)
                  refine .cond_true rfl ?_
                  refine .draw [(c2, _), (c1, _)] mixed (.cons .here (.cons (.there <| .here) .nil)) ?_
                  refine .t 0 rfl (.move rfl) rfl rfl (by kernel_rfl) <| .t 1 rfl (.move rfl) rfl rfl (by kernel_rfl) <| .t 2 rfl (.fieldAddr fo47_1 rfl) rfl rfl (by kernel_rfl) <| .t 3 rfl (.indexAddrA (j := 2) ar39 rfl rfl rfl (by first | decide | omega)) rfl rfl (by kernel_rfl) <| .t 4 rfl (.load ag2 rfl .here rfl) rfl rfl (by kernel_rfl) <| .t 5 rfl (.move rfl) rfl rfl (by kernel_rfl) ?_
                  refine .t 6 rfl (.fieldAddr fo42_1 rfl) rfl rfl (by kernel_rfl) <| .t 7 rfl (.indexAddrA (j := 2) ar39 rfl rfl rfl (by first | decide | omega)) rfl rfl (by kernel_rfl) <| .t 8 rfl (.load ag2 rfl (.there <| .here) rfl) rfl rfl (by kernel_rfl) <| .t 9 rfl (.add rfl rfl (IntWalk.i64_in _ (by omega))) rfl rfl (by kernel_rfl) <| .t 10 rfl (.mul rfl rfl (IntWalk.i64_in _ (by omega))) rfl rfl (by kernel_rfl) <| .t 11 rfl (.move rfl) rfl rfl (by kernel_rfl) ?_
                  refine .t 12 rfl (.quo rfl rfl (by omega) (quo_wrap (by omega) (by omega) (by omega))) rfl rfl (by kernel_rfl) <| .t 13 rfl (.add rfl rfl (add_in (by first | decide | omega) (by first | decide | omega) (quo_bd (by omega) (by omega) (by omega)))) rfl rfl (by kernel_rfl) <| .t 14 rfl (.assign rfl) rfl rfl (by kernel_rfl) <| .done (by kernel_rfl) <| .blk_normal <| .go ?_
                  refine .region <| .e (.add (c := 3) rfl rfl (by decide)) rfl rfl <| .e (.move rfl) rfl rfl <| .nil <| .again <| .seq ?_
                  refine .region <| .e (.lss rfl rfl) rfl rfl <| .nil <| .go <| .seq <| .cond_false rfl ?_
                  refine .exit <| .exit <| .exit <| .blk_exit <| .go <| .seq ?_
                  refine .region <| .e (.move rfl) rfl rfl <| .e (.assign rfl) rfl rfl <| .e (.assign rfl) rfl rfl <| .nil <| .go ?_
                  refine .ret ?_
                  refine Post.retsE rfl (.tmp rfl (.tmp rfl .nil)) rfl (fun w h => h.tail.tail) ?_
                  refine pairV_eq ((scoreR_ok (or_zero (by omega) (by omega)) h23 hrm).trans ?_)
                  unfold fullS term
                  simp [z0, z1, z2]
                · skip
                  replace h45_3 := of_decide_eq_false h45_3
                  have z2 : l.node.has.c = 0 := by omega
                  refine .cond_false rfl <| .skip <| .blk_normal <| .go <| .region <| .e (.add (c := 3) rfl rfl (by decide)) rfl rfl ?_
                  refine .e (.move rfl) rfl rfl <| .nil <| .again <| .seq <| .region <| .e (.lss rfl rfl) rfl rfl ?_
                  refine .nil <| .go <| .seq <| .cond_false rfl <| .exit <| .exit ?_
                  refine .exit <| .blk_exit <| .go <| .seq <| .region <| .e (.move rfl) rfl rfl ?_
                  refine .e (.assign rfl) rfl rfl <| .e (.assign rfl) rfl rfl <| .nil <| .go <| .ret ?_
                  refine Post.retsE rfl (.tmp rfl (.tmp rfl .nil)) rfl (fun w h => h.tail.tail) ?_
                  refine pairV_eq ((scoreR_ok (or_zero (by omega) (by omega)) h23 hrm).trans ?_)
                  unfold fullS term
                  simp [z0, z1, z2]
      · skip
        refine .off rfl rfl <| .off rfl rfl <| .off rfl rfl <| .off rfl rfl <| .off rfl rfl <| .off rfl rfl ?_
        refine .off rfl rfl <| .e (.pickF rfl rfl) rfl rfl <| .e (.not rfl) rfl rfl <| .e (.pickT rfl rfl) rfl rfl <| .nil <| .go ?_
        refine .cond_true rfl <| .region <| .e (.assign rfl) rfl rfl <| .nil <| .go <| .seq ?_
        refine .seq <| .region <| .e (.move rfl) rfl rfl <| .e (.neq rfl rfl) rfl rfl <| .nil <| .go ?_
        refine .cond_true rfl <| .seq <| .region <| .e (.move rfl) rfl rfl <| .e (.assign rfl) rfl rfl <| .e (.assign rfl) rfl rfl ?_
        refine .nil <| .go <| .ret <| .ret ?_
        refine Post.retsE rfl (.tmp rfl (.tmp rfl .nil)) rfl (fun w h => h.tail.tail) ?_
        first | exact pairV_eq (scoreR_why (or_left (by omega)) (by omega)) | exact pairV_eq (scoreR_why (or_right (by omega)) (by omega)) | exact pairV_eq (scoreR_fit (or_zero (by omega) (by omega)) (by first | exact .inl (by simpa using h23) | exact .inr (by simp_all))) | (exfalso; omega)
    · skip
      replace h18 := of_decide_eq_false h18
      refine .off rfl rfl <| .off rfl rfl <| .off rfl rfl <| .off rfl rfl <| .off rfl rfl <| .off rfl rfl ?_
      refine .off rfl rfl <| .off rfl rfl <| .off rfl rfl <| .off rfl rfl <| .off rfl rfl <| .off rfl rfl ?_
      refine .off rfl rfl <| .off rfl rfl <| .e (.pickF rfl rfl) rfl rfl <| .nil <| .go <| .cond_false rfl ?_
      refine .skip <| .go <| .seq <| .seq <| .region <| .e (.move rfl) rfl rfl ?_
      refine .e (.neq rfl rfl) rfl rfl <| .nil <| .go ?_
      refine .split 35 rfl (fun h35 => ?_) (fun h35 => ?_)
      · skip
        first | replace h35 := of_decide_eq_false ((Bool.not_eq_true' _).mp h35) | replace h35 := of_decide_eq_false (by simpa using h35)
        refine .cond_true rfl <| .seq <| .region <| .e (.move rfl) rfl rfl <| .e (.assign rfl) rfl rfl <| .e (.assign rfl) rfl rfl ?_
        refine .nil <| .go <| .ret <| .ret ?_
        refine Post.retsE rfl (.tmp rfl (.tmp rfl .nil)) rfl (fun w h => h.tail.tail) ?_
        first | exact pairV_eq (scoreR_why (or_left (by omega)) (by omega)) | exact pairV_eq (scoreR_why (or_right (by omega)) (by omega)) | exact pairV_eq (scoreR_fit (or_zero (by omega) (by omega)) (by first | exact .inl (by simpa using h23) | exact .inr (by simp_all))) | (exfalso; omega)
      · skip
        first | replace h35 := of_decide_eq_true ((Bool.not_eq_false' _).mp h35) | replace h35 := of_decide_eq_true (by simpa using h35)
        exfalso; omega
  · skip
    replace h13 := of_decide_eq_false h13
    refine .cond_false rfl <| .skip <| .go <| .seq <| .seq <| .region ?_
    refine .e (.move rfl) rfl rfl <| .e (.eql rfl rfl) rfl rfl <| .e (.move rfl) rfl rfl ?_
    refine .split 18 rfl (fun h18 => ?_) (fun h18 => ?_)
    · skip
      replace h18 := of_decide_eq_true h18
      refine .e (.loadW ag42 sz42 rfl (.there <| .here) rfl) rfl rfl <| .e (.fieldAddr fo47_0 rfl) rfl rfl <| .e (.loadP ag45 sz45 rfl .here rfl) rfl rfl <| .on rfl <| .callP cal160 rfl rfl rfl (rSuits_ok ht0 hnd) <| .e (.move rfl) rfl rfl ?_
      refine .split 23 rfl (fun h23 => ?_) (fun h23 => ?_)
      · skip
        refine .e (.fieldAddr fo47_0 rfl) rfl rfl <| .e (.loadP ag45 sz45 rfl .here rfl) rfl rfl <| .e (.fieldAddr fo47_1 rfl) rfl rfl <| .e (.loadP ag39 sz39 rfl .here rfl) rfl rfl <| .e (.fieldAddr fo42_1 rfl) rfl rfl <| .e (.loadP ag39 sz39 rfl (.there <| .here) rfl) rfl rfl ?_
        refine .on rfl <| .callP cal162 rfl rfl rfl (rRoom_ok (u := l.used) (d := t.needs) hnd) <| .e (.pickT rfl rfl) rfl rfl <| .e (.not rfl) rfl rfl <| .e (.pickT rfl rfl) rfl rfl <| .nil <| .go ?_
        refine .split 33 rfl (fun h33 => ?_) (fun h33 => ?_)
        · skip
          refine .cond_true rfl <| .region <| .e (.assign rfl) rfl rfl <| .nil <| .go <| .seq ?_
          refine .seq <| .region <| .e (.move rfl) rfl rfl <| .e (.neq rfl rfl) rfl rfl <| .nil <| .go ?_
          refine .cond_true rfl <| .seq <| .region <| .e (.move rfl) rfl rfl <| .e (.assign rfl) rfl rfl <| .e (.assign rfl) rfl rfl ?_
          refine .nil <| .go <| .ret <| .ret ?_
          refine Post.retsE rfl (.tmp rfl (.tmp rfl .nil)) rfl (fun w h => h.tail.tail) ?_
          first | exact pairV_eq (scoreR_why (or_left (by omega)) (by omega)) | exact pairV_eq (scoreR_why (or_right (by omega)) (by omega)) | exact pairV_eq (scoreR_fit (or_zero (by omega) (by omega)) (by first | exact .inl (by simpa using h23) | exact .inr (by simp_all))) | (exfalso; omega)
        · skip
          have hrm : room l.node l.used t.needs = true := by simpa using h33
          obtain ⟨r1, r2, r3, r4⟩ := room_out hrm
          have r1 := A3.amt_out r1
          have r2 := A3.amt_out r2
          have r3 := A3.amt_out r3
          refine .cond_false rfl <| .skip <| .go <| .seq <| .seq <| .region ?_
          refine .e (.move rfl) rfl rfl <| .e (.neq rfl rfl) rfl rfl <| .nil <| .go ?_
          refine .split 35 rfl (fun h35 => ?_) (fun h35 => ?_)
          · skip
            first | replace h35 := of_decide_eq_false ((Bool.not_eq_true' _).mp h35) | replace h35 := of_decide_eq_false (by simpa using h35)
            refine .cond_true rfl <| .seq <| .region <| .e (.move rfl) rfl rfl <| .e (.assign rfl) rfl rfl <| .e (.assign rfl) rfl rfl ?_
            refine .nil <| .go <| .ret <| .ret ?_
            refine Post.retsE rfl (.tmp rfl (.tmp rfl .nil)) rfl (fun w h => h.tail.tail) ?_
            first | exact pairV_eq (scoreR_why (or_left (by omega)) (by omega)) | exact pairV_eq (scoreR_why (or_right (by omega)) (by omega)) | exact pairV_eq (scoreR_fit (or_zero (by omega) (by omega)) (by first | exact .inl (by simpa using h23) | exact .inr (by simp_all))) | (exfalso; omega)
          · skip
            first | replace h35 := of_decide_eq_true ((Bool.not_eq_false' _).mp h35) | replace h35 := of_decide_eq_true (by simpa using h35)
            refine .cond_false rfl <| .skip <| .go <| .seq <| .region <| .e (.assign rfl) rfl rfl ?_
            refine .nil <| .go <| .seq <| .seq <| .region <| .e (.fieldAddr fo47_0 rfl) rfl rfl ?_
            refine .e (.fieldAddr fo45_1 rfl) rfl rfl <| .e (.loadP ag39 sz39 rfl .here rfl) rfl rfl <| .e (.move rfl) rfl rfl <| .nil <| .go <| .block ?_
            refine .unroll 3 <| .seq <| .region <| .e (.lss rfl rfl) rfl rfl <| .nil <| .go ?_
            refine .seq <| .cond_true rfl <| .skip <| .go <| .seq <| .block ?_
            refine .seq <| .region <| .e (.move rfl) rfl rfl <| .e (.index (j := 0) ar39 ag2 rfl rfl rfl (by first | decide | omega) rfl) rfl rfl <| .e (.assign rfl) rfl rfl <| .e (.assign rfl) rfl rfl ?_
            refine .nil <| .go <| .seq <| .region <| .e (.move rfl) rfl rfl <| .e (.gtr rfl rfl) rfl rfl ?_
            refine .nil <| .go ?_
            refine .split 45 rfl (fun h45 => ?_) (fun h45 => ?_)
            · skip
              replace h45 := of_decide_eq_true h45
              have z0 : ¬l.node.has.a = 0 := by omega
              have q0 := quo_bd (h := l.node.has.a) (x := l.used.a + t.needs.a) (by omega) (by omega) (by omega)
              refine .cond_true rfl ?_
              refine .draw [(c2, _), (c1, _)] mixed (.cons .here (.cons (.there <| .here) .nil)) ?_
              refine .t 0 rfl (.move rfl) rfl rfl (by kernel_rfl) <| .t 1 rfl (.move rfl) rfl rfl (by kernel_rfl) <| .t 2 rfl (.fieldAddr fo47_1 rfl) rfl rfl (by kernel_rfl) <| .t 3 rfl (.indexAddrA (j := 0) ar39 rfl rfl rfl (by first | decide | omega)) rfl rfl (by kernel_rfl) <| .t 4 rfl (.load ag2 rfl .here rfl) rfl rfl (by kernel_rfl) <| .t 5 rfl (.move rfl) rfl rfl (by kernel_rfl) ?_
              refine .t 6 rfl (.fieldAddr fo42_1 rfl) rfl rfl (by kernel_rfl) <| .t 7 rfl (.indexAddrA (j := 0) ar39 rfl rfl rfl (by first | decide | omega)) rfl rfl (by kernel_rfl) <| .t 8 rfl (.load ag2 rfl (.there <| .here) rfl) rfl rfl (by kernel_rfl) <| .t 9 rfl (.add rfl rfl (IntWalk.i64_in _ (by omega))) rfl rfl (by kernel_rfl) <| .t 10 rfl (.mul rfl rfl (IntWalk.i64_in _ (by omega))) rfl rfl (by kernel_rfl) <| .t 11 rfl (.move rfl) rfl rfl (by kernel_rfl) ?_
              refine .t 12 rfl (.quo rfl rfl (by omega) (quo_wrap (by omega) (by omega) (by omega))) rfl rfl (by kernel_rfl) <| .t 13 rfl (.add rfl rfl (add_in (by first | decide | omega) (by first | decide | omega) (quo_bd (by omega) (by omega) (by omega)))) rfl rfl (by kernel_rfl) <| .t 14 rfl (.assign rfl) rfl rfl (by kernel_rfl) <| .done (by kernel_rfl) <| .blk_normal <| .go ?_
              refine .region <| .e (.add (c := 1) rfl rfl (by decide)) rfl rfl <| .e (.move rfl) rfl rfl <| .nil <| .again <| .seq ?_
              refine .region <| .e (.lss rfl rfl) rfl rfl <| .nil <| .go <| .seq <| .cond_true rfl ?_
              refine .skip <| .go <| .seq <| .block <| .seq <| .region ?_
              refine .e (.move rfl) rfl rfl <| .e (.index (j := 1) ar39 ag2 rfl rfl rfl (by first | decide | omega) rfl) rfl rfl <| .e (.assign rfl) rfl rfl <| .e (.assign rfl) rfl rfl <| .nil <| .go ?_
              refine .seq <| .region <| .e (.move rfl) rfl rfl <| .e (.gtr rfl rfl) rfl rfl <| .nil <| .go ?_
              refine .split 45 rfl (fun h45_2 => ?_) (fun h45_2 => ?_)
              · skip
                replace h45_2 := of_decide_eq_true h45_2
                have z1 : ¬l.node.has.b = 0 := by omega
                have q1 := quo_bd (h := l.node.has.b) (x := l.used.b + t.needs.b) (by omega) (by omega) (by omega)
                refine .cond_true rfl ?_
                refine .draw [(c2, _), (c1, _)] mixed (.cons .here (.cons (.there <| .here) .nil)) ?_
                refine .t 0 rfl (.move rfl) rfl rfl (by kernel_rfl) <| .t 1 rfl (.move rfl) rfl rfl (by kernel_rfl) <| .t 2 rfl (.fieldAddr fo47_1 rfl) rfl rfl (by kernel_rfl) <| .t 3 rfl (.indexAddrA (j := 1) ar39 rfl rfl rfl (by first | decide | omega)) rfl rfl (by kernel_rfl) <| .t 4 rfl (.load ag2 rfl .here rfl) rfl rfl (by kernel_rfl) <| .t 5 rfl (.move rfl) rfl rfl (by kernel_rfl) ?_
                refine .t 6 rfl (.fieldAddr fo42_1 rfl) rfl rfl (by kernel_rfl) <| .t 7 rfl (.indexAddrA (j := 1) ar39 rfl rfl rfl (by first | decide | omega)) rfl rfl (by kernel_rfl) <| .t 8 rfl (.load ag2 rfl (.there <| .here) rfl) rfl rfl (by kernel_rfl) <| .t 9 rfl (.add rfl rfl (IntWalk.i64_in _ (by omega))) rfl rfl (by kernel_rfl) <| .t 10 rfl (.mul rfl rfl (IntWalk.i64_in _ (by omega))) rfl rfl (by kernel_rfl) <| .t 11 rfl (.move rfl) rfl rfl (by kernel_rfl) ?_
                refine .t 12 rfl (.quo rfl rfl (by omega) (quo_wrap (by omega) (by omega) (by omega))) rfl rfl (by kernel_rfl) <| .t 13 rfl (.add rfl rfl (add_in (by first | decide | omega) (by first | decide | omega) (quo_bd (by omega) (by omega) (by omega)))) rfl rfl (by kernel_rfl) <| .t 14 rfl (.assign rfl) rfl rfl (by kernel_rfl) <| .done (by kernel_rfl) <| .blk_normal <| .go ?_
                refine .region <| .e (.add (c := 2) rfl rfl (by decide)) rfl rfl <| .e (.move rfl) rfl rfl <| .nil <| .again <| .seq ?_
                refine .region <| .e (.lss rfl rfl) rfl rfl <| .nil <| .go <| .seq <| .cond_true rfl ?_
                refine .skip <| .go <| .seq <| .block <| .seq <| .region ?_
                refine .e (.move rfl) rfl rfl <| .e (.index (j := 2) ar39 ag2 rfl rfl rfl (by first | decide | omega) rfl) rfl rfl <| .e (.assign rfl) rfl rfl <| .e (.assign rfl) rfl rfl <| .nil <| .go ?_
                refine .seq <| .region <| .e (.move rfl) rfl rfl <| .e (.gtr rfl rfl) rfl rfl <| .nil <| .go ?_
                refine .split 45 rfl (fun h45_3 => ?_) (fun h45_3 => ?_)
                · skip
                  replace h45_3 := of_decide_eq_true h45_3
                  have z2 : ¬l.node.has.c = 0 := by omega
                  have q2 := quo_bd (h := l.node.has.c) (x := l.used.c + t.needs.c) (by omega) (by omega) (by omega)
                  refine .cond_true rfl ?_
                  refine .draw [(c2, _), (c1, _)] mixed (.cons .here (.cons (.there <| .here) .nil)) ?_
                  refine .t 0 rfl (.move rfl) rfl rfl (by kernel_rfl) <| .t 1 rfl (.move rfl) rfl rfl (by kernel_rfl) <| .t 2 rfl (.fieldAddr fo47_1 rfl) rfl rfl (by kernel_rfl) <| .t 3 rfl (.indexAddrA (j := 2) ar39 rfl rfl rfl (by first | decide | omega)) rfl rfl (by kernel_rfl) <| .t 4 rfl (.load ag2 rfl .here rfl) rfl rfl (by kernel_rfl) <| .t 5 rfl (.move rfl) rfl rfl (by kernel_rfl) ?_
                  refine .t 6 rfl (.fieldAddr fo42_1 rfl) rfl rfl (by kernel_rfl) <| .t 7 rfl (.indexAddrA (j := 2) ar39 rfl rfl rfl (by first | decide | omega)) rfl rfl (by kernel_rfl) <| .t 8 rfl (.load ag2 rfl (.there <| .here) rfl) rfl rfl (by kernel_rfl) <| .t 9 rfl (.add rfl rfl (IntWalk.i64_in _ (by omega))) rfl rfl (by kernel_rfl) <| .t 10 rfl (.mul rfl rfl (IntWalk.i64_in _ (by omega))) rfl rfl (by kernel_rfl) <| .t 11 rfl (.move rfl) rfl rfl (by kernel_rfl) ?_
                  refine .t 12 rfl (.quo rfl rfl (by omega) (quo_wrap (by omega) (by omega) (by omega))) rfl rfl (by kernel_rfl) <| .t 13 rfl (.add rfl rfl (add_in (by first | decide | omega) (by first | decide | omega) (quo_bd (by omega) (by omega) (by omega)))) rfl rfl (by kernel_rfl) <| .t 14 rfl (.assign rfl) rfl rfl (by kernel_rfl) <| .done (by kernel_rfl) <| .blk_normal <| .go ?_
                  refine .region <| .e (.add (c := 3) rfl rfl (by decide)) rfl rfl <| .e (.move rfl) rfl rfl <| .nil <| .again <| .seq ?_
                  refine .region <| .e (.lss rfl rfl) rfl rfl <| .nil <| .go <| .seq <| .cond_false rfl ?_
                  refine .exit <| .exit <| .exit <| .blk_exit <| .go <| .seq ?_
                  refine .region <| .e (.move rfl) rfl rfl <| .e (.assign rfl) rfl rfl <| .e (.assign rfl) rfl rfl <| .nil <| .go ?_
                  refine .ret ?_
                  refine Post.retsE rfl (.tmp rfl (.tmp rfl .nil)) rfl (fun w h => h.tail.tail) ?_
                  refine pairV_eq ((scoreR_ok (or_zero (by omega) (by omega)) h23 hrm).trans ?_)
                  unfold fullS term
                  simp [z0, z1, z2]
                · skip
                  replace h45_3 := of_decide_eq_false h45_3
                  have z2 : l.node.has.c = 0 := by omega
                  refine .cond_false rfl <| .skip <| .blk_normal <| .go <| .region <| .e (.add (c := 3) rfl rfl (by decide)) rfl rfl ?_
                  refine .e (.move rfl) rfl rfl <| .nil <| .again <| .seq <| .region <| .e (.lss rfl rfl) rfl rfl ?_
                  refine .nil <| .go <| .seq <| .cond_false rfl <| .exit <| .exit ?_
                  refine .exit <| .blk_exit <| .go <| .seq <| .region <| .e (.move rfl) rfl rfl ?_
                  refine .e (.assign rfl) rfl rfl <| .e (.assign rfl) rfl rfl <| .nil <| .go <| .ret ?_
                  refine Post.retsE rfl (.tmp rfl (.tmp rfl .nil)) rfl (fun w h => h.tail.tail) ?_
                  refine pairV_eq ((scoreR_ok (or_zero (by omega) (by omega)) h23 hrm).trans ?_)
                  unfold fullS term
                  simp [z0, z1, z2]
              · skip
                replace h45_2 := of_decide_eq_false h45_2
                have z1 : l.node.has.b = 0 := by omega
                refine .cond_false rfl <| .skip <| .blk_normal <| .go <| .region <| .e (.add (c := 2) rfl rfl (by decide)) rfl rfl ?_
                refine .e (.move rfl) rfl rfl <| .nil <| .again <| .seq <| .region <| .e (.lss rfl rfl) rfl rfl ?_
                refine .nil <| .go <| .seq <| .cond_true rfl <| .skip <| .go ?_
                refine .seq <| .block <| .seq <| .region <| .e (.move rfl) rfl rfl <| .e (.index (j := 2) ar39 ag2 rfl rfl rfl (by first | decide | omega) rfl) rfl rfl ?_
                refine .e (.assign rfl) rfl rfl <| .e (.assign rfl) rfl rfl <| .nil <| .go <| .seq <| .region ?_
                refine .e (.move rfl) rfl rfl <| .e (.gtr rfl rfl) rfl rfl <| .nil <| .go ?_
                refine .split 45 rfl (fun h45_3 => ?_) (fun h45_3 => ?_)
                · skip
                  replace h45_3 := of_decide_eq_true h45_3
                  have z2 : ¬l.node.has.c = 0 := by omega
                  have q2 := quo_bd (h := l.node.has.c) (x := l.used.c + t.needs.c) (by omega) (by omega) (by omega)
                  refine .cond_true rfl ?_
                  refine .draw [(c2, _), (c1, _)] mixed (.cons .here (.cons (.there <| .here) .nil)) ?_
                  refine .t 0 rfl (.move rfl) rfl rfl (by kernel_rfl) <| .t 1 rfl (.move rfl) rfl rfl (by kernel_rfl) <| .t 2 rfl (.fieldAddr fo47_1 rfl) rfl rfl (by kernel_rfl) <| .t 3 rfl (.indexAddrA (j := 2) ar39 rfl rfl rfl (by first | decide | omega)) rfl rfl (by kernel_rfl) <| .t 4 rfl (.load ag2 rfl .here rfl) rfl rfl (by kernel_rfl) <| .t 5 rfl (.move rfl) rfl rfl (by kernel_rfl) ?_
                  refine .t 6 rfl (.fieldAddr fo42_1 rfl) rfl rfl (by kernel_rfl) <| .t 7 rfl (.indexAddrA (j := 2) ar39 rfl rfl rfl (by first | decide | omega)) rfl rfl (by kernel_rfl) <| .t 8 rfl (.load ag2 rfl (.there <| .here) rfl) rfl rfl (by kernel_rfl) <| .t 9 rfl (.add rfl rfl (IntWalk.i64_in _ (by omega))) rfl rfl (by kernel_rfl) <| .t 10 rfl (.mul rfl rfl (IntWalk.i64_in _ (by omega))) rfl rfl (by kernel_rfl) <| .t 11 rfl (.move rfl) rfl rfl (by kernel_rfl) ?_
                  refine .t 12 rfl (.quo rfl rfl (by omega) (quo_wrap (by omega) (by omega) (by omega))) rfl rfl (by kernel_rfl) <| .t 13 rfl (.add rfl rfl (add_in (by first | decide | omega) (by first | decide | omega) (quo_bd (by omega) (by omega) (by omega)))) rfl rfl (by kernel_rfl) <| .t 14 rfl (.assign rfl) rfl rfl (by kernel_rfl) <| .done (by kernel_rfl) <| .blk_normal <| .go ?_
                  refine .region <| .e (.add (c := 3) rfl rfl (by decide)) rfl rfl <| .e (.move rfl) rfl rfl <| .nil <| .again <| .seq ?_
                  refine .region <| .e (.lss rfl rfl) rfl rfl <| .nil <| .go <| .seq <| .cond_false rfl ?_
                  refine .exit <| .exit <| .exit <| .blk_exit <| .go <| .seq ?_
                  refine .region <| .e (.move rfl) rfl rfl <| .e (.assign rfl) rfl rfl <| .e (.assign rfl) rfl rfl <| .nil <| .go ?_
                  refine .ret ?_
                  refine Post.retsE rfl (.tmp rfl (.tmp rfl .nil)) rfl (fun w h => h.tail.tail) ?_
                  refine pairV_eq ((scoreR_ok (or_zero (by omega) (by omega)) h23 hrm).trans ?_)
                  unfold fullS term
                  simp [z0, z1, z2]
                · skip
                  replace h45_3 := of_decide_eq_false h45_3
                  have z2 : l.node.has.c = 0 := by omega
                  refine .cond_false rfl <| .skip <| .blk_normal <| .go <| .region <| .e (.add (c := 3) rfl rfl (by decide)) rfl rfl ?_
                  refine .e (.move rfl) rfl rfl <| .nil <| .again <| .seq <| .region <| .e (.lss rfl rfl) rfl rfl ?_
                  refine .nil <| .go <| .seq <| .cond_false rfl <| .exit <| .exit ?_
                  refine .exit <| .blk_exit <| .go <| .seq <| .region <| .e (.move rfl) rfl rfl ?_
                  refine .e (.assign rfl) rfl rfl <| .e (.assign rfl) rfl rfl <| .nil <| .go <| .ret ?_
                  refine Post.retsE rfl (.tmp rfl (.tmp rfl .nil)) rfl (fun w h => h.tail.tail) ?_
                  refine pairV_eq ((scoreR_ok (or_zero (by omega) (by omega)) h23 hrm).trans ?_)
                  unfold fullS term
                  simp [z0, z1, z2]
            · skip
              replace h45 := of_decide_eq_false h45
              have z0 : l.node.has.a = 0 := by omega
              refine .cond_false rfl <| .skip <| .blk_normal <| .go <| .region <| .e (.add (c := 1) rfl rfl (by decide)) rfl rfl ?_
              refine .e (.move rfl) rfl rfl <| .nil <| .again <| .seq <| .region <| .e (.lss rfl rfl) rfl rfl ?_
              refine .nil <| .go <| .seq <| .cond_true rfl <| .skip <| .go ?_
              refine .seq <| .block <| .seq <| .region <| .e (.move rfl) rfl rfl <| .e (.index (j := 1) ar39 ag2 rfl rfl rfl (by first | decide | omega) rfl) rfl rfl ?_
              refine .e (.assign rfl) rfl rfl <| .e (.assign rfl) rfl rfl <| .nil <| .go <| .seq <| .region ?_
              refine .e (.move rfl) rfl rfl <| .e (.gtr rfl rfl) rfl rfl <| .nil <| .go ?_
              refine .split 45 rfl (fun h45_2 => ?_) (fun h45_2 => ?_)
              · skip
                replace h45_2 := of_decide_eq_true h45_2
                have z1 : ¬l.node.has.b = 0 := by omega
                have q1 := quo_bd (h := l.node.has.b) (x := l.used.b + t.needs.b) (by omega) (by omega) (by omega)
                refine .cond_true rfl ?_
                refine .draw [(c2, _), (c1, _)] mixed (.cons .here (.cons (.there <| .here) .nil)) ?_
                refine .t 0 rfl (.move rfl) rfl rfl (by kernel_rfl) <| .t 1 rfl (.move rfl) rfl rfl (by kernel_rfl) <| .t 2 rfl (.fieldAddr fo47_1 rfl) rfl rfl (by kernel_rfl) <| .t 3 rfl (.indexAddrA (j := 1) ar39 rfl rfl rfl (by first | decide | omega)) rfl rfl (by kernel_rfl) <| .t 4 rfl (.load ag2 rfl .here rfl) rfl rfl (by kernel_rfl) <| .t 5 rfl (.move rfl) rfl rfl (by kernel_rfl) ?_
                refine .t 6 rfl (.fieldAddr fo42_1 rfl) rfl rfl (by kernel_rfl) <| .t 7 rfl (.indexAddrA (j := 1) ar39 rfl rfl rfl (by first | decide | omega)) rfl rfl (by kernel_rfl) <| .t 8 rfl (.load ag2 rfl (.there <| .here) rfl) rfl rfl (by kernel_rfl) <| .t 9 rfl (.add rfl rfl (IntWalk.i64_in _ (by omega))) rfl rfl (by kernel_rfl) <| .t 10 rfl (.mul rfl rfl (IntWalk.i64_in _ (by omega))) rfl rfl (by kernel_rfl) <| .t 11 rfl (.move rfl) rfl rfl (by kernel_rfl) ?_
                refine .t 12 rfl (.quo rfl rfl (by omega) (quo_wrap (by omega) (by omega) (by omega))) rfl rfl (by kernel_rfl) <| .t 13 rfl (.add rfl rfl (add_in (by first | decide | omega) (by first | decide | omega) (quo_bd (by omega) (by omega) (by omega)))) rfl rfl (by kernel_rfl) <| .t 14 rfl (.assign rfl) rfl rfl (by kernel_rfl) <| .done (by kernel_rfl) <| .blk_normal <| .go ?_
                refine .region <| .e (.add (c := 2) rfl rfl (by decide)) rfl rfl <| .e (.move rfl) rfl rfl <| .nil <| .again <| .seq ?_
                refine .region <| .e (.lss rfl rfl) rfl rfl <| .nil <| .go <| .seq <| .cond_true rfl ?_
                refine .skip <| .go <| .seq <| .block <| .seq <| .region ?_
                refine .e (.move rfl) rfl rfl <| .e (.index (j := 2) ar39 ag2 rfl rfl rfl (by first | decide | omega) rfl) rfl rfl <| .e (.assign rfl) rfl rfl <| .e (.assign rfl) rfl rfl <| .nil <| .go ?_
                refine .seq <| .region <| .e (.move rfl) rfl rfl <| .e (.gtr rfl rfl) rfl rfl <| .nil <| .go ?_
                refine .split 45 rfl (fun h45_3 => ?_) (fun h45_3 => ?_)
                · skip
                  replace h45_3 := of_decide_eq_true h45_3
                  have z2 : ¬l.node.has.c = 0 := by omega
                  have q2 := quo_bd (h := l.node.has.c) (x := l.used.c + t.needs.c) (by omega) (by omega) (by omega)
                  refine .cond_true rfl ?_
                  refine .draw [(c2, _), (c1, _)] mixed (.cons .here (.cons (.there <| .here) .nil)) ?_
                  refine .t 0 rfl (.move rfl) rfl rfl (by kernel_rfl) <| .t 1 rfl (.move rfl) rfl rfl (by kernel_rfl) <| .t 2 rfl (.fieldAddr fo47_1 rfl) rfl rfl (by kernel_rfl) <| .t 3 rfl (.indexAddrA (j := 2) ar39 rfl rfl rfl (by first | decide | omega)) rfl rfl (by kernel_rfl) <| .t 4 rfl (.load ag2 rfl .here rfl) rfl rfl (by kernel_rfl) <| .t 5 rfl (.move rfl) rfl rfl (by kernel_rfl) ?_
                  refine .t 6 rfl (.fieldAddr fo42_1 rfl) rfl rfl (by kernel_rfl) <| .t 7 rfl (.indexAddrA (j := 2) ar39 rfl rfl rfl (by first | decide | omega)) rfl rfl (by kernel_rfl) <| .t 8 rfl (.load ag2 rfl (.there <| .here) rfl) rfl rfl (by kernel_rfl) <| .t 9 rfl (.add rfl rfl (IntWalk.i64_in _ (by omega))) rfl rfl (by kernel_rfl) <| .t 10 rfl (.mul rfl rfl (IntWalk.i64_in _ (by omega))) rfl rfl (by kernel_rfl) <| .t 11 rfl (.move rfl) rfl rfl (by kernel_rfl) ?_
                  refine .t 12 rfl (.quo rfl rfl (by omega) (quo_wrap (by omega) (by omega) (by omega))) rfl rfl (by kernel_rfl) <| .t 13 rfl (.add rfl rfl (add_in (by first | decide | omega) (by first | decide | omega) (quo_bd (by omega) (by omega) (by omega)))) rfl rfl (by kernel_rfl) <| .t 14 rfl (.assign rfl) rfl rfl (by kernel_rfl) <| .done (by kernel_rfl) <| .blk_normal <| .go ?_
                  refine .region <| .e (.add (c := 3) rfl rfl (by decide)) rfl rfl <| .e (.move rfl) rfl rfl <| .nil <| .again <| .seq ?_
                  refine .region <| .e (.lss rfl rfl) rfl rfl <| .nil <| .go <| .seq <| .cond_false rfl ?_
                  refine .exit <| .exit <| .exit <| .blk_exit <| .go <| .seq ?_
                  refine .region <| .e (.move rfl) rfl rfl <| .e (.assign rfl) rfl rfl <| .e (.assign rfl) rfl rfl <| .nil <| .go ?_
                  refine .ret ?_
                  refine Post.retsE rfl (.tmp rfl (.tmp rfl .nil)) rfl (fun w h => h.tail.tail) ?_
                  refine pairV_eq ((scoreR_ok (or_zero (by omega) (by omega)) h23 hrm).trans ?_)
                  unfold fullS term
                  simp [z0, z1, z2]
                · skip
                  replace h45_3 := of_decide_eq_false h45_3
                  have z2 : l.node.has.c = 0 := by omega
                  refine .cond_false rfl <| .skip <| .blk_normal <| .go <| .region <| .e (.add (c := 3) rfl rfl (by decide)) rfl rfl ?_
                  refine .e (.move rfl) rfl rfl <| .nil <| .again <| .seq <| .region <| .e (.lss rfl rfl) rfl rfl ?_
                  refine .nil <| .go <| .seq <| .cond_false rfl <| .exit <| .exit ?_
                  refine .exit <| .blk_exit <| .go <| .seq <| .region <| .e (.move rfl) rfl rfl ?_
                  refine .e (.assign rfl) rfl rfl <| .e (.assign rfl) rfl rfl <| .nil <| .go <| .ret ?_
                  refine Post.retsE rfl (.tmp rfl (.tmp rfl .nil)) rfl (fun w h => h.tail.tail) ?_
                  refine pairV_eq ((scoreR_ok (or_zero (by omega) (by omega)) h23 hrm).trans ?_)
                  unfold fullS term
                  simp [z0, z1, z2]
              · skip
                replace h45_2 := of_decide_eq_false h45_2
                have z1 : l.node.has.b = 0 := by omega
                refine .cond_false rfl <| .skip <| .blk_normal <| .go <| .region <| .e (.add (c := 2) rfl rfl (by decide)) rfl rfl ?_
                refine .e (.move rfl) rfl rfl <| .nil <| .again <| .seq <| .region <| .e (.lss rfl rfl) rfl rfl ?_
                refine .nil <| .go <| .seq <| .cond_true rfl <| .skip <| .go ?_
                refine .seq <| .block <| .seq <| .region <| .e (.move rfl) rfl rfl <| .e (.index (j := 2) ar39 ag2 rfl rfl rfl (by first | decide | omega) rfl) rfl rfl ?_
                refine .e (.assign rfl) rfl rfl <| .e (.assign rfl) rfl rfl <| .nil <| .go <| .seq <| .region ?_
                refine .e (.move rfl) rfl rfl <| .e (.gtr rfl rfl) rfl rfl <| .nil <| .go ?_
                refine .split 45 rfl (fun h45_3 => ?_) (fun h45_3 => ?_)
                · skip
                  replace h45_3 := of_decide_eq_true h45_3
                  have z2 : ¬l.node.has.c = 0 := by omega
                  have q2 := quo_bd (h := l.node.has.c) (x := l.used.c + t.needs.c) (by omega) (by omega) (by omega)
                  refine .cond_true rfl ?_
                  refine .draw [(c2, _), (c1, _)] mixed (.cons .here (.cons (.there <| .here) .nil)) ?_
                  refine .t 0 rfl (.move rfl) rfl rfl (by kernel_rfl) <| .t 1 rfl (.move rfl) rfl rfl (by kernel_rfl) <| .t 2 rfl (.fieldAddr fo47_1 rfl) rfl rfl (by kernel_rfl) <| .t 3 rfl (.indexAddrA (j := 2) ar39 rfl rfl rfl (by first | decide | omega)) rfl rfl (by kernel_rfl) <| .t 4 rfl (.load ag2 rfl .here rfl) rfl rfl (by kernel_rfl) <| .t 5 rfl (.move rfl) rfl rfl (by kernel_rfl) ?_
                  refine .t 6 rfl (.fieldAddr fo42_1 rfl) rfl rfl (by kernel_rfl) <| .t 7 rfl (.indexAddrA (j := 2) ar39 rfl rfl rfl (by first | decide | omega)) rfl rfl (by kernel_rfl) <| .t 8 rfl (.load ag2 rfl (.there <| .here) rfl) rfl rfl (by kernel_rfl) <| .t 9 rfl (.add rfl rfl (IntWalk.i64_in _ (by omega))) rfl rfl (by kernel_rfl) <| .t 10 rfl (.mul rfl rfl (IntWalk.i64_in _ (by omega))) rfl rfl (by kernel_rfl) <| .t 11 rfl (.move rfl) rfl rfl (by kernel_rfl) ?_
                  refine .t 12 rfl (.quo rfl rfl (by omega) (quo_wrap (by omega) (by omega) (by omega))) rfl rfl (by kernel_rfl) <| .t 13 rfl (.add rfl rfl (add_in (by first | decide | omega) (by first | decide | omega) (quo_bd (by omega) (by omega) (by omega)))) rfl rfl (by kernel_rfl) <| .t 14 rfl (.assign rfl) rfl rfl (by kernel_rfl) <| .done (by kernel_rfl) <| .blk_normal <| .go ?_
                  refine .region <| .e (.add (c := 3) rfl rfl (by decide)) rfl rfl <| .e (.move rfl) rfl rfl <| .nil <| .again <| .seq ?_
                  refine .region <| .e (.lss rfl rfl) rfl rfl <| .nil <| .go <| .seq <| .cond_false rfl ?_
                  refine .exit <| .exit <| .exit <| .blk_exit <| .go <| .seq ?_
                  refine .region <| .e (.move rfl) rfl rfl <| .e (.assign rfl) rfl rfl <| .e (.assign rfl) rfl rfl <| .nil <| .go ?_
                  refine .ret ?_
                  refine Post.retsE rfl (.tmp rfl (.tmp rfl .nil)) rfl (fun w h => h.tail.tail) ?_
                  refine pairV_eq ((scoreR_ok (or_zero (by omega) (by omega)) h23 hrm).trans ?_)
                  unfold fullS term
                  simp [z0, z1, z2]
                · skip
                  replace h45_3 := of_decide_eq_false h45_3
                  have z2 : l.node.has.c = 0 := by omega
                  refine .cond_false rfl <| .skip <| .blk_normal <| .go <| .region <| .e (.add (c := 3) rfl rfl (by decide)) rfl rfl ?_
                  refine .e (.move rfl) rfl rfl <| .nil <| .again <| .seq <| .region <| .e (.lss rfl rfl) rfl rfl ?_
                  refine .nil <| .go <| .seq <| .cond_false rfl <| .exit <| .exit ?_
                  refine .exit <| .blk_exit <| .go <| .seq <| .region <| .e (.move rfl) rfl rfl ?_
                  refine .e (.assign rfl) rfl rfl <| .e (.assign rfl) rfl rfl <| .nil <| .go <| .ret ?_
                  refine Post.retsE rfl (.tmp rfl (.tmp rfl .nil)) rfl (fun w h => h.tail.tail) ?_
                  refine pairV_eq ((scoreR_ok (or_zero (by omega) (by omega)) h23 hrm).trans ?_)
                  unfold fullS term
                  simp [z0, z1, z2]
      · skip
        refine .off rfl rfl <| .off rfl rfl <| .off rfl rfl <| .off rfl rfl <| .off rfl rfl <| .off rfl rfl ?_
        refine .off rfl rfl <| .e (.pickF rfl rfl) rfl rfl <| .e (.not rfl) rfl rfl <| .e (.pickT rfl rfl) rfl rfl <| .nil <| .go ?_
        refine .cond_true rfl <| .region <| .e (.assign rfl) rfl rfl <| .nil <| .go <| .seq ?_
        refine .seq <| .region <| .e (.move rfl) rfl rfl <| .e (.neq rfl rfl) rfl rfl <| .nil <| .go ?_
        refine .cond_true rfl <| .seq <| .region <| .e (.move rfl) rfl rfl <| .e (.assign rfl) rfl rfl <| .e (.assign rfl) rfl rfl ?_
        refine .nil <| .go <| .ret <| .ret ?_
        refine Post.retsE rfl (.tmp rfl (.tmp rfl .nil)) rfl (fun w h => h.tail.tail) ?_
        first | exact pairV_eq (scoreR_why (or_left (by omega)) (by omega)) | exact pairV_eq (scoreR_why (or_right (by omega)) (by omega)) | exact pairV_eq (scoreR_fit (or_zero (by omega) (by omega)) (by first | exact .inl (by simpa using h23) | exact .inr (by simp_all))) | (exfalso; omega)
    · skip
      replace h18 := of_decide_eq_false h18
      refine .off rfl rfl <| .off rfl rfl <| .off rfl rfl <| .off rfl rfl <| .off rfl rfl <| .off rfl rfl ?_
      refine .off rfl rfl <| .off rfl rfl <| .off rfl rfl <| .off rfl rfl <| .off rfl rfl <| .off rfl rfl ?_
      refine .off rfl rfl <| .off rfl rfl <| .e (.pickF rfl rfl) rfl rfl <| .nil <| .go <| .cond_false rfl ?_
      refine .skip <| .go <| .seq <| .seq <| .region <| .e (.move rfl) rfl rfl ?_
      refine .e (.neq rfl rfl) rfl rfl <| .nil <| .go ?_
      refine .split 35 rfl (fun h35 => ?_) (fun h35 => ?_)
      · skip
        first | replace h35 := of_decide_eq_false ((Bool.not_eq_true' _).mp h35) | replace h35 := of_decide_eq_false (by simpa using h35)
        refine .cond_true rfl <| .seq <| .region <| .e (.move rfl) rfl rfl <| .e (.assign rfl) rfl rfl <| .e (.assign rfl) rfl rfl ?_
        refine .nil <| .go <| .ret <| .ret ?_
        refine Post.retsE rfl (.tmp rfl (.tmp rfl .nil)) rfl (fun w h => h.tail.tail) ?_
        first | exact pairV_eq (scoreR_why (or_left (by omega)) (by omega)) | exact pairV_eq (scoreR_why (or_right (by omega)) (by omega)) | exact pairV_eq (scoreR_fit (or_zero (by omega) (by omega)) (by first | exact .inl (by simpa using h23) | exact .inr (by simp_all))) | (exfalso; omega)
      · skip
        first | replace h35 := of_decide_eq_true ((Bool.not_eq_false' _).mp h35) | replace h35 := of_decide_eq_true (by simpa using h35)
        exfalso; omega

theorem bl_irr : ∀ l : List UInt8, Op.bytesLess l l = false
  | [] => rfl
  | x :: r => by simp [Op.bytesLess, bl_irr r]
theorem bl_asym : ∀ a b : List UInt8, Op.bytesLess a b = true → Op.bytesLess b a = false
  | [], [], h => by simp [Op.bytesLess] at h
  | [], _ :: _, _ => by simp [Op.bytesLess]
  | _ :: _, [], h => by simp [Op.bytesLess] at h
  | x :: a, y :: b, h => by
    simp only [Op.bytesLess, Bool.or_eq_true, decide_eq_true_eq, Bool.and_eq_true, beq_iff_eq] at h
    rw [Bool.eq_false_iff]
    simp only [Op.bytesLess, ne_eq, Bool.or_eq_true, decide_eq_true_eq, Bool.and_eq_true, beq_iff_eq]
    intro h'
    rw [UInt8.lt_iff_toNat_lt] at *
    rcases h with h | ⟨rfl, h⟩
    · rcases h' with h' | ⟨rfl, h'⟩ <;> omega
    · rcases h' with h' | ⟨_, h'⟩
      · omega
      · rw [bl_asym a b h] at h'; cases h'
theorem bl_tot : ∀ a b : List UInt8, Op.bytesLess a b = false → Op.bytesLess b a = false → a = b
  | [], [], _, _ => rfl
  | [], _ :: _, h, _ => by simp [Op.bytesLess] at h
  | _ :: _, [], _, h => by simp [Op.bytesLess] at h
  | x :: a, y :: b, h, h' => by
    rw [Bool.eq_false_iff] at h h'
    simp only [Op.bytesLess, ne_eq, Bool.or_eq_true, decide_eq_true_eq, Bool.and_eq_true, beq_iff_eq, not_or, not_and] at h h'
    obtain ⟨h1, h2⟩ := h
    obtain ⟨h3, h4⟩ := h'
    rw [UInt8.lt_iff_toNat_lt] at h1 h3
    have e : x = y := UInt8.toNat_inj.1 (by omega)
    rw [e, bl_tot a b (by simpa using h2 e) (by simpa using h4 e.symm)]
theorem slt_asym {a b : ByteArray} (h : slt a b = true) : slt b a = false := bl_asym _ _ h
theorem slt_tot {a b : ByteArray} (h : slt a b = false) (h2 : slt b a = false) : a = b := by
  have := bl_tot _ _ h h2
  rw [Lib.toList_data, Lib.toList_data] at this
  cases a; cases b
  simp at this
  rw [this]
theorem cmpS_pos {a b : ByteArray} : decide (0 < cmpS a b) = slt b a := by
  unfold cmpS
  split
  · rename_i h; rw [slt_asym h]; rfl
  · rename_i h
    split
    · rename_i h2; subst h2; rw [slt_irr]; rfl
    · rename_i h2
      cases h3 : slt b a
      · exact absurd (slt_tot (by simpa using h) h3) h2
      · rfl
def lod0 : Lod := ⟨⟨⟨#[]⟩, ⟨0, 0, 0⟩, [], []⟩, ⟨0, 0, 0⟩⟩
def whyTo (t : Tsk) (l : List Lod) (k : Nat) : Int := (l.take k).foldl (fun w x => orI w (lodWhy x)) (tskWhy t)
theorem whyTo_succ {t : Tsk} {l : List Lod} {k : Nat} (hk : k < l.length) : whyTo t l (k + 1) = orI (whyTo t l k) (lodWhy l[k]) := by
  unfold whyTo; rw [List.take_succ_eq_append_getElem hk, List.foldl_append]; rfl
def betterB (l : List Lod) (s : Int × Int) (i : Nat) (n : Int) : Bool := decide (s.1 < 0) || decide (0 < orI (cmpI n s.2) (cmpS (l.getD s.1.toNat lod0).node.name (l.getD i lod0).node.name))
def stepB (t : Tsk) (l : List Lod) (s : Int × Int) (i : Nat) : Int × Int :=
  if (scoreR t (l.getD i lod0)).2 ≠ 0 then s else if betterB l s i (scoreR t (l.getD i lod0)).1 = true then ((i : Int), (scoreR t (l.getD i lod0)).1) else s
def bestTo (t : Tsk) (l : List Lod) (k : Nat) : Int × Int := (List.range k).foldl (stepB t l) (-1, 0)
def bestR (t : Tsk) (l : List Lod) : Int × Int := if whyTo t l l.length ≠ 0 then (0, whyTo t l l.length) else if (bestTo t l l.length).1 < 0 then (0, 13) else ((bestTo t l l.length).1, 0)
def Binv (t : Tsk) (l : List Lod) (k : Nat) (s : Int × Int) : Prop := s = bestTo t l k ∧ -1 ≤ s.1 ∧ s.1 < (k : Int)
theorem bestTo_succ (t : Tsk) (l : List Lod) (k : Nat) : bestTo t l (k + 1) = stepB t l (bestTo t l k) k := by
  unfold bestTo; rw [List.range_succ, List.foldl_append]; rfl
theorem lodD {l : List Lod} {k : Nat} (hk : k < l.length) : l.getD k lod0 = l[k] := by simp [hk]
theorem Binv.zero {t : Tsk} {l : List Lod} : Binv t l 0 (-1, 0) := ⟨rfl, by decide, by decide⟩
theorem Binv.skip {t : Tsk} {l : List Lod} {k : Nat} {s : Int × Int} (h : Binv t l k s) (hk : k < l.length) (h1 : ¬(scoreR t l[k]).2 = 0) : Binv t l (k + 1) s := by
  obtain ⟨rfl, h2, h3⟩ := h
  refine ⟨?_, h2, by omega⟩
  rw [bestTo_succ]; unfold stepB; rw [lodD hk, if_pos h1]
theorem Binv.take {t : Tsk} {l : List Lod} {k : Nat} {s : Int × Int} (h : Binv t l k s) (hk : k < l.length) (h1 : (scoreR t l[k]).2 = 0) (h4 : betterB l s k (scoreR t l[k]).1 = true) : Binv t l (k + 1) ((k : Int), (scoreR t l[k]).1) := by
  obtain ⟨rfl, h2, h3⟩ := h
  refine ⟨?_, by dsimp only; omega, by dsimp only; omega⟩
  rw [bestTo_succ]; unfold stepB; rw [lodD hk, if_neg (by simp [h1]), if_pos h4]
theorem Binv.stay {t : Tsk} {l : List Lod} {k : Nat} {s : Int × Int} (h : Binv t l k s) (hk : k < l.length) (h1 : (scoreR t l[k]).2 = 0) (h4 : betterB l s k (scoreR t l[k]).1 = false) : Binv t l (k + 1) s := by
  obtain ⟨rfl, h2, h3⟩ := h
  refine ⟨?_, h2, by omega⟩
  rw [bestTo_succ]; unfold stepB; rw [lodD hk, if_neg (by simp [h1]), if_neg (by simp [h4])]
theorem bestR_why {t : Tsk} {l : List Lod} {k : Nat} (hk : k = l.length) (h : ¬whyTo t l k = 0) : bestR t l = (0, whyTo t l k) := by subst hk; unfold bestR; rw [if_pos h]
theorem bestR_none {t : Tsk} {l : List Lod} {k j : Nat} {s : Int × Int} (hj : j = l.length) (h : whyTo t l j = 0) (hk : k = l.length) (hs : Binv t l k s) (h2 : s.1 < 0) : bestR t l = (0, 13) := by
  subst hj; subst hk
  obtain ⟨rfl, _⟩ := hs
  unfold bestR; rw [if_neg (by simp [h]), if_pos h2]
theorem bestR_some {t : Tsk} {l : List Lod} {k j : Nat} {s : Int × Int} (hj : j = l.length) (h : whyTo t l j = 0) (hk : k = l.length) (hs : Binv t l k s) (h2 : ¬s.1 < 0) : bestR t l = (s.1, 0) := by
  subst hj; subst hk
  obtain ⟨rfl, _⟩ := hs
  unfold bestR; rw [if_neg (by simp [h]), if_neg h2]
theorem orI_pos {n m c : Int} : decide (0 < orI (cmpI n m) c) = (decide (m < n) || (decide (n = m) && decide (0 < c))) := by
  unfold orI cmpI
  rw [Bool.eq_iff_iff]
  simp only [Bool.or_eq_true, Bool.and_eq_true, decide_eq_true_eq]
  by_cases h1 : n < m
  · simp [h1]; omega
  · by_cases h2 : m < n
    · simp [h1, h2]
    · have : n = m := by omega
      simp [this]
theorem betterB_ref {l : List Lod} {s : Int × Int} {i : Nat} {n : Int} : betterB l s i n = (decide (s.1 < 0) || (decide (s.2 < n) || (decide (n = s.2) && slt (l.getD i lod0).node.name (l.getD s.1.toNat lod0).node.name))) := by
  unfold betterB; rw [orI_pos, cmpS_pos]

set_option maxHeartbeats 1000000 in
set_option maxRecDepth 20000 in
theorem better_ok {I : Imm} {O : Own} {v : Value} {l : List Lod} (hl : LodsR I v l) {b2 : Nat} {T2 : TypeId} {f2 : Nat × Nat} {b3 : Nat} {T3 : TypeId} {f3 : Nat × Nat} {b4 : Nat} {T4 : TypeId} {f4 : Nat × Nat} {s : Int × Int} {i : Nat} {n : Int} (h2 : Has O b2 (.cells ⟨[.int .i64 s.1]⟩ T2 f2)) (h3 : Has O b3 (.cells ⟨[.int .i64 s.2]⟩ T3 f3)) (h4 : Has O b4 (.cells ⟨[v]⟩ T4 f4)) (hi : i < l.length) (hs : -1 ≤ s.1 ∧ s.1 < (l.length : Int)) :
    Pure Tryz.prog 90 [.int .i64 i, .int .i64 n, .pointer (some ⟨b2, 0, none⟩), .pointer (some ⟨b3, 0, none⟩), .pointer (some ⟨b4, 0, none⟩)] I O (.bool (betterB l s i n)) := by
  have hl0 := hl
  obtain ⟨la, lcap, rfl, hl1, hl2, -⟩ := hl
  refine Go.Sy.Does.enter Tryz.func90 rfl Tryz.ntmps90 rfl ?_
  refine .seq <| .region <| .e (.assign rfl) rfl rfl <| .nil <| .go <| .seq ?_
  refine .draw [(b2, _), (b3, _), (b4, _)] mixed (.cons (h2) (.cons (h3) (.cons (h4) .nil))) ?_
  refine .t 0 rfl (.load ag3 rfl .here rfl) rfl rfl (by kernel_rfl) <| .t 1 rfl (.lss rfl rfl) rfl rfl (by kernel_rfl) <| .t 2 rfl (.move rfl) rfl rfl (by kernel_rfl) ?_
  refine .split 10 rfl (fun h10 => ?_) (fun h10 => ?_)
  · skip
    replace h10 := of_decide_eq_true h10
    refine .s 3 rfl rfl rfl (by kernel_rfl) <| .s 4 rfl rfl rfl (by kernel_rfl) <| .s 6 rfl rfl rfl (by kernel_rfl) <| .s 7 rfl rfl rfl (by kernel_rfl) <| .s 8 rfl rfl rfl (by kernel_rfl) <| .s 9 rfl rfl rfl (by kernel_rfl) ?_
    refine .s 10 rfl rfl rfl (by kernel_rfl) <| .s 11 rfl rfl rfl (by kernel_rfl) <| .s 12 rfl rfl rfl (by kernel_rfl) <| .s 13 rfl rfl rfl (by kernel_rfl) <| .s 14 rfl rfl rfl (by kernel_rfl) <| .s 15 rfl rfl rfl (by kernel_rfl) ?_
    refine .s 16 rfl rfl rfl (by kernel_rfl) <| .s 17 rfl rfl rfl (by kernel_rfl) <| .none_ (i := 5) (by kernel_rfl) rfl rfl rfl <| .none_ (i := 18) (by kernel_rfl) rfl rfl rfl <| .none_ (i := 19) (by kernel_rfl) rfl rfl rfl <| .none_ (i := 20) (by kernel_rfl) rfl rfl rfl ?_
    refine .s 21 rfl rfl rfl (by kernel_rfl) <| .t 22 rfl (.pickT rfl rfl) rfl rfl (by kernel_rfl) <| .t 23 rfl (.assign rfl) rfl rfl (by kernel_rfl) <| .done (by kernel_rfl) <| .go <| .ret ?_
    refine Post.retE rfl rfl ?_
    refine congrArg Value.bool ?_
    unfold betterB
    rw [lodD (show i < l.length by omega)]
    simp [h10]
  · skip
    replace h10 := of_decide_eq_false h10
    refine .t 3 rfl (.move rfl) rfl rfl (by kernel_rfl) <| .t 4 rfl (.load ag2 rfl (.there <| .here) rfl) rfl rfl (by kernel_rfl) <| .t 6 rfl (.load ag31 rfl (.there <| .there <| .here) rfl) rfl rfl (by kernel_rfl) <| .t 7 rfl (.load ag3 rfl .here rfl) rfl rfl (by kernel_rfl) ?_
    obtain ⟨eb16, eo16, cs16, hd16, hat16, hr16⟩ := SlR.at_ hl0 (k := s.1.toNat) (by omega)
    cases hd16
    have hx16 := hr16
    obtain ⟨xv16, yv16, rfl, hxv16, hyv16⟩ := hr16.ex
    obtain ⟨xa16, xc16, rfl, -⟩ := hxv16
    obtain ⟨ya16, yc16, rfl, -⟩ := hyv16
    refine .t 8 rfl (.indexAddrL sl31 rfl rfl (by omega) (by omega)) rfl rfl (by kernel_rfl) <| .t 9 rfl (.fieldAddr fo47_0 rfl) rfl rfl (by kernel_rfl) <| .t 10 rfl (.fieldAddr fo45_0 rfl) rfl rfl (by kernel_rfl) <| .t 11 rfl (.loadI ag9 rfl (hat16.cell (j := 0) rfl)) rfl rfl (by kernel_rfl) <| .t 12 rfl (.load ag31 rfl (.there <| .there <| .here) rfl) rfl rfl (by kernel_rfl) <| .t 13 rfl (.move rfl) rfl rfl (by kernel_rfl) ?_
    obtain ⟨eb22, eo22, cs22, hd22, hat22, hr22⟩ := SlR.at_ hl0 (k := i) (by omega)
    cases hd22
    have hx22 := hr22
    obtain ⟨xv22, yv22, rfl, hxv22, hyv22⟩ := hr22.ex
    obtain ⟨xa22, xc22, rfl, -⟩ := hxv22
    obtain ⟨ya22, yc22, rfl, -⟩ := hyv22
    refine .t 14 rfl (.indexAddrL sl31 rfl rfl rfl (by omega)) rfl rfl (by kernel_rfl) <| .t 15 rfl (.fieldAddr fo47_0 rfl) rfl rfl (by kernel_rfl) <| .t 16 rfl (.fieldAddr fo45_0 rfl) rfl rfl (by kernel_rfl) <| .t 17 rfl (.loadI ag9 rfl (hat22.cell (j := 0) rfl)) rfl rfl (by kernel_rfl) <| .one (i := 5) (by kernel_rfl) rfl rfl <| .callP cal92 rfl rfl rfl (cmpI_ok) ?_
    refine ⟨(.cons (h2) (.cons (h3) (.cons (h4) .nil))), Imm.le_refl _, ?_⟩
    refine .one (i := 18) (by kernel_rfl) rfl rfl <| .callP cal93 rfl rfl rfl (cmpS_ok) ?_
    refine ⟨(.cons (h2) (.cons (h3) (.cons (h4) .nil))), Imm.le_refl _, ?_⟩
    refine .one (i := 19) (by kernel_rfl) rfl rfl <| .buildSlice Tryz.underlying172 sz3 (by decide) (by decide) zv3 rfl rfl rfl rfl rfl fun c1 _ _ => ?_
    refine ⟨(.cons (.there <| h2) (.cons (.there <| h3) (.cons (.there <| h4) .nil))), Imm.le_refl _, ?_⟩
    refine .freeze fun J hJ hJb => ?_
    refine .one (i := 20) (by kernel_rfl) rfl rfl <| .callP cal91 rfl rfl rfl (or2_ok hJb) ?_
    refine ⟨(.cons (h2) (.cons (h3) (.cons (h4) .nil))), hJ, ?_⟩
    refine .t 21 rfl (.gtr rfl rfl) rfl rfl (by kernel_rfl) <| .t 22 rfl (.pickF rfl rfl) rfl rfl (by kernel_rfl) <| .t 23 rfl (.assign rfl) rfl rfl (by kernel_rfl) <| .done (by kernel_rfl) <| .go <| .ret ?_
    refine .back hJ ?_
    refine Post.retE rfl rfl ?_
    refine congrArg Value.bool ?_
    unfold betterB
    rw [lodD (show i < l.length by omega)]
    rw [lodD (show s.1.toNat < l.length by omega), decide_eq_false (show ¬s.1 < 0 by omega)]
    rfl

set_option maxHeartbeats 4000000 in
set_option maxRecDepth 20000 in
theorem Best_ok {I : Imm} {O : Own} {tc : List Value} {t : Tsk} (ht : TskR I tc t) {v : Value} {l : List Lod} (hl : LodsR I v l) :
    Pure Tryz.prog 37 [.agg ⟨tc⟩, v] I O (pairV (bestR t l)) := by
  have ht0 := ht
  obtain ⟨tw, tb, rfl, htw, htb⟩ := ht.ex
  have htw0 := htw
  obtain ⟨wa, wcap, rfl, hw1, hw2, -⟩ := htw
  have htb0 := htb
  obtain ⟨ba, bcap, rfl, hb1, hb2, -⟩ := htb
  have hl0 := hl
  obtain ⟨la, lcap, rfl, hl1, hl2, -⟩ := hl
  refine Go.Sy.Does.enter Tryz.func37 rfl Tryz.ntmps37 rfl ?_
  refine .seq <| .region <| .on rfl <| .box rfl rfl rfl fun c1 _ _ => .on rfl <| .box rfl rfl rfl fun c2 _ _ => .e (.assign rfl) rfl rfl <| .e (.assign rfl) rfl rfl ?_
  refine .nil <| .go <| .scope <| .seq <| .region <| .e (.loadW ag42 sz42 rfl (.there <| .here) rfl) rfl rfl ?_
  refine .on rfl <| .callP cal66 rfl rfl rfl (CheckTask_ok ht0) <| .e (.assign rfl) rfl rfl <| .nil <| .go <| .seq <| .seq ?_
  refine .region <| .e (.load ag31 rfl .here rfl) rfl rfl <| .e (.len sl31 rfl rfl) rfl rfl <| .e (.move rfl) rfl rfl <| .nil <| .go ?_
  refine .block ?_
  refine .loopM [6, 8, 20, 21, 22, 23, 24, 25, 26, 27, 28, 29] (fun j => l.length - j) (fun j => j ≤ l.length) (fun j => [(20, .int .i64 j), (6, .int .i64 (whyTo t l j))]) (fun _ => _) (fun _ => _) (0) (by omega) ⟨rfl, rfl, trivial⟩ rfl rfl ?_
  intro j hj
  refine .seq <| .region <| .e (.lss rfl rfl) rfl rfl <| .nil <| .go <| .seq ?_
  refine .split 21 rfl (fun h21 => ?_) (fun h21 => ?_)
  · skip
    replace h21 := of_decide_eq_true h21
    refine .cond_true rfl <| .skip <| .go <| .seq <| .block <| .seq ?_
    refine .region ?_
    obtain ⟨eb22, eo22, cs22, hd22, hat22, hr22⟩ := SlR.at_ hl0 (k := j) (by omega)
    cases hd22
    have hx22 := hr22
    obtain ⟨xv22, yv22, rfl, hxv22, hyv22⟩ := hr22.ex
    obtain ⟨xa22, xc22, rfl, -⟩ := hxv22
    obtain ⟨ya22, yc22, rfl, -⟩ := hyv22
    refine .e (.indexAddrL sl31 rfl rfl rfl (by omega)) rfl rfl <| .e (.loadIA ag47 sz47 rfl hat22 rfl) rfl rfl <| .on rfl <| .alloc zr47 rfl fun c3 _ _ => .on rfl <| .storeW sz47 rfl rfl rfl rfl rfl rfl .here <| .nil <| .go ?_
    refine .region <| .e (.move rfl) rfl rfl <| .e (.loadW ag47 sz47 rfl .here rfl) rfl rfl <| .on rfl <| .callP cal89 rfl rfl rfl (Check_ok hx22) <| .on rfl <| .buildSlice Tryz.underlying171 sz28 (by decide) (by decide) zv28 rfl rfl rfl rfl rfl fun c4 _ _ => ?_
    refine .freeze fun J hJ hJb => ?_
    refine .on rfl <| .callP cal88 rfl rfl rfl (orE_ok hJb) <| .e (.assign rfl) rfl rfl <| .nil <| .blk_normal <| .go <| .region ?_
    refine .e (.add rfl rfl (by first | exact wrap_succ (by omega) | exact IntWalk.i64_in _ (by omega) | exact rfl)) rfl rfl <| .e (.move rfl) rfl rfl <| .nil ?_
    refine .tail ?_
    have e6 := whyTo_succ (t := t) (l := l) (k := j) (by omega)
    refine .back hJ ?_
    exact .mid (j + 1) ⟨by omega, by omega⟩ ⟨rfl, (by show some _ = some _; rw [e6]), trivial⟩ rfl rfl (.pre 13 rfl (.app rfl .base))
  · skip
    replace h21 := of_decide_eq_false h21
    refine .cond_false rfl <| .exit <| .exit <| .exit <| .blk_exit <| .go ?_
    refine .seq <| .seq <| .region <| .e (.move rfl) rfl rfl <| .e (.neq rfl rfl) rfl rfl <| .nil ?_
    refine .go ?_
    refine .split 31 rfl (fun h31 => ?_) (fun h31 => ?_)
    · skip
      first | replace h31 := of_decide_eq_false ((Bool.not_eq_true' _).mp h31) | replace h31 := of_decide_eq_false (by simpa using h31)
      refine .cond_true rfl <| .seq <| .region <| .e (.move rfl) rfl rfl <| .e (.assign rfl) rfl rfl <| .e (.assign rfl) rfl rfl ?_
      refine .nil <| .go <| .ret <| .ret <| .sc_ret ?_
      refine Post.retsE rfl (.tmp rfl (.tmp rfl .nil)) rfl (fun w h => h.tail.tail) ?_
      exact pairV_eq (bestR_why (by omega) h31)
    · skip
      first | replace h31 := of_decide_eq_true ((Bool.not_eq_false' _).mp h31) | replace h31 := of_decide_eq_true (by simpa using h31)
      refine .cond_false rfl <| .skip <| .go <| .seq <| .region <| .on rfl <| .alloc zr3 rfl fun c5 _ _ => ?_
      refine .on rfl <| .alloc zr2 rfl fun c6 _ _ => .on rfl <| .storeW sz3 rfl rfl rfl rfl rfl rfl (.there <| .here) <| .on rfl <| .storeW sz2 rfl rfl rfl rfl rfl rfl .here <| .nil <| .go <| .seq ?_
      refine .region <| .e (.makeFunc rfl rfl) rfl rfl <| .e (.assign rfl) rfl rfl <| .nil <| .go <| .seq ?_
      refine .label <| .go <| .seq <| .seq <| .region <| .e (.load ag31 rfl (.there <| .there <| .here) rfl) rfl rfl ?_
      refine .e (.len sl31 rfl rfl) rfl rfl <| .e (.move rfl) rfl rfl <| .nil <| .go <| .block ?_
      refine .loopM [12, 13, 14, 15, 36, 37, 38, 39, 40, 41, 42, 43, 44, 45, 46, 47, 48, 49, 50, 51, 52, 53, 54, 55, 56, 57] (fun s => l.length - s.1) (fun s => s.1 ≤ l.length ∧ Binv t l s.1 s.2) (fun s => [(36, .int .i64 s.1)]) (fun _ => _) (fun s => (c6, .cells ⟨[.int .i64 s.2.2]⟩ _ _) :: (c5, .cells ⟨[.int .i64 s.2.1]⟩ _ _) :: _) (((0, (-1, 0)) : Nat × (Int × Int))) ⟨by omega, Binv.zero⟩ ⟨rfl, trivial⟩ rfl rfl ?_
      intro ⟨k, s⟩ hk
      dsimp only at hk ⊢
      obtain ⟨hk, hb⟩ := hk
      have hb1 := hb.2
      refine .seq <| .region <| .e (.lss rfl rfl) rfl rfl <| .nil <| .go <| .seq ?_
      refine .split 37 rfl (fun h37 => ?_) (fun h37 => ?_)
      · skip
        replace h37 := of_decide_eq_true h37
        refine .cond_true rfl <| .skip <| .go <| .seq <| .block <| .seq ?_
        refine .region <| .e (.move rfl) rfl rfl ?_
        obtain ⟨eb39, eo39, cs39, hd39, hat39, hr39⟩ := SlR.at_ hl0 (k := k) (by omega)
        cases hd39
        have hx39 := hr39
        obtain ⟨xv39, yv39, rfl, hxv39, hyv39⟩ := hr39.ex
        obtain ⟨xa39, xc39, rfl, -⟩ := hxv39
        obtain ⟨ya39, yc39, rfl, -⟩ := hyv39
        refine .e (.indexAddrL sl31 rfl rfl rfl (by omega)) rfl rfl <| .e (.loadIA ag47 sz47 rfl hat39 rfl) rfl rfl <| .on rfl <| .alloc zr47 rfl fun c7 _ _ => .e (.assign rfl) rfl rfl <| .on rfl <| .storeW sz47 rfl rfl rfl rfl rfl rfl .here <| .nil ?_
        refine .go <| .seq <| .region <| .e (.loadW ag42 sz42 rfl (.there <| .there <| .there <| .there <| .here) rfl) rfl rfl <| .e (.loadW ag47 sz47 rfl .here rfl) rfl rfl <| .on rfl <| .callP cal94 rfl rfl rfl (Score_ok ht0 hx39) ?_
        refine .e (.move rfl) rfl rfl <| .e (.extract rfl rfl) rfl rfl <| .e (.extract rfl rfl) rfl rfl <| .e (.assign rfl) rfl rfl <| .e (.assign rfl) rfl rfl <| .nil ?_
        refine .go <| .block <| .seq <| .region <| .e (.move rfl) rfl rfl <| .e (.neq rfl rfl) rfl rfl ?_
        refine .e (.assign rfl) rfl rfl <| .nil <| .go ?_
        refine .split 47 rfl (fun h47 => ?_) (fun h47 => ?_)
        · skip
          first | replace h47 := of_decide_eq_false ((Bool.not_eq_true' _).mp h47) | replace h47 := of_decide_eq_false (by simpa using h47)
          refine .cond_true rfl <| .exit <| .blk_other rfl <| .blk_exit <| .go <| .region ?_
          refine .e (.add rfl rfl (by first | exact wrap_succ (by omega) | exact IntWalk.i64_in _ (by omega) | exact rfl)) rfl rfl <| .e (.move rfl) rfl rfl <| .nil ?_
          refine .tail ?_
          exact .mid ((k + 1, s)) ⟨by dsimp only; omega, by dsimp only; omega, hb.skip (by omega) h47⟩ ⟨rfl, trivial⟩ rfl rfl (.pre 21 rfl (.app rfl .base))
        · skip
          first | replace h47 := of_decide_eq_true ((Bool.not_eq_false' _).mp h47) | replace h47 := of_decide_eq_true (by simpa using h47)
          refine .cond_false rfl <| .seq <| .region <| .e (.move rfl) rfl rfl <| .e (.move rfl) rfl rfl <| .e (.move rfl) rfl rfl ?_
          refine .on rfl <| .callP cal90 rfl rfl rfl (better_ok hl0 (s := s) (.there <| .there <| .here) (.there <| .here) (.there <| .there <| .there <| .here) (i := k) (by omega) (by omega)) <| .e (.assign rfl) rfl rfl <| .nil <| .go ?_
          refine .split 50 rfl (fun h50 => ?_) (fun h50 => ?_)
          · skip
            refine .cond_true rfl <| .region <| .e (.move rfl) rfl rfl <| .e (.move rfl) rfl rfl <| .on rfl <| .storeW sz3 rfl rfl rfl rfl rfl rfl (.there <| .there <| .here) <| .on rfl <| .storeW sz2 rfl rfl rfl rfl rfl rfl (.there <| .here) ?_
            refine .nil <| .blk_normal <| .blk_normal <| .go <| .region <| .e (.add rfl rfl (by first | exact wrap_succ (by omega) | exact IntWalk.i64_in _ (by omega) | exact rfl)) rfl rfl ?_
            refine .e (.move rfl) rfl rfl <| .nil ?_
            refine .tail ?_
            exact .mid ((k + 1, ((k : Int), (scoreR t l[k]).1))) ⟨by dsimp only; omega, by dsimp only; omega, hb.take (by omega) h47 h50⟩ ⟨rfl, trivial⟩ rfl rfl (.pre 29 rfl (.app rfl .base))
          · skip
            refine .cond_false rfl <| .skip <| .blk_normal <| .blk_normal <| .go <| .region ?_
            refine .e (.add rfl rfl (by first | exact wrap_succ (by omega) | exact IntWalk.i64_in _ (by omega) | exact rfl)) rfl rfl <| .e (.move rfl) rfl rfl <| .nil ?_
            refine .tail ?_
            exact .mid ((k + 1, s)) ⟨by dsimp only; omega, by dsimp only; omega, hb.stay (by omega) h47 h50⟩ ⟨rfl, trivial⟩ rfl rfl (.pre 27 rfl (.app rfl .base))
      · skip
        replace h37 := of_decide_eq_false h37
        refine .cond_false rfl <| .exit <| .exit <| .exit <| .blk_exit <| .go ?_
        refine .seq <| .seq <| .region <| .e (.load ag3 rfl (.there <| .here) rfl) rfl rfl <| .e (.lss rfl rfl) rfl rfl <| .nil ?_
        refine .go ?_
        refine .split 59 rfl (fun h59 => ?_) (fun h59 => ?_)
        · skip
          replace h59 := of_decide_eq_true h59
          refine .cond_true rfl <| .seq <| .region <| .e (.assign rfl) rfl rfl <| .e (.assign rfl) rfl rfl <| .nil ?_
          refine .go <| .ret <| .ret <| .sc_ret ?_
          refine Post.retsE rfl (.tmp rfl (.tmp rfl .nil)) rfl (fun w h => h.tail.tail.tail.tail) ?_
          exact pairV_eq (bestR_none (j := j) (by omega) h31 (k := k) (by omega) hb h59)
        · skip
          replace h59 := of_decide_eq_false h59
          refine .cond_false rfl <| .skip <| .go <| .seq <| .region <| .e (.load ag3 rfl (.there <| .here) rfl) rfl rfl ?_
          refine .e (.assign rfl) rfl rfl <| .e (.assign rfl) rfl rfl <| .nil <| .go <| .ret <| .sc_ret ?_
          refine Post.retsE rfl (.tmp rfl (.tmp rfl .nil)) rfl (fun w h => h.tail.tail.tail.tail) ?_
          exact pairV_eq (bestR_some (j := j) (by omega) h31 (k := k) (by omega) hb h59)

theorem scoreR_fits {t : Tsk} {l : Lod} (h : (scoreR t l).2 = 0) : orI (tskWhy t) (lodWhy l) = 0 ∧ suits t l.node = true ∧ room l.node l.used t.needs = true ∧ (scoreR t l).1 = fullS t l := by
  unfold scoreR at *
  split at h
  · rename_i h1; exact absurd h h1
  · rename_i h1
    rw [if_neg h1]
    split at h
    · cases h
    · rename_i h2
      rw [if_neg h2]
      rw [Bool.not_eq_false, Bool.and_eq_true] at h2
      exact ⟨by simpa using h1, h2.1, h2.2, rfl⟩

theorem orI_zero {x y : Int} (h : orI x y = 0) : x = 0 ∧ y = 0 := by
  unfold orI at h
  split at h
  · rename_i h1; exact absurd h h1
  · rename_i h1; exact ⟨by simpa using h1, h⟩
theorem whyTo_zero {t : Tsk} {l : List Lod} : ∀ k, k ≤ l.length → whyTo t l k = 0 → tskWhy t = 0 ∧ ∀ j (hj : j < l.length), j < k → lodWhy l[j] = 0
  | 0, _, h => ⟨h, fun j _ h2 => absurd h2 (by omega)⟩
  | k + 1, hk, h => by
    rw [whyTo_succ (by omega)] at h
    obtain ⟨h1, h2⟩ := orI_zero h
    obtain ⟨h3, h4⟩ := whyTo_zero k (by omega) h1
    refine ⟨h3, fun j hj hjk => ?_⟩
    rcases Nat.lt_or_ge j k with h5 | h5
    · exact h4 j hj h5
    · obtain rfl : j = k := by omega
      exact h2
theorem orI_ne {x y c : Int} (h1 : x ≠ c) (h2 : y ≠ c) : orI x y ≠ c := by unfold orI; split <;> assumption
theorem tskWhy_ne (t : Tsk) : tskWhy t ≠ 13 := by
  unfold tskWhy
  split
  · decide
  · split
    · decide
    · split <;> decide
theorem lodWhy_ne (l : Lod) : lodWhy l ≠ 13 := by
  have h : nodWhy l.node ≠ 13 := by
    unfold nodWhy
    split
    · decide
    · split
      · decide
      · split <;> decide
  unfold lodWhy
  split
  · exact h
  · split <;> decide
theorem whyTo_ne {t : Tsk} {l : List Lod} : ∀ k, k ≤ l.length → whyTo t l k ≠ 13
  | 0, _ => tskWhy_ne t
  | k + 1, hk => by rw [whyTo_succ (by omega)]; exact orI_ne (whyTo_ne k (by omega)) (lodWhy_ne _)
theorem bestR_zero {t : Tsk} {l : List Lod} (h : ¬(bestR t l).2 = 0) : (bestR t l).1 = 0 := by
  unfold bestR at *
  split at h
  · rename_i h1; rw [if_pos h1]
  · rename_i h1; rw [if_neg h1]
    split at h
    · rename_i h2; rw [if_pos h2]
    · exact absurd rfl h
theorem bestR_why0 {t : Tsk} {l : List Lod} (h : (bestR t l).2 = 0 ∨ (bestR t l).2 = 13) : whyTo t l l.length = 0 := by
  unfold bestR at h
  split at h
  · rename_i h1
    rcases h with h | h
    · exact h
    · exact absurd h (whyTo_ne _ (Nat.le_refl _))
  · rename_i h1; simpa using h1
def Mx (t : Tsk) (l : List Lod) (k : Nat) (s : Int × Int) : Prop := (∀ j, j < k → (scoreR t (l.getD j lod0)).2 = 0 → 0 ≤ s.1 ∧ (scoreR t (l.getD j lod0)).1 ≤ s.2) ∧ (0 ≤ s.1 → s.1 < (k : Int) ∧ scoreR t (l.getD s.1.toNat lod0) = (s.2, 0))
theorem Mx_best {t : Tsk} {l : List Lod} : ∀ k, Mx t l k (bestTo t l k)
  | 0 => ⟨fun j h => absurd h (by omega), fun h => by have : (0 : Int) ≤ -1 := h; omega⟩
  | k + 1 => by
    obtain ⟨h1, h2⟩ := Mx_best (t := t) (l := l) k
    rw [bestTo_succ]
    generalize bestTo t l k = s at h1 h2 ⊢
    unfold stepB
    by_cases hz : (scoreR t (l.getD k lod0)).2 = 0
    · rw [if_neg (fun hh => hh hz)]
      by_cases hb : betterB l s k (scoreR t (l.getD k lod0)).1 = true
      · rw [if_pos hb]
        refine ⟨fun j hj h0 => ⟨by dsimp only; omega, ?_⟩, fun _ => ⟨by dsimp only; omega, ?_⟩⟩
        · rcases Nat.lt_or_ge j k with h5 | h5
          · obtain ⟨h6, h7⟩ := h1 j h5 h0
            rw [betterB_ref] at hb
            simp only [Bool.or_eq_true, Bool.and_eq_true, decide_eq_true_eq] at hb
            dsimp only
            rcases hb with hb | hb | ⟨hb, _⟩ <;> omega
          · obtain rfl : j = k := by omega
            exact Int.le_refl _
        · show scoreR t (l.getD ((k : Int).toNat) lod0) = ((scoreR t (l.getD k lod0)).1, 0)
          rw [Int.toNat_natCast]
          exact Prod.ext rfl hz
      · rw [if_neg hb]
        refine ⟨fun j hj h0 => ?_, fun h => ⟨by have := (h2 h).1; omega, (h2 h).2⟩⟩
        rcases Nat.lt_or_ge j k with h5 | h5
        · exact h1 j h5 h0
        · obtain rfl : j = k := by omega
          rw [betterB_ref] at hb
          simp only [Bool.or_eq_true, Bool.and_eq_true, decide_eq_true_eq, not_or] at hb
          exact ⟨by omega, by omega⟩
    · rw [if_pos hz]
      refine ⟨fun j hj h0 => ?_, fun h => ⟨by have := (h2 h).1; omega, (h2 h).2⟩⟩
      rcases Nat.lt_or_ge j k with h5 | h5
      · exact h1 j h5 h0
      · obtain rfl : j = k := by omega
        exact absurd h0 hz
theorem bestR_in {t : Tsk} {l : List Lod} (h : (bestR t l).2 = 0) : 0 ≤ (bestR t l).1 ∧ (bestR t l).1 < (l.length : Int) := by
  have h0 := bestR_why0 (.inl h)
  unfold bestR at *
  rw [if_neg (by simp [h0])] at *
  split at h
  · cases h
  · rename_i h1
    rw [if_neg h1]
    exact ⟨by dsimp only; omega, ((Mx_best (t := t) (l := l) l.length).2 (by omega)).1⟩
theorem best_max {t : Tsk} {l : List Lod} {k b : Nat} (h : (bestR t l).2 = 0) (hb : b = (bestR t l).1.toNat) (hbl : b < l.length) (hk : k < l.length) (hz : (scoreR t l[k]).2 = 0) : (scoreR t l[k]).1 ≤ (scoreR t l[b]).1 := by
  have h0 := bestR_why0 (.inl h)
  obtain ⟨m1, m2⟩ := Mx_best (t := t) (l := l) l.length
  have e : (bestR t l).1 = (bestTo t l l.length).1 := by
    unfold bestR at *
    rw [if_neg (by simp [h0])] at *
    split at h
    · cases h
    · rename_i h1; rw [if_neg h1]
  rw [e] at hb
  have h3 := m1 k hk (by rw [lodD hk]; exact hz)
  have h4 := (m2 h3.1).2
  rw [← hb, lodD hbl] at h4
  rw [lodD hk] at h3
  rw [h4]
  exact h3.2
theorem best_none {t : Tsk} {l : List Lod} {k : Nat} (h : (bestR t l).2 = 13) (hk : k < l.length) : ¬(scoreR t l[k]).2 = 0 := fun hz => by
  have h0 := bestR_why0 (.inr h)
  obtain ⟨m1, m2⟩ := Mx_best (t := t) (l := l) l.length
  have h3 := m1 k hk (by rw [lodD hk]; exact hz)
  unfold bestR at h
  rw [if_neg (by simp [h0]), if_neg (by omega)] at h
  cases h
theorem fit_iff {t : Tsk} {l : List Lod} {k : Nat} (h : (bestR t l).2 = 0 ∨ (bestR t l).2 = 13) (hk : k < l.length) : decide ((scoreR t l[k]).2 = 0) = (suits t l[k].node && room l[k].node l[k].used t.needs) := by
  obtain ⟨h1, h2⟩ := whyTo_zero _ (Nat.le_refl _) (bestR_why0 h)
  have h3 := or_zero h1 (h2 k hk hk)
  unfold scoreR
  rw [if_neg (by simp [h3])]
  cases suits t l[k].node && room l[k].node l[k].used t.needs <;> rfl
theorem term_bd {h u n : Int} (h0 : 0 ≤ h) (h1 : 0 ≤ u + n) (h2 : u + n ≤ h) : 0 ≤ term h u n ∧ term h u n ≤ 1000 := by
  unfold term
  split
  · omega
  · exact quo_bd (by omega) h1 h2
theorem scoreR_bd (t : Tsk) (l : Lod) : 0 ≤ (scoreR t l).1 ∧ (scoreR t l).1 ≤ 3000 := by
  by_cases h : (scoreR t l).2 = 0
  · obtain ⟨_, _, hr, e⟩ := scoreR_fits h
    rw [e]
    obtain ⟨r1, r2, r3, r4⟩ := room_out hr
    have r1 := A3.amt_out r1
    have r2 := A3.amt_out r2
    have r3 := A3.amt_out r3
    have ta := term_bd (h := l.node.has.a) (u := l.used.a) (n := t.needs.a) (by omega) (by omega) (by omega)
    have tb := term_bd (h := l.node.has.b) (u := l.used.b) (n := t.needs.b) (by omega) (by omega) (by omega)
    have tc := term_bd (h := l.node.has.c) (u := l.used.c) (n := t.needs.c) (by omega) (by omega) (by omega)
    unfold fullS
    omega
  · have e : (scoreR t l).1 = 0 := by
      unfold scoreR at *
      split at h
      · rename_i h1; rw [if_pos h1]
      · rename_i h1; rw [if_neg h1]
        split at h
        · rename_i h2; rw [if_pos h2]
        · exact absurd rfl h
    omega

theorem best_ix {t : Tsk} {l : List Lod} (h : (bestR t l).2 = 0) : (bestR t l).1 = (bestTo t l l.length).1 := by
  have h0 := bestR_why0 (.inl h)
  unfold bestR at *
  rw [if_neg (by simp [h0])] at *
  split at h
  · cases h
  · rename_i h1; rw [if_neg h1]

theorem best_ok {t : Tsk} {l : List Lod} {b : Nat} (h : (bestR t l).2 = 0) (hb : b = (bestR t l).1.toNat) : (scoreR t (l.getD b lod0)).2 = 0 := by
  have hi := bestR_in h
  rw [best_ix h] at hb hi
  have e := ((Mx_best (t := t) (l := l) l.length).2 hi.1).2
  rw [← hb] at e
  rw [e]
theorem bestR_iff {t : Tsk} {l : List Lod} : (bestR t l).2 = 0 ↔ (tskWhy t = 0 ∧ (∀ x ∈ l, lodWhy x = 0) ∧ ∃ x ∈ l, (scoreR t x).2 = 0) := by
  have all : ∀ k, k ≤ l.length → (whyTo t l k = 0 ↔ tskWhy t = 0 ∧ ∀ x ∈ l.take k, lodWhy x = 0) := by
    intro k
    induction k with
    | zero => intro _; simp [whyTo]
    | succ k ih =>
      intro hk
      rw [whyTo_succ (by omega), List.take_succ_eq_append_getElem (by omega)]
      constructor
      · intro h
        obtain ⟨h1, h2⟩ := orI_zero h
        obtain ⟨h3, h4⟩ := (ih (by omega)).1 h1
        refine ⟨h3, fun x hx => ?_⟩
        rcases List.mem_append.1 hx with hx | hx
        · exact h4 x hx
        · rw [List.mem_singleton.1 hx]; exact h2
      · rintro ⟨h3, h4⟩
        exact or_zero ((ih (by omega)).2 ⟨h3, fun x hx => h4 x (List.mem_append_left _ hx)⟩) (h4 _ (List.mem_append_right _ (List.mem_singleton.2 rfl)))
  have hall := all l.length (Nat.le_refl _)
  rw [List.take_length] at hall
  constructor
  · intro h
    obtain ⟨h1, h2⟩ := hall.1 (bestR_why0 (.inl h))
    have hi := bestR_in h
    have := best_ok h rfl
    rw [lodD (show (bestR t l).1.toNat < l.length by omega)] at this
    exact ⟨h1, h2, _, List.getElem_mem _, this⟩
  · rintro ⟨h1, h2, x, hx, hz⟩
    have h0 := hall.2 ⟨h1, h2⟩
    obtain ⟨j, hj, rfl⟩ := List.mem_iff_getElem.1 hx
    have hm := (Mx_best (t := t) (l := l) l.length).1 j hj (by rw [lodD hj]; exact hz)
    unfold bestR
    rw [if_neg (by simp [h0]), if_neg (by omega)]

end Go.Proofs.YtmmokaockpghaaaGreatDoor
