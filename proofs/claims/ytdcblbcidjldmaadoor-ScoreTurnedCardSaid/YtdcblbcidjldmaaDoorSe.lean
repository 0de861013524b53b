/- Walks of functions over a symbolic memory, printed by a program of the session. -/
import Derived.Test.YtdcblbcidjldmaaDoorSd
namespace Go.Proofs.YtdcblbcidjldmaaDoor
open Go.Sy
set_option linter.unusedSimpArgs false
set_option linter.unusedVariables false

theorem lodUsed {I : Imm} {l : Lod} {lv tv : Value} {u : A3} (h : LodR I (l.cells lv tv) l) (h1 : PrsR I lv l.node.labels) (h2 : PrsR I tv l.node.taints) (hu : u.ok) : LodR I (({ l with used := u } : Lod).cells lv tv) { l with used := u } := ⟨⟨_, _, rfl, h1, h2⟩, h.name, h.has, hu⟩
theorem scoreR_fits {t : Tsk} {l : Lod} (h : (scoreR t l).2 = 0) : orI (tskWhy t) (lodWhy l) = 0 ∧ suits t l.node = true ∧ room l.node l.used t.needs = true ∧ (scoreR t l).1 = fullS t l := by
  unfold scoreR at *
  split at h
  · rename_i h1; exact absurd h h1
  · rename_i h1
    rw [if_neg h1]
    split at h
    · cases h
    · rename_i h2
      rw [if_neg h2]
      rw [Bool.not_eq_false, Bool.and_eq_true] at h2
      exact ⟨by simpa using h1, h2.1, h2.2, rfl⟩
theorem term_mono {h u v n : Int} (h0 : 0 ≤ h) (h1 : 0 ≤ u + n) (h2 : u ≤ v) : term h u n ≤ term h v n := by
  unfold term
  split
  · omega
  · rw [Int.tdiv_eq_ediv_of_nonneg (by omega), Int.tdiv_eq_ediv_of_nonneg (by omega)]
    exact Int.ediv_le_ediv (by omega) (by omega)
theorem score_mono {t : Tsk} {l : Lod} {u : A3} (h1 : (scoreR t l).2 = 0) (h2 : (scoreR t { l with used := u }).2 = 0) (ha : l.used.a ≤ u.a) (hb : l.used.b ≤ u.b) (hc : l.used.c ≤ u.c) : (scoreR t l).1 ≤ (scoreR t { l with used := u }).1 := by
  obtain ⟨_, _, hr, e1⟩ := scoreR_fits h1
  obtain ⟨_, _, _, e2⟩ := scoreR_fits h2
  rw [e1, e2]
  obtain ⟨r1, r2, r3, r4⟩ := room_out hr
  have r1 := A3.amt_out r1
  have r2 := A3.amt_out r2
  have r3 := A3.amt_out r3
  have ta := term_mono (h := l.node.has.a) (u := l.used.a) (v := u.a) (n := t.needs.a) (by omega) (by omega) ha
  have tb := term_mono (h := l.node.has.b) (u := l.used.b) (v := u.b) (n := t.needs.b) (by omega) (by omega) hb
  have tc := term_mono (h := l.node.has.c) (u := l.used.c) (v := u.c) (n := t.needs.c) (by omega) (by omega) hc
  unfold fullS
  dsimp only
  omega

set_option maxHeartbeats 4000000 in
set_option maxRecDepth 20000 in
theorem ScoreFuller_ok {I : Imm} {O : Own} {tc lc : List Value} {t : Tsk} {l : Lod} (ht : TskR I tc t) (hl : LodR I lc l) {x : A3} (hx : x.ok) :
    Pure Tryd.prog 7 [.agg ⟨tc⟩, .agg ⟨lc⟩, .agg ⟨[.int .i64 x.a, .int .i64 x.b, .int .i64 x.c]⟩] I O (.bool true) := by
  have ht0 := ht
  obtain ⟨tw, tb, rfl, htw, htb⟩ := ht.ex
  have htw0 := htw
  obtain ⟨wa, wcap, rfl, hw1, hw2, -⟩ := htw
  have htb0 := htb
  obtain ⟨ba, bcap, rfl, hb1, hb2, -⟩ := htb
  have hl0 := hl
  obtain ⟨lv, tv, rfl, hlv, htv⟩ := hl.ex
  have hlv0 := hlv
  obtain ⟨lva, lvc, rfl, hlv1, hlv2, -⟩ := hlv
  have htv0 := htv
  obtain ⟨tva, tvc, rfl, htv1, htv2, -⟩ := htv
  have hnd := lodNode hl0 hlv0 htv0
  obtain ⟨ua, ub, uc⟩ := hl0.used
  unfold I64 at ua ub uc
  refine Does.enter Tryd.func7 rfl Tryd.ntmps7 rfl ?_
  refine .seq <| .region <| .on rfl <| .box rfl rfl rfl fun c1 _ _ => .on rfl <| .box rfl rfl rfl fun c2 _ _ => .on rfl <| .box rfl rfl rfl fun c3 _ _ => .e (.assign rfl) rfl rfl ?_
  refine .nil <| .go <| .seq <| .seq <| .region <| .on rfl <| .callP cal11 rfl rfl rfl (lives_ok) ?_
  refine .e (.not rfl) rfl rfl <| .nil <| .go <| .cond_false rfl <| .skip <| .go ?_
  refine .seq <| .region <| .e (.loadW ag25 sz25 rfl (.there <| .there <| .here) rfl) rfl rfl <| .e (.loadW ag29 sz29 rfl (.there <| .here) rfl) rfl rfl <| .on rfl <| .callP cal9 rfl rfl rfl (Score_ok ht0 hl0) <| .e (.move rfl) rfl rfl ?_
  refine .e (.extract rfl rfl) rfl rfl <| .e (.extract rfl rfl) rfl rfl <| .e (.assign rfl) rfl rfl <| .e (.assign rfl) rfl rfl <| .nil <| .go ?_
  refine .seq <| .region <| .e (.loadW ag29 sz29 rfl (.there <| .here) rfl) rfl rfl <| .on rfl <| .alloc zr29 rfl fun c4 _ _ => .on rfl <| .storeW sz29 rfl rfl rfl rfl rfl rfl .here <| .nil ?_
  refine .go <| .seq <| .seq <| .region <| .e (.loadW ag22 sz22 rfl (.there <| .here) rfl) rfl rfl <| .e (.move rfl) rfl rfl ?_
  refine .nil <| .go <| .block <| .unroll 3 <| .seq <| .region ?_
  refine .e (.lss rfl rfl) rfl rfl <| .nil <| .go <| .seq <| .cond_true rfl <| .skip ?_
  refine .go <| .seq <| .block <| .seq <| .region <| .e (.move rfl) rfl rfl ?_
  refine .e (.index (j := 0) ar22 ag2 rfl rfl rfl (by first | decide | omega) rfl) rfl rfl <| .e (.assign rfl) rfl rfl <| .e (.assign rfl) rfl rfl <| .nil <| .go ?_
  refine .meetO (σ := Bool) [28, 29, 30, 31, 32, 33, 34, 35, 36, 37, 38, 39, 40, 41, 42, 43, 44, 45, 46, 47] (fun c => c = true → 0 < x.a ∧ x.a < 35184372088832 ∧ 0 ≤ l.used.a ∧ l.used.a < 35184372088832) (fun c => [(47, .bool c)]) (fun _ => I) (fun R _ => R) ?_ ?_
  · skip
    refine .region <| .e (.move rfl) rfl rfl <| .e (.gtr rfl rfl) rfl rfl <| .e (.move rfl) rfl rfl ?_
    refine .split 30 rfl (fun h30 => ?_) (fun h30 => ?_)
    · skip
      replace h30 := of_decide_eq_true h30
      refine .e (.move rfl) rfl rfl <| .e (.lss rfl rfl) rfl rfl <| .e (.pickT rfl rfl) rfl rfl <| .e (.move rfl) rfl rfl ?_
      refine .split 34 rfl (fun h34 => ?_) (fun h34 => ?_)
      · skip
        replace h34 := of_decide_eq_true h34
        refine .e (.move rfl) rfl rfl <| .e (.fieldAddr fo29_1 rfl) rfl rfl <| .e (.indexAddrA (j := 0) ar22 rfl rfl rfl (by first | decide | omega)) rfl rfl <| .e (.load ag2 rfl .here rfl) rfl rfl <| .e (.geq rfl rfl) rfl rfl <| .e (.pickT rfl rfl) rfl rfl ?_
        refine .e (.move rfl) rfl rfl ?_
        refine .split 41 rfl (fun h41 => ?_) (fun h41 => ?_)
        · skip
          replace h41 := of_decide_eq_true h41
          refine .e (.move rfl) rfl rfl <| .e (.fieldAddr fo29_1 rfl) rfl rfl <| .e (.indexAddrA (j := 0) ar22 rfl rfl rfl (by first | decide | omega)) rfl rfl <| .e (.load ag2 rfl .here rfl) rfl rfl <| .e (.lss rfl rfl) rfl rfl <| .e (.pickT rfl rfl) rfl rfl ?_
          refine .nil ?_
          exact .mid (_) (fun hh => by first | cases hh | (have hh2 := of_decide_eq_true hh; omega)) ⟨rfl, trivial⟩ rfl rfl (.pre 23 rfl .self)
        · skip
          replace h41 := of_decide_eq_false h41
          refine .off rfl rfl <| .off rfl rfl <| .off rfl rfl <| .off rfl rfl <| .off rfl rfl <| .e (.pickF rfl rfl) rfl rfl ?_
          refine .nil ?_
          exact .mid (_) (fun hh => by first | cases hh | (have hh2 := of_decide_eq_true hh; omega)) ⟨rfl, trivial⟩ rfl rfl (.pre 23 rfl .self)
      · skip
        replace h34 := of_decide_eq_false h34
        refine .off rfl rfl <| .off rfl rfl <| .off rfl rfl <| .off rfl rfl <| .off rfl rfl <| .e (.pickF rfl rfl) rfl rfl ?_
        refine .e (.move rfl) rfl rfl <| .off rfl rfl <| .off rfl rfl <| .off rfl rfl <| .off rfl rfl <| .off rfl rfl ?_
        refine .e (.pickF rfl rfl) rfl rfl <| .nil ?_
        exact .mid (_) (fun hh => by first | cases hh | (have hh2 := of_decide_eq_true hh; omega)) ⟨rfl, trivial⟩ rfl rfl (.pre 22 rfl .self)
    · skip
      replace h30 := of_decide_eq_false h30
      refine .off rfl rfl <| .off rfl rfl <| .e (.pickF rfl rfl) rfl rfl <| .e (.move rfl) rfl rfl <| .off rfl rfl <| .off rfl rfl ?_
      refine .off rfl rfl <| .off rfl rfl <| .off rfl rfl <| .e (.pickF rfl rfl) rfl rfl <| .e (.move rfl) rfl rfl <| .off rfl rfl ?_
      refine .off rfl rfl <| .off rfl rfl <| .off rfl rfl <| .off rfl rfl <| .e (.pickF rfl rfl) rfl rfl <| .nil ?_
      exact .mid (_) (fun hh => by first | cases hh | (have hh2 := of_decide_eq_true hh; omega)) ⟨rfl, trivial⟩ rfl rfl (.pre 21 rfl .self)
  · intro ca hca
    refine .split 47 rfl (fun h47 => ?_) (fun h47 => ?_)
    · skip
      have hd0 := hca h47
      refine .cond_true rfl <| .region <| .e (.move rfl) rfl rfl <| .e (.fieldAddr fo29_1 rfl) rfl rfl <| .e (.indexAddrA (j := 0) ar22 rfl rfl rfl (by first | decide | omega)) rfl rfl <| .e (.load ag2 rfl .here rfl) rfl rfl ?_
      refine .e (.move rfl) rfl rfl <| .e (.add rfl rfl (IntWalk.i64_in _ (by omega))) rfl rfl <| .e (.fieldAddr fo29_1 rfl) rfl rfl <| .e (.indexAddrA (j := 0) ar22 rfl rfl rfl (by first | decide | omega)) rfl rfl <| .on rfl <| .store sz2 rfl rfl rfl rfl rfl rfl .here <| .nil ?_
      refine .blk_normal <| .go <| .region <| .e (.add (c := 1) rfl rfl (by decide)) rfl rfl <| .e (.move rfl) rfl rfl <| .nil ?_
      refine .again <| .seq <| .region <| .e (.lss rfl rfl) rfl rfl <| .nil <| .go ?_
      refine .seq <| .cond_true rfl <| .skip <| .go <| .seq <| .block ?_
      refine .seq <| .region <| .e (.move rfl) rfl rfl <| .e (.index (j := 1) ar22 ag2 rfl rfl rfl (by first | decide | omega) rfl) rfl rfl <| .e (.assign rfl) rfl rfl <| .e (.assign rfl) rfl rfl ?_
      refine .nil <| .go ?_
      refine .meetO (σ := Bool) [28, 29, 30, 31, 32, 33, 34, 35, 36, 37, 38, 39, 40, 41, 42, 43, 44, 45, 46, 47] (fun c => c = true → 0 < x.b ∧ x.b < 35184372088832 ∧ 0 ≤ l.used.b ∧ l.used.b < 35184372088832) (fun c => [(47, .bool c)]) (fun _ => I) (fun R _ => R) ?_ ?_
      · skip
        refine .region <| .e (.move rfl) rfl rfl <| .e (.gtr rfl rfl) rfl rfl <| .e (.move rfl) rfl rfl ?_
        refine .split 30 rfl (fun h30 => ?_) (fun h30 => ?_)
        · skip
          replace h30 := of_decide_eq_true h30
          refine .e (.move rfl) rfl rfl <| .e (.lss rfl rfl) rfl rfl <| .e (.pickT rfl rfl) rfl rfl <| .e (.move rfl) rfl rfl ?_
          refine .split 34 rfl (fun h34 => ?_) (fun h34 => ?_)
          · skip
            replace h34 := of_decide_eq_true h34
            refine .e (.move rfl) rfl rfl <| .e (.fieldAddr fo29_1 rfl) rfl rfl <| .e (.indexAddrA (j := 1) ar22 rfl rfl rfl (by first | decide | omega)) rfl rfl <| .e (.load ag2 rfl .here rfl) rfl rfl <| .e (.geq rfl rfl) rfl rfl <| .e (.pickT rfl rfl) rfl rfl ?_
            refine .e (.move rfl) rfl rfl ?_
            refine .split 41 rfl (fun h41 => ?_) (fun h41 => ?_)
            · skip
              replace h41 := of_decide_eq_true h41
              refine .e (.move rfl) rfl rfl <| .e (.fieldAddr fo29_1 rfl) rfl rfl <| .e (.indexAddrA (j := 1) ar22 rfl rfl rfl (by first | decide | omega)) rfl rfl <| .e (.load ag2 rfl .here rfl) rfl rfl <| .e (.lss rfl rfl) rfl rfl <| .e (.pickT rfl rfl) rfl rfl ?_
              refine .nil ?_
              exact .mid (_) (fun hh => by first | cases hh | (have hh2 := of_decide_eq_true hh; omega)) ⟨rfl, trivial⟩ rfl rfl (.pre 23 rfl .self)
            · skip
              replace h41 := of_decide_eq_false h41
              refine .off rfl rfl <| .off rfl rfl <| .off rfl rfl <| .off rfl rfl <| .off rfl rfl <| .e (.pickF rfl rfl) rfl rfl ?_
              refine .nil ?_
              exact .mid (_) (fun hh => by first | cases hh | (have hh2 := of_decide_eq_true hh; omega)) ⟨rfl, trivial⟩ rfl rfl (.pre 23 rfl .self)
          · skip
            replace h34 := of_decide_eq_false h34
            refine .off rfl rfl <| .off rfl rfl <| .off rfl rfl <| .off rfl rfl <| .off rfl rfl <| .e (.pickF rfl rfl) rfl rfl ?_
            refine .e (.move rfl) rfl rfl <| .off rfl rfl <| .off rfl rfl <| .off rfl rfl <| .off rfl rfl <| .off rfl rfl ?_
            refine .e (.pickF rfl rfl) rfl rfl <| .nil ?_
            exact .mid (_) (fun hh => by first | cases hh | (have hh2 := of_decide_eq_true hh; omega)) ⟨rfl, trivial⟩ rfl rfl (.pre 22 rfl .self)
        · skip
          replace h30 := of_decide_eq_false h30
          refine .off rfl rfl <| .off rfl rfl <| .e (.pickF rfl rfl) rfl rfl <| .e (.move rfl) rfl rfl <| .off rfl rfl <| .off rfl rfl ?_
          refine .off rfl rfl <| .off rfl rfl <| .off rfl rfl <| .e (.pickF rfl rfl) rfl rfl <| .e (.move rfl) rfl rfl <| .off rfl rfl ?_
          refine .off rfl rfl <| .off rfl rfl <| .off rfl rfl <| .off rfl rfl <| .e (.pickF rfl rfl) rfl rfl <| .nil ?_
          exact .mid (_) (fun hh => by first | cases hh | (have hh2 := of_decide_eq_true hh; omega)) ⟨rfl, trivial⟩ rfl rfl (.pre 21 rfl .self)
      · intro cb hcb
        refine .split 47 rfl (fun h47_2 => ?_) (fun h47_2 => ?_)
        · skip
          have hd1 := hcb h47_2
          refine .cond_true rfl <| .region <| .e (.move rfl) rfl rfl <| .e (.fieldAddr fo29_1 rfl) rfl rfl <| .e (.indexAddrA (j := 1) ar22 rfl rfl rfl (by first | decide | omega)) rfl rfl <| .e (.load ag2 rfl .here rfl) rfl rfl ?_
          refine .e (.move rfl) rfl rfl <| .e (.add rfl rfl (IntWalk.i64_in _ (by omega))) rfl rfl <| .e (.fieldAddr fo29_1 rfl) rfl rfl <| .e (.indexAddrA (j := 1) ar22 rfl rfl rfl (by first | decide | omega)) rfl rfl <| .on rfl <| .store sz2 rfl rfl rfl rfl rfl rfl .here <| .nil ?_
          refine .blk_normal <| .go <| .region <| .e (.add (c := 2) rfl rfl (by decide)) rfl rfl <| .e (.move rfl) rfl rfl <| .nil ?_
          refine .again <| .seq <| .region <| .e (.lss rfl rfl) rfl rfl <| .nil <| .go ?_
          refine .seq <| .cond_true rfl <| .skip <| .go <| .seq <| .block ?_
          refine .seq <| .region <| .e (.move rfl) rfl rfl <| .e (.index (j := 2) ar22 ag2 rfl rfl rfl (by first | decide | omega) rfl) rfl rfl <| .e (.assign rfl) rfl rfl <| .e (.assign rfl) rfl rfl ?_
          refine .nil <| .go ?_
          refine .meetO (σ := Bool) [28, 29, 30, 31, 32, 33, 34, 35, 36, 37, 38, 39, 40, 41, 42, 43, 44, 45, 46, 47] (fun c => c = true → 0 < x.c ∧ x.c < 35184372088832 ∧ 0 ≤ l.used.c ∧ l.used.c < 35184372088832) (fun c => [(47, .bool c)]) (fun _ => I) (fun R _ => R) ?_ ?_
          · skip
            refine .region <| .e (.move rfl) rfl rfl <| .e (.gtr rfl rfl) rfl rfl <| .e (.move rfl) rfl rfl ?_
            refine .split 30 rfl (fun h30 => ?_) (fun h30 => ?_)
            · skip
              replace h30 := of_decide_eq_true h30
              refine .e (.move rfl) rfl rfl <| .e (.lss rfl rfl) rfl rfl <| .e (.pickT rfl rfl) rfl rfl <| .e (.move rfl) rfl rfl ?_
              refine .split 34 rfl (fun h34 => ?_) (fun h34 => ?_)
              · skip
                replace h34 := of_decide_eq_true h34
                refine .e (.move rfl) rfl rfl <| .e (.fieldAddr fo29_1 rfl) rfl rfl <| .e (.indexAddrA (j := 2) ar22 rfl rfl rfl (by first | decide | omega)) rfl rfl <| .e (.load ag2 rfl .here rfl) rfl rfl <| .e (.geq rfl rfl) rfl rfl <| .e (.pickT rfl rfl) rfl rfl ?_
                refine .e (.move rfl) rfl rfl ?_
                refine .split 41 rfl (fun h41 => ?_) (fun h41 => ?_)
                · skip
                  replace h41 := of_decide_eq_true h41
                  refine .e (.move rfl) rfl rfl <| .e (.fieldAddr fo29_1 rfl) rfl rfl <| .e (.indexAddrA (j := 2) ar22 rfl rfl rfl (by first | decide | omega)) rfl rfl <| .e (.load ag2 rfl .here rfl) rfl rfl <| .e (.lss rfl rfl) rfl rfl <| .e (.pickT rfl rfl) rfl rfl ?_
                  refine .nil ?_
                  exact .mid (_) (fun hh => by first | cases hh | (have hh2 := of_decide_eq_true hh; omega)) ⟨rfl, trivial⟩ rfl rfl (.pre 23 rfl .self)
                · skip
                  replace h41 := of_decide_eq_false h41
                  refine .off rfl rfl <| .off rfl rfl <| .off rfl rfl <| .off rfl rfl <| .off rfl rfl <| .e (.pickF rfl rfl) rfl rfl ?_
                  refine .nil ?_
                  exact .mid (_) (fun hh => by first | cases hh | (have hh2 := of_decide_eq_true hh; omega)) ⟨rfl, trivial⟩ rfl rfl (.pre 23 rfl .self)
              · skip
                replace h34 := of_decide_eq_false h34
                refine .off rfl rfl <| .off rfl rfl <| .off rfl rfl <| .off rfl rfl <| .off rfl rfl <| .e (.pickF rfl rfl) rfl rfl ?_
                refine .e (.move rfl) rfl rfl <| .off rfl rfl <| .off rfl rfl <| .off rfl rfl <| .off rfl rfl <| .off rfl rfl ?_
                refine .e (.pickF rfl rfl) rfl rfl <| .nil ?_
                exact .mid (_) (fun hh => by first | cases hh | (have hh2 := of_decide_eq_true hh; omega)) ⟨rfl, trivial⟩ rfl rfl (.pre 22 rfl .self)
            · skip
              replace h30 := of_decide_eq_false h30
              refine .off rfl rfl <| .off rfl rfl <| .e (.pickF rfl rfl) rfl rfl <| .e (.move rfl) rfl rfl <| .off rfl rfl <| .off rfl rfl ?_
              refine .off rfl rfl <| .off rfl rfl <| .off rfl rfl <| .e (.pickF rfl rfl) rfl rfl <| .e (.move rfl) rfl rfl <| .off rfl rfl ?_
              refine .off rfl rfl <| .off rfl rfl <| .off rfl rfl <| .off rfl rfl <| .e (.pickF rfl rfl) rfl rfl <| .nil ?_
              exact .mid (_) (fun hh => by first | cases hh | (have hh2 := of_decide_eq_true hh; omega)) ⟨rfl, trivial⟩ rfl rfl (.pre 21 rfl .self)
          · intro cc hcc
            refine .split 47 rfl (fun h47_3 => ?_) (fun h47_3 => ?_)
            · skip
              have hd2 := hcc h47_3
              refine .cond_true rfl <| .region <| .e (.move rfl) rfl rfl <| .e (.fieldAddr fo29_1 rfl) rfl rfl <| .e (.indexAddrA (j := 2) ar22 rfl rfl rfl (by first | decide | omega)) rfl rfl <| .e (.load ag2 rfl .here rfl) rfl rfl ?_
              refine .e (.move rfl) rfl rfl <| .e (.add rfl rfl (IntWalk.i64_in _ (by omega))) rfl rfl <| .e (.fieldAddr fo29_1 rfl) rfl rfl <| .e (.indexAddrA (j := 2) ar22 rfl rfl rfl (by first | decide | omega)) rfl rfl <| .on rfl <| .store sz2 rfl rfl rfl rfl rfl rfl .here <| .nil ?_
              refine .blk_normal <| .go <| .region <| .e (.add (c := 3) rfl rfl (by decide)) rfl rfl <| .e (.move rfl) rfl rfl <| .nil ?_
              refine .again <| .seq <| .region <| .e (.lss rfl rfl) rfl rfl <| .nil <| .go ?_
              refine .seq <| .cond_false rfl <| .exit <| .exit <| .exit <| .blk_exit ?_
              refine .go <| .seq <| .region <| .e (.loadW ag25 sz25 rfl (.there <| .there <| .there <| .here) rfl) rfl rfl <| .e (.loadW ag29 sz29 rfl .here rfl) rfl rfl <| .on rfl <| .callP cal9 rfl rfl rfl (Score_ok ht0 (lodUsed (u := ⟨l.used.a + x.a, l.used.b + x.b, l.used.c + x.c⟩) hl0 hlv0 htv0 (by unfold A3.ok I64; dsimp only; omega))) ?_
              refine .e (.move rfl) rfl rfl <| .e (.extract rfl rfl) rfl rfl <| .e (.extract rfl rfl) rfl rfl <| .e (.assign rfl) rfl rfl <| .e (.assign rfl) rfl rfl <| .nil ?_
              refine .go <| .seq <| .region <| .e (.move rfl) rfl rfl <| .e (.neq rfl rfl) rfl rfl <| .e (.move rfl) rfl rfl ?_
              refine .split 65 rfl (fun h65 => ?_) (fun h65 => ?_)
              · skip
                first | replace h65 := of_decide_eq_false ((Bool.not_eq_true' _).mp h65) | replace h65 := of_decide_eq_false (by simpa using h65)
                refine .off rfl rfl <| .off rfl rfl <| .e (.pickT rfl rfl) rfl rfl <| .e (.move rfl) rfl rfl <| .off rfl rfl <| .off rfl rfl ?_
                refine .off rfl rfl <| .e (.pickT rfl rfl) rfl rfl <| .e (.assign rfl) rfl rfl <| .nil <| .go <| .ret ?_
                refine .tail <| .tail <| .tail <| .tail ?_
                refine Post.retE rfl rfl ?_
                first | rfl | simp
              · skip
                first | replace h65 := of_decide_eq_true ((Bool.not_eq_false' _).mp h65) | replace h65 := of_decide_eq_true (by simpa using h65)
                refine .e (.move rfl) rfl rfl <| .e (.neq rfl rfl) rfl rfl <| .e (.pickF rfl rfl) rfl rfl <| .e (.move rfl) rfl rfl ?_
                refine .split 69 rfl (fun h69 => ?_) (fun h69 => ?_)
                · skip
                  first | replace h69 := of_decide_eq_false ((Bool.not_eq_true' _).mp h69) | replace h69 := of_decide_eq_false (by simpa using h69)
                  refine .off rfl rfl <| .off rfl rfl <| .off rfl rfl <| .e (.pickT rfl rfl) rfl rfl <| .e (.assign rfl) rfl rfl <| .nil ?_
                  refine .go <| .ret ?_
                  refine .tail <| .tail <| .tail <| .tail ?_
                  refine Post.retE rfl rfl ?_
                  first | rfl | simp
                · skip
                  first | replace h69 := of_decide_eq_true ((Bool.not_eq_false' _).mp h69) | replace h69 := of_decide_eq_true (by simpa using h69)
                  refine .e (.move rfl) rfl rfl <| .e (.move rfl) rfl rfl <| .e ((EV.cast (u := .bool true) (.geq rfl rfl) (congrArg Value.bool (decide_eq_true (score_mono (u := ⟨l.used.a + x.a, l.used.b + x.b, l.used.c + x.c⟩) h65 h69 (by dsimp only; omega) (by dsimp only; omega) (by dsimp only; omega)))))) rfl rfl <| .e (.pickF rfl rfl) rfl rfl <| .e (.assign rfl) rfl rfl <| .nil ?_
                  refine .go <| .ret ?_
                  refine .tail <| .tail <| .tail <| .tail ?_
                  refine Post.retE rfl rfl ?_
                  first | rfl | simp
            · skip
              refine .cond_false rfl <| .skip <| .blk_normal <| .go <| .region <| .e (.add (c := 3) rfl rfl (by decide)) rfl rfl ?_
              refine .e (.move rfl) rfl rfl <| .nil <| .again <| .seq <| .region <| .e (.lss rfl rfl) rfl rfl ?_
              refine .nil <| .go <| .seq <| .cond_false rfl <| .exit <| .exit ?_
              refine .exit <| .blk_exit <| .go <| .seq <| .region <| .e (.loadW ag25 sz25 rfl (.there <| .there <| .there <| .here) rfl) rfl rfl ?_
              refine .e (.loadW ag29 sz29 rfl .here rfl) rfl rfl <| .on rfl <| .callP cal9 rfl rfl rfl (Score_ok ht0 (lodUsed (u := ⟨l.used.a + x.a, l.used.b + x.b, l.used.c⟩) hl0 hlv0 htv0 (by unfold A3.ok I64; dsimp only; omega))) <| .e (.move rfl) rfl rfl <| .e (.extract rfl rfl) rfl rfl <| .e (.extract rfl rfl) rfl rfl <| .e (.assign rfl) rfl rfl ?_
              refine .e (.assign rfl) rfl rfl <| .nil <| .go <| .seq <| .region <| .e (.move rfl) rfl rfl ?_
              refine .e (.neq rfl rfl) rfl rfl <| .e (.move rfl) rfl rfl ?_
              refine .split 65 rfl (fun h65 => ?_) (fun h65 => ?_)
              · skip
                first | replace h65 := of_decide_eq_false ((Bool.not_eq_true' _).mp h65) | replace h65 := of_decide_eq_false (by simpa using h65)
                refine .off rfl rfl <| .off rfl rfl <| .e (.pickT rfl rfl) rfl rfl <| .e (.move rfl) rfl rfl <| .off rfl rfl <| .off rfl rfl ?_
                refine .off rfl rfl <| .e (.pickT rfl rfl) rfl rfl <| .e (.assign rfl) rfl rfl <| .nil <| .go <| .ret ?_
                refine .tail <| .tail <| .tail <| .tail ?_
                refine Post.retE rfl rfl ?_
                first | rfl | simp
              · skip
                first | replace h65 := of_decide_eq_true ((Bool.not_eq_false' _).mp h65) | replace h65 := of_decide_eq_true (by simpa using h65)
                refine .e (.move rfl) rfl rfl <| .e (.neq rfl rfl) rfl rfl <| .e (.pickF rfl rfl) rfl rfl <| .e (.move rfl) rfl rfl ?_
                refine .split 69 rfl (fun h69 => ?_) (fun h69 => ?_)
                · skip
                  first | replace h69 := of_decide_eq_false ((Bool.not_eq_true' _).mp h69) | replace h69 := of_decide_eq_false (by simpa using h69)
                  refine .off rfl rfl <| .off rfl rfl <| .off rfl rfl <| .e (.pickT rfl rfl) rfl rfl <| .e (.assign rfl) rfl rfl <| .nil ?_
                  refine .go <| .ret ?_
                  refine .tail <| .tail <| .tail <| .tail ?_
                  refine Post.retE rfl rfl ?_
                  first | rfl | simp
                · skip
                  first | replace h69 := of_decide_eq_true ((Bool.not_eq_false' _).mp h69) | replace h69 := of_decide_eq_true (by simpa using h69)
                  refine .e (.move rfl) rfl rfl <| .e (.move rfl) rfl rfl <| .e ((EV.cast (u := .bool true) (.geq rfl rfl) (congrArg Value.bool (decide_eq_true (score_mono (u := ⟨l.used.a + x.a, l.used.b + x.b, l.used.c⟩) h65 h69 (by dsimp only; omega) (by dsimp only; omega) (by dsimp only; omega)))))) rfl rfl <| .e (.pickF rfl rfl) rfl rfl <| .e (.assign rfl) rfl rfl <| .nil ?_
                  refine .go <| .ret ?_
                  refine .tail <| .tail <| .tail <| .tail ?_
                  refine Post.retE rfl rfl ?_
                  first | rfl | simp
        · skip
          refine .cond_false rfl <| .skip <| .blk_normal <| .go <| .region <| .e (.add (c := 2) rfl rfl (by decide)) rfl rfl ?_
          refine .e (.move rfl) rfl rfl <| .nil <| .again <| .seq <| .region <| .e (.lss rfl rfl) rfl rfl ?_
          refine .nil <| .go <| .seq <| .cond_true rfl <| .skip <| .go ?_
          refine .seq <| .block <| .seq <| .region <| .e (.move rfl) rfl rfl <| .e (.index (j := 2) ar22 ag2 rfl rfl rfl (by first | decide | omega) rfl) rfl rfl ?_
          refine .e (.assign rfl) rfl rfl <| .e (.assign rfl) rfl rfl <| .nil <| .go ?_
          refine .meetO (σ := Bool) [28, 29, 30, 31, 32, 33, 34, 35, 36, 37, 38, 39, 40, 41, 42, 43, 44, 45, 46, 47] (fun c => c = true → 0 < x.c ∧ x.c < 35184372088832 ∧ 0 ≤ l.used.c ∧ l.used.c < 35184372088832) (fun c => [(47, .bool c)]) (fun _ => I) (fun R _ => R) ?_ ?_
          · skip
            refine .region <| .e (.move rfl) rfl rfl <| .e (.gtr rfl rfl) rfl rfl <| .e (.move rfl) rfl rfl ?_
            refine .split 30 rfl (fun h30 => ?_) (fun h30 => ?_)
            · skip
              replace h30 := of_decide_eq_true h30
              refine .e (.move rfl) rfl rfl <| .e (.lss rfl rfl) rfl rfl <| .e (.pickT rfl rfl) rfl rfl <| .e (.move rfl) rfl rfl ?_
              refine .split 34 rfl (fun h34 => ?_) (fun h34 => ?_)
              · skip
                replace h34 := of_decide_eq_true h34
                refine .e (.move rfl) rfl rfl <| .e (.fieldAddr fo29_1 rfl) rfl rfl <| .e (.indexAddrA (j := 2) ar22 rfl rfl rfl (by first | decide | omega)) rfl rfl <| .e (.load ag2 rfl .here rfl) rfl rfl <| .e (.geq rfl rfl) rfl rfl <| .e (.pickT rfl rfl) rfl rfl ?_
                refine .e (.move rfl) rfl rfl ?_
                refine .split 41 rfl (fun h41 => ?_) (fun h41 => ?_)
                · skip
                  replace h41 := of_decide_eq_true h41
                  refine .e (.move rfl) rfl rfl <| .e (.fieldAddr fo29_1 rfl) rfl rfl <| .e (.indexAddrA (j := 2) ar22 rfl rfl rfl (by first | decide | omega)) rfl rfl <| .e (.load ag2 rfl .here rfl) rfl rfl <| .e (.lss rfl rfl) rfl rfl <| .e (.pickT rfl rfl) rfl rfl ?_
                  refine .nil ?_
                  exact .mid (_) (fun hh => by first | cases hh | (have hh2 := of_decide_eq_true hh; omega)) ⟨rfl, trivial⟩ rfl rfl (.pre 23 rfl .self)
                · skip
                  replace h41 := of_decide_eq_false h41
                  refine .off rfl rfl <| .off rfl rfl <| .off rfl rfl <| .off rfl rfl <| .off rfl rfl <| .e (.pickF rfl rfl) rfl rfl ?_
                  refine .nil ?_
                  exact .mid (_) (fun hh => by first | cases hh | (have hh2 := of_decide_eq_true hh; omega)) ⟨rfl, trivial⟩ rfl rfl (.pre 23 rfl .self)
              · skip
                replace h34 := of_decide_eq_false h34
                refine .off rfl rfl <| .off rfl rfl <| .off rfl rfl <| .off rfl rfl <| .off rfl rfl <| .e (.pickF rfl rfl) rfl rfl ?_
                refine .e (.move rfl) rfl rfl <| .off rfl rfl <| .off rfl rfl <| .off rfl rfl <| .off rfl rfl <| .off rfl rfl ?_
                refine .e (.pickF rfl rfl) rfl rfl <| .nil ?_
                exact .mid (_) (fun hh => by first | cases hh | (have hh2 := of_decide_eq_true hh; omega)) ⟨rfl, trivial⟩ rfl rfl (.pre 22 rfl .self)
            · skip
              replace h30 := of_decide_eq_false h30
              refine .off rfl rfl <| .off rfl rfl <| .e (.pickF rfl rfl) rfl rfl <| .e (.move rfl) rfl rfl <| .off rfl rfl <| .off rfl rfl ?_
              refine .off rfl rfl <| .off rfl rfl <| .off rfl rfl <| .e (.pickF rfl rfl) rfl rfl <| .e (.move rfl) rfl rfl <| .off rfl rfl ?_
              refine .off rfl rfl <| .off rfl rfl <| .off rfl rfl <| .off rfl rfl <| .e (.pickF rfl rfl) rfl rfl <| .nil ?_
              exact .mid (_) (fun hh => by first | cases hh | (have hh2 := of_decide_eq_true hh; omega)) ⟨rfl, trivial⟩ rfl rfl (.pre 21 rfl .self)
          · intro cc hcc
            refine .split 47 rfl (fun h47_3 => ?_) (fun h47_3 => ?_)
            · skip
              have hd2 := hcc h47_3
              refine .cond_true rfl <| .region <| .e (.move rfl) rfl rfl <| .e (.fieldAddr fo29_1 rfl) rfl rfl <| .e (.indexAddrA (j := 2) ar22 rfl rfl rfl (by first | decide | omega)) rfl rfl <| .e (.load ag2 rfl .here rfl) rfl rfl ?_
              refine .e (.move rfl) rfl rfl <| .e (.add rfl rfl (IntWalk.i64_in _ (by omega))) rfl rfl <| .e (.fieldAddr fo29_1 rfl) rfl rfl <| .e (.indexAddrA (j := 2) ar22 rfl rfl rfl (by first | decide | omega)) rfl rfl <| .on rfl <| .store sz2 rfl rfl rfl rfl rfl rfl .here <| .nil ?_
              refine .blk_normal <| .go <| .region <| .e (.add (c := 3) rfl rfl (by decide)) rfl rfl <| .e (.move rfl) rfl rfl <| .nil ?_
              refine .again <| .seq <| .region <| .e (.lss rfl rfl) rfl rfl <| .nil <| .go ?_
              refine .seq <| .cond_false rfl <| .exit <| .exit <| .exit <| .blk_exit ?_
              refine .go <| .seq <| .region <| .e (.loadW ag25 sz25 rfl (.there <| .there <| .there <| .here) rfl) rfl rfl <| .e (.loadW ag29 sz29 rfl .here rfl) rfl rfl <| .on rfl <| .callP cal9 rfl rfl rfl (Score_ok ht0 (lodUsed (u := ⟨l.used.a + x.a, l.used.b, l.used.c + x.c⟩) hl0 hlv0 htv0 (by unfold A3.ok I64; dsimp only; omega))) ?_
              refine .e (.move rfl) rfl rfl <| .e (.extract rfl rfl) rfl rfl <| .e (.extract rfl rfl) rfl rfl <| .e (.assign rfl) rfl rfl <| .e (.assign rfl) rfl rfl <| .nil ?_
              refine .go <| .seq <| .region <| .e (.move rfl) rfl rfl <| .e (.neq rfl rfl) rfl rfl <| .e (.move rfl) rfl rfl ?_
              refine .split 65 rfl (fun h65 => ?_) (fun h65 => ?_)
              · skip
                first | replace h65 := of_decide_eq_false ((Bool.not_eq_true' _).mp h65) | replace h65 := of_decide_eq_false (by simpa using h65)
                refine .off rfl rfl <| .off rfl rfl <| .e (.pickT rfl rfl) rfl rfl <| .e (.move rfl) rfl rfl <| .off rfl rfl <| .off rfl rfl ?_
                refine .off rfl rfl <| .e (.pickT rfl rfl) rfl rfl <| .e (.assign rfl) rfl rfl <| .nil <| .go <| .ret ?_
                refine .tail <| .tail <| .tail <| .tail ?_
                refine Post.retE rfl rfl ?_
                first | rfl | simp
              · skip
                first | replace h65 := of_decide_eq_true ((Bool.not_eq_false' _).mp h65) | replace h65 := of_decide_eq_true (by simpa using h65)
                refine .e (.move rfl) rfl rfl <| .e (.neq rfl rfl) rfl rfl <| .e (.pickF rfl rfl) rfl rfl <| .e (.move rfl) rfl rfl ?_
                refine .split 69 rfl (fun h69 => ?_) (fun h69 => ?_)
                · skip
                  first | replace h69 := of_decide_eq_false ((Bool.not_eq_true' _).mp h69) | replace h69 := of_decide_eq_false (by simpa using h69)
                  refine .off rfl rfl <| .off rfl rfl <| .off rfl rfl <| .e (.pickT rfl rfl) rfl rfl <| .e (.assign rfl) rfl rfl <| .nil ?_
                  refine .go <| .ret ?_
                  refine .tail <| .tail <| .tail <| .tail ?_
                  refine Post.retE rfl rfl ?_
                  first | rfl | simp
                · skip
                  first | replace h69 := of_decide_eq_true ((Bool.not_eq_false' _).mp h69) | replace h69 := of_decide_eq_true (by simpa using h69)
                  refine .e (.move rfl) rfl rfl <| .e (.move rfl) rfl rfl <| .e ((EV.cast (u := .bool true) (.geq rfl rfl) (congrArg Value.bool (decide_eq_true (score_mono (u := ⟨l.used.a + x.a, l.used.b, l.used.c + x.c⟩) h65 h69 (by dsimp only; omega) (by dsimp only; omega) (by dsimp only; omega)))))) rfl rfl <| .e (.pickF rfl rfl) rfl rfl <| .e (.assign rfl) rfl rfl <| .nil ?_
                  refine .go <| .ret ?_
                  refine .tail <| .tail <| .tail <| .tail ?_
                  refine Post.retE rfl rfl ?_
                  first | rfl | simp
            · skip
              refine .cond_false rfl <| .skip <| .blk_normal <| .go <| .region <| .e (.add (c := 3) rfl rfl (by decide)) rfl rfl ?_
              refine .e (.move rfl) rfl rfl <| .nil <| .again <| .seq <| .region <| .e (.lss rfl rfl) rfl rfl ?_
              refine .nil <| .go <| .seq <| .cond_false rfl <| .exit <| .exit ?_
              refine .exit <| .blk_exit <| .go <| .seq <| .region <| .e (.loadW ag25 sz25 rfl (.there <| .there <| .there <| .here) rfl) rfl rfl ?_
              refine .e (.loadW ag29 sz29 rfl .here rfl) rfl rfl <| .on rfl <| .callP cal9 rfl rfl rfl (Score_ok ht0 (lodUsed (u := ⟨l.used.a + x.a, l.used.b, l.used.c⟩) hl0 hlv0 htv0 (by unfold A3.ok I64; dsimp only; omega))) <| .e (.move rfl) rfl rfl <| .e (.extract rfl rfl) rfl rfl <| .e (.extract rfl rfl) rfl rfl <| .e (.assign rfl) rfl rfl ?_
              refine .e (.assign rfl) rfl rfl <| .nil <| .go <| .seq <| .region <| .e (.move rfl) rfl rfl ?_
              refine .e (.neq rfl rfl) rfl rfl <| .e (.move rfl) rfl rfl ?_
              refine .split 65 rfl (fun h65 => ?_) (fun h65 => ?_)
              · skip
                first | replace h65 := of_decide_eq_false ((Bool.not_eq_true' _).mp h65) | replace h65 := of_decide_eq_false (by simpa using h65)
                refine .off rfl rfl <| .off rfl rfl <| .e (.pickT rfl rfl) rfl rfl <| .e (.move rfl) rfl rfl <| .off rfl rfl <| .off rfl rfl ?_
                refine .off rfl rfl <| .e (.pickT rfl rfl) rfl rfl <| .e (.assign rfl) rfl rfl <| .nil <| .go <| .ret ?_
                refine .tail <| .tail <| .tail <| .tail ?_
                refine Post.retE rfl rfl ?_
                first | rfl | simp
              · skip
                first | replace h65 := of_decide_eq_true ((Bool.not_eq_false' _).mp h65) | replace h65 := of_decide_eq_true (by simpa using h65)
                refine .e (.move rfl) rfl rfl <| .e (.neq rfl rfl) rfl rfl <| .e (.pickF rfl rfl) rfl rfl <| .e (.move rfl) rfl rfl ?_
                refine .split 69 rfl (fun h69 => ?_) (fun h69 => ?_)
                · skip
                  first | replace h69 := of_decide_eq_false ((Bool.not_eq_true' _).mp h69) | replace h69 := of_decide_eq_false (by simpa using h69)
                  refine .off rfl rfl <| .off rfl rfl <| .off rfl rfl <| .e (.pickT rfl rfl) rfl rfl <| .e (.assign rfl) rfl rfl <| .nil ?_
                  refine .go <| .ret ?_
                  refine .tail <| .tail <| .tail <| .tail ?_
                  refine Post.retE rfl rfl ?_
                  first | rfl | simp
                · skip
                  first | replace h69 := of_decide_eq_true ((Bool.not_eq_false' _).mp h69) | replace h69 := of_decide_eq_true (by simpa using h69)
                  refine .e (.move rfl) rfl rfl <| .e (.move rfl) rfl rfl <| .e ((EV.cast (u := .bool true) (.geq rfl rfl) (congrArg Value.bool (decide_eq_true (score_mono (u := ⟨l.used.a + x.a, l.used.b, l.used.c⟩) h65 h69 (by dsimp only; omega) (by dsimp only; omega) (by dsimp only; omega)))))) rfl rfl <| .e (.pickF rfl rfl) rfl rfl <| .e (.assign rfl) rfl rfl <| .nil ?_
                  refine .go <| .ret ?_
                  refine .tail <| .tail <| .tail <| .tail ?_
                  refine Post.retE rfl rfl ?_
                  first | rfl | simp
    · skip
      refine .cond_false rfl <| .skip <| .blk_normal <| .go <| .region <| .e (.add (c := 1) rfl rfl (by decide)) rfl rfl ?_
      refine .e (.move rfl) rfl rfl <| .nil <| .again <| .seq <| .region <| .e (.lss rfl rfl) rfl rfl ?_
      refine .nil <| .go <| .seq <| .cond_true rfl <| .skip <| .go ?_
      refine .seq <| .block <| .seq <| .region <| .e (.move rfl) rfl rfl <| .e (.index (j := 1) ar22 ag2 rfl rfl rfl (by first | decide | omega) rfl) rfl rfl ?_
      refine .e (.assign rfl) rfl rfl <| .e (.assign rfl) rfl rfl <| .nil <| .go ?_
      refine .meetO (σ := Bool) [28, 29, 30, 31, 32, 33, 34, 35, 36, 37, 38, 39, 40, 41, 42, 43, 44, 45, 46, 47] (fun c => c = true → 0 < x.b ∧ x.b < 35184372088832 ∧ 0 ≤ l.used.b ∧ l.used.b < 35184372088832) (fun c => [(47, .bool c)]) (fun _ => I) (fun R _ => R) ?_ ?_
      · skip
        refine .region <| .e (.move rfl) rfl rfl <| .e (.gtr rfl rfl) rfl rfl <| .e (.move rfl) rfl rfl ?_
        refine .split 30 rfl (fun h30 => ?_) (fun h30 => ?_)
        · skip
          replace h30 := of_decide_eq_true h30
          refine .e (.move rfl) rfl rfl <| .e (.lss rfl rfl) rfl rfl <| .e (.pickT rfl rfl) rfl rfl <| .e (.move rfl) rfl rfl ?_
          refine .split 34 rfl (fun h34 => ?_) (fun h34 => ?_)
          · skip
            replace h34 := of_decide_eq_true h34
            refine .e (.move rfl) rfl rfl <| .e (.fieldAddr fo29_1 rfl) rfl rfl <| .e (.indexAddrA (j := 1) ar22 rfl rfl rfl (by first | decide | omega)) rfl rfl <| .e (.load ag2 rfl .here rfl) rfl rfl <| .e (.geq rfl rfl) rfl rfl <| .e (.pickT rfl rfl) rfl rfl ?_
            refine .e (.move rfl) rfl rfl ?_
            refine .split 41 rfl (fun h41 => ?_) (fun h41 => ?_)
            · skip
              replace h41 := of_decide_eq_true h41
              refine .e (.move rfl) rfl rfl <| .e (.fieldAddr fo29_1 rfl) rfl rfl <| .e (.indexAddrA (j := 1) ar22 rfl rfl rfl (by first | decide | omega)) rfl rfl <| .e (.load ag2 rfl .here rfl) rfl rfl <| .e (.lss rfl rfl) rfl rfl <| .e (.pickT rfl rfl) rfl rfl ?_
              refine .nil ?_
              exact .mid (_) (fun hh => by first | cases hh | (have hh2 := of_decide_eq_true hh; omega)) ⟨rfl, trivial⟩ rfl rfl (.pre 23 rfl .self)
            · skip
              replace h41 := of_decide_eq_false h41
              refine .off rfl rfl <| .off rfl rfl <| .off rfl rfl <| .off rfl rfl <| .off rfl rfl <| .e (.pickF rfl rfl) rfl rfl ?_
              refine .nil ?_
              exact .mid (_) (fun hh => by first | cases hh | (have hh2 := of_decide_eq_true hh; omega)) ⟨rfl, trivial⟩ rfl rfl (.pre 23 rfl .self)
          · skip
            replace h34 := of_decide_eq_false h34
            refine .off rfl rfl <| .off rfl rfl <| .off rfl rfl <| .off rfl rfl <| .off rfl rfl <| .e (.pickF rfl rfl) rfl rfl ?_
            refine .e (.move rfl) rfl rfl <| .off rfl rfl <| .off rfl rfl <| .off rfl rfl <| .off rfl rfl <| .off rfl rfl ?_
            refine .e (.pickF rfl rfl) rfl rfl <| .nil ?_
            exact .mid (_) (fun hh => by first | cases hh | (have hh2 := of_decide_eq_true hh; omega)) ⟨rfl, trivial⟩ rfl rfl (.pre 22 rfl .self)
        · skip
          replace h30 := of_decide_eq_false h30
          refine .off rfl rfl <| .off rfl rfl <| .e (.pickF rfl rfl) rfl rfl <| .e (.move rfl) rfl rfl <| .off rfl rfl <| .off rfl rfl ?_
          refine .off rfl rfl <| .off rfl rfl <| .off rfl rfl <| .e (.pickF rfl rfl) rfl rfl <| .e (.move rfl) rfl rfl <| .off rfl rfl ?_
          refine .off rfl rfl <| .off rfl rfl <| .off rfl rfl <| .off rfl rfl <| .e (.pickF rfl rfl) rfl rfl <| .nil ?_
          exact .mid (_) (fun hh => by first | cases hh | (have hh2 := of_decide_eq_true hh; omega)) ⟨rfl, trivial⟩ rfl rfl (.pre 21 rfl .self)
      · intro cb hcb
        refine .split 47 rfl (fun h47_2 => ?_) (fun h47_2 => ?_)
        · skip
          have hd1 := hcb h47_2
          refine .cond_true rfl <| .region <| .e (.move rfl) rfl rfl <| .e (.fieldAddr fo29_1 rfl) rfl rfl <| .e (.indexAddrA (j := 1) ar22 rfl rfl rfl (by first | decide | omega)) rfl rfl <| .e (.load ag2 rfl .here rfl) rfl rfl ?_
          refine .e (.move rfl) rfl rfl <| .e (.add rfl rfl (IntWalk.i64_in _ (by omega))) rfl rfl <| .e (.fieldAddr fo29_1 rfl) rfl rfl <| .e (.indexAddrA (j := 1) ar22 rfl rfl rfl (by first | decide | omega)) rfl rfl <| .on rfl <| .store sz2 rfl rfl rfl rfl rfl rfl .here <| .nil ?_
          refine .blk_normal <| .go <| .region <| .e (.add (c := 2) rfl rfl (by decide)) rfl rfl <| .e (.move rfl) rfl rfl <| .nil ?_
          refine .again <| .seq <| .region <| .e (.lss rfl rfl) rfl rfl <| .nil <| .go ?_
          refine .seq <| .cond_true rfl <| .skip <| .go <| .seq <| .block ?_
          refine .seq <| .region <| .e (.move rfl) rfl rfl <| .e (.index (j := 2) ar22 ag2 rfl rfl rfl (by first | decide | omega) rfl) rfl rfl <| .e (.assign rfl) rfl rfl <| .e (.assign rfl) rfl rfl ?_
          refine .nil <| .go ?_
          refine .meetO (σ := Bool) [28, 29, 30, 31, 32, 33, 34, 35, 36, 37, 38, 39, 40, 41, 42, 43, 44, 45, 46, 47] (fun c => c = true → 0 < x.c ∧ x.c < 35184372088832 ∧ 0 ≤ l.used.c ∧ l.used.c < 35184372088832) (fun c => [(47, .bool c)]) (fun _ => I) (fun R _ => R) ?_ ?_
          · skip
            refine .region <| .e (.move rfl) rfl rfl <| .e (.gtr rfl rfl) rfl rfl <| .e (.move rfl) rfl rfl ?_
            refine .split 30 rfl (fun h30 => ?_) (fun h30 => ?_)
            · skip
              replace h30 := of_decide_eq_true h30
              refine .e (.move rfl) rfl rfl <| .e (.lss rfl rfl) rfl rfl <| .e (.pickT rfl rfl) rfl rfl <| .e (.move rfl) rfl rfl ?_
              refine .split 34 rfl (fun h34 => ?_) (fun h34 => ?_)
              · skip
                replace h34 := of_decide_eq_true h34
                refine .e (.move rfl) rfl rfl <| .e (.fieldAddr fo29_1 rfl) rfl rfl <| .e (.indexAddrA (j := 2) ar22 rfl rfl rfl (by first | decide | omega)) rfl rfl <| .e (.load ag2 rfl .here rfl) rfl rfl <| .e (.geq rfl rfl) rfl rfl <| .e (.pickT rfl rfl) rfl rfl ?_
                refine .e (.move rfl) rfl rfl ?_
                refine .split 41 rfl (fun h41 => ?_) (fun h41 => ?_)
                · skip
                  replace h41 := of_decide_eq_true h41
                  refine .e (.move rfl) rfl rfl <| .e (.fieldAddr fo29_1 rfl) rfl rfl <| .e (.indexAddrA (j := 2) ar22 rfl rfl rfl (by first | decide | omega)) rfl rfl <| .e (.load ag2 rfl .here rfl) rfl rfl <| .e (.lss rfl rfl) rfl rfl <| .e (.pickT rfl rfl) rfl rfl ?_
                  refine .nil ?_
                  exact .mid (_) (fun hh => by first | cases hh | (have hh2 := of_decide_eq_true hh; omega)) ⟨rfl, trivial⟩ rfl rfl (.pre 23 rfl .self)
                · skip
                  replace h41 := of_decide_eq_false h41
                  refine .off rfl rfl <| .off rfl rfl <| .off rfl rfl <| .off rfl rfl <| .off rfl rfl <| .e (.pickF rfl rfl) rfl rfl ?_
                  refine .nil ?_
                  exact .mid (_) (fun hh => by first | cases hh | (have hh2 := of_decide_eq_true hh; omega)) ⟨rfl, trivial⟩ rfl rfl (.pre 23 rfl .self)
              · skip
                replace h34 := of_decide_eq_false h34
                refine .off rfl rfl <| .off rfl rfl <| .off rfl rfl <| .off rfl rfl <| .off rfl rfl <| .e (.pickF rfl rfl) rfl rfl ?_
                refine .e (.move rfl) rfl rfl <| .off rfl rfl <| .off rfl rfl <| .off rfl rfl <| .off rfl rfl <| .off rfl rfl ?_
                refine .e (.pickF rfl rfl) rfl rfl <| .nil ?_
                exact .mid (_) (fun hh => by first | cases hh | (have hh2 := of_decide_eq_true hh; omega)) ⟨rfl, trivial⟩ rfl rfl (.pre 22 rfl .self)
            · skip
              replace h30 := of_decide_eq_false h30
              refine .off rfl rfl <| .off rfl rfl <| .e (.pickF rfl rfl) rfl rfl <| .e (.move rfl) rfl rfl <| .off rfl rfl <| .off rfl rfl ?_
              refine .off rfl rfl <| .off rfl rfl <| .off rfl rfl <| .e (.pickF rfl rfl) rfl rfl <| .e (.move rfl) rfl rfl <| .off rfl rfl ?_
              refine .off rfl rfl <| .off rfl rfl <| .off rfl rfl <| .off rfl rfl <| .e (.pickF rfl rfl) rfl rfl <| .nil ?_
              exact .mid (_) (fun hh => by first | cases hh | (have hh2 := of_decide_eq_true hh; omega)) ⟨rfl, trivial⟩ rfl rfl (.pre 21 rfl .self)
          · intro cc hcc
            refine .split 47 rfl (fun h47_3 => ?_) (fun h47_3 => ?_)
            · skip
              have hd2 := hcc h47_3
              refine .cond_true rfl <| .region <| .e (.move rfl) rfl rfl <| .e (.fieldAddr fo29_1 rfl) rfl rfl <| .e (.indexAddrA (j := 2) ar22 rfl rfl rfl (by first | decide | omega)) rfl rfl <| .e (.load ag2 rfl .here rfl) rfl rfl ?_
              refine .e (.move rfl) rfl rfl <| .e (.add rfl rfl (IntWalk.i64_in _ (by omega))) rfl rfl <| .e (.fieldAddr fo29_1 rfl) rfl rfl <| .e (.indexAddrA (j := 2) ar22 rfl rfl rfl (by first | decide | omega)) rfl rfl <| .on rfl <| .store sz2 rfl rfl rfl rfl rfl rfl .here <| .nil ?_
              refine .blk_normal <| .go <| .region <| .e (.add (c := 3) rfl rfl (by decide)) rfl rfl <| .e (.move rfl) rfl rfl <| .nil ?_
              refine .again <| .seq <| .region <| .e (.lss rfl rfl) rfl rfl <| .nil <| .go ?_
              refine .seq <| .cond_false rfl <| .exit <| .exit <| .exit <| .blk_exit ?_
              refine .go <| .seq <| .region <| .e (.loadW ag25 sz25 rfl (.there <| .there <| .there <| .here) rfl) rfl rfl <| .e (.loadW ag29 sz29 rfl .here rfl) rfl rfl <| .on rfl <| .callP cal9 rfl rfl rfl (Score_ok ht0 (lodUsed (u := ⟨l.used.a, l.used.b + x.b, l.used.c + x.c⟩) hl0 hlv0 htv0 (by unfold A3.ok I64; dsimp only; omega))) ?_
              refine .e (.move rfl) rfl rfl <| .e (.extract rfl rfl) rfl rfl <| .e (.extract rfl rfl) rfl rfl <| .e (.assign rfl) rfl rfl <| .e (.assign rfl) rfl rfl <| .nil ?_
              refine .go <| .seq <| .region <| .e (.move rfl) rfl rfl <| .e (.neq rfl rfl) rfl rfl <| .e (.move rfl) rfl rfl ?_
              refine .split 65 rfl (fun h65 => ?_) (fun h65 => ?_)
              · skip
                first | replace h65 := of_decide_eq_false ((Bool.not_eq_true' _).mp h65) | replace h65 := of_decide_eq_false (by simpa using h65)
                refine .off rfl rfl <| .off rfl rfl <| .e (.pickT rfl rfl) rfl rfl <| .e (.move rfl) rfl rfl <| .off rfl rfl <| .off rfl rfl ?_
                refine .off rfl rfl <| .e (.pickT rfl rfl) rfl rfl <| .e (.assign rfl) rfl rfl <| .nil <| .go <| .ret ?_
                refine .tail <| .tail <| .tail <| .tail ?_
                refine Post.retE rfl rfl ?_
                first | rfl | simp
              · skip
                first | replace h65 := of_decide_eq_true ((Bool.not_eq_false' _).mp h65) | replace h65 := of_decide_eq_true (by simpa using h65)
                refine .e (.move rfl) rfl rfl <| .e (.neq rfl rfl) rfl rfl <| .e (.pickF rfl rfl) rfl rfl <| .e (.move rfl) rfl rfl ?_
                refine .split 69 rfl (fun h69 => ?_) (fun h69 => ?_)
                · skip
                  first | replace h69 := of_decide_eq_false ((Bool.not_eq_true' _).mp h69) | replace h69 := of_decide_eq_false (by simpa using h69)
                  refine .off rfl rfl <| .off rfl rfl <| .off rfl rfl <| .e (.pickT rfl rfl) rfl rfl <| .e (.assign rfl) rfl rfl <| .nil ?_
                  refine .go <| .ret ?_
                  refine .tail <| .tail <| .tail <| .tail ?_
                  refine Post.retE rfl rfl ?_
                  first | rfl | simp
                · skip
                  first | replace h69 := of_decide_eq_true ((Bool.not_eq_false' _).mp h69) | replace h69 := of_decide_eq_true (by simpa using h69)
                  refine .e (.move rfl) rfl rfl <| .e (.move rfl) rfl rfl <| .e ((EV.cast (u := .bool true) (.geq rfl rfl) (congrArg Value.bool (decide_eq_true (score_mono (u := ⟨l.used.a, l.used.b + x.b, l.used.c + x.c⟩) h65 h69 (by dsimp only; omega) (by dsimp only; omega) (by dsimp only; omega)))))) rfl rfl <| .e (.pickF rfl rfl) rfl rfl <| .e (.assign rfl) rfl rfl <| .nil ?_
                  refine .go <| .ret ?_
                  refine .tail <| .tail <| .tail <| .tail ?_
                  refine Post.retE rfl rfl ?_
                  first | rfl | simp
            · skip
              refine .cond_false rfl <| .skip <| .blk_normal <| .go <| .region <| .e (.add (c := 3) rfl rfl (by decide)) rfl rfl ?_
              refine .e (.move rfl) rfl rfl <| .nil <| .again <| .seq <| .region <| .e (.lss rfl rfl) rfl rfl ?_
              refine .nil <| .go <| .seq <| .cond_false rfl <| .exit <| .exit ?_
              refine .exit <| .blk_exit <| .go <| .seq <| .region <| .e (.loadW ag25 sz25 rfl (.there <| .there <| .there <| .here) rfl) rfl rfl ?_
              refine .e (.loadW ag29 sz29 rfl .here rfl) rfl rfl <| .on rfl <| .callP cal9 rfl rfl rfl (Score_ok ht0 (lodUsed (u := ⟨l.used.a, l.used.b + x.b, l.used.c⟩) hl0 hlv0 htv0 (by unfold A3.ok I64; dsimp only; omega))) <| .e (.move rfl) rfl rfl <| .e (.extract rfl rfl) rfl rfl <| .e (.extract rfl rfl) rfl rfl <| .e (.assign rfl) rfl rfl ?_
              refine .e (.assign rfl) rfl rfl <| .nil <| .go <| .seq <| .region <| .e (.move rfl) rfl rfl ?_
              refine .e (.neq rfl rfl) rfl rfl <| .e (.move rfl) rfl rfl ?_
              refine .split 65 rfl (fun h65 => ?_) (fun h65 => ?_)
              · skip
                first | replace h65 := of_decide_eq_false ((Bool.not_eq_true' _).mp h65) | replace h65 := of_decide_eq_false (by simpa using h65)
                refine .off rfl rfl <| .off rfl rfl <| .e (.pickT rfl rfl) rfl rfl <| .e (.move rfl) rfl rfl <| .off rfl rfl <| .off rfl rfl ?_
                refine .off rfl rfl <| .e (.pickT rfl rfl) rfl rfl <| .e (.assign rfl) rfl rfl <| .nil <| .go <| .ret ?_
                refine .tail <| .tail <| .tail <| .tail ?_
                refine Post.retE rfl rfl ?_
                first | rfl | simp
              · skip
                first | replace h65 := of_decide_eq_true ((Bool.not_eq_false' _).mp h65) | replace h65 := of_decide_eq_true (by simpa using h65)
                refine .e (.move rfl) rfl rfl <| .e (.neq rfl rfl) rfl rfl <| .e (.pickF rfl rfl) rfl rfl <| .e (.move rfl) rfl rfl ?_
                refine .split 69 rfl (fun h69 => ?_) (fun h69 => ?_)
                · skip
                  first | replace h69 := of_decide_eq_false ((Bool.not_eq_true' _).mp h69) | replace h69 := of_decide_eq_false (by simpa using h69)
                  refine .off rfl rfl <| .off rfl rfl <| .off rfl rfl <| .e (.pickT rfl rfl) rfl rfl <| .e (.assign rfl) rfl rfl <| .nil ?_
                  refine .go <| .ret ?_
                  refine .tail <| .tail <| .tail <| .tail ?_
                  refine Post.retE rfl rfl ?_
                  first | rfl | simp
                · skip
                  first | replace h69 := of_decide_eq_true ((Bool.not_eq_false' _).mp h69) | replace h69 := of_decide_eq_true (by simpa using h69)
                  refine .e (.move rfl) rfl rfl <| .e (.move rfl) rfl rfl <| .e ((EV.cast (u := .bool true) (.geq rfl rfl) (congrArg Value.bool (decide_eq_true (score_mono (u := ⟨l.used.a, l.used.b + x.b, l.used.c⟩) h65 h69 (by dsimp only; omega) (by dsimp only; omega) (by dsimp only; omega)))))) rfl rfl <| .e (.pickF rfl rfl) rfl rfl <| .e (.assign rfl) rfl rfl <| .nil ?_
                  refine .go <| .ret ?_
                  refine .tail <| .tail <| .tail <| .tail ?_
                  refine Post.retE rfl rfl ?_
                  first | rfl | simp
        · skip
          refine .cond_false rfl <| .skip <| .blk_normal <| .go <| .region <| .e (.add (c := 2) rfl rfl (by decide)) rfl rfl ?_
          refine .e (.move rfl) rfl rfl <| .nil <| .again <| .seq <| .region <| .e (.lss rfl rfl) rfl rfl ?_
          refine .nil <| .go <| .seq <| .cond_true rfl <| .skip <| .go ?_
          refine .seq <| .block <| .seq <| .region <| .e (.move rfl) rfl rfl <| .e (.index (j := 2) ar22 ag2 rfl rfl rfl (by first | decide | omega) rfl) rfl rfl ?_
          refine .e (.assign rfl) rfl rfl <| .e (.assign rfl) rfl rfl <| .nil <| .go ?_
          refine .meetO (σ := Bool) [28, 29, 30, 31, 32, 33, 34, 35, 36, 37, 38, 39, 40, 41, 42, 43, 44, 45, 46, 47] (fun c => c = true → 0 < x.c ∧ x.c < 35184372088832 ∧ 0 ≤ l.used.c ∧ l.used.c < 35184372088832) (fun c => [(47, .bool c)]) (fun _ => I) (fun R _ => R) ?_ ?_
          · skip
            refine .region <| .e (.move rfl) rfl rfl <| .e (.gtr rfl rfl) rfl rfl <| .e (.move rfl) rfl rfl ?_
            refine .split 30 rfl (fun h30 => ?_) (fun h30 => ?_)
            · skip
              replace h30 := of_decide_eq_true h30
              refine .e (.move rfl) rfl rfl <| .e (.lss rfl rfl) rfl rfl <| .e (.pickT rfl rfl) rfl rfl <| .e (.move rfl) rfl rfl ?_
              refine .split 34 rfl (fun h34 => ?_) (fun h34 => ?_)
              · skip
                replace h34 := of_decide_eq_true h34
                refine .e (.move rfl) rfl rfl <| .e (.fieldAddr fo29_1 rfl) rfl rfl <| .e (.indexAddrA (j := 2) ar22 rfl rfl rfl (by first | decide | omega)) rfl rfl <| .e (.load ag2 rfl .here rfl) rfl rfl <| .e (.geq rfl rfl) rfl rfl <| .e (.pickT rfl rfl) rfl rfl ?_
                refine .e (.move rfl) rfl rfl ?_
                refine .split 41 rfl (fun h41 => ?_) (fun h41 => ?_)
                · skip
                  replace h41 := of_decide_eq_true h41
                  refine .e (.move rfl) rfl rfl <| .e (.fieldAddr fo29_1 rfl) rfl rfl <| .e (.indexAddrA (j := 2) ar22 rfl rfl rfl (by first | decide | omega)) rfl rfl <| .e (.load ag2 rfl .here rfl) rfl rfl <| .e (.lss rfl rfl) rfl rfl <| .e (.pickT rfl rfl) rfl rfl ?_
                  refine .nil ?_
                  exact .mid (_) (fun hh => by first | cases hh | (have hh2 := of_decide_eq_true hh; omega)) ⟨rfl, trivial⟩ rfl rfl (.pre 23 rfl .self)
                · skip
                  replace h41 := of_decide_eq_false h41
                  refine .off rfl rfl <| .off rfl rfl <| .off rfl rfl <| .off rfl rfl <| .off rfl rfl <| .e (.pickF rfl rfl) rfl rfl ?_
                  refine .nil ?_
                  exact .mid (_) (fun hh => by first | cases hh | (have hh2 := of_decide_eq_true hh; omega)) ⟨rfl, trivial⟩ rfl rfl (.pre 23 rfl .self)
              · skip
                replace h34 := of_decide_eq_false h34
                refine .off rfl rfl <| .off rfl rfl <| .off rfl rfl <| .off rfl rfl <| .off rfl rfl <| .e (.pickF rfl rfl) rfl rfl ?_
                refine .e (.move rfl) rfl rfl <| .off rfl rfl <| .off rfl rfl <| .off rfl rfl <| .off rfl rfl <| .off rfl rfl ?_
                refine .e (.pickF rfl rfl) rfl rfl <| .nil ?_
                exact .mid (_) (fun hh => by first | cases hh | (have hh2 := of_decide_eq_true hh; omega)) ⟨rfl, trivial⟩ rfl rfl (.pre 22 rfl .self)
            · skip
              replace h30 := of_decide_eq_false h30
              refine .off rfl rfl <| .off rfl rfl <| .e (.pickF rfl rfl) rfl rfl <| .e (.move rfl) rfl rfl <| .off rfl rfl <| .off rfl rfl ?_
              refine .off rfl rfl <| .off rfl rfl <| .off rfl rfl <| .e (.pickF rfl rfl) rfl rfl <| .e (.move rfl) rfl rfl <| .off rfl rfl ?_
              refine .off rfl rfl <| .off rfl rfl <| .off rfl rfl <| .off rfl rfl <| .e (.pickF rfl rfl) rfl rfl <| .nil ?_
              exact .mid (_) (fun hh => by first | cases hh | (have hh2 := of_decide_eq_true hh; omega)) ⟨rfl, trivial⟩ rfl rfl (.pre 21 rfl .self)
          · intro cc hcc
            refine .split 47 rfl (fun h47_3 => ?_) (fun h47_3 => ?_)
            · skip
              have hd2 := hcc h47_3
              refine .cond_true rfl <| .region <| .e (.move rfl) rfl rfl <| .e (.fieldAddr fo29_1 rfl) rfl rfl <| .e (.indexAddrA (j := 2) ar22 rfl rfl rfl (by first | decide | omega)) rfl rfl <| .e (.load ag2 rfl .here rfl) rfl rfl ?_
              refine .e (.move rfl) rfl rfl <| .e (.add rfl rfl (IntWalk.i64_in _ (by omega))) rfl rfl <| .e (.fieldAddr fo29_1 rfl) rfl rfl <| .e (.indexAddrA (j := 2) ar22 rfl rfl rfl (by first | decide | omega)) rfl rfl <| .on rfl <| .store sz2 rfl rfl rfl rfl rfl rfl .here <| .nil ?_
              refine .blk_normal <| .go <| .region <| .e (.add (c := 3) rfl rfl (by decide)) rfl rfl <| .e (.move rfl) rfl rfl <| .nil ?_
              refine .again <| .seq <| .region <| .e (.lss rfl rfl) rfl rfl <| .nil <| .go ?_
              refine .seq <| .cond_false rfl <| .exit <| .exit <| .exit <| .blk_exit ?_
              refine .go <| .seq <| .region <| .e (.loadW ag25 sz25 rfl (.there <| .there <| .there <| .here) rfl) rfl rfl <| .e (.loadW ag29 sz29 rfl .here rfl) rfl rfl <| .on rfl <| .callP cal9 rfl rfl rfl (Score_ok ht0 (lodUsed (u := ⟨l.used.a, l.used.b, l.used.c + x.c⟩) hl0 hlv0 htv0 (by unfold A3.ok I64; dsimp only; omega))) ?_
              refine .e (.move rfl) rfl rfl <| .e (.extract rfl rfl) rfl rfl <| .e (.extract rfl rfl) rfl rfl <| .e (.assign rfl) rfl rfl <| .e (.assign rfl) rfl rfl <| .nil ?_
              refine .go <| .seq <| .region <| .e (.move rfl) rfl rfl <| .e (.neq rfl rfl) rfl rfl <| .e (.move rfl) rfl rfl ?_
              refine .split 65 rfl (fun h65 => ?_) (fun h65 => ?_)
              · skip
                first | replace h65 := of_decide_eq_false ((Bool.not_eq_true' _).mp h65) | replace h65 := of_decide_eq_false (by simpa using h65)
                refine .off rfl rfl <| .off rfl rfl <| .e (.pickT rfl rfl) rfl rfl <| .e (.move rfl) rfl rfl <| .off rfl rfl <| .off rfl rfl ?_
                refine .off rfl rfl <| .e (.pickT rfl rfl) rfl rfl <| .e (.assign rfl) rfl rfl <| .nil <| .go <| .ret ?_
                refine .tail <| .tail <| .tail <| .tail ?_
                refine Post.retE rfl rfl ?_
                first | rfl | simp
              · skip
                first | replace h65 := of_decide_eq_true ((Bool.not_eq_false' _).mp h65) | replace h65 := of_decide_eq_true (by simpa using h65)
                refine .e (.move rfl) rfl rfl <| .e (.neq rfl rfl) rfl rfl <| .e (.pickF rfl rfl) rfl rfl <| .e (.move rfl) rfl rfl ?_
                refine .split 69 rfl (fun h69 => ?_) (fun h69 => ?_)
                · skip
                  first | replace h69 := of_decide_eq_false ((Bool.not_eq_true' _).mp h69) | replace h69 := of_decide_eq_false (by simpa using h69)
                  refine .off rfl rfl <| .off rfl rfl <| .off rfl rfl <| .e (.pickT rfl rfl) rfl rfl <| .e (.assign rfl) rfl rfl <| .nil ?_
                  refine .go <| .ret ?_
                  refine .tail <| .tail <| .tail <| .tail ?_
                  refine Post.retE rfl rfl ?_
                  first | rfl | simp
                · skip
                  first | replace h69 := of_decide_eq_true ((Bool.not_eq_false' _).mp h69) | replace h69 := of_decide_eq_true (by simpa using h69)
                  refine .e (.move rfl) rfl rfl <| .e (.move rfl) rfl rfl <| .e ((EV.cast (u := .bool true) (.geq rfl rfl) (congrArg Value.bool (decide_eq_true (score_mono (u := ⟨l.used.a, l.used.b, l.used.c + x.c⟩) h65 h69 (by dsimp only; omega) (by dsimp only; omega) (by dsimp only; omega)))))) rfl rfl <| .e (.pickF rfl rfl) rfl rfl <| .e (.assign rfl) rfl rfl <| .nil ?_
                  refine .go <| .ret ?_
                  refine .tail <| .tail <| .tail <| .tail ?_
                  refine Post.retE rfl rfl ?_
                  first | rfl | simp
            · skip
              refine .cond_false rfl <| .skip <| .blk_normal <| .go <| .region <| .e (.add (c := 3) rfl rfl (by decide)) rfl rfl ?_
              refine .e (.move rfl) rfl rfl <| .nil <| .again <| .seq <| .region <| .e (.lss rfl rfl) rfl rfl ?_
              refine .nil <| .go <| .seq <| .cond_false rfl <| .exit <| .exit ?_
              refine .exit <| .blk_exit <| .go <| .seq <| .region <| .e (.loadW ag25 sz25 rfl (.there <| .there <| .there <| .here) rfl) rfl rfl ?_
              refine .e (.loadW ag29 sz29 rfl .here rfl) rfl rfl <| .on rfl <| .callP cal9 rfl rfl rfl (Score_ok ht0 (lodUsed (u := ⟨l.used.a, l.used.b, l.used.c⟩) hl0 hlv0 htv0 (by unfold A3.ok I64; dsimp only; omega))) <| .e (.move rfl) rfl rfl <| .e (.extract rfl rfl) rfl rfl <| .e (.extract rfl rfl) rfl rfl <| .e (.assign rfl) rfl rfl ?_
              refine .e (.assign rfl) rfl rfl <| .nil <| .go <| .seq <| .region <| .e (.move rfl) rfl rfl ?_
              refine .e (.neq rfl rfl) rfl rfl <| .e (.move rfl) rfl rfl ?_
              refine .split 65 rfl (fun h65 => ?_) (fun h65 => ?_)
              · skip
                first | replace h65 := of_decide_eq_false ((Bool.not_eq_true' _).mp h65) | replace h65 := of_decide_eq_false (by simpa using h65)
                refine .off rfl rfl <| .off rfl rfl <| .e (.pickT rfl rfl) rfl rfl <| .e (.move rfl) rfl rfl <| .off rfl rfl <| .off rfl rfl ?_
                refine .off rfl rfl <| .e (.pickT rfl rfl) rfl rfl <| .e (.assign rfl) rfl rfl <| .nil <| .go <| .ret ?_
                refine .tail <| .tail <| .tail <| .tail ?_
                refine Post.retE rfl rfl ?_
                first | rfl | simp
              · skip
                first | replace h65 := of_decide_eq_true ((Bool.not_eq_false' _).mp h65) | replace h65 := of_decide_eq_true (by simpa using h65)
                refine .e (.move rfl) rfl rfl <| .e (.neq rfl rfl) rfl rfl <| .e (.pickF rfl rfl) rfl rfl <| .e (.move rfl) rfl rfl ?_
                refine .split 69 rfl (fun h69 => ?_) (fun h69 => ?_)
                · skip
                  first | replace h69 := of_decide_eq_false ((Bool.not_eq_true' _).mp h69) | replace h69 := of_decide_eq_false (by simpa using h69)
                  refine .off rfl rfl <| .off rfl rfl <| .off rfl rfl <| .e (.pickT rfl rfl) rfl rfl <| .e (.assign rfl) rfl rfl <| .nil ?_
                  refine .go <| .ret ?_
                  refine .tail <| .tail <| .tail <| .tail ?_
                  refine Post.retE rfl rfl ?_
                  first | rfl | simp
                · skip
                  first | replace h69 := of_decide_eq_true ((Bool.not_eq_false' _).mp h69) | replace h69 := of_decide_eq_true (by simpa using h69)
                  refine .e (.move rfl) rfl rfl <| .e (.move rfl) rfl rfl <| .e ((EV.cast (u := .bool true) (.geq rfl rfl) (congrArg Value.bool (decide_eq_true (score_mono (u := ⟨l.used.a, l.used.b, l.used.c⟩) h65 h69 (by dsimp only; omega) (by dsimp only; omega) (by dsimp only; omega)))))) rfl rfl <| .e (.pickF rfl rfl) rfl rfl <| .e (.assign rfl) rfl rfl <| .nil ?_
                  refine .go <| .ret ?_
                  refine .tail <| .tail <| .tail <| .tail ?_
                  refine Post.retE rfl rfl ?_
                  first | rfl | simp

end Go.Proofs.YtdcblbcidjldmaaDoor
