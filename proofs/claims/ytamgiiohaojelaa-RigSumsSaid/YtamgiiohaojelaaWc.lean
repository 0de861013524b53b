/- Walks of functions over a symbolic memory, printed by a program of the session. -/
import Derived.Test.YtamgiiohaojelaaWb
namespace Go.Proofs.Ytamgiiohaojelaa
open Go.Sy
set_option linter.unusedSimpArgs false
set_option linter.unusedVariables false

def _root_.Go.Sy.A3.amt (l : A3) (t : Int) : Bool := decide (0 ≤ l.a ∧ 0 ≤ l.b ∧ 0 ≤ l.c ∧ l.a ≤ 1099511627776 * t ∧ l.b ≤ 1099511627776 * t ∧ l.c ≤ 1099511627776 * t)
theorem _root_.Go.Sy.A3.amt_out {l : A3} {t : Int} (h : l.amt t = true) : 0 ≤ l.a ∧ 0 ≤ l.b ∧ 0 ≤ l.c ∧ l.a ≤ 1099511627776 * t ∧ l.b ≤ 1099511627776 * t ∧ l.c ≤ 1099511627776 * t := of_decide_eq_true h
def IntR (_ : Imm) (cs : List Value) (z : Int) : Prop := cs = [.int .i64 z]
theorem row3 {J : Imm} {b : Nat} {T : TypeId} {fz : Nat × Nat} {x y z : Int} (h : J b = some (.cells ⟨[.int .i64 x, .int .i64 y, .int .i64 z]⟩ T fz)) : SlR IntR 1 J (.slice (some ⟨b, 0, none⟩) 3 3) [x, y, z] :=
  SlR.ofRow h ⟨rfl, fun i u hu => by
    match i, hu with
    | 0, h => cases h; rfl
    | 1, h => cases h; rfl
    | 2, h => cases h; rfl⟩ rfl (Nat.le_refl 3) (by decide)
def room (n : Nod) (u d : A3) : Bool := n.has.amt 1 && u.amt 32 && d.amt 1 && decide (u.a + d.a ≤ n.has.a ∧ u.b + d.b ≤ n.has.b ∧ u.c + d.c ≤ n.has.c)

set_option maxHeartbeats 1000000 in
set_option maxRecDepth 20000 in
theorem min3_ok {I : Imm} {O : Own} {b : Nat} {T : TypeId} {fz : Nat × Nat} {x y z : Int} (hb : I b = some (.cells ⟨[.int .i64 x, .int .i64 y, .int .i64 z]⟩ T fz)) :
    Pure Try.prog 28 [.slice (some ⟨b, 0, none⟩) 3 3] I O (.int .i64 (if z < (if y < x then y else x) then z else (if y < x then y else x))) := by
  have hl0 := row3 hb
  refine Does.enter Try.func28 rfl Try.ntmps28 rfl ?_
  refine .seq <| .region <| .e (.assign rfl) rfl rfl <| .nil <| .go <| .seq ?_
  refine .seq <| .region <| .e (.move rfl) rfl rfl <| .e (.len sl48 rfl rfl) rfl rfl <| .e (.lss rfl rfl) rfl rfl <| .nil ?_
  refine .go <| .cond_false rfl <| .skip <| .go <| .seq <| .region ?_
  refine .e (.move rfl) rfl rfl ?_
  obtain ⟨eb10, eo10, cs10, hd10, hat10, hr10⟩ := SlR.at_ hl0 (k := 0) (by simp)
  cases hd10
  cases hr10
  refine .e (.indexAddrL sl48 rfl rfl rfl (by simp)) rfl rfl <| .e (.loadI ag2 rfl (hat10.cell (j := 0) rfl)) rfl rfl <| .e (.assign rfl) rfl rfl <| .nil <| .go <| .seq ?_
  refine .seq <| .region <| .e (.assign rfl) rfl rfl <| .nil <| .go <| .block ?_
  refine .unroll 2 <| .seq <| .seq <| .region <| .e (.move rfl) rfl rfl <| .e (.move rfl) rfl rfl ?_
  refine .e (.len sl48 rfl rfl) rfl rfl <| .e (.lss rfl rfl) rfl rfl <| .nil <| .go <| .cond_true rfl <| .skip ?_
  refine .go <| .seq <| .block <| .region <| .e (.move rfl) rfl rfl <| .e (.move rfl) rfl rfl ?_
  refine .e (.move rfl) rfl rfl ?_
  obtain ⟨eb21, eo21, cs21, hd21, hat21, hr21⟩ := SlR.at_ hl0 (k := 1) (by simp)
  cases hd21
  cases hr21
  refine .e (.indexAddrL sl48 rfl rfl rfl (by simp)) rfl rfl <| .e (.loadI ag2 rfl (hat21.cell (j := 0) rfl)) rfl rfl <| .e (.min2 rfl rfl rfl) rfl rfl <| .e (.assign rfl) rfl rfl <| .nil <| .blk_normal ?_
  refine .go <| .region <| .e (.move rfl) rfl rfl <| .e (.add (c := 2) rfl rfl (by decide)) rfl rfl <| .e (.assign rfl) rfl rfl <| .nil ?_
  refine .again <| .seq <| .seq <| .region <| .e (.move rfl) rfl rfl <| .e (.move rfl) rfl rfl ?_
  refine .e (.len sl48 rfl rfl) rfl rfl <| .e (.lss rfl rfl) rfl rfl <| .nil <| .go <| .cond_true rfl <| .skip ?_
  refine .go <| .seq <| .block <| .region <| .e (.move rfl) rfl rfl <| .e (.move rfl) rfl rfl ?_
  refine .e (.move rfl) rfl rfl ?_
  obtain ⟨eb21, eo21, cs21, hd21, hat21, hr21⟩ := SlR.at_ hl0 (k := 2) (by simp)
  cases hd21
  cases hr21
  refine .e (.indexAddrL sl48 rfl rfl rfl (by simp)) rfl rfl <| .e (.loadI ag2 rfl (hat21.cell (j := 0) rfl)) rfl rfl <| .e (.min2 rfl rfl rfl) rfl rfl <| .e (.assign rfl) rfl rfl <| .nil <| .blk_normal ?_
  refine .go <| .region <| .e (.move rfl) rfl rfl <| .e (.add (c := 3) rfl rfl (by decide)) rfl rfl <| .e (.assign rfl) rfl rfl <| .nil ?_
  refine .again <| .seq <| .seq <| .region <| .e (.move rfl) rfl rfl <| .e (.move rfl) rfl rfl ?_
  refine .e (.len sl48 rfl rfl) rfl rfl <| .e (.lss rfl rfl) rfl rfl <| .nil <| .go <| .cond_false rfl <| .exit ?_
  refine .exit <| .exit <| .blk_exit <| .go <| .seq <| .region ?_
  refine .e (.move rfl) rfl rfl <| .e (.assign rfl) rfl rfl <| .nil <| .go <| .ret ?_
  refine Post.retE rfl rfl ?_
  rfl

set_option maxHeartbeats 1000000 in
set_option maxRecDepth 20000 in
theorem max3_ok {I : Imm} {O : Own} {b : Nat} {T : TypeId} {fz : Nat × Nat} {x y z : Int} (hb : I b = some (.cells ⟨[.int .i64 x, .int .i64 y, .int .i64 z]⟩ T fz)) :
    Pure Try.prog 29 [.slice (some ⟨b, 0, none⟩) 3 3] I O (.int .i64 (if (if x < y then y else x) < z then z else (if x < y then y else x))) := by
  have hl0 := row3 hb
  refine Does.enter Try.func29 rfl Try.ntmps29 rfl ?_
  refine .seq <| .region <| .e (.assign rfl) rfl rfl <| .nil <| .go <| .seq ?_
  refine .seq <| .region <| .e (.move rfl) rfl rfl <| .e (.len sl48 rfl rfl) rfl rfl <| .e (.lss rfl rfl) rfl rfl <| .nil ?_
  refine .go <| .cond_false rfl <| .skip <| .go <| .seq <| .region ?_
  refine .e (.move rfl) rfl rfl ?_
  obtain ⟨eb10, eo10, cs10, hd10, hat10, hr10⟩ := SlR.at_ hl0 (k := 0) (by simp)
  cases hd10
  cases hr10
  refine .e (.indexAddrL sl48 rfl rfl rfl (by simp)) rfl rfl <| .e (.loadI ag2 rfl (hat10.cell (j := 0) rfl)) rfl rfl <| .e (.assign rfl) rfl rfl <| .nil <| .go <| .seq ?_
  refine .seq <| .region <| .e (.assign rfl) rfl rfl <| .nil <| .go <| .block ?_
  refine .unroll 2 <| .seq <| .seq <| .region <| .e (.move rfl) rfl rfl <| .e (.move rfl) rfl rfl ?_
  refine .e (.len sl48 rfl rfl) rfl rfl <| .e (.lss rfl rfl) rfl rfl <| .nil <| .go <| .cond_true rfl <| .skip ?_
  refine .go <| .seq <| .block <| .region <| .e (.move rfl) rfl rfl <| .e (.move rfl) rfl rfl ?_
  refine .e (.move rfl) rfl rfl ?_
  obtain ⟨eb21, eo21, cs21, hd21, hat21, hr21⟩ := SlR.at_ hl0 (k := 1) (by simp)
  cases hd21
  cases hr21
  refine .e (.indexAddrL sl48 rfl rfl rfl (by simp)) rfl rfl <| .e (.loadI ag2 rfl (hat21.cell (j := 0) rfl)) rfl rfl <| .e (.max2 rfl rfl rfl) rfl rfl <| .e (.assign rfl) rfl rfl <| .nil <| .blk_normal ?_
  refine .go <| .region <| .e (.move rfl) rfl rfl <| .e (.add (c := 2) rfl rfl (by decide)) rfl rfl <| .e (.assign rfl) rfl rfl <| .nil ?_
  refine .again <| .seq <| .seq <| .region <| .e (.move rfl) rfl rfl <| .e (.move rfl) rfl rfl ?_
  refine .e (.len sl48 rfl rfl) rfl rfl <| .e (.lss rfl rfl) rfl rfl <| .nil <| .go <| .cond_true rfl <| .skip ?_
  refine .go <| .seq <| .block <| .region <| .e (.move rfl) rfl rfl <| .e (.move rfl) rfl rfl ?_
  refine .e (.move rfl) rfl rfl ?_
  obtain ⟨eb21, eo21, cs21, hd21, hat21, hr21⟩ := SlR.at_ hl0 (k := 2) (by simp)
  cases hd21
  cases hr21
  refine .e (.indexAddrL sl48 rfl rfl rfl (by simp)) rfl rfl <| .e (.loadI ag2 rfl (hat21.cell (j := 0) rfl)) rfl rfl <| .e (.max2 rfl rfl rfl) rfl rfl <| .e (.assign rfl) rfl rfl <| .nil <| .blk_normal ?_
  refine .go <| .region <| .e (.move rfl) rfl rfl <| .e (.add (c := 3) rfl rfl (by decide)) rfl rfl <| .e (.assign rfl) rfl rfl <| .nil ?_
  refine .again <| .seq <| .seq <| .region <| .e (.move rfl) rfl rfl <| .e (.move rfl) rfl rfl ?_
  refine .e (.len sl48 rfl rfl) rfl rfl <| .e (.lss rfl rfl) rfl rfl <| .nil <| .go <| .cond_false rfl <| .exit ?_
  refine .exit <| .exit <| .blk_exit <| .go <| .seq <| .region ?_
  refine .e (.move rfl) rfl rfl <| .e (.assign rfl) rfl rfl <| .nil <| .go <| .ret ?_
  refine Post.retE rfl rfl ?_
  rfl

set_option maxHeartbeats 1000000 in
set_option maxRecDepth 20000 in
theorem amt_ok {I : Imm} {O : Own} {l : A3} {t : Int} (ht : 0 ≤ t ∧ t ≤ 32) :
    Pure Try.prog 24 [.agg ⟨[.int .i64 l.a, .int .i64 l.b, .int .i64 l.c]⟩, .int .i64 t] I O (.bool (l.amt t)) := by
  refine Does.enter Try.func24 rfl Try.ntmps24 rfl ?_
  refine .seq <| .region <| .on rfl <| .box rfl rfl rfl fun c1 _ _ => .e (.assign rfl) rfl rfl <| .nil <| .go ?_
  refine .seq <| .region ?_
  refine .freeze fun J hJ hJb => ?_
  refine .e (.sliceArr ar22 rfl) rfl rfl <| .on rfl <| .callP cal28 rfl rfl rfl (min3_ok hJb) <| .e (.geq rfl rfl) rfl rfl <| .e (.move rfl) rfl rfl ?_
  refine .split 8 rfl (fun h8 => ?_) (fun h8 => ?_)
  · skip
    replace h8 := of_decide_eq_true h8
    refine .e (.sliceArr ar22 rfl) rfl rfl <| .on rfl <| .callP cal29 rfl rfl rfl (max3_ok hJb) <| .e (.move rfl) rfl rfl <| .e (.mul rfl rfl (IntWalk.i64_in _ (by omega))) rfl rfl <| .e (.leq rfl rfl) rfl rfl <| .e (.pickT rfl rfl) rfl rfl ?_
    refine .e (.assign rfl) rfl rfl <| .nil <| .go <| .ret ?_
    refine .back hJ ?_
    refine Post.retE rfl rfl ?_
    refine congrArg Value.bool ?_
    unfold A3.amt
    first | exact decide_eq_decide.2 (by omega) | exact (decide_eq_false (by omega)).symm
  · skip
    replace h8 := of_decide_eq_false h8
    refine .off rfl rfl <| .off rfl rfl <| .off rfl rfl <| .off rfl rfl <| .off rfl rfl <| .e (.pickF rfl rfl) rfl rfl ?_
    refine .e (.assign rfl) rfl rfl <| .nil <| .go <| .ret ?_
    refine .back hJ ?_
    refine Post.retE rfl rfl ?_
    refine congrArg Value.bool ?_
    unfold A3.amt
    first | exact decide_eq_decide.2 (by omega) | exact (decide_eq_false (by omega)).symm

set_option maxHeartbeats 1000000 in
set_option maxRecDepth 20000 in
theorem ramt_ok {I : Imm} {O : Own} {l : A3} {t : Int} (ht : 0 ≤ t ∧ t ≤ 32) :
    Pure Try.prog 27 [.agg ⟨[.int .i64 l.a, .int .i64 l.b, .int .i64 l.c]⟩, .int .i64 t] I O (.bool (l.amt t)) := by
  refine Does.enter Try.func27 rfl Try.ntmps27 rfl ?_
  refine .seq <| .region <| .on rfl <| .box rfl rfl rfl fun c1 _ _ => .e (.assign rfl) rfl rfl <| .nil <| .go ?_
  refine .seq <| .seq <| .region <| .e (.loadW ag22 sz22 rfl .here rfl) rfl rfl <| .e (.move rfl) rfl rfl <| .nil ?_
  refine .go <| .block <| .unroll 3 <| .seq <| .region <| .e (.lss rfl rfl) rfl rfl ?_
  refine .nil <| .go <| .seq <| .cond_true rfl <| .skip <| .go ?_
  refine .seq <| .block <| .seq <| .region <| .e (.index (j := 0) ar22 ag2 rfl rfl rfl (by first | decide | omega) rfl) rfl rfl <| .e (.assign rfl) rfl rfl ?_
  refine .nil <| .go <| .seq <| .region <| .e (.move rfl) rfl rfl <| .e (.lss rfl rfl) rfl rfl ?_
  refine .e (.move rfl) rfl rfl ?_
  refine .split 13 rfl (fun h13 => ?_) (fun h13 => ?_)
  · skip
    replace h13 := of_decide_eq_true h13
    refine .off rfl rfl <| .off rfl rfl <| .off rfl rfl <| .off rfl rfl <| .e (.pickT rfl rfl) rfl rfl <| .nil ?_
    refine .go <| .cond_true rfl <| .seq <| .region <| .e (.assign rfl) rfl rfl <| .nil ?_
    refine .go <| .ret <| .blk_ret <| .ret <| .ret <| .blk_ret ?_
    refine .ret ?_
    refine .tail ?_
    refine Post.retE rfl rfl ?_
    refine congrArg Value.bool ?_
    unfold A3.amt
    first | exact (decide_eq_true (by omega)).symm | exact (decide_eq_false (by omega)).symm
  · skip
    replace h13 := of_decide_eq_false h13
    refine .e (.move rfl) rfl rfl <| .e (.move rfl) rfl rfl <| .e (.mul rfl rfl (IntWalk.i64_in _ (by omega))) rfl rfl <| .e (.gtr rfl rfl) rfl rfl <| .e (.pickF rfl rfl) rfl rfl <| .nil ?_
    refine .go ?_
    refine .split 18 rfl (fun h18 => ?_) (fun h18 => ?_)
    · skip
      replace h18 := of_decide_eq_true h18
      refine .cond_true rfl <| .seq <| .region <| .e (.assign rfl) rfl rfl <| .nil <| .go ?_
      refine .ret <| .blk_ret <| .ret <| .ret <| .blk_ret <| .ret ?_
      refine .tail ?_
      refine Post.retE rfl rfl ?_
      refine congrArg Value.bool ?_
      unfold A3.amt
      first | exact (decide_eq_true (by omega)).symm | exact (decide_eq_false (by omega)).symm
    · skip
      replace h18 := of_decide_eq_false h18
      refine .cond_false rfl <| .skip <| .blk_normal <| .go <| .region <| .e (.add (c := 1) rfl rfl (by decide)) rfl rfl ?_
      refine .e (.move rfl) rfl rfl <| .nil <| .again <| .seq <| .region <| .e (.lss rfl rfl) rfl rfl ?_
      refine .nil <| .go <| .seq <| .cond_true rfl <| .skip <| .go ?_
      refine .seq <| .block <| .seq <| .region <| .e (.index (j := 1) ar22 ag2 rfl rfl rfl (by first | decide | omega) rfl) rfl rfl <| .e (.assign rfl) rfl rfl ?_
      refine .nil <| .go <| .seq <| .region <| .e (.move rfl) rfl rfl <| .e (.lss rfl rfl) rfl rfl ?_
      refine .e (.move rfl) rfl rfl ?_
      refine .split 13 rfl (fun h13_2 => ?_) (fun h13_2 => ?_)
      · skip
        replace h13_2 := of_decide_eq_true h13_2
        refine .off rfl rfl <| .off rfl rfl <| .off rfl rfl <| .off rfl rfl <| .e (.pickT rfl rfl) rfl rfl <| .nil ?_
        refine .go <| .cond_true rfl <| .seq <| .region <| .e (.assign rfl) rfl rfl <| .nil ?_
        refine .go <| .ret <| .blk_ret <| .ret <| .ret <| .blk_ret ?_
        refine .ret ?_
        refine .tail ?_
        refine Post.retE rfl rfl ?_
        refine congrArg Value.bool ?_
        unfold A3.amt
        first | exact (decide_eq_true (by omega)).symm | exact (decide_eq_false (by omega)).symm
      · skip
        replace h13_2 := of_decide_eq_false h13_2
        refine .e (.move rfl) rfl rfl <| .e (.move rfl) rfl rfl <| .e (.mul rfl rfl (IntWalk.i64_in _ (by omega))) rfl rfl <| .e (.gtr rfl rfl) rfl rfl <| .e (.pickF rfl rfl) rfl rfl <| .nil ?_
        refine .go ?_
        refine .split 18 rfl (fun h18_2 => ?_) (fun h18_2 => ?_)
        · skip
          replace h18_2 := of_decide_eq_true h18_2
          refine .cond_true rfl <| .seq <| .region <| .e (.assign rfl) rfl rfl <| .nil <| .go ?_
          refine .ret <| .blk_ret <| .ret <| .ret <| .blk_ret <| .ret ?_
          refine .tail ?_
          refine Post.retE rfl rfl ?_
          refine congrArg Value.bool ?_
          unfold A3.amt
          first | exact (decide_eq_true (by omega)).symm | exact (decide_eq_false (by omega)).symm
        · skip
          replace h18_2 := of_decide_eq_false h18_2
          refine .cond_false rfl <| .skip <| .blk_normal <| .go <| .region <| .e (.add (c := 2) rfl rfl (by decide)) rfl rfl ?_
          refine .e (.move rfl) rfl rfl <| .nil <| .again <| .seq <| .region <| .e (.lss rfl rfl) rfl rfl ?_
          refine .nil <| .go <| .seq <| .cond_true rfl <| .skip <| .go ?_
          refine .seq <| .block <| .seq <| .region <| .e (.index (j := 2) ar22 ag2 rfl rfl rfl (by first | decide | omega) rfl) rfl rfl <| .e (.assign rfl) rfl rfl ?_
          refine .nil <| .go <| .seq <| .region <| .e (.move rfl) rfl rfl <| .e (.lss rfl rfl) rfl rfl ?_
          refine .e (.move rfl) rfl rfl ?_
          refine .split 13 rfl (fun h13_3 => ?_) (fun h13_3 => ?_)
          · skip
            replace h13_3 := of_decide_eq_true h13_3
            refine .off rfl rfl <| .off rfl rfl <| .off rfl rfl <| .off rfl rfl <| .e (.pickT rfl rfl) rfl rfl <| .nil ?_
            refine .go <| .cond_true rfl <| .seq <| .region <| .e (.assign rfl) rfl rfl <| .nil ?_
            refine .go <| .ret <| .blk_ret <| .ret <| .ret <| .blk_ret ?_
            refine .ret ?_
            refine .tail ?_
            refine Post.retE rfl rfl ?_
            refine congrArg Value.bool ?_
            unfold A3.amt
            first | exact (decide_eq_true (by omega)).symm | exact (decide_eq_false (by omega)).symm
          · skip
            replace h13_3 := of_decide_eq_false h13_3
            refine .e (.move rfl) rfl rfl <| .e (.move rfl) rfl rfl <| .e (.mul rfl rfl (IntWalk.i64_in _ (by omega))) rfl rfl <| .e (.gtr rfl rfl) rfl rfl <| .e (.pickF rfl rfl) rfl rfl <| .nil ?_
            refine .go ?_
            refine .split 18 rfl (fun h18_3 => ?_) (fun h18_3 => ?_)
            · skip
              replace h18_3 := of_decide_eq_true h18_3
              refine .cond_true rfl <| .seq <| .region <| .e (.assign rfl) rfl rfl <| .nil <| .go ?_
              refine .ret <| .blk_ret <| .ret <| .ret <| .blk_ret <| .ret ?_
              refine .tail ?_
              refine Post.retE rfl rfl ?_
              refine congrArg Value.bool ?_
              unfold A3.amt
              first | exact (decide_eq_true (by omega)).symm | exact (decide_eq_false (by omega)).symm
            · skip
              replace h18_3 := of_decide_eq_false h18_3
              refine .cond_false rfl <| .skip <| .blk_normal <| .go <| .region <| .e (.add (c := 3) rfl rfl (by decide)) rfl rfl ?_
              refine .e (.move rfl) rfl rfl <| .nil <| .again <| .seq <| .region <| .e (.lss rfl rfl) rfl rfl ?_
              refine .nil <| .go <| .seq <| .cond_false rfl <| .exit <| .exit ?_
              refine .exit <| .blk_exit <| .go <| .seq <| .region <| .e (.assign rfl) rfl rfl ?_
              refine .nil <| .go <| .ret ?_
              refine .tail ?_
              refine Post.retE rfl rfl ?_
              refine congrArg Value.bool ?_
              unfold A3.amt
              first | exact (decide_eq_true (by omega)).symm | exact (decide_eq_false (by omega)).symm

set_option maxHeartbeats 1000000 in
set_option maxRecDepth 20000 in
theorem Room_ok {I : Imm} {O : Own} {nc : List Value} {n : Nod} {u d : A3} (hn : NodR I nc n) :
    Pure Try.prog 17 [.agg ⟨nc⟩, .agg ⟨[.int .i64 u.a, .int .i64 u.b, .int .i64 u.c]⟩, .agg ⟨[.int .i64 d.a, .int .i64 d.b, .int .i64 d.c]⟩] I O (.bool (room n u d)) := by
  obtain ⟨nl, nt, rfl, hnl, hnt⟩ := hn.ex
  refine Does.enter Try.func17 rfl Try.ntmps17 rfl ?_
  refine .seq <| .region <| .on rfl <| .box rfl rfl rfl fun c1 _ _ => .on rfl <| .box rfl rfl rfl fun c2 _ _ => .on rfl <| .box rfl rfl rfl fun c3 _ _ => .e (.assign rfl) rfl rfl ?_
  refine .nil <| .go <| .seq <| .region <| .e (.fieldAddr fo30_1 rfl) rfl rfl <| .e (.loadP ag22 sz22 rfl (.there <| .there <| .here) rfl) rfl rfl ?_
  refine .on rfl <| .callP cal24 rfl rfl rfl (amt_ok (l := n.has) (by omega)) <| .e (.move rfl) rfl rfl ?_
  refine .split 12 rfl (fun h12 => ?_) (fun h12 => ?_)
  · skip
    have a12 := A3.amt_out h12
    refine .e (.loadW ag22 sz22 rfl (.there <| .here) rfl) rfl rfl <| .on rfl <| .callP cal24 rfl rfl rfl (amt_ok (l := u) (by omega)) <| .e (.pickT rfl rfl) rfl rfl <| .e (.move rfl) rfl rfl ?_
    refine .split 16 rfl (fun h16 => ?_) (fun h16 => ?_)
    · skip
      have a16 := A3.amt_out h16
      refine .e (.loadW ag22 sz22 rfl .here rfl) rfl rfl <| .on rfl <| .callP cal24 rfl rfl rfl (amt_ok (l := d) (by omega)) <| .e (.pickT rfl rfl) rfl rfl <| .e (.assign rfl) rfl rfl <| .nil <| .go ?_
      refine .seq <| .seq <| .region <| .e (.move rfl) rfl rfl <| .nil <| .go ?_
      refine .block <| .unroll 3 <| .seq <| .region <| .e (.lss rfl rfl) rfl rfl <| .nil ?_
      refine .go <| .seq <| .cond_true rfl <| .skip <| .go <| .seq ?_
      refine .block <| .seq <| .region <| .e (.move rfl) rfl rfl <| .e (.assign rfl) rfl rfl <| .nil ?_
      refine .go ?_
      refine .draw [(c2, _), (c1, _), (c3, _)] mixed (.cons (.there <| .here) (.cons (.there <| .there <| .here) (.cons .here .nil))) ?_
      refine .t 0 rfl (.move rfl) rfl rfl (by kernel_rfl) <| .t 1 rfl (.move rfl) rfl rfl (by kernel_rfl) ?_
      refine .split 24 rfl (fun h24 => ?_) (fun h24 => ?_)
      · skip
        first | (have a24 := A3.amt_out h24) | skip
        refine .t 2 rfl (.move rfl) rfl rfl (by kernel_rfl) <| .t 3 rfl (.indexAddrA (j := 0) ar22 rfl rfl rfl (by first | decide | omega)) rfl rfl (by kernel_rfl) <| .t 4 rfl (.load ag2 rfl .here rfl) rfl rfl (by kernel_rfl) <| .t 5 rfl (.move rfl) rfl rfl (by kernel_rfl) <| .t 6 rfl (.fieldAddr fo30_1 rfl) rfl rfl (by kernel_rfl) <| .t 7 rfl (.indexAddrA (j := 0) ar22 rfl rfl rfl (by first | decide | omega)) rfl rfl (by kernel_rfl) ?_
        refine .t 8 rfl (.load ag2 rfl (.there <| .here) rfl) rfl rfl (by kernel_rfl) <| .t 9 rfl (.move rfl) rfl rfl (by kernel_rfl) <| .t 10 rfl (.indexAddrA (j := 0) ar22 rfl rfl rfl (by first | decide | omega)) rfl rfl (by kernel_rfl) <| .t 11 rfl (.load ag2 rfl (.there <| .there <| .here) rfl) rfl rfl (by kernel_rfl) <| .t 12 rfl (.sub rfl rfl (IntWalk.i64_in _ (by omega))) rfl rfl (by kernel_rfl) <| .t 13 rfl (.leq rfl rfl) rfl rfl (by kernel_rfl) ?_
        refine .t 14 rfl (.pickT rfl rfl) rfl rfl (by kernel_rfl) <| .t 15 rfl (.assign rfl) rfl rfl (by kernel_rfl) <| .done (by kernel_rfl) <| .blk_normal <| .go <| .region ?_
        refine .e (.add (c := 1) rfl rfl (by decide)) rfl rfl <| .e (.move rfl) rfl rfl <| .nil <| .again <| .seq <| .region ?_
        refine .e (.lss rfl rfl) rfl rfl <| .nil <| .go <| .seq <| .cond_true rfl <| .skip ?_
        refine .go <| .seq <| .block <| .seq <| .region <| .e (.move rfl) rfl rfl ?_
        refine .e (.assign rfl) rfl rfl <| .nil <| .go ?_
        refine .draw [(c2, _), (c1, _), (c3, _)] mixed (.cons (.there <| .here) (.cons (.there <| .there <| .here) (.cons .here .nil))) ?_
        refine .t 0 rfl (.move rfl) rfl rfl (by kernel_rfl) <| .t 1 rfl (.move rfl) rfl rfl (by kernel_rfl) ?_
        refine .split 24 rfl (fun h24_2 => ?_) (fun h24_2 => ?_)
        · skip
          replace h24_2 := of_decide_eq_true h24_2
          first | (have a24 := A3.amt_out h24) | skip
          refine .t 2 rfl (.move rfl) rfl rfl (by kernel_rfl) <| .t 3 rfl (.indexAddrA (j := 1) ar22 rfl rfl rfl (by first | decide | omega)) rfl rfl (by kernel_rfl) <| .t 4 rfl (.load ag2 rfl .here rfl) rfl rfl (by kernel_rfl) <| .t 5 rfl (.move rfl) rfl rfl (by kernel_rfl) <| .t 6 rfl (.fieldAddr fo30_1 rfl) rfl rfl (by kernel_rfl) <| .t 7 rfl (.indexAddrA (j := 1) ar22 rfl rfl rfl (by first | decide | omega)) rfl rfl (by kernel_rfl) ?_
          refine .t 8 rfl (.load ag2 rfl (.there <| .here) rfl) rfl rfl (by kernel_rfl) <| .t 9 rfl (.move rfl) rfl rfl (by kernel_rfl) <| .t 10 rfl (.indexAddrA (j := 1) ar22 rfl rfl rfl (by first | decide | omega)) rfl rfl (by kernel_rfl) <| .t 11 rfl (.load ag2 rfl (.there <| .there <| .here) rfl) rfl rfl (by kernel_rfl) <| .t 12 rfl (.sub rfl rfl (IntWalk.i64_in _ (by omega))) rfl rfl (by kernel_rfl) <| .t 13 rfl (.leq rfl rfl) rfl rfl (by kernel_rfl) ?_
          refine .t 14 rfl (.pickT rfl rfl) rfl rfl (by kernel_rfl) <| .t 15 rfl (.assign rfl) rfl rfl (by kernel_rfl) <| .done (by kernel_rfl) <| .blk_normal <| .go <| .region ?_
          refine .e (.add (c := 2) rfl rfl (by decide)) rfl rfl <| .e (.move rfl) rfl rfl <| .nil <| .again <| .seq <| .region ?_
          refine .e (.lss rfl rfl) rfl rfl <| .nil <| .go <| .seq <| .cond_true rfl <| .skip ?_
          refine .go <| .seq <| .block <| .seq <| .region <| .e (.move rfl) rfl rfl ?_
          refine .e (.assign rfl) rfl rfl <| .nil <| .go ?_
          refine .draw [(c2, _), (c1, _), (c3, _)] mixed (.cons (.there <| .here) (.cons (.there <| .there <| .here) (.cons .here .nil))) ?_
          refine .t 0 rfl (.move rfl) rfl rfl (by kernel_rfl) <| .t 1 rfl (.move rfl) rfl rfl (by kernel_rfl) ?_
          refine .split 24 rfl (fun h24_3 => ?_) (fun h24_3 => ?_)
          · skip
            replace h24_3 := of_decide_eq_true h24_3
            first | (have a24 := A3.amt_out h24) | skip
            refine .t 2 rfl (.move rfl) rfl rfl (by kernel_rfl) <| .t 3 rfl (.indexAddrA (j := 2) ar22 rfl rfl rfl (by first | decide | omega)) rfl rfl (by kernel_rfl) <| .t 4 rfl (.load ag2 rfl .here rfl) rfl rfl (by kernel_rfl) <| .t 5 rfl (.move rfl) rfl rfl (by kernel_rfl) <| .t 6 rfl (.fieldAddr fo30_1 rfl) rfl rfl (by kernel_rfl) <| .t 7 rfl (.indexAddrA (j := 2) ar22 rfl rfl rfl (by first | decide | omega)) rfl rfl (by kernel_rfl) ?_
            refine .t 8 rfl (.load ag2 rfl (.there <| .here) rfl) rfl rfl (by kernel_rfl) <| .t 9 rfl (.move rfl) rfl rfl (by kernel_rfl) <| .t 10 rfl (.indexAddrA (j := 2) ar22 rfl rfl rfl (by first | decide | omega)) rfl rfl (by kernel_rfl) <| .t 11 rfl (.load ag2 rfl (.there <| .there <| .here) rfl) rfl rfl (by kernel_rfl) <| .t 12 rfl (.sub rfl rfl (IntWalk.i64_in _ (by omega))) rfl rfl (by kernel_rfl) <| .t 13 rfl (.leq rfl rfl) rfl rfl (by kernel_rfl) ?_
            refine .t 14 rfl (.pickT rfl rfl) rfl rfl (by kernel_rfl) <| .t 15 rfl (.assign rfl) rfl rfl (by kernel_rfl) <| .done (by kernel_rfl) <| .blk_normal <| .go <| .region ?_
            refine .e (.add (c := 3) rfl rfl (by decide)) rfl rfl <| .e (.move rfl) rfl rfl <| .nil <| .again <| .seq <| .region ?_
            refine .e (.lss rfl rfl) rfl rfl <| .nil <| .go <| .seq <| .cond_false rfl <| .exit ?_
            refine .exit <| .exit <| .blk_exit <| .go <| .seq <| .region ?_
            refine .e (.move rfl) rfl rfl <| .e (.assign rfl) rfl rfl <| .nil <| .go <| .ret ?_
            refine .tail <| .tail <| .tail ?_
            refine Post.retE rfl rfl ?_
            refine congrArg Value.bool (Bool.eq_iff_iff.2 ?_)
            unfold room
            unfold A3.amt at *
            simp only [Bool.and_eq_true, decide_eq_true_eq, decide_eq_false_iff_not, Bool.false_eq_true, Bool.not_eq_true', Bool.not_eq_false', Bool.not_true, Bool.not_false, reduceCtorEq, true_iff, false_iff] at *
            omega
          · skip
            replace h24_3 := of_decide_eq_false h24_3
            refine .s 2 rfl rfl rfl (by kernel_rfl) <| .s 3 rfl rfl rfl (by kernel_rfl) <| .s 4 rfl rfl rfl (by kernel_rfl) <| .s 5 rfl rfl rfl (by kernel_rfl) <| .s 6 rfl rfl rfl (by kernel_rfl) <| .s 7 rfl rfl rfl (by kernel_rfl) ?_
            refine .s 8 rfl rfl rfl (by kernel_rfl) <| .s 9 rfl rfl rfl (by kernel_rfl) <| .s 10 rfl rfl rfl (by kernel_rfl) <| .s 11 rfl rfl rfl (by kernel_rfl) <| .s 12 rfl rfl rfl (by kernel_rfl) <| .s 13 rfl rfl rfl (by kernel_rfl) ?_
            refine .t 14 rfl (.pickF rfl rfl) rfl rfl (by kernel_rfl) <| .t 15 rfl (.assign rfl) rfl rfl (by kernel_rfl) <| .done (by kernel_rfl) <| .blk_normal <| .go <| .region ?_
            refine .e (.add (c := 3) rfl rfl (by decide)) rfl rfl <| .e (.move rfl) rfl rfl <| .nil <| .again <| .seq <| .region ?_
            refine .e (.lss rfl rfl) rfl rfl <| .nil <| .go <| .seq <| .cond_false rfl <| .exit ?_
            refine .exit <| .exit <| .blk_exit <| .go <| .seq <| .region ?_
            refine .e (.move rfl) rfl rfl <| .e (.assign rfl) rfl rfl <| .nil <| .go <| .ret ?_
            refine .tail <| .tail <| .tail ?_
            refine Post.retE rfl rfl ?_
            refine congrArg Value.bool (Bool.eq_iff_iff.2 ?_)
            unfold room
            unfold A3.amt at *
            simp only [Bool.and_eq_true, decide_eq_true_eq, decide_eq_false_iff_not, Bool.false_eq_true, Bool.not_eq_true', Bool.not_eq_false', Bool.not_true, Bool.not_false, reduceCtorEq, true_iff, false_iff] at *
            omega
        · skip
          replace h24_2 := of_decide_eq_false h24_2
          refine .s 2 rfl rfl rfl (by kernel_rfl) <| .s 3 rfl rfl rfl (by kernel_rfl) <| .s 4 rfl rfl rfl (by kernel_rfl) <| .s 5 rfl rfl rfl (by kernel_rfl) <| .s 6 rfl rfl rfl (by kernel_rfl) <| .s 7 rfl rfl rfl (by kernel_rfl) ?_
          refine .s 8 rfl rfl rfl (by kernel_rfl) <| .s 9 rfl rfl rfl (by kernel_rfl) <| .s 10 rfl rfl rfl (by kernel_rfl) <| .s 11 rfl rfl rfl (by kernel_rfl) <| .s 12 rfl rfl rfl (by kernel_rfl) <| .s 13 rfl rfl rfl (by kernel_rfl) ?_
          refine .t 14 rfl (.pickF rfl rfl) rfl rfl (by kernel_rfl) <| .t 15 rfl (.assign rfl) rfl rfl (by kernel_rfl) <| .done (by kernel_rfl) <| .blk_normal <| .go <| .region ?_
          refine .e (.add (c := 2) rfl rfl (by decide)) rfl rfl <| .e (.move rfl) rfl rfl <| .nil <| .again <| .seq <| .region ?_
          refine .e (.lss rfl rfl) rfl rfl <| .nil <| .go <| .seq <| .cond_true rfl <| .skip ?_
          refine .go <| .seq <| .block <| .seq <| .region <| .e (.move rfl) rfl rfl ?_
          refine .e (.assign rfl) rfl rfl <| .nil <| .go ?_
          refine .draw [(c2, _), (c1, _), (c3, _)] mixed (.cons (.there <| .here) (.cons (.there <| .there <| .here) (.cons .here .nil))) ?_
          refine .t 0 rfl (.move rfl) rfl rfl (by kernel_rfl) <| .t 1 rfl (.move rfl) rfl rfl (by kernel_rfl) <| .s 2 rfl rfl rfl (by kernel_rfl) <| .s 3 rfl rfl rfl (by kernel_rfl) <| .s 4 rfl rfl rfl (by kernel_rfl) <| .s 5 rfl rfl rfl (by kernel_rfl) ?_
          refine .s 6 rfl rfl rfl (by kernel_rfl) <| .s 7 rfl rfl rfl (by kernel_rfl) <| .s 8 rfl rfl rfl (by kernel_rfl) <| .s 9 rfl rfl rfl (by kernel_rfl) <| .s 10 rfl rfl rfl (by kernel_rfl) <| .s 11 rfl rfl rfl (by kernel_rfl) ?_
          refine .s 12 rfl rfl rfl (by kernel_rfl) <| .s 13 rfl rfl rfl (by kernel_rfl) <| .t 14 rfl (.pickF rfl rfl) rfl rfl (by kernel_rfl) <| .t 15 rfl (.assign rfl) rfl rfl (by kernel_rfl) <| .done (by kernel_rfl) <| .blk_normal ?_
          refine .go <| .region <| .e (.add (c := 3) rfl rfl (by decide)) rfl rfl <| .e (.move rfl) rfl rfl <| .nil <| .again ?_
          refine .seq <| .region <| .e (.lss rfl rfl) rfl rfl <| .nil <| .go <| .seq ?_
          refine .cond_false rfl <| .exit <| .exit <| .exit <| .blk_exit <| .go ?_
          refine .seq <| .region <| .e (.move rfl) rfl rfl <| .e (.assign rfl) rfl rfl <| .nil <| .go ?_
          refine .ret ?_
          refine .tail <| .tail <| .tail ?_
          refine Post.retE rfl rfl ?_
          refine congrArg Value.bool (Bool.eq_iff_iff.2 ?_)
          unfold room
          unfold A3.amt at *
          simp only [Bool.and_eq_true, decide_eq_true_eq, decide_eq_false_iff_not, Bool.false_eq_true, Bool.not_eq_true', Bool.not_eq_false', Bool.not_true, Bool.not_false, reduceCtorEq, true_iff, false_iff] at *
          omega
      · skip
        refine .s 2 rfl rfl rfl (by kernel_rfl) <| .s 3 rfl rfl rfl (by kernel_rfl) <| .s 4 rfl rfl rfl (by kernel_rfl) <| .s 5 rfl rfl rfl (by kernel_rfl) <| .s 6 rfl rfl rfl (by kernel_rfl) <| .s 7 rfl rfl rfl (by kernel_rfl) ?_
        refine .s 8 rfl rfl rfl (by kernel_rfl) <| .s 9 rfl rfl rfl (by kernel_rfl) <| .s 10 rfl rfl rfl (by kernel_rfl) <| .s 11 rfl rfl rfl (by kernel_rfl) <| .s 12 rfl rfl rfl (by kernel_rfl) <| .s 13 rfl rfl rfl (by kernel_rfl) ?_
        refine .t 14 rfl (.pickF rfl rfl) rfl rfl (by kernel_rfl) <| .t 15 rfl (.assign rfl) rfl rfl (by kernel_rfl) <| .done (by kernel_rfl) <| .blk_normal <| .go <| .region ?_
        refine .e (.add (c := 1) rfl rfl (by decide)) rfl rfl <| .e (.move rfl) rfl rfl <| .nil <| .again <| .seq <| .region ?_
        refine .e (.lss rfl rfl) rfl rfl <| .nil <| .go <| .seq <| .cond_true rfl <| .skip ?_
        refine .go <| .seq <| .block <| .seq <| .region <| .e (.move rfl) rfl rfl ?_
        refine .e (.assign rfl) rfl rfl <| .nil <| .go ?_
        refine .draw [(c2, _), (c1, _), (c3, _)] mixed (.cons (.there <| .here) (.cons (.there <| .there <| .here) (.cons .here .nil))) ?_
        refine .t 0 rfl (.move rfl) rfl rfl (by kernel_rfl) <| .t 1 rfl (.move rfl) rfl rfl (by kernel_rfl) <| .s 2 rfl rfl rfl (by kernel_rfl) <| .s 3 rfl rfl rfl (by kernel_rfl) <| .s 4 rfl rfl rfl (by kernel_rfl) <| .s 5 rfl rfl rfl (by kernel_rfl) ?_
        refine .s 6 rfl rfl rfl (by kernel_rfl) <| .s 7 rfl rfl rfl (by kernel_rfl) <| .s 8 rfl rfl rfl (by kernel_rfl) <| .s 9 rfl rfl rfl (by kernel_rfl) <| .s 10 rfl rfl rfl (by kernel_rfl) <| .s 11 rfl rfl rfl (by kernel_rfl) ?_
        refine .s 12 rfl rfl rfl (by kernel_rfl) <| .s 13 rfl rfl rfl (by kernel_rfl) <| .t 14 rfl (.pickF rfl rfl) rfl rfl (by kernel_rfl) <| .t 15 rfl (.assign rfl) rfl rfl (by kernel_rfl) <| .done (by kernel_rfl) <| .blk_normal ?_
        refine .go <| .region <| .e (.add (c := 2) rfl rfl (by decide)) rfl rfl <| .e (.move rfl) rfl rfl <| .nil <| .again ?_
        refine .seq <| .region <| .e (.lss rfl rfl) rfl rfl <| .nil <| .go <| .seq ?_
        refine .cond_true rfl <| .skip <| .go <| .seq <| .block <| .seq ?_
        refine .region <| .e (.move rfl) rfl rfl <| .e (.assign rfl) rfl rfl <| .nil <| .go ?_
        refine .draw [(c2, _), (c1, _), (c3, _)] mixed (.cons (.there <| .here) (.cons (.there <| .there <| .here) (.cons .here .nil))) ?_
        refine .t 0 rfl (.move rfl) rfl rfl (by kernel_rfl) <| .t 1 rfl (.move rfl) rfl rfl (by kernel_rfl) <| .s 2 rfl rfl rfl (by kernel_rfl) <| .s 3 rfl rfl rfl (by kernel_rfl) <| .s 4 rfl rfl rfl (by kernel_rfl) <| .s 5 rfl rfl rfl (by kernel_rfl) ?_
        refine .s 6 rfl rfl rfl (by kernel_rfl) <| .s 7 rfl rfl rfl (by kernel_rfl) <| .s 8 rfl rfl rfl (by kernel_rfl) <| .s 9 rfl rfl rfl (by kernel_rfl) <| .s 10 rfl rfl rfl (by kernel_rfl) <| .s 11 rfl rfl rfl (by kernel_rfl) ?_
        refine .s 12 rfl rfl rfl (by kernel_rfl) <| .s 13 rfl rfl rfl (by kernel_rfl) <| .t 14 rfl (.pickF rfl rfl) rfl rfl (by kernel_rfl) <| .t 15 rfl (.assign rfl) rfl rfl (by kernel_rfl) <| .done (by kernel_rfl) <| .blk_normal ?_
        refine .go <| .region <| .e (.add (c := 3) rfl rfl (by decide)) rfl rfl <| .e (.move rfl) rfl rfl <| .nil <| .again ?_
        refine .seq <| .region <| .e (.lss rfl rfl) rfl rfl <| .nil <| .go <| .seq ?_
        refine .cond_false rfl <| .exit <| .exit <| .exit <| .blk_exit <| .go ?_
        refine .seq <| .region <| .e (.move rfl) rfl rfl <| .e (.assign rfl) rfl rfl <| .nil <| .go ?_
        refine .ret ?_
        refine .tail <| .tail <| .tail ?_
        refine Post.retE rfl rfl ?_
        refine congrArg Value.bool (Bool.eq_iff_iff.2 ?_)
        unfold room
        unfold A3.amt at *
        simp only [Bool.and_eq_true, decide_eq_true_eq, decide_eq_false_iff_not, Bool.false_eq_true, Bool.not_eq_true', Bool.not_eq_false', Bool.not_true, Bool.not_false, reduceCtorEq, true_iff, false_iff] at *
        omega
    · skip
      refine .off rfl rfl <| .off rfl rfl <| .e (.pickF rfl rfl) rfl rfl <| .e (.assign rfl) rfl rfl <| .nil <| .go ?_
      refine .seq <| .seq <| .region <| .e (.move rfl) rfl rfl <| .nil <| .go ?_
      refine .block <| .unroll 3 <| .seq <| .region <| .e (.lss rfl rfl) rfl rfl <| .nil ?_
      refine .go <| .seq <| .cond_true rfl <| .skip <| .go <| .seq ?_
      refine .block <| .seq <| .region <| .e (.move rfl) rfl rfl <| .e (.assign rfl) rfl rfl <| .nil ?_
      refine .go ?_
      refine .draw [(c2, _), (c1, _), (c3, _)] mixed (.cons (.there <| .here) (.cons (.there <| .there <| .here) (.cons .here .nil))) ?_
      refine .t 0 rfl (.move rfl) rfl rfl (by kernel_rfl) <| .t 1 rfl (.move rfl) rfl rfl (by kernel_rfl) <| .s 2 rfl rfl rfl (by kernel_rfl) <| .s 3 rfl rfl rfl (by kernel_rfl) <| .s 4 rfl rfl rfl (by kernel_rfl) <| .s 5 rfl rfl rfl (by kernel_rfl) ?_
      refine .s 6 rfl rfl rfl (by kernel_rfl) <| .s 7 rfl rfl rfl (by kernel_rfl) <| .s 8 rfl rfl rfl (by kernel_rfl) <| .s 9 rfl rfl rfl (by kernel_rfl) <| .s 10 rfl rfl rfl (by kernel_rfl) <| .s 11 rfl rfl rfl (by kernel_rfl) ?_
      refine .s 12 rfl rfl rfl (by kernel_rfl) <| .s 13 rfl rfl rfl (by kernel_rfl) <| .t 14 rfl (.pickF rfl rfl) rfl rfl (by kernel_rfl) <| .t 15 rfl (.assign rfl) rfl rfl (by kernel_rfl) <| .done (by kernel_rfl) <| .blk_normal ?_
      refine .go <| .region <| .e (.add (c := 1) rfl rfl (by decide)) rfl rfl <| .e (.move rfl) rfl rfl <| .nil <| .again ?_
      refine .seq <| .region <| .e (.lss rfl rfl) rfl rfl <| .nil <| .go <| .seq ?_
      refine .cond_true rfl <| .skip <| .go <| .seq <| .block <| .seq ?_
      refine .region <| .e (.move rfl) rfl rfl <| .e (.assign rfl) rfl rfl <| .nil <| .go ?_
      refine .draw [(c2, _), (c1, _), (c3, _)] mixed (.cons (.there <| .here) (.cons (.there <| .there <| .here) (.cons .here .nil))) ?_
      refine .t 0 rfl (.move rfl) rfl rfl (by kernel_rfl) <| .t 1 rfl (.move rfl) rfl rfl (by kernel_rfl) <| .s 2 rfl rfl rfl (by kernel_rfl) <| .s 3 rfl rfl rfl (by kernel_rfl) <| .s 4 rfl rfl rfl (by kernel_rfl) <| .s 5 rfl rfl rfl (by kernel_rfl) ?_
      refine .s 6 rfl rfl rfl (by kernel_rfl) <| .s 7 rfl rfl rfl (by kernel_rfl) <| .s 8 rfl rfl rfl (by kernel_rfl) <| .s 9 rfl rfl rfl (by kernel_rfl) <| .s 10 rfl rfl rfl (by kernel_rfl) <| .s 11 rfl rfl rfl (by kernel_rfl) ?_
      refine .s 12 rfl rfl rfl (by kernel_rfl) <| .s 13 rfl rfl rfl (by kernel_rfl) <| .t 14 rfl (.pickF rfl rfl) rfl rfl (by kernel_rfl) <| .t 15 rfl (.assign rfl) rfl rfl (by kernel_rfl) <| .done (by kernel_rfl) <| .blk_normal ?_
      refine .go <| .region <| .e (.add (c := 2) rfl rfl (by decide)) rfl rfl <| .e (.move rfl) rfl rfl <| .nil <| .again ?_
      refine .seq <| .region <| .e (.lss rfl rfl) rfl rfl <| .nil <| .go <| .seq ?_
      refine .cond_true rfl <| .skip <| .go <| .seq <| .block <| .seq ?_
      refine .region <| .e (.move rfl) rfl rfl <| .e (.assign rfl) rfl rfl <| .nil <| .go ?_
      refine .draw [(c2, _), (c1, _), (c3, _)] mixed (.cons (.there <| .here) (.cons (.there <| .there <| .here) (.cons .here .nil))) ?_
      refine .t 0 rfl (.move rfl) rfl rfl (by kernel_rfl) <| .t 1 rfl (.move rfl) rfl rfl (by kernel_rfl) <| .s 2 rfl rfl rfl (by kernel_rfl) <| .s 3 rfl rfl rfl (by kernel_rfl) <| .s 4 rfl rfl rfl (by kernel_rfl) <| .s 5 rfl rfl rfl (by kernel_rfl) ?_
      refine .s 6 rfl rfl rfl (by kernel_rfl) <| .s 7 rfl rfl rfl (by kernel_rfl) <| .s 8 rfl rfl rfl (by kernel_rfl) <| .s 9 rfl rfl rfl (by kernel_rfl) <| .s 10 rfl rfl rfl (by kernel_rfl) <| .s 11 rfl rfl rfl (by kernel_rfl) ?_
      refine .s 12 rfl rfl rfl (by kernel_rfl) <| .s 13 rfl rfl rfl (by kernel_rfl) <| .t 14 rfl (.pickF rfl rfl) rfl rfl (by kernel_rfl) <| .t 15 rfl (.assign rfl) rfl rfl (by kernel_rfl) <| .done (by kernel_rfl) <| .blk_normal ?_
      refine .go <| .region <| .e (.add (c := 3) rfl rfl (by decide)) rfl rfl <| .e (.move rfl) rfl rfl <| .nil <| .again ?_
      refine .seq <| .region <| .e (.lss rfl rfl) rfl rfl <| .nil <| .go <| .seq ?_
      refine .cond_false rfl <| .exit <| .exit <| .exit <| .blk_exit <| .go ?_
      refine .seq <| .region <| .e (.move rfl) rfl rfl <| .e (.assign rfl) rfl rfl <| .nil <| .go ?_
      refine .ret ?_
      refine .tail <| .tail <| .tail ?_
      refine Post.retE rfl rfl ?_
      refine congrArg Value.bool (Bool.eq_iff_iff.2 ?_)
      unfold room
      unfold A3.amt at *
      simp only [Bool.and_eq_true, decide_eq_true_eq, decide_eq_false_iff_not, Bool.false_eq_true, Bool.not_eq_true', Bool.not_eq_false', Bool.not_true, Bool.not_false, reduceCtorEq, true_iff, false_iff] at *
      omega
  · skip
    refine .off rfl rfl <| .off rfl rfl <| .e (.pickF rfl rfl) rfl rfl <| .e (.move rfl) rfl rfl <| .off rfl rfl <| .off rfl rfl ?_
    refine .e (.pickF rfl rfl) rfl rfl <| .e (.assign rfl) rfl rfl <| .nil <| .go <| .seq <| .seq ?_
    refine .region <| .e (.move rfl) rfl rfl <| .nil <| .go <| .block <| .unroll 3 ?_
    refine .seq <| .region <| .e (.lss rfl rfl) rfl rfl <| .nil <| .go <| .seq ?_
    refine .cond_true rfl <| .skip <| .go <| .seq <| .block <| .seq ?_
    refine .region <| .e (.move rfl) rfl rfl <| .e (.assign rfl) rfl rfl <| .nil <| .go ?_
    refine .draw [(c2, _), (c1, _), (c3, _)] mixed (.cons (.there <| .here) (.cons (.there <| .there <| .here) (.cons .here .nil))) ?_
    refine .t 0 rfl (.move rfl) rfl rfl (by kernel_rfl) <| .t 1 rfl (.move rfl) rfl rfl (by kernel_rfl) <| .s 2 rfl rfl rfl (by kernel_rfl) <| .s 3 rfl rfl rfl (by kernel_rfl) <| .s 4 rfl rfl rfl (by kernel_rfl) <| .s 5 rfl rfl rfl (by kernel_rfl) ?_
    refine .s 6 rfl rfl rfl (by kernel_rfl) <| .s 7 rfl rfl rfl (by kernel_rfl) <| .s 8 rfl rfl rfl (by kernel_rfl) <| .s 9 rfl rfl rfl (by kernel_rfl) <| .s 10 rfl rfl rfl (by kernel_rfl) <| .s 11 rfl rfl rfl (by kernel_rfl) ?_
    refine .s 12 rfl rfl rfl (by kernel_rfl) <| .s 13 rfl rfl rfl (by kernel_rfl) <| .t 14 rfl (.pickF rfl rfl) rfl rfl (by kernel_rfl) <| .t 15 rfl (.assign rfl) rfl rfl (by kernel_rfl) <| .done (by kernel_rfl) <| .blk_normal ?_
    refine .go <| .region <| .e (.add (c := 1) rfl rfl (by decide)) rfl rfl <| .e (.move rfl) rfl rfl <| .nil <| .again ?_
    refine .seq <| .region <| .e (.lss rfl rfl) rfl rfl <| .nil <| .go <| .seq ?_
    refine .cond_true rfl <| .skip <| .go <| .seq <| .block <| .seq ?_
    refine .region <| .e (.move rfl) rfl rfl <| .e (.assign rfl) rfl rfl <| .nil <| .go ?_
    refine .draw [(c2, _), (c1, _), (c3, _)] mixed (.cons (.there <| .here) (.cons (.there <| .there <| .here) (.cons .here .nil))) ?_
    refine .t 0 rfl (.move rfl) rfl rfl (by kernel_rfl) <| .t 1 rfl (.move rfl) rfl rfl (by kernel_rfl) <| .s 2 rfl rfl rfl (by kernel_rfl) <| .s 3 rfl rfl rfl (by kernel_rfl) <| .s 4 rfl rfl rfl (by kernel_rfl) <| .s 5 rfl rfl rfl (by kernel_rfl) ?_
    refine .s 6 rfl rfl rfl (by kernel_rfl) <| .s 7 rfl rfl rfl (by kernel_rfl) <| .s 8 rfl rfl rfl (by kernel_rfl) <| .s 9 rfl rfl rfl (by kernel_rfl) <| .s 10 rfl rfl rfl (by kernel_rfl) <| .s 11 rfl rfl rfl (by kernel_rfl) ?_
    refine .s 12 rfl rfl rfl (by kernel_rfl) <| .s 13 rfl rfl rfl (by kernel_rfl) <| .t 14 rfl (.pickF rfl rfl) rfl rfl (by kernel_rfl) <| .t 15 rfl (.assign rfl) rfl rfl (by kernel_rfl) <| .done (by kernel_rfl) <| .blk_normal ?_
    refine .go <| .region <| .e (.add (c := 2) rfl rfl (by decide)) rfl rfl <| .e (.move rfl) rfl rfl <| .nil <| .again ?_
    refine .seq <| .region <| .e (.lss rfl rfl) rfl rfl <| .nil <| .go <| .seq ?_
    refine .cond_true rfl <| .skip <| .go <| .seq <| .block <| .seq ?_
    refine .region <| .e (.move rfl) rfl rfl <| .e (.assign rfl) rfl rfl <| .nil <| .go ?_
    refine .draw [(c2, _), (c1, _), (c3, _)] mixed (.cons (.there <| .here) (.cons (.there <| .there <| .here) (.cons .here .nil))) ?_
    refine .t 0 rfl (.move rfl) rfl rfl (by kernel_rfl) <| .t 1 rfl (.move rfl) rfl rfl (by kernel_rfl) <| .s 2 rfl rfl rfl (by kernel_rfl) <| .s 3 rfl rfl rfl (by kernel_rfl) <| .s 4 rfl rfl rfl (by kernel_rfl) <| .s 5 rfl rfl rfl (by kernel_rfl) ?_
    refine .s 6 rfl rfl rfl (by kernel_rfl) <| .s 7 rfl rfl rfl (by kernel_rfl) <| .s 8 rfl rfl rfl (by kernel_rfl) <| .s 9 rfl rfl rfl (by kernel_rfl) <| .s 10 rfl rfl rfl (by kernel_rfl) <| .s 11 rfl rfl rfl (by kernel_rfl) ?_
    refine .s 12 rfl rfl rfl (by kernel_rfl) <| .s 13 rfl rfl rfl (by kernel_rfl) <| .t 14 rfl (.pickF rfl rfl) rfl rfl (by kernel_rfl) <| .t 15 rfl (.assign rfl) rfl rfl (by kernel_rfl) <| .done (by kernel_rfl) <| .blk_normal ?_
    refine .go <| .region <| .e (.add (c := 3) rfl rfl (by decide)) rfl rfl <| .e (.move rfl) rfl rfl <| .nil <| .again ?_
    refine .seq <| .region <| .e (.lss rfl rfl) rfl rfl <| .nil <| .go <| .seq ?_
    refine .cond_false rfl <| .exit <| .exit <| .exit <| .blk_exit <| .go ?_
    refine .seq <| .region <| .e (.move rfl) rfl rfl <| .e (.assign rfl) rfl rfl <| .nil <| .go ?_
    refine .ret ?_
    refine .tail <| .tail <| .tail ?_
    refine Post.retE rfl rfl ?_
    refine congrArg Value.bool (Bool.eq_iff_iff.2 ?_)
    unfold room
    unfold A3.amt at *
    simp only [Bool.and_eq_true, decide_eq_true_eq, decide_eq_false_iff_not, Bool.false_eq_true, Bool.not_eq_true', Bool.not_eq_false', Bool.not_true, Bool.not_false, reduceCtorEq, true_iff, false_iff] at *
    omega

set_option maxHeartbeats 1000000 in
set_option maxRecDepth 20000 in
theorem rRoom_ok {I : Imm} {O : Own} {nc : List Value} {n : Nod} {u d : A3} (hn : NodR I nc n) :
    Pure Try.prog 20 [.agg ⟨nc⟩, .agg ⟨[.int .i64 u.a, .int .i64 u.b, .int .i64 u.c]⟩, .agg ⟨[.int .i64 d.a, .int .i64 d.b, .int .i64 d.c]⟩] I O (.bool (room n u d)) := by
  obtain ⟨nl, nt, rfl, hnl, hnt⟩ := hn.ex
  refine Does.enter Try.func20 rfl Try.ntmps20 rfl ?_
  refine .seq <| .region <| .on rfl <| .box rfl rfl rfl fun c1 _ _ => .on rfl <| .box rfl rfl rfl fun c2 _ _ => .on rfl <| .box rfl rfl rfl fun c3 _ _ => .e (.assign rfl) rfl rfl ?_
  refine .nil <| .go <| .seq <| .seq <| .region <| .e (.fieldAddr fo30_1 rfl) rfl rfl ?_
  refine .e (.loadP ag22 sz22 rfl (.there <| .there <| .here) rfl) rfl rfl <| .on rfl <| .callP cal27 rfl rfl rfl (ramt_ok (l := n.has) (by omega)) <| .e (.not rfl) rfl rfl <| .e (.move rfl) rfl rfl ?_
  refine .split 13 rfl (fun h13 => ?_) (fun h13 => ?_)
  · skip
    refine .off rfl rfl <| .off rfl rfl <| .off rfl rfl <| .e (.pickT rfl rfl) rfl rfl <| .e (.move rfl) rfl rfl <| .off rfl rfl ?_
    refine .off rfl rfl <| .off rfl rfl <| .e (.pickT rfl rfl) rfl rfl <| .nil <| .go <| .cond_true rfl ?_
    refine .seq <| .region <| .e (.assign rfl) rfl rfl <| .nil <| .go <| .ret ?_
    refine .ret ?_
    refine .tail <| .tail <| .tail ?_
    refine Post.retE rfl rfl ?_
    refine congrArg Value.bool (Bool.eq_iff_iff.2 ?_)
    unfold room
    unfold A3.amt at *
    simp only [Bool.and_eq_true, decide_eq_true_eq, decide_eq_false_iff_not, Bool.false_eq_true, Bool.not_eq_true', Bool.not_eq_false', Bool.not_true, Bool.not_false, reduceCtorEq, true_iff, false_iff] at *
    omega
  · skip
    have a13 := A3.amt_out (l := n.has) (t := 1) (by simpa using h13)
    refine .e (.loadW ag22 sz22 rfl (.there <| .here) rfl) rfl rfl <| .on rfl <| .callP cal27 rfl rfl rfl (ramt_ok (l := u) (by omega)) <| .e (.not rfl) rfl rfl <| .e (.pickF rfl rfl) rfl rfl <| .e (.move rfl) rfl rfl ?_
    refine .split 18 rfl (fun h18 => ?_) (fun h18 => ?_)
    · skip
      refine .off rfl rfl <| .off rfl rfl <| .off rfl rfl <| .e (.pickT rfl rfl) rfl rfl <| .nil <| .go ?_
      refine .cond_true rfl <| .seq <| .region <| .e (.assign rfl) rfl rfl <| .nil <| .go ?_
      refine .ret <| .ret ?_
      refine .tail <| .tail <| .tail ?_
      refine Post.retE rfl rfl ?_
      refine congrArg Value.bool (Bool.eq_iff_iff.2 ?_)
      unfold room
      unfold A3.amt at *
      simp only [Bool.and_eq_true, decide_eq_true_eq, decide_eq_false_iff_not, Bool.false_eq_true, Bool.not_eq_true', Bool.not_eq_false', Bool.not_true, Bool.not_false, reduceCtorEq, true_iff, false_iff] at *
      omega
    · skip
      have a18 := A3.amt_out (l := u) (t := 32) (by simpa using h18)
      refine .e (.loadW ag22 sz22 rfl .here rfl) rfl rfl <| .on rfl <| .callP cal27 rfl rfl rfl (ramt_ok (l := d) (by omega)) <| .e (.not rfl) rfl rfl <| .e (.pickF rfl rfl) rfl rfl <| .nil <| .go ?_
      refine .split 22 rfl (fun h22 => ?_) (fun h22 => ?_)
      · skip
        refine .cond_true rfl <| .seq <| .region <| .e (.assign rfl) rfl rfl <| .nil <| .go ?_
        refine .ret <| .ret ?_
        refine .tail <| .tail <| .tail ?_
        refine Post.retE rfl rfl ?_
        refine congrArg Value.bool (Bool.eq_iff_iff.2 ?_)
        unfold room
        unfold A3.amt at *
        simp only [Bool.and_eq_true, decide_eq_true_eq, decide_eq_false_iff_not, Bool.false_eq_true, Bool.not_eq_true', Bool.not_eq_false', Bool.not_true, Bool.not_false, reduceCtorEq, true_iff, false_iff] at *
        omega
      · skip
        have a22 := A3.amt_out (l := d) (t := 1) (by simpa using h22)
        refine .cond_false rfl <| .skip <| .go <| .seq <| .seq <| .region ?_
        refine .e (.fieldAddr fo30_1 rfl) rfl rfl <| .e (.loadP ag22 sz22 rfl (.there <| .there <| .here) rfl) rfl rfl <| .e (.move rfl) rfl rfl <| .nil <| .go <| .block ?_
        refine .unroll 3 <| .seq <| .region <| .e (.lss rfl rfl) rfl rfl <| .nil <| .go ?_
        refine .seq <| .cond_true rfl <| .skip <| .go <| .seq <| .block ?_
        refine .seq <| .region <| .e (.move rfl) rfl rfl <| .e (.index (j := 0) ar22 ag2 rfl rfl rfl (by first | decide | omega) rfl) rfl rfl <| .e (.assign rfl) rfl rfl <| .e (.assign rfl) rfl rfl ?_
        refine .nil <| .go <| .seq ?_
        refine .draw [(c2, _), (c3, _)] mixed (.cons (.there <| .here) (.cons .here .nil)) ?_
        refine .t 0 rfl (.move rfl) rfl rfl (by kernel_rfl) <| .t 1 rfl (.indexAddrA (j := 0) ar22 rfl rfl rfl (by first | decide | omega)) rfl rfl (by kernel_rfl) <| .t 2 rfl (.load ag2 rfl .here rfl) rfl rfl (by kernel_rfl) <| .t 3 rfl (.move rfl) rfl rfl (by kernel_rfl) <| .t 4 rfl (.indexAddrA (j := 0) ar22 rfl rfl rfl (by first | decide | omega)) rfl rfl (by kernel_rfl) <| .t 5 rfl (.load ag2 rfl (.there <| .here) rfl) rfl rfl (by kernel_rfl) ?_
        refine .t 6 rfl (.add rfl rfl (IntWalk.i64_in _ (by omega))) rfl rfl (by kernel_rfl) <| .t 7 rfl (.move rfl) rfl rfl (by kernel_rfl) <| .t 8 rfl (.gtr rfl rfl) rfl rfl (by kernel_rfl) <| .done (by kernel_rfl) <| .go ?_
        refine .split 37 rfl (fun h37 => ?_) (fun h37 => ?_)
        · skip
          replace h37 := of_decide_eq_true h37
          refine .cond_true rfl <| .seq <| .region <| .e (.assign rfl) rfl rfl <| .nil <| .go ?_
          refine .ret <| .blk_ret <| .ret <| .ret <| .blk_ret <| .ret ?_
          refine .tail <| .tail <| .tail ?_
          refine Post.retE rfl rfl ?_
          refine congrArg Value.bool (Bool.eq_iff_iff.2 ?_)
          unfold room
          unfold A3.amt at *
          simp only [Bool.and_eq_true, decide_eq_true_eq, decide_eq_false_iff_not, Bool.false_eq_true, Bool.not_eq_true', Bool.not_eq_false', Bool.not_true, Bool.not_false, reduceCtorEq, true_iff, false_iff] at *
          omega
        · skip
          replace h37 := of_decide_eq_false h37
          refine .cond_false rfl <| .skip <| .blk_normal <| .go <| .region <| .e (.add (c := 1) rfl rfl (by decide)) rfl rfl ?_
          refine .e (.move rfl) rfl rfl <| .nil <| .again <| .seq <| .region <| .e (.lss rfl rfl) rfl rfl ?_
          refine .nil <| .go <| .seq <| .cond_true rfl <| .skip <| .go ?_
          refine .seq <| .block <| .seq <| .region <| .e (.move rfl) rfl rfl <| .e (.index (j := 1) ar22 ag2 rfl rfl rfl (by first | decide | omega) rfl) rfl rfl ?_
          refine .e (.assign rfl) rfl rfl <| .e (.assign rfl) rfl rfl <| .nil <| .go <| .seq ?_
          refine .draw [(c2, _), (c3, _)] mixed (.cons (.there <| .here) (.cons .here .nil)) ?_
          refine .t 0 rfl (.move rfl) rfl rfl (by kernel_rfl) <| .t 1 rfl (.indexAddrA (j := 1) ar22 rfl rfl rfl (by first | decide | omega)) rfl rfl (by kernel_rfl) <| .t 2 rfl (.load ag2 rfl .here rfl) rfl rfl (by kernel_rfl) <| .t 3 rfl (.move rfl) rfl rfl (by kernel_rfl) <| .t 4 rfl (.indexAddrA (j := 1) ar22 rfl rfl rfl (by first | decide | omega)) rfl rfl (by kernel_rfl) <| .t 5 rfl (.load ag2 rfl (.there <| .here) rfl) rfl rfl (by kernel_rfl) ?_
          refine .t 6 rfl (.add rfl rfl (IntWalk.i64_in _ (by omega))) rfl rfl (by kernel_rfl) <| .t 7 rfl (.move rfl) rfl rfl (by kernel_rfl) <| .t 8 rfl (.gtr rfl rfl) rfl rfl (by kernel_rfl) <| .done (by kernel_rfl) <| .go ?_
          refine .split 37 rfl (fun h37_2 => ?_) (fun h37_2 => ?_)
          · skip
            replace h37_2 := of_decide_eq_true h37_2
            refine .cond_true rfl <| .seq <| .region <| .e (.assign rfl) rfl rfl <| .nil <| .go ?_
            refine .ret <| .blk_ret <| .ret <| .ret <| .blk_ret <| .ret ?_
            refine .tail <| .tail <| .tail ?_
            refine Post.retE rfl rfl ?_
            refine congrArg Value.bool (Bool.eq_iff_iff.2 ?_)
            unfold room
            unfold A3.amt at *
            simp only [Bool.and_eq_true, decide_eq_true_eq, decide_eq_false_iff_not, Bool.false_eq_true, Bool.not_eq_true', Bool.not_eq_false', Bool.not_true, Bool.not_false, reduceCtorEq, true_iff, false_iff] at *
            omega
          · skip
            replace h37_2 := of_decide_eq_false h37_2
            refine .cond_false rfl <| .skip <| .blk_normal <| .go <| .region <| .e (.add (c := 2) rfl rfl (by decide)) rfl rfl ?_
            refine .e (.move rfl) rfl rfl <| .nil <| .again <| .seq <| .region <| .e (.lss rfl rfl) rfl rfl ?_
            refine .nil <| .go <| .seq <| .cond_true rfl <| .skip <| .go ?_
            refine .seq <| .block <| .seq <| .region <| .e (.move rfl) rfl rfl <| .e (.index (j := 2) ar22 ag2 rfl rfl rfl (by first | decide | omega) rfl) rfl rfl ?_
            refine .e (.assign rfl) rfl rfl <| .e (.assign rfl) rfl rfl <| .nil <| .go <| .seq ?_
            refine .draw [(c2, _), (c3, _)] mixed (.cons (.there <| .here) (.cons .here .nil)) ?_
            refine .t 0 rfl (.move rfl) rfl rfl (by kernel_rfl) <| .t 1 rfl (.indexAddrA (j := 2) ar22 rfl rfl rfl (by first | decide | omega)) rfl rfl (by kernel_rfl) <| .t 2 rfl (.load ag2 rfl .here rfl) rfl rfl (by kernel_rfl) <| .t 3 rfl (.move rfl) rfl rfl (by kernel_rfl) <| .t 4 rfl (.indexAddrA (j := 2) ar22 rfl rfl rfl (by first | decide | omega)) rfl rfl (by kernel_rfl) <| .t 5 rfl (.load ag2 rfl (.there <| .here) rfl) rfl rfl (by kernel_rfl) ?_
            refine .t 6 rfl (.add rfl rfl (IntWalk.i64_in _ (by omega))) rfl rfl (by kernel_rfl) <| .t 7 rfl (.move rfl) rfl rfl (by kernel_rfl) <| .t 8 rfl (.gtr rfl rfl) rfl rfl (by kernel_rfl) <| .done (by kernel_rfl) <| .go ?_
            refine .split 37 rfl (fun h37_3 => ?_) (fun h37_3 => ?_)
            · skip
              replace h37_3 := of_decide_eq_true h37_3
              refine .cond_true rfl <| .seq <| .region <| .e (.assign rfl) rfl rfl <| .nil <| .go ?_
              refine .ret <| .blk_ret <| .ret <| .ret <| .blk_ret <| .ret ?_
              refine .tail <| .tail <| .tail ?_
              refine Post.retE rfl rfl ?_
              refine congrArg Value.bool (Bool.eq_iff_iff.2 ?_)
              unfold room
              unfold A3.amt at *
              simp only [Bool.and_eq_true, decide_eq_true_eq, decide_eq_false_iff_not, Bool.false_eq_true, Bool.not_eq_true', Bool.not_eq_false', Bool.not_true, Bool.not_false, reduceCtorEq, true_iff, false_iff] at *
              omega
            · skip
              replace h37_3 := of_decide_eq_false h37_3
              refine .cond_false rfl <| .skip <| .blk_normal <| .go <| .region <| .e (.add (c := 3) rfl rfl (by decide)) rfl rfl ?_
              refine .e (.move rfl) rfl rfl <| .nil <| .again <| .seq <| .region <| .e (.lss rfl rfl) rfl rfl ?_
              refine .nil <| .go <| .seq <| .cond_false rfl <| .exit <| .exit ?_
              refine .exit <| .blk_exit <| .go <| .seq <| .region <| .e (.assign rfl) rfl rfl ?_
              refine .nil <| .go <| .ret ?_
              refine .tail <| .tail <| .tail ?_
              refine Post.retE rfl rfl ?_
              refine congrArg Value.bool (Bool.eq_iff_iff.2 ?_)
              unfold room
              unfold A3.amt at *
              simp only [Bool.and_eq_true, decide_eq_true_eq, decide_eq_false_iff_not, Bool.false_eq_true, Bool.not_eq_true', Bool.not_eq_false', Bool.not_true, Bool.not_false, reduceCtorEq, true_iff, false_iff] at *
              omega

def node4 : Nod := { node0 with has := ⟨4, 4, 4⟩ }
theorem node4_R {J : Imm} : NodR J [.string ⟨#[]⟩, .int .i64 4, .int .i64 4, .int .i64 4, .slice none 0 0, .slice none 0 0] node4 := ⟨⟨_, _, rfl, prsNil, prsNil⟩, strOk_nil, by unfold A3.ok I64 node4; decide⟩

set_option maxHeartbeats 1000000 in
set_option maxRecDepth 20000 in
theorem rooms_ok {I : Imm} {O : Own}  :
    Pure Try.prog 16 [] I O (.bool true) := by
  refine Does.enter Try.func16 rfl Try.ntmps16 rfl ?_
  refine .seq <| .region <| .e (.assign rfl) rfl rfl <| .nil <| .go <| .seq ?_
  refine .region <| .e (.buildA ar22 zv22 rfl rfl) rfl rfl <| .e (.build bs30 zv30 rfl rfl) rfl rfl <| .on rfl <| .alloc zr30 rfl fun c1 _ _ => .on rfl <| .storeW sz30 rfl rfl rfl rfl rfl rfl .here <| .nil ?_
  refine .go <| .seq <| .region <| .e (.loadW ag30 sz30 rfl .here rfl) rfl rfl <| .e (.buildA ar22 zv22 rfl rfl) rfl rfl <| .e (.buildA ar22 zv22 rfl rfl) rfl rfl ?_
  refine .on rfl <| .callP cal17 rfl rfl rfl ((Room_ok (n := node4) (u := ⟨1, 2, 3⟩) (d := ⟨3, 2, 1⟩) node4_R).castT (by decide)) <| .e (.move rfl) rfl rfl <| .e (.loadW ag30 sz30 rfl .here rfl) rfl rfl <| .e (.buildA ar22 zv22 rfl rfl) rfl rfl <| .e (.buildA ar22 zv22 rfl rfl) rfl rfl <| .on rfl <| .callP cal17 rfl rfl rfl ((Room_ok (n := node4) (u := ⟨0, 0, 0⟩) (d := ⟨5, 0, 0⟩) node4_R).castF (by decide)) ?_
  refine .e (.not rfl) rfl rfl <| .e (.pickT rfl rfl) rfl rfl <| .e (.assign rfl) rfl rfl <| .nil <| .go <| .ret ?_
  refine .tail ?_
  refine Post.retE rfl rfl ?_
  rfl

end Go.Proofs.Ytamgiiohaojelaa
