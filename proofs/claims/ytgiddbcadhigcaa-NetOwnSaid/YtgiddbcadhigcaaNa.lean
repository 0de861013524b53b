/- Walks of functions over a symbolic memory, printed by a program of the session. -/
import Derived.Test.YtgiddbcadhigcaaSyP
import Derived.Test.YtgiddbcadhigcaaFacts
namespace Go.Proofs.Ytgiddbcadhigcaa
open Go.Sy
set_option linter.unusedSimpArgs false
set_option linter.unusedVariables false

theorem eqBool {a b : Bool} : EqOk Try.prog 4 (.bool a) (.bool b) (decide (a = b)) := .bool Try.underlying4
theorem eqPkt {p q : Pkt} : EqOk Try.prog 30 (.agg ⟨p.cells⟩) (.agg ⟨q.cells⟩) (decide (p = q)) := by
  have e : decide (p = q) = (decide (p.from_ = q.from_) && (decide (p.to = q.to) && (decide (p.data = q.data) && true))) := by
    cases p; cases q; simp
  rw [e]
  refine .struct Try.underlying30 (by kernel_rfl) (by kernel_rfl) ?_
  exact ⟨_, _, _, _, rfl, run_part ag3 rfl, run_part ag3 rfl, fun w => equalIn_int Try.underlying3, ⟨_, _, _, _, rfl, run_part ag3 rfl, run_part ag3 rfl, fun w => equalIn_int Try.underlying3, ⟨_, _, _, _, rfl, run_part ag9 rfl, run_part ag9 rfl, fun w => equalIn_str Try.underlying9, rfl, rfl⟩, rfl⟩, rfl⟩
theorem eqPktC {p q : Pkt} {cs ds : List Value} (h : cs = p.cells) (h2 : ds = q.cells) : EqOk Try.prog 30 (.agg ⟨cs⟩) (.agg ⟨ds⟩) (decide (p = q)) := by subst h h2; exact eqPkt
def rightP (p : Pkt) : Bool := decide (1 ≤ p.from_ ∧ p.from_ ≤ 7 ∧ 1 ≤ p.to ∧ p.to ≤ 7 ∧ p.from_ ≠ p.to)
def badP (p : Pkt) : Bool := !rightP p
def netOk (l : List Pkt) : Bool := decide (l.length ≤ 4096) && l.all rightP
def netWhy (l : List Pkt) : Int := if netOk l = true then 0 else 10
theorem any_bad (l : List Pkt) : l.any badP = !l.all rightP := by
  rw [List.any_eq_not_all_not]; congr 2; funext p; unfold badP; simp
theorem netWhy_len {l : List Pkt} (h : 4096 < (l.length : Int)) : netWhy l = 10 := by unfold netWhy netOk; rw [decide_eq_false (by omega)]; rfl
theorem netWhy_bad {l : List Pkt} (h : l.any badP = true) : netWhy l = 10 := by
  rw [any_bad] at h
  unfold netWhy netOk
  have : l.all rightP = false := by simpa using h
  rw [this]; simp
theorem netWhy_ok {l : List Pkt} (h : ¬4096 < (l.length : Int)) (h2 : l.any badP = false) : netWhy l = 0 := by
  rw [any_bad] at h2
  have h2 : l.all rightP = true := by simpa using h2
  unfold netWhy netOk
  rw [decide_eq_true (show l.length ≤ 4096 by omega), h2]; rfl
theorem netOk_why {l : List Pkt} (h : netWhy l = 0) : netOk l = true := by
  unfold netWhy at h
  cases h2 : netOk l
  · rw [h2] at h; cases h
  · rfl
theorem netNo_why {l : List Pkt} (h : ¬netWhy l = 0) : netOk l = false ∧ netWhy l = 10 := by
  unfold netWhy at *
  cases h2 : netOk l
  · exact ⟨rfl, rfl⟩
  · rw [h2] at h; exact absurd rfl h
theorem netOk_len {l : List Pkt} (h : netOk l = true) : l.length ≤ 4096 := by
  unfold netOk at h
  rw [Bool.and_eq_true] at h
  exact of_decide_eq_true h.1

set_option maxHeartbeats 1000000 in
set_option maxRecDepth 20000 in
theorem right_ok {I : Imm} {O : Own} {cs : List Value} {p : Pkt} (hp : PktR I cs p) :
    Pure Try.prog 21 [.agg ⟨cs⟩] I O (.bool (rightP p)) := by
  obtain ⟨rfl, hx, hy, hz⟩ := hp
  refine Go.Sy.Does.enter Try.func21 rfl Try.ntmps21 rfl ?_
  refine .seq <| .region <| .on rfl <| .box rfl rfl rfl fun c1 _ _ => .e (.assign rfl) rfl rfl <| .nil <| .go ?_
  refine .seq <| .region <| .e (.fieldAddr fo30_0 rfl) rfl rfl <| .e (.load ag3 rfl .here rfl) rfl rfl <| .e (.fieldAddr fo30_1 rfl) rfl rfl <| .e (.load ag3 rfl .here rfl) rfl rfl ?_
  refine .e (.neq rfl rfl) rfl rfl <| .e (.move rfl) rfl rfl ?_
  refine .split 8 rfl (fun h8 => ?_) (fun h8 => ?_)
  · skip
    first | replace h8 := of_decide_eq_false ((Bool.not_eq_true' _).mp h8) | replace h8 := of_decide_eq_false (by simpa using h8)
    refine .e (.fieldAddr fo30_0 rfl) rfl rfl <| .e (.load ag3 rfl .here rfl) rfl rfl <| .e (.fieldAddr fo30_1 rfl) rfl rfl <| .e (.load ag3 rfl .here rfl) rfl rfl <| .e ((EV.cast (.min2 rfl rfl rfl) (congrArg (Value.int .i64) (ite_min _ _)))) rfl rfl <| .e (.geq rfl rfl) rfl rfl ?_
    refine .e (.pickT rfl rfl) rfl rfl <| .e (.move rfl) rfl rfl ?_
    refine .split 16 rfl (fun h16 => ?_) (fun h16 => ?_)
    · skip
      replace h16 := of_decide_eq_true h16
      refine .e (.fieldAddr fo30_0 rfl) rfl rfl <| .e (.load ag3 rfl .here rfl) rfl rfl <| .e (.fieldAddr fo30_1 rfl) rfl rfl <| .e (.load ag3 rfl .here rfl) rfl rfl <| .e ((EV.cast (.max2 rfl rfl rfl) (congrArg (Value.int .i64) (ite_max _ _)))) rfl rfl <| .e (.leq rfl rfl) rfl rfl ?_
      refine .e (.pickT rfl rfl) rfl rfl <| .e (.assign rfl) rfl rfl <| .nil <| .go <| .ret ?_
      refine .tail ?_
      refine Post.retE rfl rfl ?_
      refine congrArg Value.bool ?_
      unfold rightP
      first | exact (decide_eq_false (by omega)).symm | exact (decide_eq_true (by omega)).symm | exact decide_eq_decide.2 (by omega) | (rw [← decide_not]; exact decide_eq_decide.2 (by omega))
    · skip
      replace h16 := of_decide_eq_false h16
      refine .off rfl rfl <| .off rfl rfl <| .off rfl rfl <| .off rfl rfl <| .off rfl rfl <| .off rfl rfl ?_
      refine .e (.pickF rfl rfl) rfl rfl <| .e (.assign rfl) rfl rfl <| .nil <| .go <| .ret ?_
      refine .tail ?_
      refine Post.retE rfl rfl ?_
      refine congrArg Value.bool ?_
      unfold rightP
      first | exact (decide_eq_false (by omega)).symm | exact (decide_eq_true (by omega)).symm | exact decide_eq_decide.2 (by omega) | (rw [← decide_not]; exact decide_eq_decide.2 (by omega))
  · skip
    first | replace h8 := of_decide_eq_true ((Bool.not_eq_false' _).mp h8) | replace h8 := of_decide_eq_true (by simpa using h8)
    refine .off rfl rfl <| .off rfl rfl <| .off rfl rfl <| .off rfl rfl <| .off rfl rfl <| .off rfl rfl ?_
    refine .e (.pickF rfl rfl) rfl rfl <| .e (.move rfl) rfl rfl <| .off rfl rfl <| .off rfl rfl <| .off rfl rfl <| .off rfl rfl ?_
    refine .off rfl rfl <| .off rfl rfl <| .e (.pickF rfl rfl) rfl rfl <| .e (.assign rfl) rfl rfl <| .nil <| .go ?_
    refine .ret ?_
    refine .tail ?_
    refine Post.retE rfl rfl ?_
    refine congrArg Value.bool ?_
    unfold rightP
    first | exact (decide_eq_false (by omega)).symm | exact (decide_eq_true (by omega)).symm | exact decide_eq_decide.2 (by omega) | (rw [← decide_not]; exact decide_eq_decide.2 (by omega))

set_option maxHeartbeats 1000000 in
set_option maxRecDepth 20000 in
theorem rright_ok {I : Imm} {O : Own} {cs : List Value} {p : Pkt} (hp : PktR I cs p) :
    Pure Try.prog 23 [.agg ⟨cs⟩] I O (.bool (rightP p)) := by
  obtain ⟨rfl, hx, hy, hz⟩ := hp
  refine Go.Sy.Does.enter Try.func23 rfl Try.ntmps23 rfl ?_
  refine .seq <| .region <| .on rfl <| .box rfl rfl rfl fun c1 _ _ => .e (.assign rfl) rfl rfl <| .nil <| .go ?_
  refine .seq <| .region <| .e (.fieldAddr fo30_0 rfl) rfl rfl <| .e (.load ag3 rfl .here rfl) rfl rfl <| .e (.geq rfl rfl) rfl rfl <| .e (.move rfl) rfl rfl ?_
  refine .split 6 rfl (fun h6 => ?_) (fun h6 => ?_)
  · skip
    replace h6 := of_decide_eq_true h6
    refine .e (.fieldAddr fo30_0 rfl) rfl rfl <| .e (.load ag3 rfl .here rfl) rfl rfl <| .e (.leq rfl rfl) rfl rfl <| .e (.pickT rfl rfl) rfl rfl <| .e (.move rfl) rfl rfl ?_
    refine .split 11 rfl (fun h11 => ?_) (fun h11 => ?_)
    · skip
      replace h11 := of_decide_eq_true h11
      refine .e (.fieldAddr fo30_1 rfl) rfl rfl <| .e (.load ag3 rfl .here rfl) rfl rfl <| .e (.geq rfl rfl) rfl rfl <| .e (.pickT rfl rfl) rfl rfl <| .e (.move rfl) rfl rfl ?_
      refine .split 16 rfl (fun h16 => ?_) (fun h16 => ?_)
      · skip
        replace h16 := of_decide_eq_true h16
        refine .e (.fieldAddr fo30_1 rfl) rfl rfl <| .e (.load ag3 rfl .here rfl) rfl rfl <| .e (.leq rfl rfl) rfl rfl <| .e (.pickT rfl rfl) rfl rfl <| .e (.move rfl) rfl rfl ?_
        refine .split 21 rfl (fun h21 => ?_) (fun h21 => ?_)
        · skip
          replace h21 := of_decide_eq_true h21
          refine .e (.fieldAddr fo30_0 rfl) rfl rfl <| .e (.load ag3 rfl .here rfl) rfl rfl <| .e (.fieldAddr fo30_1 rfl) rfl rfl <| .e (.load ag3 rfl .here rfl) rfl rfl <| .e (.neq rfl rfl) rfl rfl <| .e (.pickT rfl rfl) rfl rfl ?_
          refine .e (.assign rfl) rfl rfl <| .nil <| .go <| .ret ?_
          refine .tail ?_
          refine Post.retE rfl rfl ?_
          refine congrArg Value.bool ?_
          unfold rightP
          first | exact (decide_eq_false (by omega)).symm | exact (decide_eq_true (by omega)).symm | exact decide_eq_decide.2 (by omega) | (rw [← decide_not]; exact decide_eq_decide.2 (by omega))
        · skip
          replace h21 := of_decide_eq_false h21
          refine .off rfl rfl <| .off rfl rfl <| .off rfl rfl <| .off rfl rfl <| .off rfl rfl <| .e (.pickF rfl rfl) rfl rfl ?_
          refine .e (.assign rfl) rfl rfl <| .nil <| .go <| .ret ?_
          refine .tail ?_
          refine Post.retE rfl rfl ?_
          refine congrArg Value.bool ?_
          unfold rightP
          first | exact (decide_eq_false (by omega)).symm | exact (decide_eq_true (by omega)).symm | exact decide_eq_decide.2 (by omega) | (rw [← decide_not]; exact decide_eq_decide.2 (by omega))
      · skip
        replace h16 := of_decide_eq_false h16
        refine .off rfl rfl <| .off rfl rfl <| .off rfl rfl <| .e (.pickF rfl rfl) rfl rfl <| .e (.move rfl) rfl rfl <| .off rfl rfl ?_
        refine .off rfl rfl <| .off rfl rfl <| .off rfl rfl <| .off rfl rfl <| .e (.pickF rfl rfl) rfl rfl <| .e (.assign rfl) rfl rfl ?_
        refine .nil <| .go <| .ret ?_
        refine .tail ?_
        refine Post.retE rfl rfl ?_
        refine congrArg Value.bool ?_
        unfold rightP
        first | exact (decide_eq_false (by omega)).symm | exact (decide_eq_true (by omega)).symm | exact decide_eq_decide.2 (by omega) | (rw [← decide_not]; exact decide_eq_decide.2 (by omega))
    · skip
      replace h11 := of_decide_eq_false h11
      refine .off rfl rfl <| .off rfl rfl <| .off rfl rfl <| .e (.pickF rfl rfl) rfl rfl <| .e (.move rfl) rfl rfl <| .off rfl rfl ?_
      refine .off rfl rfl <| .off rfl rfl <| .e (.pickF rfl rfl) rfl rfl <| .e (.move rfl) rfl rfl <| .off rfl rfl <| .off rfl rfl ?_
      refine .off rfl rfl <| .off rfl rfl <| .off rfl rfl <| .e (.pickF rfl rfl) rfl rfl <| .e (.assign rfl) rfl rfl <| .nil ?_
      refine .go <| .ret ?_
      refine .tail ?_
      refine Post.retE rfl rfl ?_
      refine congrArg Value.bool ?_
      unfold rightP
      first | exact (decide_eq_false (by omega)).symm | exact (decide_eq_true (by omega)).symm | exact decide_eq_decide.2 (by omega) | (rw [← decide_not]; exact decide_eq_decide.2 (by omega))
  · skip
    replace h6 := of_decide_eq_false h6
    refine .off rfl rfl <| .off rfl rfl <| .off rfl rfl <| .e (.pickF rfl rfl) rfl rfl <| .e (.move rfl) rfl rfl <| .off rfl rfl ?_
    refine .off rfl rfl <| .off rfl rfl <| .e (.pickF rfl rfl) rfl rfl <| .e (.move rfl) rfl rfl <| .off rfl rfl <| .off rfl rfl ?_
    refine .off rfl rfl <| .e (.pickF rfl rfl) rfl rfl <| .e (.move rfl) rfl rfl <| .off rfl rfl <| .off rfl rfl <| .off rfl rfl ?_
    refine .off rfl rfl <| .off rfl rfl <| .e (.pickF rfl rfl) rfl rfl <| .e (.assign rfl) rfl rfl <| .nil <| .go ?_
    refine .ret ?_
    refine .tail ?_
    refine Post.retE rfl rfl ?_
    refine congrArg Value.bool ?_
    unfold rightP
    first | exact (decide_eq_false (by omega)).symm | exact (decide_eq_true (by omega)).symm | exact decide_eq_decide.2 (by omega) | (rw [← decide_not]; exact decide_eq_decide.2 (by omega))

set_option maxHeartbeats 1000000 in
set_option maxRecDepth 20000 in
theorem clo_ok {I : Imm} {O : Own} {cs : List Value} {p : Pkt} (hp : PktR I cs p) :
    Pure Try.prog 26 [.agg ⟨cs⟩] I O (.bool (badP p)) := by
  have hp0 := hp
  obtain ⟨rfl, hx, hy, hz⟩ := hp
  refine Go.Sy.Does.enter Try.func26 rfl Try.ntmps26 rfl ?_
  refine .seq <| .region <| .on rfl <| .box rfl rfl rfl fun c1 _ _ => .e (.assign rfl) rfl rfl <| .nil <| .go ?_
  refine .seq <| .region <| .e (.loadW ag30 sz30 rfl .here rfl) rfl rfl <| .on rfl <| .callP cal21 rfl rfl rfl (right_ok hp0) <| .e (.not rfl) rfl rfl <| .e (.assign rfl) rfl rfl ?_
  refine .nil <| .go <| .ret ?_
  refine .tail ?_
  refine Post.retE rfl rfl ?_
  rfl

set_option maxHeartbeats 1000000 in
set_option maxRecDepth 20000 in
theorem idxPkt_ok {I : Imm} {O : Own} {v : Value} {l : List Pkt} {p : Pkt → Bool} {g : FuncId} {us : List Value} (hl : SlR PktR 3 I v l) (hg : callee Try.prog g = true) (hf : ∀ cs x, x ∈ l → PktR I cs x → Pure Try.prog g ([.agg ⟨cs⟩] ++ us) I O (.bool (p x))) :
    Pure Try.prog 27 [v, .func (.func g) #[] ⟨us⟩] I O (.int .i64 (idxOf p l)) := by
  have hl0 := hl
  obtain ⟨la, lcap, rfl, hl1, hl2, -⟩ := hl
  refine Go.Sy.Does.enter Try.func27 rfl Try.ntmps27 rfl ?_
  refine .seq <| .region <| .e (.assign rfl) rfl rfl <| .nil <| .go <| .seq ?_
  refine .seq <| .region <| .e (.move rfl) rfl rfl <| .e (.len sl22 rfl rfl) rfl rfl <| .e (.move rfl) rfl rfl <| .nil ?_
  refine .go <| .block ?_
  refine .loopM [4, 5, 8, 9, 10, 11, 12, 13, 14, 15, 16, 17, 18] (fun k => l.length - k) (fun k => k ≤ l.length ∧ (l.take k).any p = false) (fun k => [(8, .int .i64 k)]) (fun _ => _) (fun _ => _) (0) ⟨by omega, rfl⟩ ⟨rfl, trivial⟩ rfl rfl ?_
  intro k hk
  obtain ⟨hk, hw⟩ := hk
  refine .seq <| .region <| .e (.lss rfl rfl) rfl rfl <| .nil <| .go <| .seq ?_
  refine .split 9 rfl (fun h9 => ?_) (fun h9 => ?_)
  · skip
    replace h9 := of_decide_eq_true h9
    refine .cond_true rfl <| .skip <| .go <| .seq <| .block <| .seq ?_
    refine .region <| .e (.move rfl) rfl rfl <| .e (.assign rfl) rfl rfl <| .nil <| .go <| .seq ?_
    refine .region <| .e (.move rfl) rfl rfl <| .e (.move rfl) rfl rfl <| .e (.move rfl) rfl rfl ?_
    obtain ⟨eb14, eo14, cs14, hd14, hat14, hr14⟩ := SlR.at_ hl0 (k := k) (by omega)
    cases hd14
    refine .e (.indexAddrL sl22 rfl rfl rfl (by omega)) rfl rfl <| .e (.loadIA ag30 sz30 rfl hat14 (PktR.len hr14)) rfl rfl <| .on rfl <| .callP hg rfl rfl rfl (hf _ _ (List.getElem_mem (by omega)) hr14) <| .nil <| .go ?_
    refine .split 16 rfl (fun h16 => ?_) (fun h16 => ?_)
    · skip
      refine .cond_true rfl <| .seq <| .region <| .e (.move rfl) rfl rfl <| .e (.assign rfl) rfl rfl <| .nil ?_
      refine .go <| .ret <| .blk_ret <| .ret <| .ret <| .blk_ret ?_
      refine .ret ?_
      refine Post.retE rfl rfl ?_
      exact congrArg (Value.int .i64) (idxOf_some (by omega) hw (by simpa using h16)).symm
    · skip
      refine .cond_false rfl <| .skip <| .blk_normal <| .go <| .region <| .e (.add rfl rfl (by first | exact wrap_succ (by omega) | exact IntWalk.i64_in _ (by omega) | exact rfl)) rfl rfl ?_
      refine .e (.move rfl) rfl rfl <| .nil ?_
      exact .mid (k + 1) ⟨by omega, by omega, any_take_step (by omega) hw (by simpa using h16)⟩ ⟨rfl, trivial⟩ rfl rfl (.pre 13 rfl (.app rfl .base))
  · skip
    replace h9 := of_decide_eq_false h9
    refine .cond_false rfl <| .exit <| .exit <| .exit <| .blk_exit <| .go ?_
    refine .seq <| .region <| .e (.assign rfl) rfl rfl <| .nil <| .go <| .ret ?_
    refine Post.retE rfl rfl ?_
    exact congrArg (Value.int .i64) (idxOf_none (any_take_all (by omega) hw)).symm

set_option maxHeartbeats 1000000 in
set_option maxRecDepth 20000 in
theorem hasPkt_ok {I : Imm} {O : Own} {v : Value} {l : List Pkt} {p : Pkt → Bool} {g : FuncId} {us : List Value} (hl : SlR PktR 3 I v l) (hg : callee Try.prog g = true) (hf : ∀ cs x, x ∈ l → PktR I cs x → Pure Try.prog g ([.agg ⟨cs⟩] ++ us) I O (.bool (p x))) :
    Pure Try.prog 25 [v, .func (.func g) #[] ⟨us⟩] I O (.bool (l.any p)) := by
  refine Go.Sy.Does.enter Try.func25 rfl Try.ntmps25 rfl ?_
  refine .seq <| .region <| .e (.assign rfl) rfl rfl <| .nil <| .go <| .seq ?_
  refine .region <| .e (.move rfl) rfl rfl <| .e (.move rfl) rfl rfl <| .on rfl <| .callP cal27 rfl rfl rfl (idxPkt_ok hl hg hf) <| .e (.geq rfl rfl) rfl rfl <| .e (.assign rfl) rfl rfl ?_
  refine .nil <| .go <| .ret ?_
  refine Post.retE rfl rfl ?_
  exact congrArg Value.bool idxOf_ge

set_option maxHeartbeats 1000000 in
set_option maxRecDepth 20000 in
theorem nCheck_ok {I : Imm} {O : Own} {cs : List Value} {l : List Pkt} (hn : NetR I cs l) :
    Pure Try.prog 18 [.agg ⟨cs⟩] I O (.int .i64 (netWhy l)) := by
  obtain ⟨nv, rfl, hnv⟩ := hn
  have hn0 := hnv
  obtain ⟨na, ncap, rfl, hn1, hn2, -⟩ := hnv
  refine Go.Sy.Does.enter Try.func18 rfl Try.ntmps18 rfl ?_
  refine .seq <| .region <| .on rfl <| .box rfl rfl rfl fun c1 _ _ => .e (.assign rfl) rfl rfl <| .nil <| .go ?_
  refine .seq <| .seq <| .region <| .e (.fieldAddr fo24_0 rfl) rfl rfl <| .e (.load ag22 rfl .here rfl) rfl rfl <| .e (.len sl22 rfl rfl) rfl rfl ?_
  refine .e (.gtr rfl rfl) rfl rfl <| .e (.move rfl) rfl rfl ?_
  refine .split 7 rfl (fun h7 => ?_) (fun h7 => ?_)
  · skip
    replace h7 := of_decide_eq_true h7
    refine .off rfl rfl <| .off rfl rfl <| .off rfl rfl <| .e (.pickT rfl rfl) rfl rfl <| .nil <| .go ?_
    refine .cond_true rfl <| .seq <| .region <| .e (.assign rfl) rfl rfl <| .nil <| .go ?_
    refine .ret <| .ret ?_
    refine .tail ?_
    refine Post.retE rfl rfl ?_
    exact congrArg (Value.int .i64) (netWhy_len h7).symm
  · skip
    replace h7 := of_decide_eq_false h7
    refine .e (.fieldAddr fo24_0 rfl) rfl rfl <| .e (.load ag22 rfl .here rfl) rfl rfl <| .on rfl <| .callP cal25 rfl rfl rfl (hasPkt_ok (p := badP) (us := []) hn0 cal26 (fun cs x _ hx => clo_ok hx)) <| .e (.pickF rfl rfl) rfl rfl <| .nil <| .go ?_
    refine .split 11 rfl (fun h11 => ?_) (fun h11 => ?_)
    · skip
      refine .cond_true rfl <| .seq <| .region <| .e (.assign rfl) rfl rfl <| .nil <| .go ?_
      refine .ret <| .ret ?_
      refine .tail ?_
      refine Post.retE rfl rfl ?_
      exact congrArg (Value.int .i64) (netWhy_bad (by simpa using h11)).symm
    · skip
      refine .cond_false rfl <| .skip <| .go <| .seq <| .region <| .e (.assign rfl) rfl rfl ?_
      refine .nil <| .go <| .ret ?_
      refine .tail ?_
      refine Post.retE rfl rfl ?_
      exact congrArg (Value.int .i64) (netWhy_ok h7 (by simpa using h11)).symm

set_option maxHeartbeats 1000000 in
set_option maxRecDepth 20000 in
theorem rnCheck_ok {I : Imm} {O : Own} {cs : List Value} {l : List Pkt} (hn : NetR I cs l) :
    Pure Try.prog 19 [.agg ⟨cs⟩] I O (.int .i64 (netWhy l)) := by
  obtain ⟨nv, rfl, hnv⟩ := hn
  have hn0 := hnv
  obtain ⟨na, ncap, rfl, hn1, hn2, -⟩ := hnv
  refine Go.Sy.Does.enter Try.func19 rfl Try.ntmps19 rfl ?_
  refine .seq <| .region <| .on rfl <| .box rfl rfl rfl fun c1 _ _ => .e (.assign rfl) rfl rfl <| .nil <| .go ?_
  refine .seq <| .seq <| .region <| .e (.fieldAddr fo24_0 rfl) rfl rfl <| .e (.load ag22 rfl .here rfl) rfl rfl <| .e (.len sl22 rfl rfl) rfl rfl ?_
  refine .e (.move rfl) rfl rfl <| .nil <| .go <| .block ?_
  refine .loopM [2, 4, 8, 9, 10, 11, 12, 13, 14, 15] (fun k => l.length - k) (fun k => k ≤ l.length ∧ (l.take k).any badP = false) (fun k => [(8, .int .i64 k)]) (fun _ => _) (fun _ => _) (0) ⟨by omega, rfl⟩ ⟨rfl, trivial⟩ rfl rfl ?_
  intro k hk
  obtain ⟨hk, hw⟩ := hk
  refine .seq <| .region <| .e (.lss rfl rfl) rfl rfl <| .nil <| .go <| .seq ?_
  refine .split 9 rfl (fun h9 => ?_) (fun h9 => ?_)
  · skip
    replace h9 := of_decide_eq_true h9
    refine .cond_true rfl <| .skip <| .go <| .seq <| .block <| .seq ?_
    refine .region ?_
    obtain ⟨eb10, eo10, cs10, hd10, hat10, hr10⟩ := SlR.at_ hn0 (k := k) (by omega)
    cases hd10
    have hp10 := hr10
    obtain ⟨rfl, hx10, hy10, hz10⟩ := hr10
    refine .e (.indexAddrL sl22 rfl rfl rfl (by omega)) rfl rfl <| .e (.loadIA ag30 sz30 rfl hat10 rfl) rfl rfl <| .on rfl <| .alloc zr30 rfl fun c2 _ _ => .on rfl <| .storeW sz30 rfl rfl rfl rfl rfl rfl .here <| .nil <| .go ?_
    refine .seq <| .region <| .e (.loadW ag30 sz30 rfl .here rfl) rfl rfl <| .on rfl <| .callP cal23 rfl rfl rfl (rright_ok hp10) <| .e (.not rfl) rfl rfl <| .nil ?_
    refine .go ?_
    refine .split 14 rfl (fun h14 => ?_) (fun h14 => ?_)
    · skip
      refine .cond_true rfl <| .seq <| .region <| .e (.assign rfl) rfl rfl <| .nil <| .go ?_
      refine .ret <| .blk_ret <| .ret <| .ret <| .blk_ret <| .ret ?_
      refine .tail <| .tail ?_
      refine Post.retE rfl rfl ?_
      exact congrArg (Value.int .i64) (netWhy_bad (List.any_eq_true.2 ⟨l[k]'(by omega), List.getElem_mem _, by simpa [badP] using h14⟩)).symm
    · skip
      refine .cond_false rfl <| .skip <| .blk_normal <| .go <| .region <| .e (.add rfl rfl (by first | exact wrap_succ (by omega) | exact IntWalk.i64_in _ (by omega) | exact rfl)) rfl rfl ?_
      refine .e (.move rfl) rfl rfl <| .nil ?_
      refine .tail ?_
      exact .mid (k + 1) ⟨by omega, by omega, any_take_step (by omega) hw (by simpa [badP] using h14)⟩ ⟨rfl, trivial⟩ rfl rfl (.pre 11 rfl (.app rfl .base))
  · skip
    replace h9 := of_decide_eq_false h9
    refine .cond_false rfl <| .exit <| .exit <| .exit <| .blk_exit <| .go ?_
    refine .seq <| .seq <| .region <| .e (.fieldAddr fo24_0 rfl) rfl rfl <| .e (.load ag22 rfl .here rfl) rfl rfl <| .e (.len sl22 rfl rfl) rfl rfl ?_
    refine .e (.gtr rfl rfl) rfl rfl <| .nil <| .go ?_
    refine .split 19 rfl (fun h19 => ?_) (fun h19 => ?_)
    · skip
      replace h19 := of_decide_eq_true h19
      refine .cond_true rfl <| .seq <| .region <| .e (.assign rfl) rfl rfl <| .nil <| .go ?_
      refine .ret <| .ret ?_
      refine .tail ?_
      refine Post.retE rfl rfl ?_
      exact congrArg (Value.int .i64) (netWhy_len h19).symm
    · skip
      replace h19 := of_decide_eq_false h19
      refine .cond_false rfl <| .skip <| .go <| .seq <| .region <| .e (.assign rfl) rfl rfl ?_
      refine .nil <| .go <| .ret ?_
      refine .tail ?_
      refine Post.retE rfl rfl ?_
      exact congrArg (Value.int .i64) (netWhy_ok h19 (any_take_all (k := k) (by omega) hw)).symm

theorem take_step {α : Type} {l m : List α} {k : Nat} (hl : k < l.length) (hm : k < m.length) (h : l.take k = m.take k) (e : l[k] = m[k]) : l.take (k + 1) = m.take (k + 1) := by
  rw [List.take_succ_eq_append_getElem hl, List.take_succ_eq_append_getElem hm, h, e]
theorem same_all {α : Type} {l m : List α} {k : Nat} (hk : l.length ≤ k) (hlm : l.length = m.length) (h : l.take k = m.take k) : l = m := by
  rwa [List.take_of_length_le hk, List.take_of_length_le (by omega)] at h
theorem same_no {α : Type} {l m : List α} {k : Nat} (hl : k < l.length) (hm : k < m.length) (e : ¬l[k] = m[k]) : ¬l = m := fun h => by subst h; exact e rfl
theorem same_len {α : Type} {l m : List α} (h : ¬l.length = m.length) : ¬l = m := fun e => h (by rw [e])

set_option maxHeartbeats 1000000 in
set_option maxRecDepth 20000 in
theorem sameNet_ok {I : Imm} {O : Own} {cs ds : List Value} {l m : List Pkt} (hn : NetR I cs l) (hm : NetR I ds m) :
    Pure Try.prog 13 [.agg ⟨cs⟩, .agg ⟨ds⟩] I O (.bool (decide (l = m))) := by
  obtain ⟨nv, rfl, hnv⟩ := hn
  have hn0 := hnv
  obtain ⟨na, ncap, rfl, hn1, hn2, -⟩ := hnv
  obtain ⟨mv, rfl, hmv⟩ := hm
  have hm0 := hmv
  obtain ⟨ma, mcap, rfl, hm1, hm2, -⟩ := hmv
  refine Go.Sy.Does.enter Try.func13 rfl Try.ntmps13 rfl ?_
  refine .seq <| .region <| .on rfl <| .box rfl rfl rfl fun c1 _ _ => .on rfl <| .box rfl rfl rfl fun c2 _ _ => .e (.assign rfl) rfl rfl <| .nil ?_
  refine .go <| .seq <| .seq <| .region <| .e (.fieldAddr fo24_0 rfl) rfl rfl <| .e (.load ag22 rfl (.there <| .here) rfl) rfl rfl ?_
  refine .e (.len sl22 rfl rfl) rfl rfl <| .e (.fieldAddr fo24_0 rfl) rfl rfl <| .e (.load ag22 rfl .here rfl) rfl rfl <| .e (.len sl22 rfl rfl) rfl rfl <| .e (.neq rfl rfl) rfl rfl <| .nil ?_
  refine .go ?_
  refine .split 12 rfl (fun h12 => ?_) (fun h12 => ?_)
  · skip
    first | replace h12 := of_decide_eq_false ((Bool.not_eq_true' _).mp h12) | replace h12 := of_decide_eq_false (by simpa using h12)
    refine .cond_true rfl <| .seq <| .region <| .e (.assign rfl) rfl rfl <| .nil <| .go ?_
    refine .ret <| .ret ?_
    refine .tail <| .tail ?_
    refine Post.retE rfl rfl ?_
    exact congrArg Value.bool (decide_eq_false (same_len (by omega))).symm
  · skip
    first | replace h12 := of_decide_eq_true ((Bool.not_eq_false' _).mp h12) | replace h12 := of_decide_eq_true (by simpa using h12)
    refine .cond_false rfl <| .skip <| .go <| .seq <| .seq <| .region ?_
    refine .e (.fieldAddr fo24_0 rfl) rfl rfl <| .e (.load ag22 rfl (.there <| .here) rfl) rfl rfl <| .e (.len sl22 rfl rfl) rfl rfl <| .e (.move rfl) rfl rfl <| .nil <| .go ?_
    refine .block ?_
    refine .loopM [4, 5, 16, 17, 18, 19, 20, 21, 22, 23, 24, 25, 26, 27, 28, 29, 30] (fun k => l.length - k) (fun k => k ≤ l.length ∧ l.take k = m.take k) (fun k => [(16, .int .i64 k)]) (fun _ => _) (fun _ => _) (0) ⟨by omega, rfl⟩ ⟨rfl, trivial⟩ rfl rfl ?_
    intro k hk
    obtain ⟨hk, hs⟩ := hk
    refine .seq <| .region <| .e (.lss rfl rfl) rfl rfl <| .nil <| .go <| .seq ?_
    refine .split 17 rfl (fun h17 => ?_) (fun h17 => ?_)
    · skip
      replace h17 := of_decide_eq_true h17
      refine .cond_true rfl <| .skip <| .go <| .seq <| .block <| .seq ?_
      refine .region <| .e (.move rfl) rfl rfl <| .e (.assign rfl) rfl rfl <| .nil <| .go <| .seq ?_
      refine .draw [(c1, _), (c2, _)] mixed (.cons (.there <| .here) (.cons .here .nil)) ?_
      refine .t 0 rfl (.fieldAddr fo24_0 rfl) rfl rfl (by kernel_rfl) <| .t 1 rfl (.load ag22 rfl .here rfl) rfl rfl (by kernel_rfl) <| .t 2 rfl (.move rfl) rfl rfl (by kernel_rfl) ?_
      obtain ⟨eb22, eo22, cs22, hd22, hat22, hr22⟩ := SlR.at_ hn0 (k := k) (by omega)
      cases hd22
      have hp22 := hr22
      obtain ⟨rfl, hx22, hy22, hz22⟩ := hr22
      refine .t 3 rfl (.indexAddrL sl22 rfl rfl rfl (by omega)) rfl rfl (by kernel_rfl) <| .t 4 rfl (.loadIA ag30 sz30 rfl hat22 rfl) rfl rfl (by kernel_rfl) <| .t 5 rfl (.fieldAddr fo24_0 rfl) rfl rfl (by kernel_rfl) <| .t 6 rfl (.load ag22 rfl (.there <| .here) rfl) rfl rfl (by kernel_rfl) <| .t 7 rfl (.move rfl) rfl rfl (by kernel_rfl) ?_
      obtain ⟨eb27, eo27, cs27, hd27, hat27, hr27⟩ := SlR.at_ hm0 (k := k) (by omega)
      cases hd27
      have hp27 := hr27
      obtain ⟨rfl, hx27, hy27, hz27⟩ := hr27
      refine .t 8 rfl (.indexAddrL sl22 rfl rfl rfl (by omega)) rfl rfl (by kernel_rfl) <| .t 9 rfl (.loadIA ag30 sz30 rfl hat27 rfl) rfl rfl (by kernel_rfl) <| .t 10 rfl (.nev (eqPkt (p := l[k]) (q := m[k])) rfl rfl) rfl rfl (by kernel_rfl) <| .done (by kernel_rfl) <| .go ?_
      refine .split 29 rfl (fun h29 => ?_) (fun h29 => ?_)
      · skip
        first | replace h29 := of_decide_eq_false ((Bool.not_eq_true' _).mp h29) | replace h29 := of_decide_eq_false (by simpa using h29)
        refine .cond_true rfl <| .seq <| .region <| .e (.assign rfl) rfl rfl <| .nil <| .go ?_
        refine .ret <| .blk_ret <| .ret <| .ret <| .blk_ret <| .ret ?_
        refine .tail <| .tail ?_
        refine Post.retE rfl rfl ?_
        exact congrArg Value.bool (decide_eq_false (same_no (k := k) (by omega) (by omega) h29)).symm
      · skip
        first | replace h29 := of_decide_eq_true ((Bool.not_eq_false' _).mp h29) | replace h29 := of_decide_eq_true (by simpa using h29)
        refine .cond_false rfl <| .skip <| .blk_normal <| .go <| .region <| .e (.add rfl rfl (by first | exact wrap_succ (by omega) | exact IntWalk.i64_in _ (by omega) | exact rfl)) rfl rfl ?_
        refine .e (.move rfl) rfl rfl <| .nil ?_
        exact .mid (k + 1) ⟨by omega, by omega, take_step (by omega) (by omega) hs h29⟩ ⟨rfl, trivial⟩ rfl rfl (.pre 18 rfl (.app rfl .base))
    · skip
      replace h17 := of_decide_eq_false h17
      refine .cond_false rfl <| .exit <| .exit <| .exit <| .blk_exit <| .go ?_
      refine .seq <| .region <| .e (.assign rfl) rfl rfl <| .nil <| .go <| .ret ?_
      refine .tail <| .tail ?_
      refine Post.retE rfl rfl ?_
      exact congrArg Value.bool (decide_eq_true (same_all (k := k) (by omega) (by omega) hs)).symm

def cnt (l : List Pkt) (p : Pkt) : Nat := (l.filter fun q => decide (q = p)).length
theorem cnt_le {l : List Pkt} {p : Pkt} : cnt l p ≤ l.length := List.length_filter_le _ _
theorem cnt_take {l : List Pkt} {p : Pkt} {k : Nat} (hk : k < l.length) : cnt (l.take (k + 1)) p = cnt (l.take k) p + (if l[k] = p then 1 else 0) := by
  unfold cnt
  rw [List.take_succ_eq_append_getElem hk, List.filter_append, List.length_append]
  congr 1
  by_cases h : l[k] = p <;> simp [h]

set_option maxHeartbeats 1000000 in
set_option maxRecDepth 20000 in
theorem count_ok {I : Imm} {O : Own} {v : Value} {l : List Pkt} (hl : PktsR I v l) {cs : List Value} {p : Pkt} (hp : PktR I cs p) :
    Pure Try.prog 20 [v, .agg ⟨cs⟩] I O (.int .i64 (cnt l p)) := by
  have hl0 := hl
  obtain ⟨la, lcap, rfl, hl1, hl2, -⟩ := hl
  obtain ⟨rfl, hx, hy, hz⟩ := hp
  refine Go.Sy.Does.enter Try.func20 rfl Try.ntmps20 rfl ?_
  refine .seq <| .region <| .on rfl <| .box rfl rfl rfl fun c1 _ _ => .e (.assign rfl) rfl rfl <| .nil <| .go ?_
  refine .seq <| .region <| .e (.assign rfl) rfl rfl <| .nil <| .go <| .seq ?_
  refine .seq <| .region <| .e (.move rfl) rfl rfl <| .e (.len sl22 rfl rfl) rfl rfl <| .e (.move rfl) rfl rfl <| .nil ?_
  refine .go <| .block ?_
  refine .loopM [5, 7, 10, 11, 12, 13, 14, 15, 16, 17, 18, 19] (fun k => l.length - k) (fun k => k ≤ l.length) (fun k => [(10, .int .i64 k), (5, .int .i64 (cnt (l.take k) p))]) (fun _ => _) (fun _ => _) (0) (by omega) ⟨rfl, rfl, trivial⟩ rfl rfl ?_
  intro k hk
  have hct := cnt_le (l := l.take k) (p := p)
  rw [List.length_take] at hct
  refine .seq <| .region <| .e (.lss rfl rfl) rfl rfl <| .nil <| .go <| .seq ?_
  refine .split 11 rfl (fun h11 => ?_) (fun h11 => ?_)
  · skip
    replace h11 := of_decide_eq_true h11
    refine .cond_true rfl <| .skip <| .go <| .seq <| .block <| .seq ?_
    refine .region ?_
    obtain ⟨eb12, eo12, cs12, hd12, hat12, hr12⟩ := SlR.at_ hl0 (k := k) (by omega)
    cases hd12
    have hp12 := hr12
    obtain ⟨rfl, hx12, hy12, hz12⟩ := hr12
    refine .e (.indexAddrL sl22 rfl rfl rfl (by omega)) rfl rfl <| .e (.loadIA ag30 sz30 rfl hat12 rfl) rfl rfl <| .on rfl <| .alloc zr30 rfl fun c2 _ _ => .on rfl <| .storeW sz30 rfl rfl rfl rfl rfl rfl .here <| .nil <| .go ?_
    refine .seq <| .region <| .e (.loadW ag30 sz30 rfl .here rfl) rfl rfl <| .e (.loadW ag30 sz30 rfl (.there <| .here) rfl) rfl rfl <| .e (.eqv (eqPkt (p := l[k]) (q := p)) rfl rfl) rfl rfl <| .nil ?_
    refine .go ?_
    refine .split 16 rfl (fun h16 => ?_) (fun h16 => ?_)
    · skip
      replace h16 := of_decide_eq_true h16
      refine .cond_true rfl <| .region <| .e (.move rfl) rfl rfl <| .e (.add rfl rfl (by first | exact wrap_succ (by omega) | exact IntWalk.i64_in _ (by omega) | exact rfl)) rfl rfl <| .e (.assign rfl) rfl rfl <| .nil ?_
      refine .blk_normal <| .go <| .region <| .e (.add rfl rfl (by first | exact wrap_succ (by omega) | exact IntWalk.i64_in _ (by omega) | exact rfl)) rfl rfl <| .e (.move rfl) rfl rfl <| .nil ?_
      refine .tail ?_
      have e6 := cnt_take (l := l) (p := p) (k := k) (by omega)
      exact .mid (k + 1) ⟨by omega, by omega⟩ ⟨rfl, congrArg (fun x => some (Value.int .i64 x)) (by rw [e6, if_pos h16] <;> omega), trivial⟩ rfl rfl (.pre 14 rfl (.app rfl .base))
    · skip
      replace h16 := of_decide_eq_false h16
      refine .cond_false rfl <| .skip <| .blk_normal <| .go <| .region <| .e (.add rfl rfl (by first | exact wrap_succ (by omega) | exact IntWalk.i64_in _ (by omega) | exact rfl)) rfl rfl ?_
      refine .e (.move rfl) rfl rfl <| .nil ?_
      refine .tail ?_
      have e6 := cnt_take (l := l) (p := p) (k := k) (by omega)
      exact .mid (k + 1) ⟨by omega, by omega⟩ ⟨rfl, congrArg (fun x => some (Value.int .i64 x)) (by rw [e6, if_neg h16] <;> omega), trivial⟩ rfl rfl (.pre 11 rfl (.app rfl .base))
  · skip
    replace h11 := of_decide_eq_false h11
    refine .cond_false rfl <| .exit <| .exit <| .exit <| .blk_exit <| .go ?_
    refine .seq <| .region <| .e (.move rfl) rfl rfl <| .e (.assign rfl) rfl rfl <| .nil <| .go ?_
    refine .ret ?_
    refine .tail ?_
    refine Post.retE rfl rfl ?_
    refine congrArg (Value.int .i64) ?_
    rw [show k = l.length by omega, List.take_length]

end Go.Proofs.Ytgiddbcadhigcaa
