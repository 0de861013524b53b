/- Walks of functions over a symbolic memory, printed by a program of the session. -/
import Derived.Test.YtjoaccnfnniahaaSyK
import Derived.Test.YtjoaccnfnniahaaSyZ
import Derived.Test.YtjoaccnfnniahaaFacts
import Derived.Shelf.RegionOpenPlain
import Derived.Lib.Strings
import Derived.Lib.Walk
import Derived.Lib.Builder
import Derived.Lib.UnsafeStr
import Derived.WalkKit
namespace Go.Proofs.Ytjoaccnfnniahaa
open Go.Sy
set_option linter.unusedSimpArgs false
set_option linter.unusedVariables false

/-- A strings.Builder of the call's own, that holds s. -/
def Bld (c : Nat) (s : ByteArray) (ob : Own) : Prop := ∃ p v o, (p = .pointer none ∨ p = .pointer (some ⟨c, 0, none⟩)) ∧ OwnB 5 v s o ∧ ob = (c, .cells ⟨[p, v]⟩ 105 (0, 0)) :: o
theorem Bld.new {c : Nat} : Bld c ⟨#[]⟩ [(c, .cells ⟨[.pointer none, .slice none 0 0]⟩ 105 (0, 0))] := ⟨_, _, _, .inl rfl, OwnB.nil, rfl⟩

set_option maxHeartbeats 1000000 in
set_option maxRecDepth 20000 in
theorem copy0_ok {I : Imm} {O : Own} {c m cap : Nat} {ad : Option Addr} :
    Go.Sy.Does Try.prog 76 [.pointer (some ⟨c, 0, none⟩)] I ((c, .cells ⟨[.pointer none, .slice ad m cap]⟩ 105 (0, 0)) :: O) (fun u I' O' => u = .tuple ⟨[]⟩ ∧ I' = I ∧ O' = (c, .cells ⟨[.pointer (some ⟨c, 0, none⟩), .slice ad m cap]⟩ 105 (0, 0)) :: O) := by
  refine Go.Sy.Does.enter Try.func76 rfl Try.ntmps76 rfl ?_
  refine .seq <| .region <| .e (.move rfl) rfl rfl <| .e (.nilCheck rfl) rfl rfl <| .e (.fieldAddr fo105_0 rfl) rfl rfl <| .e (.load ag103 rfl .here rfl) rfl rfl ?_
  refine .e ((.eqv (EqOk.ptrNil Try.underlying103) rfl rfl)) rfl rfl <| .nil <| .go <| .cond_true rfl <| .region <| .e (.move rfl) rfl rfl ?_
  refine .e (.move rfl) rfl rfl <| .e ((.toUnsafe Try.underlying103 Try.underlying150 sz105 (by decide) rfl .here (Nat.zero_lt_succ 1))) rfl rfl <| .on rfl <| .ev (.noEscape Try.func81 (by kernel_rfl) (by kernel_rfl) (by kernel_rfl) (by kernel_rfl) rfl rfl) rfl <| .e ((.fromUnsafe Try.underlying150 Try.underlying103 sz105 rfl .here (by kernel_rfl))) rfl rfl <| .e (.nilCheck rfl) rfl rfl <| .e (.fieldAddr fo105_0 rfl) rfl rfl ?_
  refine .on rfl <| .store sz103 rfl rfl rfl rfl rfl rfl .here <| .nil <| .normal ?_
  refine Post.rets rfl .nil rfl (Imm.le_refl _) (fun w h => h) ?_
  exact ⟨rfl, rfl, rfl⟩

set_option maxHeartbeats 1000000 in
set_option maxRecDepth 20000 in
theorem copy1_ok {I : Imm} {O : Own} {c m cap : Nat} {ad : Option Addr} :
    Go.Sy.Does Try.prog 76 [.pointer (some ⟨c, 0, none⟩)] I ((c, .cells ⟨[.pointer (some ⟨c, 0, none⟩), .slice ad m cap]⟩ 105 (0, 0)) :: O) (fun u I' O' => u = .tuple ⟨[]⟩ ∧ I' = I ∧ O' = (c, .cells ⟨[.pointer (some ⟨c, 0, none⟩), .slice ad m cap]⟩ 105 (0, 0)) :: O) := by
  refine Go.Sy.Does.enter Try.func76 rfl Try.ntmps76 rfl ?_
  refine .seq <| .region <| .e (.move rfl) rfl rfl <| .e (.nilCheck rfl) rfl rfl <| .e (.fieldAddr fo105_0 rfl) rfl rfl <| .e (.load ag103 rfl .here rfl) rfl rfl ?_
  refine .e ((.eqv (EqOk.ptrSome Try.underlying103) rfl rfl)) rfl rfl <| .nil <| .go <| .cond_false rfl <| .seq <| .region ?_
  refine .e (.move rfl) rfl rfl <| .e (.nilCheck rfl) rfl rfl <| .e (.fieldAddr fo105_0 rfl) rfl rfl <| .e (.load ag103 rfl .here rfl) rfl rfl <| .e (.move rfl) rfl rfl <| .e ((.ptrSame Try.underlying103 sz105 rfl rfl)) rfl rfl ?_
  refine .nil <| .go <| .cond_false rfl <| .skip <| .normal ?_
  refine Post.rets rfl .nil rfl (Imm.le_refl _) (fun w h => h) ?_
  exact ⟨rfl, rfl, rfl⟩

theorem copy_ok {I : Imm} {O : Own} {c m cap : Nat} {ad : Option Addr} {p : Value} (hp : p = .pointer none ∨ p = .pointer (some ⟨c, 0, none⟩)) :
    Go.Sy.Does Try.prog 76 [.pointer (some ⟨c, 0, none⟩)] I ((c, .cells ⟨[p, .slice ad m cap]⟩ 105 (0, 0)) :: O) (fun u I' O' => u = .tuple ⟨[]⟩ ∧ I' = I ∧ O' = (c, .cells ⟨[.pointer (some ⟨c, 0, none⟩), .slice ad m cap]⟩ 105 (0, 0)) :: O) := by
  rcases hp with rfl | rfl
  · exact copy0_ok
  · exact copy1_ok

set_option maxHeartbeats 1000000 in
set_option maxRecDepth 20000 in
theorem bwrite0_ok {I : Imm} {O : Own} {c cap : Nat} {ad : Option Addr} {p : Value} {s x : ByteArray} {ob : Own} (hp : p = .pointer none ∨ p = .pointer (some ⟨c, 0, none⟩)) (ho : OwnB 5 (.slice ad s.size cap) s ob) (hsz : s.size + x.size ≤ 140737488355328) :
    Go.Sy.Does Try.prog 67 [.pointer (some ⟨c, 0, none⟩), .string x] I ((c, .cells ⟨[p, .slice ad s.size cap]⟩ 105 (0, 0)) :: (ob ++ O)) (fun u I' O' => u = .tuple ⟨[.int .i64 (x.size : Nat), .nilIface]⟩ ∧ I' = I ∧ ∃ ob', Bld c (s ++ x) ob' ∧ O' = ob' ++ O) := by
  refine Go.Sy.Does.enter Try.func67 rfl Try.ntmps67 rfl ?_
  refine .seq <| .region <| .e (.assign rfl) rfl rfl <| .e (.assign rfl) rfl rfl <| .nil <| .go ?_
  refine .seq <| .region <| .e (.move rfl) rfl rfl <| .on rfl <| .call cal76 rfl rfl rfl (copy_ok hp) fun v7 I7 O7 hI7 hK7 => ?_
  obtain ⟨rfl, hq7, rfl⟩ := hK7
  replace hq7 := hq7.symm
  subst hq7
  refine .nil <| .go <| .seq <| .region <| .e (.move rfl) rfl rfl <| .e (.move rfl) rfl rfl ?_
  refine .e (.nilCheck rfl) rfl rfl <| .e (.fieldAddr fo105_1 rfl) rfl rfl <| .e (.load ag92 rfl .here rfl) rfl rfl <| .e (.move rfl) rfl rfl <| .on rfl <| .appendS Try.underlying92 Try.underlying9 sz5 by5 zv5 rfl rfl rfl (.there <| .front) ho (by omega) (by omega) rfl fun v14 ob14 ho14 => ?_
  obtain ⟨ad14, cap14, rfl⟩ := ho14.form
  refine .e (.nilCheck rfl) rfl rfl <| .e (.fieldAddr fo105_1 rfl) rfl rfl <| .on rfl <| .store sz92 rfl rfl rfl rfl rfl rfl (.app <| .here) <| .nil <| .go <| .seq ?_
  refine .region <| .e (.move rfl) rfl rfl <| .e (.lenS Try.underlying9 rfl rfl) rfl rfl <| .e (.assign rfl) rfl rfl <| .e (.assign rfl) rfl rfl <| .nil ?_
  refine .go <| .ret ?_
  refine .front1 (.app <| .here) ?_
  refine Post.rets rfl (.tmp rfl (.tmp rfl .nil)) rfl (Imm.le_refl _) (fun w h => h) ?_
  exact ⟨rfl, rfl, _, ⟨_, _, _, .inr rfl, ho14, rfl⟩, rfl⟩

theorem bwrite_ok {I : Imm} {O : Own} {c : Nat} {s x : ByteArray} {ob : Own} (hB : Bld c s ob) (hsz : s.size + x.size ≤ 140737488355328) :
    Go.Sy.Does Try.prog 67 [.pointer (some ⟨c, 0, none⟩), .string x] I (ob ++ O) (fun u I' O' => u = .tuple ⟨[.int .i64 (x.size : Nat), .nilIface]⟩ ∧ I' = I ∧ ∃ ob', Bld c (s ++ x) ob' ∧ O' = ob' ++ O) := by
  obtain ⟨p, v, o, hp, ho, rfl⟩ := hB
  obtain ⟨ad, cap, rfl⟩ := ho.form
  exact bwrite0_ok hp ho hsz

end Go.Proofs.Ytjoaccnfnniahaa

namespace Go.Proofs.Ytjoaccnfnniahaa
open Go Go.Sy Go.Proofs Go.RowKit Go.Shelf
set_option linter.unusedSimpArgs false
set_option linter.unusedVariables false
set_option maxHeartbeats 1000000 in
set_option maxRecDepth 100000 in
theorem bstr_run {c g cap : Nat} {p : Value} {s : ByteArray} {cs : List Value} {w : World} (hs : s.size ≠ 0) (hbk : w.heap[c]? = some (.cells #[p, .slice (some ⟨g, 0, none⟩) s.size cap] 105 (0, 0))) (hbg : w.heap[g]? = some (.cells ⟨cs⟩ 5 (0, 0)))
    (hnc : s.size ≤ cap) (hcl : cs.length = cap) (htk : cs.take s.size = Lib.strCells s) (hcm : cap ≤ 9223372036854775807) :
    Calls Try.prog 53 #[.pointer (some ⟨c, 0, none⟩)] w fun e w' => e = .returned (.string s) ∧ w' = w.drew.freeze ⟨g, 0, none⟩ s.size := by
  have hsl : s.data.toList.length = s.size := by simp
  have hse : (⟨s.data.toList.toArray⟩ : ByteArray) = s := by simp
  have c1 : w.drew.cell? ⟨c, 1, none⟩ = some (.slice (some ⟨g, 0, none⟩) s.size cap) := by
    have : w.drew.heap[c]? = some (.cells #[p, .slice (some ⟨g, 0, none⟩) s.size cap] 105 (0, 0)) := hbk
    rw [Lib.cell_of_heap this]; rfl
  have hSD : (Builtin.unsafeSliceData_ #[92] 139 #[.slice (some ⟨g, 0, none⟩) s.size cap]).run Try.prog w.drew = .ok (.pointer (some ⟨g, 0, none⟩)) w.drew :=
    Lib.run_unsafeSliceData_row _ _ _ _ _ _ (by omega)
  have hUS : (Builtin.unsafeString_ #[139, 3] 9 #[.pointer (some ⟨g, 0, none⟩), .int .i64 (s.size : Nat)]).run Try.prog w.drew = .ok (.string s) (w.drew.freeze ⟨g, 0, none⟩ s.size) := by
    have h := Lib.run_unsafeString_row (P := Try.prog) w.drew 139 3 9 5 Try.underlying139 (by kernel_rfl) g cs.length (by have hg' : w.drew.heap[g]? = some (.cells ⟨cs⟩ 5 (0, 0)) := hbg; simp [World.shape?, hg']) s.data.toList (by intro h; rw [h] at hsl; exact hs hsl.symm) (by omega) (by omega) ?_
    · rw [hsl, hse] at h; exact h
    · intro j x hx
      have h1 : (Lib.strCells s)[j]? = some (.int .u8 x.toNat) := by simp [Lib.strCells, hx]
      rw [← htk, List.getElem?_take] at h1
      have h2 : cs[j]? = some (.int .u8 x.toNat) := by
        split at h1
        · exact h1
        · cases h1
      have hg' : w.drew.heap[g]? = some (.cells ⟨cs⟩ 5 (0, 0)) := hbg
      have e : ((⟨g, 0, none⟩ : Addr).add j) = ⟨g, j, none⟩ := by unfold Addr.add; by_cases hj : j = 0 <;> simp [hj]
      rw [e, Lib.cell_of_heap hg']
      simpa using h2
  have u1 := run_underlying Try.underlying105
  have u2 := run_underlying Try.underlying103
  have u3 := run_underlying Try.underlying92
  have u4 := run_underlying Try.underlying139
  have mixed : Try.prog.follows Departure.mixedOrders = true := by kernel_rfl
  have a1 : ∀ w, (isAgg 92).run Try.prog w = .ok false w := fun w => run_isAgg ag92
  have a2 : ∀ w, (isAgg 9).run Try.prog w = .ok false w := fun w => run_isAgg ag9
  have a3 : ∀ w, (isAgg 3).run Try.prog w = .ok false w := fun w => run_isAgg ag3
  go_enter Try.func53, Try.ntmps53
  go_wp2
  go_region_o
  all_goals (go_wp2; go_ret; exact ⟨rfl, rfl⟩)
theorem bstr_ok {I : Imm} {O : Own} {c : Nat} {s : ByteArray} {ob : Own} (hB : Bld c s ob) (hs : s.size ≠ 0) :
    Go.Sy.Does Try.prog 53 [.pointer (some ⟨c, 0, none⟩)] I (ob ++ O) (fun u I' O' => u = .string s ∧ I' = I ∧ O' = O) := fun w hw => by
  obtain ⟨p, v, o, hp, ho, rfl⟩ := hB
  rcases ho with ⟨rfl, rfl, rfl⟩ | ⟨g, cap, cs, rfl, rfl, h1, h2, h3, h4⟩
  · exact absurd rfl hs
  · refine (bstr_run (w := w) (c := c) (g := g) (p := p) hs (hw.own _ _ List.mem_cons_self) (hw.own _ _ (List.mem_cons_of_mem _ List.mem_cons_self)) h1 h2 h3 h4).mono ?_
    rintro e w' ⟨rfl, rfl⟩
    exact ⟨_, I, O, rfl, Imm.le_refl I, Sat.builder hw, rfl, rfl, rfl⟩
end Go.Proofs.Ytjoaccnfnniahaa

namespace Go.Proofs.Ytjoaccnfnniahaa
open Go.Sy
set_option linter.unusedSimpArgs false
set_option linter.unusedVariables false

/-- A strings.Builder of the call's own, that holds s. -/
def BldM (c : Nat) (s : ByteArray) (ob : Own) : Prop := ∃ p v o, (p = .pointer none ∨ p = .pointer (some ⟨c, 0, none⟩)) ∧ OwnB 5 v s o ∧ ob = (c, .cells ⟨[p, v]⟩ 107 (0, 0)) :: o
theorem BldM.new {c : Nat} : BldM c ⟨#[]⟩ [(c, .cells ⟨[.pointer none, .slice none 0 0]⟩ 107 (0, 0))] := ⟨_, _, _, .inl rfl, OwnB.nil, rfl⟩

set_option maxHeartbeats 1000000 in
set_option maxRecDepth 20000 in
theorem copy0M_ok {I : Imm} {O : Own} {c m cap : Nat} {ad : Option Addr} :
    Go.Sy.Does Try.prog 76 [.pointer (some ⟨c, 0, none⟩)] I ((c, .cells ⟨[.pointer none, .slice ad m cap]⟩ 107 (0, 0)) :: O) (fun u I' O' => u = .tuple ⟨[]⟩ ∧ I' = I ∧ O' = (c, .cells ⟨[.pointer (some ⟨c, 0, none⟩), .slice ad m cap]⟩ 107 (0, 0)) :: O) := by
  refine Go.Sy.Does.enter Try.func76 rfl Try.ntmps76 rfl ?_
  refine .seq <| .region <| .e (.move rfl) rfl rfl <| .e (.nilCheck rfl) rfl rfl <| .e (.fieldAddr fo105_0 rfl) rfl rfl <| .e (.load ag103 rfl .here rfl) rfl rfl ?_
  refine .e ((.eqv (EqOk.ptrNil Try.underlying103) rfl rfl)) rfl rfl <| .nil <| .go <| .cond_true rfl <| .region <| .e (.move rfl) rfl rfl ?_
  refine .e (.move rfl) rfl rfl <| .e ((.toUnsafe Try.underlying103 Try.underlying150 sz105 (by decide) rfl .here (Nat.zero_lt_succ 1))) rfl rfl <| .on rfl <| .ev (.noEscape Try.func81 (by kernel_rfl) (by kernel_rfl) (by kernel_rfl) (by kernel_rfl) rfl rfl) rfl <| .e ((.fromUnsafe Try.underlying150 Try.underlying103 sz105 rfl .here (by kernel_rfl))) rfl rfl <| .e (.nilCheck rfl) rfl rfl <| .e (.fieldAddr fo105_0 rfl) rfl rfl ?_
  refine .on rfl <| .store sz103 rfl rfl rfl rfl rfl rfl .here <| .nil <| .normal ?_
  refine Post.rets rfl .nil rfl (Imm.le_refl _) (fun w h => h) ?_
  exact ⟨rfl, rfl, rfl⟩

set_option maxHeartbeats 1000000 in
set_option maxRecDepth 20000 in
theorem copy1M_ok {I : Imm} {O : Own} {c m cap : Nat} {ad : Option Addr} :
    Go.Sy.Does Try.prog 76 [.pointer (some ⟨c, 0, none⟩)] I ((c, .cells ⟨[.pointer (some ⟨c, 0, none⟩), .slice ad m cap]⟩ 107 (0, 0)) :: O) (fun u I' O' => u = .tuple ⟨[]⟩ ∧ I' = I ∧ O' = (c, .cells ⟨[.pointer (some ⟨c, 0, none⟩), .slice ad m cap]⟩ 107 (0, 0)) :: O) := by
  refine Go.Sy.Does.enter Try.func76 rfl Try.ntmps76 rfl ?_
  refine .seq <| .region <| .e (.move rfl) rfl rfl <| .e (.nilCheck rfl) rfl rfl <| .e (.fieldAddr fo105_0 rfl) rfl rfl <| .e (.load ag103 rfl .here rfl) rfl rfl ?_
  refine .e ((.eqv (EqOk.ptrSome Try.underlying103) rfl rfl)) rfl rfl <| .nil <| .go <| .cond_false rfl <| .seq <| .region ?_
  refine .e (.move rfl) rfl rfl <| .e (.nilCheck rfl) rfl rfl <| .e (.fieldAddr fo105_0 rfl) rfl rfl <| .e (.load ag103 rfl .here rfl) rfl rfl <| .e (.move rfl) rfl rfl <| .e ((.ptrSame Try.underlying103 sz105 rfl rfl)) rfl rfl ?_
  refine .nil <| .go <| .cond_false rfl <| .skip <| .normal ?_
  refine Post.rets rfl .nil rfl (Imm.le_refl _) (fun w h => h) ?_
  exact ⟨rfl, rfl, rfl⟩

theorem copyM_ok {I : Imm} {O : Own} {c m cap : Nat} {ad : Option Addr} {p : Value} (hp : p = .pointer none ∨ p = .pointer (some ⟨c, 0, none⟩)) :
    Go.Sy.Does Try.prog 76 [.pointer (some ⟨c, 0, none⟩)] I ((c, .cells ⟨[p, .slice ad m cap]⟩ 107 (0, 0)) :: O) (fun u I' O' => u = .tuple ⟨[]⟩ ∧ I' = I ∧ O' = (c, .cells ⟨[.pointer (some ⟨c, 0, none⟩), .slice ad m cap]⟩ 107 (0, 0)) :: O) := by
  rcases hp with rfl | rfl
  · exact copy0M_ok
  · exact copy1M_ok

set_option maxHeartbeats 1000000 in
set_option maxRecDepth 20000 in
theorem bwrite0M_ok {I : Imm} {O : Own} {c cap : Nat} {ad : Option Addr} {p : Value} {s x : ByteArray} {ob : Own} (hp : p = .pointer none ∨ p = .pointer (some ⟨c, 0, none⟩)) (ho : OwnB 5 (.slice ad s.size cap) s ob) (hsz : s.size + x.size ≤ 140737488355328) :
    Go.Sy.Does Try.prog 67 [.pointer (some ⟨c, 0, none⟩), .string x] I ((c, .cells ⟨[p, .slice ad s.size cap]⟩ 107 (0, 0)) :: (ob ++ O)) (fun u I' O' => u = .tuple ⟨[.int .i64 (x.size : Nat), .nilIface]⟩ ∧ I' = I ∧ ∃ ob', BldM c (s ++ x) ob' ∧ O' = ob' ++ O) := by
  refine Go.Sy.Does.enter Try.func67 rfl Try.ntmps67 rfl ?_
  refine .seq <| .region <| .e (.assign rfl) rfl rfl <| .e (.assign rfl) rfl rfl <| .nil <| .go ?_
  refine .seq <| .region <| .e (.move rfl) rfl rfl <| .on rfl <| .call cal76 rfl rfl rfl (copyM_ok hp) fun v7 I7 O7 hI7 hK7 => ?_
  obtain ⟨rfl, hq7, rfl⟩ := hK7
  replace hq7 := hq7.symm
  subst hq7
  refine .nil <| .go <| .seq <| .region <| .e (.move rfl) rfl rfl <| .e (.move rfl) rfl rfl ?_
  refine .e (.nilCheck rfl) rfl rfl <| .e (.fieldAddr fo105_1 rfl) rfl rfl <| .e (.load ag92 rfl .here rfl) rfl rfl <| .e (.move rfl) rfl rfl <| .on rfl <| .appendS Try.underlying92 Try.underlying9 sz5 by5 zv5 rfl rfl rfl (.there <| .front) ho (by omega) (by omega) rfl fun v14 ob14 ho14 => ?_
  obtain ⟨ad14, cap14, rfl⟩ := ho14.form
  refine .e (.nilCheck rfl) rfl rfl <| .e (.fieldAddr fo105_1 rfl) rfl rfl <| .on rfl <| .store sz92 rfl rfl rfl rfl rfl rfl (.app <| .here) <| .nil <| .go <| .seq ?_
  refine .region <| .e (.move rfl) rfl rfl <| .e (.lenS Try.underlying9 rfl rfl) rfl rfl <| .e (.assign rfl) rfl rfl <| .e (.assign rfl) rfl rfl <| .nil ?_
  refine .go <| .ret ?_
  refine .front1 (.app <| .here) ?_
  refine Post.rets rfl (.tmp rfl (.tmp rfl .nil)) rfl (Imm.le_refl _) (fun w h => h) ?_
  exact ⟨rfl, rfl, _, ⟨_, _, _, .inr rfl, ho14, rfl⟩, rfl⟩

theorem bwriteM_ok {I : Imm} {O : Own} {c : Nat} {s x : ByteArray} {ob : Own} (hB : BldM c s ob) (hsz : s.size + x.size ≤ 140737488355328) :
    Go.Sy.Does Try.prog 67 [.pointer (some ⟨c, 0, none⟩), .string x] I (ob ++ O) (fun u I' O' => u = .tuple ⟨[.int .i64 (x.size : Nat), .nilIface]⟩ ∧ I' = I ∧ ∃ ob', BldM c (s ++ x) ob' ∧ O' = ob' ++ O) := by
  obtain ⟨p, v, o, hp, ho, rfl⟩ := hB
  obtain ⟨ad, cap, rfl⟩ := ho.form
  exact bwrite0M_ok hp ho hsz

end Go.Proofs.Ytjoaccnfnniahaa

namespace Go.Proofs.Ytjoaccnfnniahaa
open Go Go.Sy Go.Proofs Go.RowKit Go.Shelf
set_option linter.unusedSimpArgs false
set_option linter.unusedVariables false
set_option maxHeartbeats 1000000 in
set_option maxRecDepth 100000 in
theorem bstrM_run {c g cap : Nat} {p : Value} {s : ByteArray} {cs : List Value} {w : World} (hs : s.size ≠ 0) (hbk : w.heap[c]? = some (.cells #[p, .slice (some ⟨g, 0, none⟩) s.size cap] 107 (0, 0))) (hbg : w.heap[g]? = some (.cells ⟨cs⟩ 5 (0, 0)))
    (hnc : s.size ≤ cap) (hcl : cs.length = cap) (htk : cs.take s.size = Lib.strCells s) (hcm : cap ≤ 9223372036854775807) :
    Calls Try.prog 53 #[.pointer (some ⟨c, 0, none⟩)] w fun e w' => e = .returned (.string s) ∧ w' = w.drew.freeze ⟨g, 0, none⟩ s.size := by
  have hsl : s.data.toList.length = s.size := by simp
  have hse : (⟨s.data.toList.toArray⟩ : ByteArray) = s := by simp
  have c1 : w.drew.cell? ⟨c, 1, none⟩ = some (.slice (some ⟨g, 0, none⟩) s.size cap) := by
    have : w.drew.heap[c]? = some (.cells #[p, .slice (some ⟨g, 0, none⟩) s.size cap] 107 (0, 0)) := hbk
    rw [Lib.cell_of_heap this]; rfl
  have hSD : (Builtin.unsafeSliceData_ #[92] 139 #[.slice (some ⟨g, 0, none⟩) s.size cap]).run Try.prog w.drew = .ok (.pointer (some ⟨g, 0, none⟩)) w.drew :=
    Lib.run_unsafeSliceData_row _ _ _ _ _ _ (by omega)
  have hUS : (Builtin.unsafeString_ #[139, 3] 9 #[.pointer (some ⟨g, 0, none⟩), .int .i64 (s.size : Nat)]).run Try.prog w.drew = .ok (.string s) (w.drew.freeze ⟨g, 0, none⟩ s.size) := by
    have h := Lib.run_unsafeString_row (P := Try.prog) w.drew 139 3 9 5 Try.underlying139 (by kernel_rfl) g cs.length (by have hg' : w.drew.heap[g]? = some (.cells ⟨cs⟩ 5 (0, 0)) := hbg; simp [World.shape?, hg']) s.data.toList (by intro h; rw [h] at hsl; exact hs hsl.symm) (by omega) (by omega) ?_
    · rw [hsl, hse] at h; exact h
    · intro j x hx
      have h1 : (Lib.strCells s)[j]? = some (.int .u8 x.toNat) := by simp [Lib.strCells, hx]
      rw [← htk, List.getElem?_take] at h1
      have h2 : cs[j]? = some (.int .u8 x.toNat) := by
        split at h1
        · exact h1
        · cases h1
      have hg' : w.drew.heap[g]? = some (.cells ⟨cs⟩ 5 (0, 0)) := hbg
      have e : ((⟨g, 0, none⟩ : Addr).add j) = ⟨g, j, none⟩ := by unfold Addr.add; by_cases hj : j = 0 <;> simp [hj]
      rw [e, Lib.cell_of_heap hg']
      simpa using h2
  have u1 := run_underlying Try.underlying105
  have u2 := run_underlying Try.underlying103
  have u3 := run_underlying Try.underlying92
  have u4 := run_underlying Try.underlying139
  have mixed : Try.prog.follows Departure.mixedOrders = true := by kernel_rfl
  have a1 : ∀ w, (isAgg 92).run Try.prog w = .ok false w := fun w => run_isAgg ag92
  have a2 : ∀ w, (isAgg 9).run Try.prog w = .ok false w := fun w => run_isAgg ag9
  have a3 : ∀ w, (isAgg 3).run Try.prog w = .ok false w := fun w => run_isAgg ag3
  go_enter Try.func53, Try.ntmps53
  go_wp2
  go_region_o
  all_goals (go_wp2; go_ret; exact ⟨rfl, rfl⟩)
theorem bstrM_ok {I : Imm} {O : Own} {c : Nat} {s : ByteArray} {ob : Own} (hB : BldM c s ob) (hs : s.size ≠ 0) :
    Go.Sy.Does Try.prog 53 [.pointer (some ⟨c, 0, none⟩)] I (ob ++ O) (fun u I' O' => u = .string s ∧ I' = I ∧ O' = O) := fun w hw => by
  obtain ⟨p, v, o, hp, ho, rfl⟩ := hB
  rcases ho with ⟨rfl, rfl, rfl⟩ | ⟨g, cap, cs, rfl, rfl, h1, h2, h3, h4⟩
  · exact absurd rfl hs
  · refine (bstrM_run (w := w) (c := c) (g := g) (p := p) hs (hw.own _ _ List.mem_cons_self) (hw.own _ _ (List.mem_cons_of_mem _ List.mem_cons_self)) h1 h2 h3 h4).mono ?_
    rintro e w' ⟨rfl, rfl⟩
    exact ⟨_, I, O, rfl, Imm.le_refl I, Sat.builder hw, rfl, rfl, rfl⟩
end Go.Proofs.Ytjoaccnfnniahaa
