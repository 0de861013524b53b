/- (*strings.Builder).String of a builder that the call owns, of at least one byte: its bytes; the builder falls. -/
import Derived.Shelf.RegionOpenPlain
import Derived.Lib.Strings
import Derived.Lib.Walk
import Derived.Lib.Builder
import Derived.Lib.UnsafeStr
import Derived.WalkKit
import Derived.Test.YtjoaccnfnniahaaDoorBb
namespace Go.Proofs.YtjoaccnfnniahaaDoor
open Go Go.Sy Go.Proofs Go.RowKit Go.Shelf
set_option linter.unusedSimpArgs false
set_option linter.unusedVariables false
set_option maxHeartbeats 1000000 in
set_option maxRecDepth 100000 in
theorem bstr_run {c g cap : Nat} {p : Value} {s : ByteArray} {cs : List Value} {w : World} (hs : s.size ≠ 0) (hbk : w.heap[c]? = some (.cells #[p, .slice (some ⟨g, 0, none⟩) s.size cap] 98 (0, 0))) (hbg : w.heap[g]? = some (.cells ⟨cs⟩ 5 (0, 0)))
    (hnc : s.size ≤ cap) (hcl : cs.length = cap) (htk : cs.take s.size = Lib.strCells s) (hcm : cap ≤ 9223372036854775807) :
    Calls Tryd.prog 57 #[.pointer (some ⟨c, 0, none⟩)] w fun e w' => e = .returned (.string s) ∧ w' = w.drew.freeze ⟨g, 0, none⟩ s.size := by
  have hsl : s.data.toList.length = s.size := by simp
  have hse : (⟨s.data.toList.toArray⟩ : ByteArray) = s := by simp
  have c1 : w.drew.cell? ⟨c, 1, none⟩ = some (.slice (some ⟨g, 0, none⟩) s.size cap) := by
    have : w.drew.heap[c]? = some (.cells #[p, .slice (some ⟨g, 0, none⟩) s.size cap] 98 (0, 0)) := hbk
    rw [Lib.cell_of_heap this]; rfl
  have hSD : (Builtin.unsafeSliceData_ #[94] 110 #[.slice (some ⟨g, 0, none⟩) s.size cap]).run Tryd.prog w.drew = .ok (.pointer (some ⟨g, 0, none⟩)) w.drew :=
    Lib.run_unsafeSliceData_row _ _ _ _ _ _ (by omega)
  have hUS : (Builtin.unsafeString_ #[110, 3] 9 #[.pointer (some ⟨g, 0, none⟩), .int .i64 (s.size : Nat)]).run Tryd.prog w.drew = .ok (.string s) (w.drew.freeze ⟨g, 0, none⟩ s.size) := by
    have h := Lib.run_unsafeString_row (P := Tryd.prog) w.drew 110 3 9 5 Tryd.underlying110 (by kernel_rfl) g cs.length (by have hg' : w.drew.heap[g]? = some (.cells ⟨cs⟩ 5 (0, 0)) := hbg; simp [World.shape?, hg']) s.data.toList (by intro h; rw [h] at hsl; exact hs hsl.symm) (by omega) (by omega) ?_
    · rw [hsl, hse] at h; exact h
    · intro j x hx
      have h1 : (Lib.strCells s)[j]? = some (.int .u8 x.toNat) := by simp [Lib.strCells, hx]
      rw [← htk, List.getElem?_take] at h1
      have h2 : cs[j]? = some (.int .u8 x.toNat) := by
        split at h1
        · exact h1
        · cases h1
      have hg' : w.drew.heap[g]? = some (.cells ⟨cs⟩ 5 (0, 0)) := hbg
      have e : ((⟨g, 0, none⟩ : Addr).add j) = ⟨g, j, none⟩ := by unfold Addr.add; by_cases hj : j = 0 <;> simp [hj]
      rw [e, Lib.cell_of_heap hg']
      simpa using h2
  have u1 := run_underlying Tryd.underlying98
  have u2 := run_underlying Tryd.underlying96
  have u3 := run_underlying Tryd.underlying94
  have u4 := run_underlying Tryd.underlying110
  have mixed : Tryd.prog.follows Departure.mixedOrders = true := by kernel_rfl
  have a1 : ∀ w, (isAgg 94).run Tryd.prog w = .ok false w := fun w => run_isAgg ag94
  have a2 : ∀ w, (isAgg 9).run Tryd.prog w = .ok false w := fun w => run_isAgg ag9
  have a3 : ∀ w, (isAgg 3).run Tryd.prog w = .ok false w := fun w => run_isAgg ag3
  go_enter Tryd.func57, Tryd.ntmps57
  go_wp2
  go_region_o
  all_goals (go_wp2; go_ret; exact ⟨rfl, rfl⟩)
theorem bstr_ok {I : Imm} {O : Own} {c : Nat} {s : ByteArray} {ob : Own} (hB : Bld c s ob) (hs : s.size ≠ 0) :
    Go.Sy.Does Tryd.prog 57 [.pointer (some ⟨c, 0, none⟩)] I (ob ++ O) (fun u I' O' => u = .string s ∧ I' = I ∧ O' = O) := fun w hw => by
  obtain ⟨p, v, o, hp, ho, rfl⟩ := hB
  rcases ho with ⟨rfl, rfl, rfl⟩ | ⟨g, cap, cs, rfl, rfl, h1, h2, h3, h4⟩
  · exact absurd rfl hs
  · refine (bstr_run (w := w) (c := c) (g := g) (p := p) hs (hw.own _ _ List.mem_cons_self) (hw.own _ _ (List.mem_cons_of_mem _ List.mem_cons_self)) h1 h2 h3 h4).mono ?_
    rintro e w' ⟨rfl, rfl⟩
    exact ⟨_, I, O, rfl, Imm.le_refl I, Sat.builder hw, rfl, rfl, rfl⟩
end Go.Proofs.YtjoaccnfnniahaaDoor
