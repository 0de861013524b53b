/- Walks of functions over a symbolic memory, printed by a program of the session. -/
import Derived.Test.YtgiddbcadhigcaaSyO
import Derived.Test.YtgiddbcadhigcaaSyP
import Derived.Test.YtgiddbcadhigcaaFacts
namespace Go.Proofs.Ytgiddbcadhigcaa
open Go.Sy
set_option linter.unusedSimpArgs false
set_option linter.unusedVariables false

theorem openI64 {H : Type} {enc : TypeId × Value → H} {W : World} {base : Nat} {spare : Nat → Bool} {held : Bool} {fuel : Nat} {cs : List Value} {x : DataW H × List MemPlace} (M : Meas Try.prog H) (h : DataW.trod enc Try.prog W base spare held fuel 3 cs = some x) (hm : M.ok 3 x.1) : ∃ p, I64R (snap W) cs p ∧ I64Z M.L M.S p := by
  obtain ⟨n, rfl, hw⟩ := rd_int Try.underlying3 h
  exact ⟨n, ⟨rfl, bounds_i64 hw⟩, trivial⟩

section
variable {H : Type} {enc : TypeId × Value → H} {W : World} {base : Nat} {spare : Nat → Bool} {held : Bool} {fuel : Nat} {cs : List Value} {x : DataW H × List MemPlace}
theorem openPkt (M : Meas Try.prog H) (h : DataW.trod enc Try.prog W base spare held fuel 30 cs = some x) (hm : M.ok 30 x.1) : ∃ p, PktR (snap W) cs p ∧ PktZ M.L M.S p := by
  obtain ⟨n, hl, hf⟩ := rd_struct M Try.underlying30 h hm
  rw [ce30] at hl
  obtain ⟨y0, h0, m0⟩ := hf 0 _ rfl
  obtain ⟨y1, h1, m1⟩ := hf 1 _ rfl
  obtain ⟨y2, h2, m2⟩ := hf 2 _ rfl
  clear hf
  match cs, hl with
  | [c0, c1, c2], _ =>
    have g0 : DataW.trod enc Try.prog W base spare held n 3 [c0] = some y0 := by simpa [ce3] using h0
    replace m0 : M.ok 3 y0.1 := m0
    obtain ⟨s0, e0, w0⟩ := rd_int Try.underlying3 g0
    replace w0 := bounds_i64 w0
    simp only [List.cons.injEq, and_true] at e0
    subst e0
    have g1 : DataW.trod enc Try.prog W base spare held n 3 [c1] = some y1 := by simpa [ce3] using h1
    replace m1 : M.ok 3 y1.1 := m1
    obtain ⟨s1, e1, w1⟩ := rd_int Try.underlying3 g1
    replace w1 := bounds_i64 w1
    simp only [List.cons.injEq, and_true] at e1
    subst e1
    have g2 : DataW.trod enc Try.prog W base spare held n 9 [c2] = some y2 := by simpa [ce9] using h2
    replace m2 : M.ok 9 y2.1 := m2
    obtain ⟨s2, e2, w2, z2⟩ := rd_str M Try.underlying9 g2 m2
    simp only [List.cons.injEq, and_true] at e2
    subst e2
    exact ⟨⟨s0, s1, s2⟩, ⟨rfl, w0, w1, w2⟩, ⟨z2⟩⟩
end
section
variable {H : Type} {enc : TypeId × Value → H} {W : World} {base : Nat} {spare : Nat → Bool} {held : Bool} {fuel : Nat} {cs : List Value} {x : DataW H × List MemPlace}
theorem openNet (M : Meas Try.prog H) (h : DataW.trod enc Try.prog W base spare held fuel 24 cs = some x) (hm : M.ok 24 x.1) : ∃ p, NetR (snap W) cs p ∧ NetZ M.L M.S p := by
  obtain ⟨n, hl, hf⟩ := rd_struct M Try.underlying24 h hm
  rw [ce24] at hl
  obtain ⟨y0, h0, m0⟩ := hf 0 _ rfl
  clear hf
  match cs, hl with
  | [c0], _ =>
    have g0 : DataW.trod enc Try.prog W base spare held n 22 [c0] = some y0 := by simpa [ce22] using h0
    replace m0 : M.ok 22 y0.1 := m0
    obtain ⟨b0, s0, e0, w0, z0⟩ := rd_slice M (R := PktR) (Z := PktZ M.L M.S) Try.underlying22 ce30 be30 (by decide) (fun _ _ _ hh hy => openPkt M hh hy) g0 m0
    simp only [List.cons.injEq, and_true] at e0
    subst e0
    exact ⟨s0, ⟨_, rfl, w0⟩, ⟨z0⟩⟩
end
end Go.Proofs.Ytgiddbcadhigcaa
