/- Walks of functions over a symbolic memory, printed by a program of the session. -/
import Derived.Test.YtjoaccnfnniahaaSyO
import Derived.Test.YtjoaccnfnniahaaFacts
import Derived.Test.YtjoaccnfnniahaaFact2
namespace Go.Proofs.Ytjoaccnfnniahaa
open Go.Sy
set_option linter.unusedSimpArgs false
set_option linter.unusedVariables false

theorem openI64 {H : Type} {enc : TypeId × Value → H} {W : World} {base : Nat} {spare : Nat → Bool} {held : Bool} {fuel : Nat} {cs : List Value} {x : DataW H × List MemPlace} (M : Meas Try.prog H) (h : DataW.trod enc Try.prog W base spare held fuel 3 cs = some x) (hm : M.ok 3 x.1) : ∃ p, I64R (snap W) cs p ∧ I64Z M.L M.S p := by
  obtain ⟨n, rfl, hw⟩ := rd_int Try.underlying3 h
  exact ⟨n, ⟨rfl, bounds_i64 hw⟩, trivial⟩

section
variable {H : Type} {enc : TypeId × Value → H} {W : World} {base : Nat} {spare : Nat → Bool} {held : Bool} {fuel : Nat} {cs : List Value} {x : DataW H × List MemPlace}
set_option maxRecDepth 20000 in
theorem openEnt (M : Meas Try.prog H) (h : DataW.trod enc Try.prog W base spare held fuel 77 cs = some x) (hm : M.ok 77 x.1) : ∃ p, EntR (snap W) cs p ∧ EntZ M.L M.S p := by
  obtain ⟨n, hl, hf⟩ := rd_struct M Try.underlying77 h hm
  rw [ce77] at hl
  obtain ⟨y0, h0, m0⟩ := hf 0 _ rfl
  obtain ⟨y1, h1, m1⟩ := hf 1 _ rfl
  obtain ⟨y2, h2, m2⟩ := hf 2 _ rfl
  obtain ⟨y3, h3, m3⟩ := hf 3 _ rfl
  obtain ⟨y4, h4, m4⟩ := hf 4 _ rfl
  clear hf
  match cs, hl with
  | [c0, c1, c2, c3, c4], _ =>
    have g0 : DataW.trod enc Try.prog W base spare held n 40 [c0] = some y0 := by simpa [ce40] using h0
    replace m0 : M.ok 40 y0.1 := m0
    obtain ⟨s0, e0, w0⟩ := rd_int Try.underlying40 g0
    replace w0 := bounds_u64 w0
    simp only [List.cons.injEq, and_true] at e0
    subst e0
    have g1 : DataW.trod enc Try.prog W base spare held n 40 [c1] = some y1 := by simpa [ce40] using h1
    replace m1 : M.ok 40 y1.1 := m1
    obtain ⟨s1, e1, w1⟩ := rd_int Try.underlying40 g1
    replace w1 := bounds_u64 w1
    simp only [List.cons.injEq, and_true] at e1
    subst e1
    have g2 : DataW.trod enc Try.prog W base spare held n 75 [c2] = some y2 := by simpa [ce75] using h2
    replace m2 : M.ok 75 y2.1 := m2
    obtain ⟨s2, e2, w2⟩ := rd_int Try.underlying75 g2
    replace w2 := bounds_u8 w2
    simp only [List.cons.injEq, and_true] at e2
    subst e2
    have g3 : DataW.trod enc Try.prog W base spare held n 9 [c3] = some y3 := by simpa [ce9] using h3
    replace m3 : M.ok 9 y3.1 := m3
    obtain ⟨s3, e3, w3, z3⟩ := rd_str M Try.underlying9 g3 m3
    simp only [List.cons.injEq, and_true] at e3
    subst e3
    have g4 : DataW.trod enc Try.prog W base spare held n 24 [c4] = some y4 := by simpa [ce24] using h4
    replace m4 : M.ok 24 y4.1 := m4
    obtain ⟨b4, s4, e4, w4, z4⟩ := rd_slice M (R := I64R) (Z := I64Z M.L M.S) Try.underlying24 ce3 be3 (by decide) (fun _ _ _ hh hy => openI64 M hh hy) g4 m4
    simp only [List.cons.injEq, and_true] at e4
    subst e4
    exact ⟨⟨s0, s1, s2, s3, s4⟩, ⟨⟨_, rfl, w4⟩, w0, w1, w2, w3⟩, ⟨z3, z4⟩⟩
end
section
variable {H : Type} {enc : TypeId × Value → H} {W : World} {base : Nat} {spare : Nat → Bool} {held : Bool} {fuel : Nat} {cs : List Value} {x : DataW H × List MemPlace}
set_option maxRecDepth 20000 in
theorem openLg (M : Meas Try.prog H) (h : DataW.trod enc Try.prog W base spare held fuel 43 cs = some x) (hm : M.ok 43 x.1) : ∃ p, LgR (snap W) cs p ∧ LgZ M.L M.S p := by
  obtain ⟨n, hl, hf⟩ := rd_struct M Try.underlying43 h hm
  rw [ce43] at hl
  obtain ⟨y0, h0, m0⟩ := hf 0 _ rfl
  obtain ⟨y1, h1, m1⟩ := hf 1 _ rfl
  obtain ⟨y2, h2, m2⟩ := hf 2 _ rfl
  clear hf
  match cs, hl with
  | [c0, c1, c2], _ =>
    have g0 : DataW.trod enc Try.prog W base spare held n 40 [c0] = some y0 := by simpa [ce40] using h0
    replace m0 : M.ok 40 y0.1 := m0
    obtain ⟨s0, e0, w0⟩ := rd_int Try.underlying40 g0
    replace w0 := bounds_u64 w0
    simp only [List.cons.injEq, and_true] at e0
    subst e0
    have g1 : DataW.trod enc Try.prog W base spare held n 40 [c1] = some y1 := by simpa [ce40] using h1
    replace m1 : M.ok 40 y1.1 := m1
    obtain ⟨s1, e1, w1⟩ := rd_int Try.underlying40 g1
    replace w1 := bounds_u64 w1
    simp only [List.cons.injEq, and_true] at e1
    subst e1
    have g2 : DataW.trod enc Try.prog W base spare held n 41 [c2] = some y2 := by simpa [ce41] using h2
    replace m2 : M.ok 41 y2.1 := m2
    obtain ⟨b2, s2, e2, w2, z2⟩ := rd_slice M (R := EntR) (Z := EntZ M.L M.S) Try.underlying41 ce77 be77 (by decide) (fun _ _ _ hh hy => openEnt M hh hy) g2 m2
    simp only [List.cons.injEq, and_true] at e2
    subst e2
    exact ⟨⟨s0, s1, s2⟩, ⟨⟨_, rfl, w2⟩, w0, w1⟩, ⟨z2⟩⟩
end
end Go.Proofs.Ytjoaccnfnniahaa
