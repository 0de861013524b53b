/- Walks of functions over a symbolic memory, printed by a program of the session. -/
import Derived.Test.YtajpakifkinadaaGreatDoorSyO
import Derived.Test.YtajpakifkinadaaGreatDoorFacts
namespace Go.Proofs.YtajpakifkinadaaGreatDoor
open Go.Sy
set_option linter.unusedSimpArgs false
set_option linter.unusedVariables false

section
variable {H : Type} {enc : TypeId × Value → H} {W : World} {base : Nat} {spare : Nat → Bool} {held : Bool} {fuel : Nat} {cs : List Value} {x : DataW H × List MemPlace}
set_option maxRecDepth 20000 in
theorem openPr (M : Meas Tryz.prog H) (h : DataW.trod enc Tryz.prog W base spare held fuel 45 cs = some x) (hm : M.ok 45 x.1) : ∃ p, PrR (snap W) cs p ∧ PrZ M.L M.S p := by
  obtain ⟨n, hl, hf⟩ := rd_struct M Tryz.underlying45 h hm
  rw [ce45] at hl
  obtain ⟨y0, h0, m0⟩ := hf 0 _ rfl
  obtain ⟨y1, h1, m1⟩ := hf 1 _ rfl
  clear hf
  match cs, hl with
  | [c0, c1], _ =>
    have g0 : DataW.trod enc Tryz.prog W base spare held n 9 [c0] = some y0 := by simpa [ce9] using h0
    replace m0 : M.ok 9 y0.1 := m0
    obtain ⟨s0, e0, w0, z0⟩ := rd_str M Tryz.underlying9 g0 m0
    simp only [List.cons.injEq, and_true] at e0
    subst e0
    have g1 : DataW.trod enc Tryz.prog W base spare held n 9 [c1] = some y1 := by simpa [ce9] using h1
    replace m1 : M.ok 9 y1.1 := m1
    obtain ⟨s1, e1, w1, z1⟩ := rd_str M Tryz.underlying9 g1 m1
    simp only [List.cons.injEq, and_true] at e1
    subst e1
    exact ⟨⟨s0, s1⟩, ⟨rfl, w0, w1⟩, ⟨z0, z1⟩⟩
end
section
variable {H : Type} {enc : TypeId × Value → H} {W : World} {base : Nat} {spare : Nat → Bool} {held : Bool} {fuel : Nat} {cs : List Value} {x : DataW H × List MemPlace}
set_option maxRecDepth 20000 in
theorem openTsk (M : Meas Tryz.prog H) (h : DataW.trod enc Tryz.prog W base spare held fuel 34 cs = some x) (hm : M.ok 34 x.1) : ∃ p, TskR (snap W) cs p ∧ TskZ M.L M.S p := by
  obtain ⟨n, hl, hf⟩ := rd_struct M Tryz.underlying34 h hm
  rw [ce34] at hl
  obtain ⟨y0, h0, m0⟩ := hf 0 _ rfl
  obtain ⟨y1, h1, m1⟩ := hf 1 _ rfl
  obtain ⟨y2, h2, m2⟩ := hf 2 _ rfl
  obtain ⟨y3, h3, m3⟩ := hf 3 _ rfl
  obtain ⟨y4, h4, m4⟩ := hf 4 _ rfl
  obtain ⟨y5, h5, m5⟩ := hf 5 _ rfl
  obtain ⟨y6, h6, m6⟩ := hf 6 _ rfl
  clear hf
  match cs, hl with
  | [c0, c1, c2, c3, c4, c5, c6, c7, c8], _ =>
    have g0 : DataW.trod enc Tryz.prog W base spare held n 9 [c0] = some y0 := by simpa [ce9] using h0
    replace m0 : M.ok 9 y0.1 := m0
    obtain ⟨s0, e0, w0, z0⟩ := rd_str M Tryz.underlying9 g0 m0
    simp only [List.cons.injEq, and_true] at e0
    subst e0
    have g1 : DataW.trod enc Tryz.prog W base spare held n 29 [c1, c2, c3] = some y1 := by simpa [ce29] using h1
    replace m1 : M.ok 29 y1.1 := m1
    obtain ⟨s1, e1, w1⟩ := rd_a3 Tryz.underlying29 Tryz.underlying2 ce29 ce2 g1
    simp only [A3.cells, List.cons.injEq, and_true] at e1
    obtain ⟨rfl, rfl, rfl⟩ := e1
    have g2 : DataW.trod enc Tryz.prog W base spare held n 30 [c4] = some y2 := by simpa [ce30] using h2
    replace m2 : M.ok 30 y2.1 := m2
    obtain ⟨b2, s2, e2, w2, z2⟩ := rd_slice M (R := PrR) (Z := PrZ M.L M.S) Tryz.underlying30 ce45 be45 (by decide) (fun _ _ _ hh hy => openPr M hh hy) g2 m2
    simp only [List.cons.injEq, and_true] at e2
    subst e2
    have g3 : DataW.trod enc Tryz.prog W base spare held n 30 [c5] = some y3 := by simpa [ce30] using h3
    replace m3 : M.ok 30 y3.1 := m3
    obtain ⟨b3, s3, e3, w3, z3⟩ := rd_slice M (R := PrR) (Z := PrZ M.L M.S) Tryz.underlying30 ce45 be45 (by decide) (fun _ _ _ hh hy => openPr M hh hy) g3 m3
    simp only [List.cons.injEq, and_true] at e3
    subst e3
    have g4 : DataW.trod enc Tryz.prog W base spare held n 9 [c6] = some y4 := by simpa [ce9] using h4
    replace m4 : M.ok 9 y4.1 := m4
    obtain ⟨s4, e4, w4, z4⟩ := rd_str M Tryz.underlying9 g4 m4
    simp only [List.cons.injEq, and_true] at e4
    subst e4
    have g5 : DataW.trod enc Tryz.prog W base spare held n 9 [c7] = some y5 := by simpa [ce9] using h5
    replace m5 : M.ok 9 y5.1 := m5
    obtain ⟨s5, e5, w5, z5⟩ := rd_str M Tryz.underlying9 g5 m5
    simp only [List.cons.injEq, and_true] at e5
    subst e5
    have g6 : DataW.trod enc Tryz.prog W base spare held n 3 [c8] = some y6 := by simpa [ce3] using h6
    replace m6 : M.ok 3 y6.1 := m6
    obtain ⟨s6, e6, w6⟩ := rd_int Tryz.underlying3 g6
    replace w6 := bounds_i64 w6
    simp only [List.cons.injEq, and_true] at e6
    subst e6
    exact ⟨⟨s0, s1, s2, s3, s4, s5, s6⟩, ⟨⟨_, _, rfl, w2, w3⟩, w0, w1, w4, w5, w6⟩, ⟨z0, z2, z3, z4, z5⟩⟩
end
section
variable {H : Type} {enc : TypeId × Value → H} {W : World} {base : Nat} {spare : Nat → Bool} {held : Bool} {fuel : Nat} {cs : List Value} {x : DataW H × List MemPlace}
set_option maxRecDepth 20000 in
theorem openNod (M : Meas Tryz.prog H) (h : DataW.trod enc Tryz.prog W base spare held fuel 32 cs = some x) (hm : M.ok 32 x.1) : ∃ p, NodR (snap W) cs p ∧ NodZ M.L M.S p := by
  obtain ⟨n, hl, hf⟩ := rd_struct M Tryz.underlying32 h hm
  rw [ce32] at hl
  obtain ⟨y0, h0, m0⟩ := hf 0 _ rfl
  obtain ⟨y1, h1, m1⟩ := hf 1 _ rfl
  obtain ⟨y2, h2, m2⟩ := hf 2 _ rfl
  obtain ⟨y3, h3, m3⟩ := hf 3 _ rfl
  clear hf
  match cs, hl with
  | [c0, c1, c2, c3, c4, c5], _ =>
    have g0 : DataW.trod enc Tryz.prog W base spare held n 9 [c0] = some y0 := by simpa [ce9] using h0
    replace m0 : M.ok 9 y0.1 := m0
    obtain ⟨s0, e0, w0, z0⟩ := rd_str M Tryz.underlying9 g0 m0
    simp only [List.cons.injEq, and_true] at e0
    subst e0
    have g1 : DataW.trod enc Tryz.prog W base spare held n 29 [c1, c2, c3] = some y1 := by simpa [ce29] using h1
    replace m1 : M.ok 29 y1.1 := m1
    obtain ⟨s1, e1, w1⟩ := rd_a3 Tryz.underlying29 Tryz.underlying2 ce29 ce2 g1
    simp only [A3.cells, List.cons.injEq, and_true] at e1
    obtain ⟨rfl, rfl, rfl⟩ := e1
    have g2 : DataW.trod enc Tryz.prog W base spare held n 30 [c4] = some y2 := by simpa [ce30] using h2
    replace m2 : M.ok 30 y2.1 := m2
    obtain ⟨b2, s2, e2, w2, z2⟩ := rd_slice M (R := PrR) (Z := PrZ M.L M.S) Tryz.underlying30 ce45 be45 (by decide) (fun _ _ _ hh hy => openPr M hh hy) g2 m2
    simp only [List.cons.injEq, and_true] at e2
    subst e2
    have g3 : DataW.trod enc Tryz.prog W base spare held n 30 [c5] = some y3 := by simpa [ce30] using h3
    replace m3 : M.ok 30 y3.1 := m3
    obtain ⟨b3, s3, e3, w3, z3⟩ := rd_slice M (R := PrR) (Z := PrZ M.L M.S) Tryz.underlying30 ce45 be45 (by decide) (fun _ _ _ hh hy => openPr M hh hy) g3 m3
    simp only [List.cons.injEq, and_true] at e3
    subst e3
    exact ⟨⟨s0, s1, s2, s3⟩, ⟨⟨_, _, rfl, w2, w3⟩, w0, w1⟩, ⟨z0, z2, z3⟩⟩
end
end Go.Proofs.YtajpakifkinadaaGreatDoor
