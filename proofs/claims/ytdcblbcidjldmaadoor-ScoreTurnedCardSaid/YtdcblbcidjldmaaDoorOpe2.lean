/- Walks of functions over a symbolic memory, printed by a program of the session. -/
import Derived.Test.YtdcblbcidjldmaaDoorOpen
namespace Go.Proofs.YtdcblbcidjldmaaDoor
open Go.Sy
set_option linter.unusedSimpArgs false
set_option linter.unusedVariables false

theorem lodMk {I : Imm} {nc : List Value} {n : Nod} {u : A3} (h : NodR I nc n) (hu : u.ok) : LodR I (nc ++ [.int .i64 u.a, .int .i64 u.b, .int .i64 u.c]) ⟨n, u⟩ := by
  obtain ⟨lv, tv, rfl, h1, h2⟩ := h.ex
  exact ⟨⟨_, _, rfl, h1, h2⟩, h.name, h.has, hu⟩

section
variable {H : Type} {enc : TypeId × Value → H} {W : World} {base : Nat} {spare : Nat → Bool} {held : Bool} {fuel : Nat} {cs : List Value} {x : DataW H × List MemPlace}
theorem openLod (M : Meas Tryd.prog H) (h : DataW.trod enc Tryd.prog W base spare held fuel 29 cs = some x) (hm : M.ok 29 x.1) : ∃ p, LodR (snap W) cs p ∧ LodZ M.L M.S p := by
  obtain ⟨n, hl, hf⟩ := rd_struct M Tryd.underlying29 h hm
  rw [ce29] at hl
  obtain ⟨y0, h0, m0⟩ := hf 0 _ rfl
  obtain ⟨y1, h1, m1⟩ := hf 1 _ rfl
  clear hf
  match cs, hl with
  | [c0, c1, c2, c3, c4, c5, c6, c7, c8], _ =>
    have g0 : DataW.trod enc Tryd.prog W base spare held n 27 [c0, c1, c2, c3, c4, c5] = some y0 := by simpa [ce27] using h0
    replace m0 : M.ok 27 y0.1 := m0
    obtain ⟨s0, w0, z0⟩ := openNod M g0 m0
    have g1 : DataW.trod enc Tryd.prog W base spare held n 22 [c6, c7, c8] = some y1 := by simpa [ce22] using h1
    replace m1 : M.ok 22 y1.1 := m1
    obtain ⟨s1, e1, w1⟩ := rd_a3 Tryd.underlying22 Tryd.underlying2 ce22 ce2 g1
    simp only [A3.cells, List.cons.injEq, and_true] at e1
    obtain ⟨rfl, rfl, rfl⟩ := e1
    exact ⟨⟨s0, s1⟩, lodMk w0 w1, ⟨z0⟩⟩
end
end Go.Proofs.YtdcblbcidjldmaaDoor
