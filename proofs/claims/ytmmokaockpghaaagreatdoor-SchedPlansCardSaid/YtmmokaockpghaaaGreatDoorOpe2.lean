/- Walks of functions over a symbolic memory, printed by a program of the session. -/
import Derived.Test.YtmmokaockpghaaaGreatDoorOpen
import Derived.Test.YtmmokaockpghaaaGreatDoorSyK
import Derived.Test.YtmmokaockpghaaaGreatDoorBq
import Derived.Test.YtmmokaockpghaaaGreatDoorFacts
namespace Go.Proofs.YtmmokaockpghaaaGreatDoor
open Go.Sy
set_option linter.unusedSimpArgs false
set_option linter.unusedVariables false

theorem BndR.openMk {I : Imm} {a b : ByteArray} (h1 : StrOk a) (h2 : StrOk b) : BndR I [.string a, .string b] ⟨a, b⟩ := ⟨rfl, h1, h2⟩
section
variable {H : Type} {enc : TypeId × Value → H} {W : World} {base : Nat} {spare : Nat → Bool} {held : Bool} {fuel : Nat} {cs : List Value} {x : DataW H × List MemPlace}
set_option maxRecDepth 20000 in
theorem openBnd (M : Meas Tryz.prog H) (h : DataW.trod enc Tryz.prog W base spare held fuel 51 cs = some x) (hm : M.ok 51 x.1) : ∃ p, BndR (snap W) cs p ∧ BndZ M.L M.S p := by
  obtain ⟨n, hl, hf⟩ := rd_struct M Tryz.underlying51 h hm
  rw [ce51] at hl
  obtain ⟨y0, h0, m0⟩ := hf 0 _ rfl
  obtain ⟨y1, h1, m1⟩ := hf 1 _ rfl
  clear hf
  match cs, hl with
  | [c0, c1], _ =>
    have g0 : DataW.trod enc Tryz.prog W base spare held n 9 [c0] = some y0 := by simpa [ce9] using h0
    replace m0 : M.ok 9 y0.1 := m0
    obtain ⟨s0, e0, w0, z0⟩ := rd_str M Tryz.underlying9 g0 m0
    simp only [List.cons.injEq, and_true] at e0
    subst e0
    have g1 : DataW.trod enc Tryz.prog W base spare held n 9 [c1] = some y1 := by simpa [ce9] using h1
    replace m1 : M.ok 9 y1.1 := m1
    obtain ⟨s1, e1, w1, z1⟩ := rd_str M Tryz.underlying9 g1 m1
    simp only [List.cons.injEq, and_true] at e1
    subst e1
    exact ⟨⟨s0, s1⟩, BndR.openMk w0 w1, ⟨z0, z1⟩⟩
end
section
variable {H : Type} {enc : TypeId × Value → H} {W : World} {base : Nat} {spare : Nat → Bool} {held : Bool} {fuel : Nat} {cs : List Value} {x : DataW H × List MemPlace}
set_option maxRecDepth 20000 in
theorem openBk (M : Meas Tryz.prog H) (h : DataW.trod enc Tryz.prog W base spare held fuel 27 cs = some x) (hm : M.ok 27 x.1) : ∃ p, BkR (snap W) cs p ∧ BkZ M.L M.S p := by
  obtain ⟨n, hl, hf⟩ := rd_struct M Tryz.underlying27 h hm
  rw [ce27] at hl
  obtain ⟨y0, h0, m0⟩ := hf 0 _ rfl
  obtain ⟨y1, h1, m1⟩ := hf 1 _ rfl
  obtain ⟨y2, h2, m2⟩ := hf 2 _ rfl
  obtain ⟨y3, h3, m3⟩ := hf 3 _ rfl
  clear hf
  match cs, hl with
  | [c0, c1, c2, c3], _ =>
    have g0 : DataW.trod enc Tryz.prog W base spare held n 22 [c0] = some y0 := by simpa [ce22] using h0
    replace m0 : M.ok 22 y0.1 := m0
    obtain ⟨b0, s0, e0, w0, z0⟩ := rd_slice M (R := NodR) (Z := NodZ M.L M.S) Tryz.underlying22 ce45 be45 (by decide) (fun _ _ _ hh hy => openNod M hh hy) g0 m0
    simp only [List.cons.injEq, and_true] at e0
    subst e0
    have g1 : DataW.trod enc Tryz.prog W base spare held n 23 [c1] = some y1 := by simpa [ce23] using h1
    replace m1 : M.ok 23 y1.1 := m1
    obtain ⟨b1, s1, e1, w1, z1⟩ := rd_slice M (R := TskR) (Z := TskZ M.L M.S) Tryz.underlying23 ce42 be42 (by decide) (fun _ _ _ hh hy => openTsk M hh hy) g1 m1
    simp only [List.cons.injEq, and_true] at e1
    subst e1
    have g2 : DataW.trod enc Tryz.prog W base spare held n 24 [c2] = some y2 := by simpa [ce24] using h2
    replace m2 : M.ok 24 y2.1 := m2
    obtain ⟨b2, s2, e2, w2, z2⟩ := rd_slice M (R := BndR) (Z := BndZ M.L M.S) Tryz.underlying24 ce51 be51 (by decide) (fun _ _ _ hh hy => openBnd M hh hy) g2 m2
    simp only [List.cons.injEq, and_true] at e2
    subst e2
    have g3 : DataW.trod enc Tryz.prog W base spare held n 25 [c3] = some y3 := by simpa [ce25] using h3
    replace m3 : M.ok 25 y3.1 := m3
    obtain ⟨s3, e3, w3⟩ := rd_int Tryz.underlying25 g3
    replace w3 := bounds_u64 w3
    simp only [List.cons.injEq, and_true] at e3
    subst e3
    exact ⟨⟨s0, s1, s2, s3⟩, ⟨⟨_, _, _, rfl, w0, w1, w2⟩, w3⟩, ⟨z0, z1, z2⟩⟩
end
section
variable {H : Type} {enc : TypeId × Value → H} {W : World} {base : Nat} {spare : Nat → Bool} {held : Bool} {fuel : Nat} {cs : List Value} {x : DataW H × List MemPlace}
end
end Go.Proofs.YtmmokaockpghaaaGreatDoor
