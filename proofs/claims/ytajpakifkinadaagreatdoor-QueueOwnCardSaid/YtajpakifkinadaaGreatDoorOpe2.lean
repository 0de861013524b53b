/- Walks of functions over a symbolic memory, printed by a program of the session. -/
import Derived.Test.YtajpakifkinadaaGreatDoorOpen
import Derived.Test.YtajpakifkinadaaGreatDoorSyK
import Derived.Test.YtajpakifkinadaaGreatDoorBq
import Derived.Test.YtajpakifkinadaaGreatDoorFact2
namespace Go.Proofs.YtajpakifkinadaaGreatDoor
open Go.Sy
set_option linter.unusedSimpArgs false
set_option linter.unusedVariables false

theorem BndR.openMk {I : Imm} {a b : ByteArray} (h1 : StrOk a) (h2 : StrOk b) : BndR I [.string a, .string b] ⟨a, b⟩ := ⟨rfl, h1, h2⟩
theorem ordrMk {I : Imm} {k f : Int} {nm on : ByteArray} {n : Nod} {t : Tsk} {nc tc : List Value} (hk : U8 k) (hn : NodR I nc n) (ht : TskR I tc t) (h1 : StrOk nm) (h2 : StrOk on) (hf : U64 f) : OrdrR I (.int .u8 k :: (nc ++ (tc ++ [.string nm, .string on, .int .u64 f]))) ⟨k, n, t, nm, on, f⟩ := by
  have hn0 := hn
  have ht0 := ht
  obtain ⟨lv, tv, rfl, a1, a2⟩ := hn.ex
  obtain ⟨wv, bv, rfl, a3, a4⟩ := ht.ex
  exact ⟨⟨lv, tv, wv, bv, rfl, hn0, a1, a2, ht0, a3, a4⟩, hk, h1, h2, hf⟩
theorem ordS_of {o : Ordr} (h : OrdrZ (fun b n => n * b ≤ reachBytes) (fun n => n ≤ reachBytes) o) : OrdS o := by
  have h1 := h.task.name; have h2 := h.task.group; have h3 := h.task.apart; have h4 := h.name; have h5 := h.on
  have hr : reachBytes ≤ 281474976710656 := by decide
  unfold OrdS TskS
  omega
theorem tskS_of {t : Tsk} (h : TskZ (fun b n => n * b ≤ reachBytes) (fun n => n ≤ reachBytes) t) : TskS t := by
  have h1 := h.name; have h2 := h.group; have h3 := h.apart
  have hr : reachBytes ≤ 281474976710656 := by decide
  unfold TskS
  omega
theorem strS_of {a b : ByteArray} (h : a.size ≤ reachBytes) (h2 : b.size ≤ reachBytes) : a.size + b.size ≤ 9223372036854775807 := by
  have hr : reachBytes ≤ 281474976710656 := by decide
  omega

section
variable {H : Type} {enc : TypeId × Value → H} {W : World} {base : Nat} {spare : Nat → Bool} {held : Bool} {fuel : Nat} {cs : List Value} {x : DataW H × List MemPlace}
set_option maxRecDepth 20000 in
theorem openBnd (M : Meas Tryz.prog H) (h : DataW.trod enc Tryz.prog W base spare held fuel 47 cs = some x) (hm : M.ok 47 x.1) : ∃ p, BndR (snap W) cs p ∧ BndZ M.L M.S p := by
  obtain ⟨n, hl, hf⟩ := rd_struct M Tryz.underlying47 h hm
  rw [ce47] at hl
  obtain ⟨y0, h0, m0⟩ := hf 0 _ rfl
  obtain ⟨y1, h1, m1⟩ := hf 1 _ rfl
  clear hf
  match cs, hl with
  | [c0, c1], _ =>
    have g0 : DataW.trod enc Tryz.prog W base spare held n 9 [c0] = some y0 := by simpa [ce9] using h0
    replace m0 : M.ok 9 y0.1 := m0
    obtain ⟨s0, e0, w0, z0⟩ := rd_str M Tryz.underlying9 g0 m0
    simp only [List.cons.injEq, and_true] at e0
    subst e0
    have g1 : DataW.trod enc Tryz.prog W base spare held n 9 [c1] = some y1 := by simpa [ce9] using h1
    replace m1 : M.ok 9 y1.1 := m1
    obtain ⟨s1, e1, w1, z1⟩ := rd_str M Tryz.underlying9 g1 m1
    simp only [List.cons.injEq, and_true] at e1
    subst e1
    exact ⟨⟨s0, s1⟩, BndR.openMk w0 w1, ⟨z0, z1⟩⟩
end
section
variable {H : Type} {enc : TypeId × Value → H} {W : World} {base : Nat} {spare : Nat → Bool} {held : Bool} {fuel : Nat} {cs : List Value} {x : DataW H × List MemPlace}
set_option maxRecDepth 20000 in
theorem openBk (M : Meas Tryz.prog H) (h : DataW.trod enc Tryz.prog W base spare held fuel 27 cs = some x) (hm : M.ok 27 x.1) : ∃ p, BkR (snap W) cs p ∧ BkZ M.L M.S p := by
  obtain ⟨n, hl, hf⟩ := rd_struct M Tryz.underlying27 h hm
  rw [ce27] at hl
  obtain ⟨y0, h0, m0⟩ := hf 0 _ rfl
  obtain ⟨y1, h1, m1⟩ := hf 1 _ rfl
  obtain ⟨y2, h2, m2⟩ := hf 2 _ rfl
  obtain ⟨y3, h3, m3⟩ := hf 3 _ rfl
  clear hf
  match cs, hl with
  | [c0, c1, c2, c3], _ =>
    have g0 : DataW.trod enc Tryz.prog W base spare held n 22 [c0] = some y0 := by simpa [ce22] using h0
    replace m0 : M.ok 22 y0.1 := m0
    obtain ⟨b0, s0, e0, w0, z0⟩ := rd_slice M (R := NodR) (Z := NodZ M.L M.S) Tryz.underlying22 ce32 be32 (by decide) (fun _ _ _ hh hy => openNod M hh hy) g0 m0
    simp only [List.cons.injEq, and_true] at e0
    subst e0
    have g1 : DataW.trod enc Tryz.prog W base spare held n 23 [c1] = some y1 := by simpa [ce23] using h1
    replace m1 : M.ok 23 y1.1 := m1
    obtain ⟨b1, s1, e1, w1, z1⟩ := rd_slice M (R := TskR) (Z := TskZ M.L M.S) Tryz.underlying23 ce34 be34 (by decide) (fun _ _ _ hh hy => openTsk M hh hy) g1 m1
    simp only [List.cons.injEq, and_true] at e1
    subst e1
    have g2 : DataW.trod enc Tryz.prog W base spare held n 24 [c2] = some y2 := by simpa [ce24] using h2
    replace m2 : M.ok 24 y2.1 := m2
    obtain ⟨b2, s2, e2, w2, z2⟩ := rd_slice M (R := BndR) (Z := BndZ M.L M.S) Tryz.underlying24 ce47 be47 (by decide) (fun _ _ _ hh hy => openBnd M hh hy) g2 m2
    simp only [List.cons.injEq, and_true] at e2
    subst e2
    have g3 : DataW.trod enc Tryz.prog W base spare held n 25 [c3] = some y3 := by simpa [ce25] using h3
    replace m3 : M.ok 25 y3.1 := m3
    obtain ⟨s3, e3, w3⟩ := rd_int Tryz.underlying25 g3
    replace w3 := bounds_u64 w3
    simp only [List.cons.injEq, and_true] at e3
    subst e3
    exact ⟨⟨s0, s1, s2, s3⟩, ⟨⟨_, _, _, rfl, w0, w1, w2⟩, w3⟩, ⟨z0, z1, z2⟩⟩
end
section
variable {H : Type} {enc : TypeId × Value → H} {W : World} {base : Nat} {spare : Nat → Bool} {held : Bool} {fuel : Nat} {cs : List Value} {x : DataW H × List MemPlace}
set_option maxRecDepth 20000 in
theorem openOrd (M : Meas Tryz.prog H) (h : DataW.trod enc Tryz.prog W base spare held fuel 36 cs = some x) (hm : M.ok 36 x.1) : ∃ p, OrdrR (snap W) cs p ∧ OrdrZ M.L M.S p := by
  obtain ⟨n, hl, hf⟩ := rd_struct M Tryz.underlying36 h hm
  rw [ce36] at hl
  obtain ⟨y0, h0, m0⟩ := hf 0 _ rfl
  obtain ⟨y1, h1, m1⟩ := hf 1 _ rfl
  obtain ⟨y2, h2, m2⟩ := hf 2 _ rfl
  obtain ⟨y3, h3, m3⟩ := hf 3 _ rfl
  obtain ⟨y4, h4, m4⟩ := hf 4 _ rfl
  obtain ⟨y5, h5, m5⟩ := hf 5 _ rfl
  clear hf
  match cs, hl with
  | [c0, c1, c2, c3, c4, c5, c6, c7, c8, c9, c10, c11, c12, c13, c14, c15, c16, c17, c18], _ =>
    have g0 : DataW.trod enc Tryz.prog W base spare held n 28 [c0] = some y0 := by simpa [ce28] using h0
    replace m0 : M.ok 28 y0.1 := m0
    obtain ⟨s0, e0, w0⟩ := rd_int Tryz.underlying28 g0
    replace w0 := bounds_u8 w0
    simp only [List.cons.injEq, and_true] at e0
    subst e0
    have g1 : DataW.trod enc Tryz.prog W base spare held n 32 [c1, c2, c3, c4, c5, c6] = some y1 := by simpa [ce32] using h1
    replace m1 : M.ok 32 y1.1 := m1
    obtain ⟨s1, w1, z1⟩ := openNod M g1 m1
    have g2 : DataW.trod enc Tryz.prog W base spare held n 34 [c7, c8, c9, c10, c11, c12, c13, c14, c15] = some y2 := by simpa [ce34] using h2
    replace m2 : M.ok 34 y2.1 := m2
    obtain ⟨s2, w2, z2⟩ := openTsk M g2 m2
    have g3 : DataW.trod enc Tryz.prog W base spare held n 9 [c16] = some y3 := by simpa [ce9] using h3
    replace m3 : M.ok 9 y3.1 := m3
    obtain ⟨s3, e3, w3, z3⟩ := rd_str M Tryz.underlying9 g3 m3
    simp only [List.cons.injEq, and_true] at e3
    subst e3
    have g4 : DataW.trod enc Tryz.prog W base spare held n 9 [c17] = some y4 := by simpa [ce9] using h4
    replace m4 : M.ok 9 y4.1 := m4
    obtain ⟨s4, e4, w4, z4⟩ := rd_str M Tryz.underlying9 g4 m4
    simp only [List.cons.injEq, and_true] at e4
    subst e4
    have g5 : DataW.trod enc Tryz.prog W base spare held n 25 [c18] = some y5 := by simpa [ce25] using h5
    replace m5 : M.ok 25 y5.1 := m5
    obtain ⟨s5, e5, w5⟩ := rd_int Tryz.underlying25 g5
    replace w5 := bounds_u64 w5
    simp only [List.cons.injEq, and_true] at e5
    subst e5
    exact ⟨⟨s0, s1, s2, s3, s4, s5⟩, ordrMk w0 w1 w2 w3 w4 w5, ⟨z1, z2, z3, z4⟩⟩
end
end Go.Proofs.YtajpakifkinadaaGreatDoor
