/- For every input the call of gaffer/gafferlaw14.LogOwn returns true and leaves each argument as it read; no condition. -/
import Derived.Test.YteajcmnbjpbnpaaRows
import Derived.Test.YteajcmnbjpbnpaaOpen
import Derived.Test.YteajcmnbjpbnpaaLv
import Derived.JoinedCond
import Derived.Test.YteajcmnbjpbnpaaSyU
namespace Go.Proofs.Yteajcmnbjpbnpaa.LawLogOwn
open Go.Sy
open Go.ChangeShapes Go.WideShapes Go.ChangeAt Go.RowKit
open Go.ChangeMaps (open_string shut_string)
set_option linter.unusedVariables false
set_option linter.unusedSimpArgs false
theorem own : ownKnob Try.prog.godebug = none := by kernel_rfl
theorem laidOut : laidOutB Try.prog = true := by kernel_rfl
set_option maxRecDepth 100000 in
theorem contract (H : Type) (enc : TypeId × Value → H) (W : World) (base : Nat) (args : Array Value) (ds gs : List (DataW H)) (before : List MemPlace)
    (hval0 : ∀ (j : Nat) t v, Try.f6.params[j]? = some t → args[j]? = some v → Value.okWide Try.prog W .any base t v)
    (hW : DataW.Whole enc Try.prog Try.f6.params.toList Rows.logOwnSpec.vars false W args.toList ds gs before)
    (hcond0 : Rows.uptoSmall H (ds ++ gs) = true) :
    Calls Try.prog 6 args W fun e W' => ∃ v, e = .returned v ∧ Rows.logOwnSpec.post enc Try.prog Try.f6 false true false false W args v W' := by
  have hval : ∀ (j : Nat) t v, Try.f6.params[j]? = some t → args[j]? = some v → Value.okWide Try.prog W .any base t v := hval0
  have hW' := hW
  obtain ⟨p, q, hA0, hV, rfl, hfz, hnd⟩ := hW
  have hA : DataW.TrodAll enc Try.prog W 0 (fun _ => true) true Try.f6.params.toList args.toList ds p := hA0
  rw [Try.params6] at hA hval
  obtain ⟨v0, vs0, d0, ds0, p0, q0, hargs, rfl, rfl, h0, r0⟩ := trodAll_cons hA
  obtain ⟨v1, vs1, d1, ds1, p1, q1, rfl, rfl, rfl, h1, r1⟩ := trodAll_cons r0
  obtain ⟨v2, vs2, d2, ds2, p2, q2, rfl, rfl, rfl, h2, r2⟩ := trodAll_cons r1
  obtain ⟨v3, vs3, d3, ds3, p3, q3, rfl, rfl, rfl, h3, r3⟩ := trodAll_cons r2
  obtain ⟨rfl, rfl, rfl⟩ := trodAll_nil r3
  obtain rfl : args = #[v0, v1, v2, v3] := by cases args; simp_all
  obtain ⟨rfl, rfl⟩ := trodVars_none hV
  have k0 := h0
  have lt0 : ∀ x ∈ p0, x.block < W.heap.size := by obtain ⟨m, hm⟩ := k0; exact DataW.trod_lt m _ _ _ hm
  obtain ⟨fu0, hf0⟩ := h0
  obtain ⟨cs0, rfl⟩ := wide_agg (.inl ⟨_, Try.underlying25⟩) (hval 0 25 v0 rfl rfl)
  obtain ⟨a0, ha0, hz0⟩ := openLg (cs := cs0) (Meas.upto Try.prog H) hf0 (upto_of (j := 0) hcond0 rfl)
  have k1 := h1
  have lt1 : ∀ x ∈ p1, x.block < W.heap.size := by obtain ⟨m, hm⟩ := k1; exact DataW.trod_lt m _ _ _ hm
  obtain ⟨fu1, hf1⟩ := h1
  have one1 : Go.Sy.one v1 := by
    obtain ⟨_, rfl⟩ := okWide_int Try.underlying22 (hval 1 22 v1 rfl rfl)
    trivial
  rw [cells_one one1] at hf1
  obtain ⟨a1, e1, ha1⟩ := rd_int Try.underlying22 hf1
  replace ha1 := bounds_u64 ha1
  simp only [List.cons.injEq, and_true] at e1
  subst e1
  have k2 := h2
  have lt2 : ∀ x ∈ p2, x.block < W.heap.size := by obtain ⟨m, hm⟩ := k2; exact DataW.trod_lt m _ _ _ hm
  obtain ⟨fu2, hf2⟩ := h2
  have one2 : Go.Sy.one v2 := by
    obtain ⟨_, rfl⟩ := okWide_int Try.underlying22 (hval 2 22 v2 rfl rfl)
    trivial
  rw [cells_one one2] at hf2
  obtain ⟨a2, e2, ha2⟩ := rd_int Try.underlying22 hf2
  replace ha2 := bounds_u64 ha2
  simp only [List.cons.injEq, and_true] at e2
  subst e2
  have k3 := h3
  have lt3 : ∀ x ∈ p3, x.block < W.heap.size := by obtain ⟨m, hm⟩ := k3; exact DataW.trod_lt m _ _ _ hm
  obtain ⟨fu3, hf3⟩ := h3
  have one3 : Go.Sy.one v3 := by
    obtain ⟨_, _, _, rfl⟩ := okWide_slice Try.underlying23 (hval 3 23 v3 rfl rfl)
    trivial
  rw [cells_one one3] at hf3
  obtain ⟨b3, a3, e3, ha3, hz3⟩ := rd_slice (Meas.upto Try.prog H) (R := EntR) (Z := EntZ (Meas.upto Try.prog H).L (Meas.upto Try.prog H).S) Try.underlying23 ce41 be41 (by decide) (fun _ _ _ hh hy => openEnt (Meas.upto Try.prog H) hh hy) hf3 (upto_of (j := 3) hcond0 rfl)
  simp only [List.cons.injEq, and_true] at e3
  subst e3
  have hrun := (LogOwn_ok (I := snap W) (O := []) ha0 ha3 ha1 ha2 (by have := hz0.ents.1; dsimp only [Meas.upto] at this; omega) (fun e he => by have := ((hz0.ents.2 e he).members.1); dsimp only [Meas.upto] at this; omega) (by have := hz3.1; dsimp only [Meas.upto] at this; omega) (fun e he => by have := ((hz3.2 e he).members.1); dsimp only [Meas.upto] at this; omega) (by have h1 := hz0.ents.1; have h2 := hz3.1; dsimp only [Meas.upto] at h1 h2; omega)) W (sat_snap W)
  refine hrun.mono fun e W' ⟨v, I', O', he, hI, hs, hv, hI2, hO⟩ => ?_
  subst he hv hO
  have bel := below_of_sat hs hI
  exact ⟨_, rfl, _, _, _, [], _, [], hW', trodAll_mk1 (shut_bool Try.underlying4 _), (trodAll_cons_mk (Below.trod laidOut (by kernel_rfl) (of_decide_eq_true (by kernel_rfl)) k0 bel lt0) (trodAll_cons_mk (Below.trod laidOut (by kernel_rfl) (of_decide_eq_true (by kernel_rfl)) k1 bel lt1) (trodAll_cons_mk (Below.trod laidOut (by kernel_rfl) (of_decide_eq_true (by kernel_rfl)) k2 bel lt2) (trodAll_cons_mk (Below.trod laidOut (by kernel_rfl) (of_decide_eq_true (by kernel_rfl)) k3 bel lt3) trodAll_mk0)))), rfl, bel.frame _, fun h => by cases h⟩
set_option maxRecDepth 100000 in
theorem lifted (os : Os) (started : os.Started) (H : Type) (enc : TypeId × Value → H) (F : Stop.Interp) :
    ReturnsInHanded {} Try.checked os 6 .any ((Rows.OpenSpec.upto Rows.logOwnSpec).pre6 enc Try.prog Try.f6 Rows.logOwnUptoRow.domain false) (((Rows.OpenSpec.upto Rows.logOwnSpec).at F).post enc Try.prog Try.f6 false true false false) := by
  refine returnsInHanded_of_cond (C := Try.checked) (s := Rows.OpenSpec.upto Rows.logOwnSpec) (k := Rows.uptoSmall) rfl own started (by kernel_rfl) Try.func6
    (OpenSpec.witness (enc := enc) (C := Try.checked) (s := Rows.OpenSpec.upto Rows.logOwnSpec) (k := Rows.uptoSmall) rfl false ⟨#[], #[.agg #[.int .u64 0, .int .u64 0, .slice none 0 0], .int .u64 0, .int .u64 0, .slice none 0 0], []⟩ 8 (by kernel_rfl) (by kernel_rfl) (by kernel_rfl)
      (x := ([.agg [.lit (.int .u64 0), .lit (.int .u64 0), .nil], .lit (.int .u64 0), .lit (.int .u64 0), .nil], [], [])) (by kernel_rfl) rfl (by kernel_rfl)) ?_
  intro W base args ds gs before hval hW _ hk _
  exact contract H enc W base args ds gs before hval hW hk
theorem over : Rows.logOwnUptoRow.holds Try.pinned (Rows.OpenSpec.upto Rows.logOwnSpec) :=
  OpenClaim.holds_of_cond 6 Try.f6 rfl rfl rfl rfl rfl rfl rfl ⟨rfl, rfl, rfl, rfl, rfl⟩ rfl rfl rfl rfl rfl (by kernel_rfl) Try.func6 (by kernel_rfl)
    (of_decide_eq_true (by kernel_rfl)) (by unfold Func.isWrapper; first | (rw [if_pos (by decide +kernel)]; kernel_rfl) | (rw [if_neg (by decide +kernel)]; exact ⟨rfl, rfl⟩))
    (fun os started H enc _ F => lifted os started H enc F)
end Go.Proofs.Yteajcmnbjpbnpaa.LawLogOwn
namespace Go.Proofs.Yteajcmnbjpbnpaa
theorem logOwn_holds : Rows.LogOwnUptoSaid := LawLogOwn.over
#print axioms logOwn_holds
end Go.Proofs.Yteajcmnbjpbnpaa
