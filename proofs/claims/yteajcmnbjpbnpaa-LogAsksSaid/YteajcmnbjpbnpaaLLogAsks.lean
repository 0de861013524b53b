/- For every input the call of gaffer/gafferlaw14.LogAsks returns true and leaves each argument as it read; no condition. -/
import Derived.Test.YteajcmnbjpbnpaaRows
import Derived.Test.YteajcmnbjpbnpaaOpen
import Derived.Test.YteajcmnbjpbnpaaLx
namespace Go.Proofs.Yteajcmnbjpbnpaa.LawLogAsks
open Go.Sy
open Go.ChangeShapes Go.WideShapes Go.ChangeAt Go.RowKit
open Go.ChangeMaps (open_string shut_string)
set_option linter.unusedVariables false
set_option linter.unusedSimpArgs false
theorem own : ownKnob Try.prog.godebug = none := by kernel_rfl
theorem laidOut : laidOutB Try.prog = true := by kernel_rfl
set_option maxRecDepth 100000 in
theorem lifted (os : Os) (started : os.Started) (H : Type) (enc : TypeId × Value → H) :
    ReturnsInHanded {} Try.checked os 8 .any (Rows.logAsksSpec.pre6 enc Try.prog Try.f8 Rows.logAsksRow.domain false) (Rows.logAsksSpec.post enc Try.prog Try.f8 false true false false) := by
  refine returnsInHanded_of_change_sized (C := Try.checked) own started (by kernel_rfl) Try.func8
    (ChangeSpec.witness6 (enc := enc) (C := Try.checked) false ⟨#[], #[.agg #[.int .u64 0, .int .u64 0, .slice none 0 0], .int .u64 0, .int .u64 0, .int .i64 0, .slice none 0 0], []⟩ 8 (by kernel_rfl) (by kernel_rfl) (by kernel_rfl) (by kernel_rfl)) ?_
  intro W base args ds gs before hval0 hW hcnd hsz0 _
  have hsz : (DataW.weightsEach Try.prog (Try.f8.params.toList ++ Rows.logAsksSpec.plain.varTypes Try.prog) (ds ++ gs)).all (· ≤ reachBytes) = true := hsz0
  have hval : ∀ (j : Nat) t v, Try.f8.params[j]? = some t → args[j]? = some v → Value.okWide Try.prog W .any base t v := hval0
  have hW' := hW
  obtain ⟨p, q, hA0, hV, rfl, hfz, hnd⟩ := hW
  have hA : DataW.TrodAll enc Try.prog W 0 (fun _ => true) true Try.f8.params.toList args.toList ds p := hA0
  rw [Try.params8] at hA hval hsz
  obtain ⟨v0, vs0, d0, ds0, p0, q0, hargs, rfl, rfl, h0, r0⟩ := trodAll_cons hA
  obtain ⟨v1, vs1, d1, ds1, p1, q1, rfl, rfl, rfl, h1, r1⟩ := trodAll_cons r0
  obtain ⟨v2, vs2, d2, ds2, p2, q2, rfl, rfl, rfl, h2, r2⟩ := trodAll_cons r1
  obtain ⟨v3, vs3, d3, ds3, p3, q3, rfl, rfl, rfl, h3, r3⟩ := trodAll_cons r2
  obtain ⟨v4, vs4, d4, ds4, p4, q4, rfl, rfl, rfl, h4, r4⟩ := trodAll_cons r3
  obtain ⟨rfl, rfl, rfl⟩ := trodAll_nil r4
  obtain rfl : args = #[v0, v1, v2, v3, v4] := by cases args; simp_all
  obtain ⟨rfl, rfl⟩ := trodVars_none hV
  have k0 := h0
  have lt0 : ∀ x ∈ p0, x.block < W.heap.size := by obtain ⟨m, hm⟩ := k0; exact DataW.trod_lt m _ _ _ hm
  obtain ⟨fu0, hf0⟩ := h0
  obtain ⟨cs0, rfl⟩ := wide_agg (.inl ⟨_, Try.underlying25⟩) (hval 0 25 v0 rfl rfl)
  obtain ⟨a0, ha0, hz0⟩ := openLg (cs := cs0) (Meas.said Try.prog H) hf0 (said_of (j := 0) hsz rfl rfl)
  have k1 := h1
  have lt1 : ∀ x ∈ p1, x.block < W.heap.size := by obtain ⟨m, hm⟩ := k1; exact DataW.trod_lt m _ _ _ hm
  obtain ⟨fu1, hf1⟩ := h1
  have one1 : Go.Sy.one v1 := by
    obtain ⟨_, rfl⟩ := okWide_int Try.underlying22 (hval 1 22 v1 rfl rfl)
    trivial
  rw [cells_one one1] at hf1
  obtain ⟨a1, e1, ha1⟩ := rd_int Try.underlying22 hf1
  replace ha1 := bounds_u64 ha1
  simp only [List.cons.injEq, and_true] at e1
  subst e1
  have k2 := h2
  have lt2 : ∀ x ∈ p2, x.block < W.heap.size := by obtain ⟨m, hm⟩ := k2; exact DataW.trod_lt m _ _ _ hm
  obtain ⟨fu2, hf2⟩ := h2
  have one2 : Go.Sy.one v2 := by
    obtain ⟨_, rfl⟩ := okWide_int Try.underlying22 (hval 2 22 v2 rfl rfl)
    trivial
  rw [cells_one one2] at hf2
  obtain ⟨a2, e2, ha2⟩ := rd_int Try.underlying22 hf2
  replace ha2 := bounds_u64 ha2
  simp only [List.cons.injEq, and_true] at e2
  subst e2
  have k3 := h3
  have lt3 : ∀ x ∈ p3, x.block < W.heap.size := by obtain ⟨m, hm⟩ := k3; exact DataW.trod_lt m _ _ _ hm
  obtain ⟨fu3, hf3⟩ := h3
  have one3 : Go.Sy.one v3 := by
    obtain ⟨_, rfl⟩ := okWide_int Try.underlying3 (hval 3 3 v3 rfl rfl)
    trivial
  rw [cells_one one3] at hf3
  obtain ⟨a3, e3, ha3⟩ := rd_int Try.underlying3 hf3
  replace ha3 := bounds_i64 ha3
  simp only [List.cons.injEq, and_true] at e3
  subst e3
  have k4 := h4
  have lt4 : ∀ x ∈ p4, x.block < W.heap.size := by obtain ⟨m, hm⟩ := k4; exact DataW.trod_lt m _ _ _ hm
  obtain ⟨fu4, hf4⟩ := h4
  have one4 : Go.Sy.one v4 := by
    obtain ⟨_, _, _, rfl⟩ := okWide_slice Try.underlying39 (hval 4 39 v4 rfl rfl)
    trivial
  rw [cells_one one4] at hf4
  obtain ⟨b4, a4, e4, ha4, hz4⟩ := rd_slice (Meas.said Try.prog H) (R := I64R) (Z := I64Z (Meas.said Try.prog H).L (Meas.said Try.prog H).S) Try.underlying39 ce3 be3 (by decide) (fun _ _ _ hh hy => openI64 (Meas.said Try.prog H) hh hy) hf4 (said_of (j := 4) hsz rfl rfl)
  simp only [List.cons.injEq, and_true] at e4
  subst e4
  have hrun := (LogAsks_ok (I := snap W) (O := []) ha0 ha1 ha2 ha3 ha4 hz4.1 hz0.ents.1 (fun e he => (hz0.ents.2 e he).members.1)) W (sat_snap W)
  refine hrun.mono fun e W' ⟨v, I', O', he, hI, hs, hv, hI2, hO⟩ => ?_
  subst he hv hO
  have bel := below_of_sat hs hI
  exact ⟨_, rfl, _, _, _, [], _, [], hW', trodAll_mk1 (shut_bool Try.underlying4 _), (trodAll_cons_mk (Below.trod laidOut (by kernel_rfl) (of_decide_eq_true (by kernel_rfl)) k0 bel lt0) (trodAll_cons_mk (Below.trod laidOut (by kernel_rfl) (of_decide_eq_true (by kernel_rfl)) k1 bel lt1) (trodAll_cons_mk (Below.trod laidOut (by kernel_rfl) (of_decide_eq_true (by kernel_rfl)) k2 bel lt2) (trodAll_cons_mk (Below.trod laidOut (by kernel_rfl) (of_decide_eq_true (by kernel_rfl)) k3 bel lt3) (trodAll_cons_mk (Below.trod laidOut (by kernel_rfl) (of_decide_eq_true (by kernel_rfl)) k4 bel lt4) trodAll_mk0))))), rfl, bel.frame _, fun h => by cases h⟩
theorem over : Rows.logAsksRow.holds Try.pinned (OpenSpec.ofChange Rows.logAsksSpec) :=
  OpenClaim.holds_of_wide 8 Try.f8 rfl rfl rfl rfl rfl rfl rfl ⟨rfl, rfl, rfl, rfl, rfl⟩ rfl rfl rfl rfl rfl (by kernel_rfl) Try.func8 (by kernel_rfl)
    (of_decide_eq_true (by kernel_rfl)) (by unfold Func.isWrapper; first | (rw [if_pos (by decide +kernel)]; kernel_rfl) | (rw [if_neg (by decide +kernel)]; exact ⟨rfl, rfl⟩))
    (fun os started H enc _ => lifted os started H enc)
end Go.Proofs.Yteajcmnbjpbnpaa.LawLogAsks
namespace Go.Proofs.Yteajcmnbjpbnpaa
theorem logAsks_holds : Rows.LogAsksSaid := LawLogAsks.over
#print axioms logAsks_holds
end Go.Proofs.Yteajcmnbjpbnpaa
