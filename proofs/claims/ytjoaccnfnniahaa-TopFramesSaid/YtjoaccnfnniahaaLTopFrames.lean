/- For every input the call of gaffer/gaffertop.TopFrames returns true and leaves each argument as it read; no condition. -/
import Derived.Test.YtjoaccnfnniahaaRows
import Derived.Test.YtjoaccnfnniahaaOpe
import Derived.Test.YtjoaccnfnniahaaDj
import Derived.Test.YtjoaccnfnniahaaFact2
namespace Go.Proofs.Ytjoaccnfnniahaa.LawTopFrames
open Go.Sy
open Go.ChangeShapes Go.WideShapes Go.ChangeAt Go.RowKit
open Go.ChangeMaps (open_string shut_string)
set_option linter.unusedVariables false
set_option linter.unusedSimpArgs false
theorem own : ownKnob Try.prog.godebug = none := by kernel_rfl
theorem laidOut : laidOutB Try.prog = true := by kernel_rfl
set_option maxRecDepth 100000 in
theorem lifted (os : Os) (started : os.Started) (H : Type) (enc : TypeId × Value → H) :
    ReturnsInHanded {} Try.checked os 3 .any (Rows.topFramesSpec.pre6 enc Try.prog Try.f3 Rows.topFramesRow.domain false) (Rows.topFramesSpec.post enc Try.prog Try.f3 false true false false) := by
  refine returnsInHanded_of_change_sized (C := Try.checked) own started (by kernel_rfl) Try.func3
    (ChangeSpec.witness6 (enc := enc) (C := Try.checked) false ⟨#[], #[.slice none 0 0, .slice none 0 0, .slice none 0 0], []⟩ 8 (by kernel_rfl) (by kernel_rfl) (by kernel_rfl) (by kernel_rfl)) ?_
  intro W base args ds gs before hval0 hW hcnd hsz0 _
  have hsz : (DataW.weightsEach Try.prog (Try.f3.params.toList ++ Rows.topFramesSpec.plain.varTypes Try.prog) (ds ++ gs)).all (· ≤ reachBytes) = true := hsz0
  have hval : ∀ (j : Nat) t v, Try.f3.params[j]? = some t → args[j]? = some v → Value.okWide Try.prog W .any base t v := hval0
  have hW' := hW
  obtain ⟨p, q, hA0, hV, rfl, hfz, hnd⟩ := hW
  have hA : DataW.TrodAll enc Try.prog W 0 (fun _ => true) true Try.f3.params.toList args.toList ds p := hA0
  rw [Try.params3] at hA hval hsz
  obtain ⟨v0, vs0, d0, ds0, p0, q0, hargs, rfl, rfl, h0, r0⟩ := trodAll_cons hA
  obtain ⟨v1, vs1, d1, ds1, p1, q1, rfl, rfl, rfl, h1, r1⟩ := trodAll_cons r0
  obtain ⟨v2, vs2, d2, ds2, p2, q2, rfl, rfl, rfl, h2, r2⟩ := trodAll_cons r1
  obtain ⟨rfl, rfl, rfl⟩ := trodAll_nil r2
  obtain rfl : args = #[v0, v1, v2] := by cases args; simp_all
  obtain ⟨rfl, rfl⟩ := trodVars_none hV
  have k0 := h0
  have lt0 : ∀ x ∈ p0, x.block < W.heap.size := by obtain ⟨m, hm⟩ := k0; exact DataW.trod_lt m _ _ _ hm
  obtain ⟨fu0, hf0⟩ := h0
  have one0 : Go.Sy.one v0 := by
    obtain ⟨_, _, _, rfl⟩ := okWide_slice Try.underlying22 (hval 0 22 v0 rfl rfl)
    trivial
  rw [cells_one one0] at hf0
  obtain ⟨b0, a0, e0, ha0, hz0⟩ := rd_slice (Meas.said Try.prog H) (R := StrR) (Z := StrZ (Meas.said Try.prog H).L (Meas.said Try.prog H).S) Try.underlying22 ce9 be9 (by decide) (fun _ _ _ hh hy => openStr (Meas.said Try.prog H) hh hy) hf0 (said_of (j := 0) hsz rfl rfl)
  simp only [List.cons.injEq, and_true] at e0
  subst e0
  have k1 := h1
  have lt1 : ∀ x ∈ p1, x.block < W.heap.size := by obtain ⟨m, hm⟩ := k1; exact DataW.trod_lt m _ _ _ hm
  obtain ⟨fu1, hf1⟩ := h1
  have one1 : Go.Sy.one v1 := by
    obtain ⟨_, _, _, rfl⟩ := okWide_slice Try.underlying23 (hval 1 23 v1 rfl rfl)
    trivial
  rw [cells_one one1] at hf1
  obtain ⟨b1, a1, e1, ha1, hz1⟩ := rd_slice (Meas.said Try.prog H) (R := BolR) (Z := BolZ (Meas.said Try.prog H).L (Meas.said Try.prog H).S) Try.underlying23 ce4 be4 (by decide) (fun _ _ _ hh hy => openBol (Meas.said Try.prog H) hh hy) hf1 (said_of (j := 1) hsz rfl rfl)
  simp only [List.cons.injEq, and_true] at e1
  subst e1
  have k2 := h2
  have lt2 : ∀ x ∈ p2, x.block < W.heap.size := by obtain ⟨m, hm⟩ := k2; exact DataW.trod_lt m _ _ _ hm
  obtain ⟨fu2, hf2⟩ := h2
  have one2 : Go.Sy.one v2 := by
    obtain ⟨_, _, _, rfl⟩ := okWide_slice Try.underlying24 (hval 2 24 v2 rfl rfl)
    trivial
  rw [cells_one one2] at hf2
  obtain ⟨b2, a2, e2, ha2, hz2⟩ := rd_slice (Meas.said Try.prog H) (R := I64R) (Z := I64Z (Meas.said Try.prog H).L (Meas.said Try.prog H).S) Try.underlying24 ce3 be3 (by decide) (fun _ _ _ hh hy => openI64 (Meas.said Try.prog H) hh hy) hf2 (said_of (j := 2) hsz rfl rfl)
  simp only [List.cons.injEq, and_true] at e2
  subst e2
  have hrun := (TopFrames_ok (I := snap W) (O := []) ha0 ha1 ha2) W (sat_snap W)
  refine hrun.mono fun e W' ⟨v, I', O', he, hI, hs, hv, hI2, hO⟩ => ?_
  subst he hv hO
  have bel := below_of_sat hs hI
  exact ⟨_, rfl, _, _, _, [], _, [], hW', trodAll_mk1 (shut_bool Try.underlying4 _), (trodAll_cons_mk (Below.trod laidOut (by kernel_rfl) (of_decide_eq_true (by kernel_rfl)) k0 bel lt0) (trodAll_cons_mk (Below.trod laidOut (by kernel_rfl) (of_decide_eq_true (by kernel_rfl)) k1 bel lt1) (trodAll_cons_mk (Below.trod laidOut (by kernel_rfl) (of_decide_eq_true (by kernel_rfl)) k2 bel lt2) trodAll_mk0))), rfl, bel.frame _, fun h => by cases h⟩
theorem over : Rows.topFramesRow.holds Try.pinned (OpenSpec.ofChange Rows.topFramesSpec) :=
  OpenClaim.holds_of_wide 3 Try.f3 rfl rfl rfl rfl rfl rfl rfl ⟨rfl, rfl, rfl, rfl, rfl⟩ rfl rfl rfl rfl rfl (by kernel_rfl) Try.func3 (by kernel_rfl)
    (of_decide_eq_true (by kernel_rfl)) (by unfold Func.isWrapper; first | (rw [if_pos (by decide +kernel)]; kernel_rfl) | (rw [if_neg (by decide +kernel)]; exact ⟨rfl, rfl⟩))
    (fun os started H enc _ => lifted os started H enc)
end Go.Proofs.Ytjoaccnfnniahaa.LawTopFrames
namespace Go.Proofs.Ytjoaccnfnniahaa
theorem topFrames_holds : Rows.TopFramesSaid := LawTopFrames.over
#print axioms topFrames_holds
end Go.Proofs.Ytjoaccnfnniahaa
