/- For every input the call of gaffer/gafferlaw06.RigSums returns true and leaves each argument as it read; no condition. -/
import Derived.Test.YtamgiiohaojelaaRows
import Derived.Test.YtamgiiohaojelaaOpen
import Derived.Test.YtamgiiohaojelaaWf
namespace Go.Proofs.Ytamgiiohaojelaa.LawRigSums
open Go.Sy
open Go.ChangeShapes Go.WideShapes Go.ChangeAt Go.RowKit
open Go.ChangeMaps (open_string shut_string)
set_option linter.unusedVariables false
set_option linter.unusedSimpArgs false
theorem own : ownKnob Try.prog.godebug = none := by kernel_rfl
theorem laidOut : laidOutB Try.prog = true := by kernel_rfl
set_option maxRecDepth 100000 in
theorem lifted (os : Os) (started : os.Started) (H : Type) (enc : TypeId × Value → H) :
    ReturnsInHanded {} Try.checked os 9 .any (Rows.rigSumsSpec.pre6 enc Try.prog Try.f9 Rows.rigSumsRow.domain false) (Rows.rigSumsSpec.post enc Try.prog Try.f9 false true false false) := by
  refine returnsInHanded_of_change_sized (C := Try.checked) own started (by kernel_rfl) Try.func9
    (ChangeSpec.witness6 (enc := enc) (C := Try.checked) false ⟨#[], #[.slice none 0 0, .agg #[.string ⟨#[]⟩, .int .i64 0, .int .i64 0, .int .i64 0, .slice none 0 0, .slice none 0 0, .string ⟨#[]⟩, .string ⟨#[]⟩, .int .i64 0]], []⟩ 8 (by kernel_rfl) (by kernel_rfl) (by kernel_rfl) (by kernel_rfl)) ?_
  intro W base args ds gs before hval0 hW hcnd hsz0 _
  have hsz : (DataW.weightsEach Try.prog (Try.f9.params.toList ++ Rows.rigSumsSpec.plain.varTypes Try.prog) (ds ++ gs)).all (· ≤ reachBytes) = true := hsz0
  have hval : ∀ (j : Nat) t v, Try.f9.params[j]? = some t → args[j]? = some v → Value.okWide Try.prog W .any base t v := hval0
  have hW' := hW
  obtain ⟨p, q, hA0, hV, rfl, hfz, hnd⟩ := hW
  have hA : DataW.TrodAll enc Try.prog W 0 (fun _ => true) true Try.f9.params.toList args.toList ds p := hA0
  rw [Try.params9] at hA hval hsz
  obtain ⟨v0, vs0, d0, ds0, p0, q0, hargs, rfl, rfl, h0, r0⟩ := trodAll_cons hA
  obtain ⟨v1, vs1, d1, ds1, p1, q1, rfl, rfl, rfl, h1, r1⟩ := trodAll_cons r0
  obtain ⟨rfl, rfl, rfl⟩ := trodAll_nil r1
  obtain rfl : args = #[v0, v1] := by cases args; simp_all
  obtain ⟨rfl, rfl⟩ := trodVars_none hV
  have k0 := h0
  have lt0 : ∀ x ∈ p0, x.block < W.heap.size := by obtain ⟨m, hm⟩ := k0; exact DataW.trod_lt m _ _ _ hm
  obtain ⟨fu0, hf0⟩ := h0
  have one0 : one v0 := by
    obtain ⟨_, _, _, rfl⟩ := okWide_slice Try.underlying37 (hval 0 37 v0 rfl rfl)
    trivial
  rw [cells_one one0] at hf0
  obtain ⟨b0, a0, e0, ha0, hz0⟩ := rd_slice (Meas.said Try.prog H) (R := TskR) (Z := TskZ (Meas.said Try.prog H).L (Meas.said Try.prog H).S) Try.underlying37 ce25 be25 (by decide) (fun _ _ _ hh hy => openTsk (Meas.said Try.prog H) hh hy) hf0 (said_of (j := 0) hsz rfl rfl)
  simp only [List.cons.injEq, and_true] at e0
  subst e0
  have k1 := h1
  have lt1 : ∀ x ∈ p1, x.block < W.heap.size := by obtain ⟨m, hm⟩ := k1; exact DataW.trod_lt m _ _ _ hm
  obtain ⟨fu1, hf1⟩ := h1
  obtain ⟨cs1, rfl⟩ := wide_agg (.inl ⟨_, Try.underlying25⟩) (hval 1 25 v1 rfl rfl)
  obtain ⟨a1, ha1, hz1⟩ := openTsk (cs := cs1) (Meas.said Try.prog H) hf1 (said_of (j := 1) hsz rfl rfl)
  have hrun := (RigSums_ok (I := snap W) (O := []) ha0 ha1 hz0.1) W (sat_snap W)
  refine hrun.mono fun e W' ⟨v, I', O', he, hI, hs, hv, hI2, hO⟩ => ?_
  subst he hv hO
  have bel := below_of_sat hs hI
  exact ⟨_, rfl, _, _, _, [], _, [], hW', trodAll_mk1 (shut_bool Try.underlying4 _), (trodAll_cons_mk (Below.trod laidOut (by kernel_rfl) (of_decide_eq_true (by kernel_rfl)) k0 bel lt0) (trodAll_cons_mk (Below.trod laidOut (by kernel_rfl) (of_decide_eq_true (by kernel_rfl)) k1 bel lt1) trodAll_mk0)), rfl, bel.frame _, fun h => by cases h⟩
theorem over : Rows.rigSumsRow.holds Try.pinned (OpenSpec.ofChange Rows.rigSumsSpec) :=
  OpenClaim.holds_of_wide 9 Try.f9 rfl rfl rfl rfl rfl rfl rfl ⟨rfl, rfl, rfl, rfl, rfl⟩ rfl rfl rfl rfl rfl (by kernel_rfl) Try.func9 (by kernel_rfl)
    (of_decide_eq_true (by kernel_rfl)) (by unfold Func.isWrapper; first | (rw [if_pos (by decide +kernel)]; kernel_rfl) | (rw [if_neg (by decide +kernel)]; exact ⟨rfl, rfl⟩))
    (fun os started H enc _ => lifted os started H enc)
end Go.Proofs.Ytamgiiohaojelaa.LawRigSums
namespace Go.Proofs.Ytamgiiohaojelaa
theorem rigSums_holds : Rows.RigSumsSaid := LawRigSums.over
#print axioms rigSums_holds
end Go.Proofs.Ytamgiiohaojelaa
