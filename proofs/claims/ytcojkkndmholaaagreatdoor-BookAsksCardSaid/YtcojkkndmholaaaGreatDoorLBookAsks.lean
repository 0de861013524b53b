/- For every input the call of gaffer/gafferlaw08.BookAsks returns true and leaves each argument as it read; no condition. -/
import Derived.Test.YtcojkkndmholaaaGreatDoorRows
import Derived.Test.YtcojkkndmholaaaGreatDoorCards
import Derived.Test.YtcojkkndmholaaaGreatDoorTie
import Derived.Test.YtcojkkndmholaaaGreatDoorOpe2
import Derived.Test.YtcojkkndmholaaaGreatDoorCb
import Derived.Deep.DeepHandedRow
import Derived.Lib.LaidTab
import Derived.SevenTiedAt
namespace Go.Proofs.YtcojkkndmholaaaGreatDoor.LawBookAsks
open Go.Sy
open Go.ChangeShapes Go.WideShapes Go.ChangeAt Go.RowKit
open Go.ChangeMaps (open_string shut_string)
set_option linter.unusedVariables false
set_option linter.unusedSimpArgs false
theorem own : ownKnob Tryz.prog.godebug = none := by kernel_rfl
theorem laidOut : laidOutB Tryz.prog = true := by kernel_rfl
set_option maxRecDepth 100000 in
theorem contract (H : Type) (enc : TypeId × Value → H) (W : World) (base : Nat) (args : Array Value) (ds gs : List (DataW H)) (before : List MemPlace)
    (hval0 : ∀ (j : Nat) t v, Tryz.f10.params[j]? = some t → args[j]? = some v → Value.okWide Tryz.prog W .any base t v)
    (hW : DataW.Whole enc Tryz.prog Tryz.f10.params.toList Rows.bookAsksSpec.vars false W args.toList ds gs before)
    (hsz0 : (DataW.weightsEach Tryz.prog (Tryz.f10.params.toList ++ Rows.bookAsksSpec.plain.varTypes Tryz.prog) (ds ++ gs)).all (· ≤ reachBytes) = true) (hL : laidMetH Tryz.prog Rows.bookAsksRow.laid W) :
    Calls Tryz.prog 10 args W fun e W' => ∃ v, e = .returned v ∧ Rows.bookAsksSpec.post enc Tryz.prog Tryz.f10 false true false false W args v W' := by
  have hsz : (DataW.weightsEach Tryz.prog (Tryz.f10.params.toList ++ Rows.bookAsksSpec.plain.varTypes Tryz.prog) (ds ++ gs)).all (· ≤ reachBytes) = true := hsz0
  have hval : ∀ (j : Nat) t v, Tryz.f10.params[j]? = some t → args[j]? = some v → Value.okWide Tryz.prog W .any base t v := hval0
  have hW' := hW
  obtain ⟨p, q, hA0, hV, rfl, hfz, hnd⟩ := hW
  have hA : DataW.TrodAll enc Tryz.prog W 0 (fun _ => true) true Tryz.f10.params.toList args.toList ds p := hA0
  rw [Tryz.params10] at hA hval hsz
  obtain ⟨v0, vs0, d0, ds0, p0, q0, hargs, rfl, rfl, h0, r0⟩ := trodAll_cons hA
  obtain ⟨v1, vs1, d1, ds1, p1, q1, rfl, rfl, rfl, h1, r1⟩ := trodAll_cons r0
  obtain ⟨v2, vs2, d2, ds2, p2, q2, rfl, rfl, rfl, h2, r2⟩ := trodAll_cons r1
  obtain ⟨v3, vs3, d3, ds3, p3, q3, rfl, rfl, rfl, h3, r3⟩ := trodAll_cons r2
  obtain ⟨rfl, rfl, rfl⟩ := trodAll_nil r3
  obtain rfl : args = #[v0, v1, v2, v3] := by cases args; simp_all
  obtain ⟨rfl, rfl⟩ := trodVars_none hV
  have k0 := h0
  have lt0 : ∀ x ∈ p0, x.block < W.heap.size := by obtain ⟨m, hm⟩ := k0; exact DataW.trod_lt m _ _ _ hm
  obtain ⟨fu0, hf0⟩ := h0
  obtain ⟨cs0, rfl⟩ := wide_agg (.inl ⟨_, Tryz.underlying27⟩) (hval 0 27 v0 rfl rfl)
  obtain ⟨a0, ha0, hz0⟩ := openBk (cs := cs0) (Meas.said Tryz.prog H) hf0 (said_of (j := 0) hsz rfl rfl)
  have k1 := h1
  have lt1 : ∀ x ∈ p1, x.block < W.heap.size := by obtain ⟨m, hm⟩ := k1; exact DataW.trod_lt m _ _ _ hm
  obtain ⟨fu1, hf1⟩ := h1
  have one1 : one v1 := by
    obtain ⟨_, rfl⟩ := okWide_string Tryz.underlying9 (hval 1 9 v1 rfl rfl)
    trivial
  rw [cells_one one1] at hf1
  obtain ⟨a1, e1, ha1, hz1⟩ := rd_str (Meas.said Tryz.prog H) Tryz.underlying9 hf1 (said_of (j := 1) hsz rfl rfl)
  simp only [List.cons.injEq, and_true] at e1
  subst e1
  have k2 := h2
  have lt2 : ∀ x ∈ p2, x.block < W.heap.size := by obtain ⟨m, hm⟩ := k2; exact DataW.trod_lt m _ _ _ hm
  obtain ⟨fu2, hf2⟩ := h2
  have one2 : one v2 := by
    obtain ⟨_, rfl⟩ := okWide_string Tryz.underlying9 (hval 2 9 v2 rfl rfl)
    trivial
  rw [cells_one one2] at hf2
  obtain ⟨a2, e2, ha2, hz2⟩ := rd_str (Meas.said Tryz.prog H) Tryz.underlying9 hf2 (said_of (j := 2) hsz rfl rfl)
  simp only [List.cons.injEq, and_true] at e2
  subst e2
  have k3 := h3
  have lt3 : ∀ x ∈ p3, x.block < W.heap.size := by obtain ⟨m, hm⟩ := k3; exact DataW.trod_lt m _ _ _ hm
  obtain ⟨fu3, hf3⟩ := h3
  have one3 : one v3 := by
    obtain ⟨_, rfl⟩ := okWide_int Tryz.underlying25 (hval 3 25 v3 rfl rfl)
    trivial
  rw [cells_one one3] at hf3
  obtain ⟨a3, e3, ha3⟩ := rd_int Tryz.underlying25 hf3
  replace ha3 := bounds_u64 ha3
  simp only [List.cons.injEq, and_true] at e3
  subst e3
  have hrun := (BookAsks_ok (I := snap W) (O := []) (task := a1) (node := a2) ha0 ha3) W (sat_snap W)
  refine hrun.mono fun e W' ⟨v, I', O', he, hI, hs, hv, hI2, hO⟩ => ?_
  subst he hv hO
  have bel := below_of_sat hs hI
  exact ⟨_, rfl, _, _, _, [], _, [], hW', trodAll_mk1 (shut_bool Tryz.underlying4 _), (trodAll_cons_mk (Below.trod laidOut (by kernel_rfl) (of_decide_eq_true (by kernel_rfl)) k0 bel lt0) (trodAll_cons_mk (Below.trod laidOut (by kernel_rfl) (of_decide_eq_true (by kernel_rfl)) k1 bel lt1) (trodAll_cons_mk (Below.trod laidOut (by kernel_rfl) (of_decide_eq_true (by kernel_rfl)) k2 bel lt2) (trodAll_cons_mk (Below.trod laidOut (by kernel_rfl) (of_decide_eq_true (by kernel_rfl)) k3 bel lt3) trodAll_mk0)))), rfl, bel.frame _, fun h => by cases h⟩
noncomputable def laidWorld (os : Os) : World := World.lay (World.lay (World.holding Tryz.prog os ⟨#[], #[], []⟩) 1 Rows.laid_unicode_utf8_acceptRanges) 0 Rows.laid_unicode_utf8_first
theorem laid_met (os : Os) : laidMet Tryz.prog Rows.bookAsksRow.laid ((laidWorld os).forCall (fun _ _ => 0) ⟨#[], #[.agg #[.slice none 0 0, .slice none 0 0, .slice none 0 0, .int .u64 0], .string ByteArray.empty, .string ByteArray.empty, .int .u64 0], []⟩).memory := laidMet_of_run' 8 (by kernel_rfl) (by kernel_rfl)
theorem reads (os : Os) {H : Type} (enc : TypeId × Value → H) : ∃ places, DataW.whole enc Tryz.prog ((laidWorld os).forCall (fun _ _ => 0) ⟨#[], #[.agg #[.slice none 0 0, .slice none 0 0, .slice none 0 0, .int .u64 0], .string ByteArray.empty, .string ByteArray.empty, .int .u64 0], []⟩).memory Tryz.f10.params.toList Rows.bookAsksSpec.vars false (#[.agg #[.slice none 0 0, .slice none 0 0, .slice none 0 0, .int .u64 0], .string ByteArray.empty, .string ByteArray.empty, .int .u64 0] : Array Value).toList 8 = some ([.agg [.nil, .nil, .nil, .lit (.int .u64 0)], .lit (.string []), .lit (.string []), .lit (.int .u64 0)], [], places) := ⟨[], by kernel_rfl⟩
set_option maxRecDepth 100000 in
theorem lifted (os : Os) (started : os.Started) (H : Type) (enc : TypeId × Value → H) (F : Stop.Interp) :
    ReturnsInHanded {} Tryz.checked os 10 .any ((OpenSpec.ofChange Rows.bookAsksSpec).preRow enc Tryz.prog Tryz.f10 Rows.bookAsksRow.domain false Rows.bookAsksRow.laid) (((OpenSpec.ofChange Rows.bookAsksSpec).at F).post enc Tryz.prog Tryz.f10 false true false false) := by
  obtain ⟨places, hx⟩ := reads os enc
  refine returnsInHanded_of_row (C := Tryz.checked) (s := OpenSpec.ofChange Rows.bookAsksSpec) own started (by kernel_rfl) Tryz.func10
    (witness_row_at (enc := enc) (C := Tryz.checked) false (laidWorld os) #[.agg #[.slice none 0 0, .slice none 0 0, .slice none 0 0, .int .u64 0], .string ByteArray.empty, .string ByteArray.empty, .int .u64 0] rfl (by kernel_rfl) (by kernel_rfl) (by kernel_rfl)
      (OpenSpec.preRow_of_cond 8 hx (by kernel_rfl) (fun k hk => by cases hk) (by kernel_rfl) (laid_met os))) ?_
  intro W base args ds gs before hval hW _ _ hsz hL _ _
  exact contract H enc W base args ds gs before hval hW hsz hL
theorem over : Rows.bookAsksRow.holds Tryz.pinned (OpenSpec.ofChange Rows.bookAsksSpec) :=
  OpenClaim.holds_of_cond 10 Tryz.f10 rfl rfl rfl rfl rfl rfl rfl ⟨rfl, rfl, rfl, rfl, rfl⟩ rfl rfl rfl rfl rfl (by kernel_rfl) Tryz.func10 (by kernel_rfl)
    (of_decide_eq_true (by kernel_rfl)) (by unfold Func.isWrapper; first | (rw [if_pos (by decide +kernel)]; kernel_rfl) | (rw [if_neg (by decide +kernel)]; exact ⟨rfl, rfl⟩))
    (fun os started H enc _ F => by rw [OpenClaim.pre_eq_preRow]; exact lifted os started H enc F)
theorem plain (f : FuncId) (fn : Func) (hf : Tryz.pinned.checked.prog.funcNamed "gaffer/gafferlaw08.BookAsks" = some f) (hfn : Tryz.pinned.checked.prog.funcs[f]? = some fn) :
    false = Tryz.pinned.checked.prog.looks [] ∧ ∀ (j : Nat) t, fn.params[j]? = some t → Tryz.pinned.checked.prog.wantsStandIn t = false := by
  obtain rfl : f = 10 := Option.some.inj ((show Tryz.prog.funcNamed "gaffer/gafferlaw08.BookAsks" = some 10 by kernel_rfl).symm.trans hf) |>.symm
  obtain rfl : fn = Tryz.f10 := (Option.some.inj (Tryz.func10.symm.trans hfn)).symm
  refine ⟨by kernel_rfl, fun j t ht => ?_⟩
  rw [Tryz.params10] at ht
  have hm : t ∈ [27, 9, 9, 25] := by simpa using Array.mem_of_getElem? ht
  have hall : ([27, 9, 9, 25].all fun u => !Tryz.prog.wantsStandIn u) = true := by kernel_rfl
  exact (show Tryz.prog.wantsStandIn t = false by simpa using List.all_eq_true.1 hall t hm)
theorem card : Rows.BookAsksCardSaid :=
  Claim7.holds_tied_plain_at .later [] _ _ _ _ over (fun _ h => by cases h) (by kernel_rfl) (fun _ h => by cases h) bookAsks_row_tie rfl ⟨rfl, rfl⟩ (by kernel_rfl) rfl plain (by kernel_rfl)
end Go.Proofs.YtcojkkndmholaaaGreatDoor.LawBookAsks
namespace Go.Proofs.YtcojkkndmholaaaGreatDoor
theorem bookAsks_holds : Rows.BookAsksCardSaid := LawBookAsks.card
#print axioms bookAsks_holds
end Go.Proofs.YtcojkkndmholaaaGreatDoor
