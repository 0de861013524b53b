/- Walks of functions over a symbolic memory, printed by a program of the session. -/
import Derived.Test.YtjoaccnfnniahaaDoorSd
import Derived.Test.YtjoaccnfnniahaaDoorHa
namespace Go.Proofs.YtjoaccnfnniahaaDoor
open Go.Sy
set_option linter.unusedSimpArgs false
set_option linter.unusedVariables false

def fT : ByteArray := ⟨#[115, 110, 97, 112, 46, 116, 109, 112]⟩
theorem tmp_fT : isTmp fS = fT := by decide
theorem hST : slt fS fT = true := by decide +kernel
theorem hTS : slt fT fS = false := by decide +kernel
theorem nST : ¬fS = fT := by decide
theorem nTS : ¬fT = fS := by decide
theorem okT : namedB fT = true := by decide
theorem okS : namedB fS = true := by decide
/-- What stands ahead of the file under way: nothing, or the file that was saved, all of it synced. -/
def preF (o : Option ByteArray) : List Fil := match o with | none => [] | some F => [⟨fS, F, (F.size : Int)⟩]
theorem why_P {o : Option ByteArray} {b : Bool} {f : Int} : diskWhy ⟨preF o, b, f⟩ = 0 := by
  cases o with
  | none => rfl
  | some F => exact why_one (by omega) (by omega)
theorem why_PT {o : Option ByteArray} {b : Bool} {f z : Int} {y : ByteArray} (h0 : 0 ≤ z) (h1 : z ≤ (y.size : Int)) : diskWhy ⟨preF o ++ [⟨fT, y, z⟩], b, f⟩ = 0 := by
  cases o with
  | none => exact why_one h0 h1
  | some F =>
    unfold diskWhy diskOk filesTo fAt preF
    simp [List.range_succ, h0, h1, hST]
theorem pos_PT {o : Option ByteArray} {b : Bool} {f : Int} {l : List Fil} : posF ⟨preF o ++ l, b, f⟩ fT = (preF o).length + posF ⟨l, b, f⟩ fT := by
  cases o with
  | none => simp [preF, posF]
  | some F => simp [preF, posF, posBy, hST]; omega
theorem has_PT {o : Option ByteArray} {b : Bool} {f : Int} {l : List Fil} : hasF ⟨preF o ++ l, b, f⟩ fT = hasF ⟨l, b, f⟩ fT := by
  cases o with
  | none => simp [preF, hasF]
  | some F => simp [preF, hasF, hasBy, nST]
theorem pos_T {b : Bool} {f z : Int} {y : ByteArray} : posF ⟨[⟨fT, y, z⟩], b, f⟩ fT = 0 := pos_one
theorem has_T {b : Bool} {f z : Int} {y : ByteArray} : hasF ⟨[⟨fT, y, z⟩], b, f⟩ fT = true := has_one
theorem drop_PT {o : Option ByteArray} {f z : Int} {y : ByteArray} (h0 : 0 ≤ z) (h1 : z ≤ (y.size : Int)) : dropR ⟨preF o ++ [⟨fT, y, z⟩], false, f⟩ fT = if f = 0 then (⟨preF o ++ [⟨fT, y, z⟩], true, f⟩, 8) else (⟨preF o, false, fuseR f⟩, 0) := by
  have hp := pos_PT (o := o) (b := false) (f := f) (l := [⟨fT, y, z⟩])
  rw [pos_T, Nat.add_zero] at hp
  have hd : delF ⟨preF o ++ [⟨fT, y, z⟩], false, f⟩ fT = preF o := by
    unfold delF; rw [hp]; simp
  unfold dropR
  rw [if_pos (why_PT h0 h1), if_neg (by simp), if_pos (by unfold refS; rw [if_pos (has_PT.trans has_T)]), hd]
theorem add_PT {o : Option ByteArray} {f : Int} {x : ByteArray} : addR ⟨preF o, false, f⟩ fT x = if f = 0 then (⟨preF o ++ [⟨fT, x, 0⟩], true, f⟩, 8) else (⟨preF o ++ [⟨fT, x, 0⟩], false, if 0 < f then f - 1 else f⟩, 0) := by
  have hp : posF ⟨preF o, false, f⟩ fT = (preF o).length := by
    have := pos_PT (o := o) (b := false) (f := f) (l := [])
    rw [List.append_nil, pos_nil] at this; exact this
  have hh : hasF ⟨preF o, false, f⟩ fT = false := by
    have := has_PT (o := o) (b := false) (f := f) (l := [])
    rw [List.append_nil, has_nil] at this; exact this
  have hlen : (preF o).length ≤ 1 := by cases o <;> simp [preF]
  have e2 : (⟨#[]⟩ : ByteArray) ++ x = x := ByteArray.empty_append
  have hput : putF ⟨preF o, false, f⟩ fT x = preF o ++ [⟨fT, x, 0⟩] := by
    unfold putF; rw [at_no hh, base_no hh, hp]; dsimp only; rw [e2]
    simp
  have hr : refA ⟨preF o, false, f⟩ fT = 0 := by unfold refA; rw [if_neg (by rw [okT]; simp), if_neg (fun h => absurd h.2 (by dsimp only; omega))]
  unfold addR
  rw [if_pos why_P, if_neg (by simp), if_pos hr, hput]
theorem sync_PT {o : Option ByteArray} {f : Int} {x : ByteArray} : syncR ⟨preF o ++ [⟨fT, x, 0⟩], false, f⟩ fT = if f = 0 then (⟨preF o ++ [⟨fT, x, 0⟩], true, f⟩, 8) else (⟨preF o ++ [⟨fT, x, (x.size : Int)⟩], false, if 0 < f then f - 1 else f⟩, 0) := by
  have hp := pos_PT (o := o) (b := false) (f := f) (l := [⟨fT, x, 0⟩])
  rw [pos_T, Nat.add_zero] at hp
  have hh : hasF ⟨preF o ++ [⟨fT, x, 0⟩], false, f⟩ fT = true := has_PT.trans has_T
  have ha : atF ⟨preF o ++ [⟨fT, x, 0⟩], false, f⟩ fT = ⟨fT, x, 0⟩ := by rw [at_yes hh, hp]; simp
  have hs : syncF ⟨preF o ++ [⟨fT, x, 0⟩], false, f⟩ fT = preF o ++ [⟨fT, x, (x.size : Int)⟩] := by unfold syncF; rw [ha, hp]; simp
  unfold syncR
  rw [if_pos (why_PT (by omega) (by omega)), if_neg (by simp), if_pos (by unfold refS; rw [if_pos hh]), hs]
theorem swap_PT {o : Option ByteArray} {f : Int} {x : ByteArray} : swapR ⟨preF o ++ [⟨fT, x, (x.size : Int)⟩], false, f⟩ fT fS = if f = 0 then (⟨preF o ++ [⟨fT, x, (x.size : Int)⟩], true, f⟩, 8) else (⟨preF (some x), false, fuseR f⟩, 0) := by
  have hp := pos_PT (o := o) (b := false) (f := f) (l := [⟨fT, x, (x.size : Int)⟩])
  rw [pos_T, Nat.add_zero] at hp
  have hh : hasF ⟨preF o ++ [⟨fT, x, (x.size : Int)⟩], false, f⟩ fT = true := has_PT.trans has_T
  have ha : atF ⟨preF o ++ [⟨fT, x, (x.size : Int)⟩], false, f⟩ fT = ⟨fT, x, (x.size : Int)⟩ := by rw [at_yes hh, hp]; simp
  have hd : delF ⟨preF o ++ [⟨fT, x, (x.size : Int)⟩], false, f⟩ fT = preF o := by unfold delF; rw [hp]; simp
  have hm : movF ⟨preF o, false, fuseR f⟩ fS ⟨fS, x, (x.size : Int)⟩ = preF (some x) := by
    cases o with
    | none => rfl
    | some F =>
      have h9 : hasF ⟨preF (some F), false, fuseR f⟩ fS = true := has_one
      have p9 : posF ⟨preF (some F), false, fuseR f⟩ fS = 0 := pos_one
      unfold movF
      rw [if_pos h9, p9]; rfl
  unfold swapR
  rw [if_pos (why_PT (by omega) (by omega)), if_neg (by simp), if_pos (by unfold refW; rw [if_pos hh, ha, if_neg (by simp), if_pos okS]), hd, ha, hm]
theorem asked_up {l : List Fil} {f : Int} (h : diskWhy ⟨l, false, f⟩ = 0) : askedR ⟨l, false, f⟩ = 0 := by unfold askedR; rw [if_pos h, if_neg (by simp)]
theorem read_PT {o : Option ByteArray} {f z : Int} {y : ByteArray} (h0 : 0 ≤ z) (h1 : z ≤ (y.size : Int)) : (readR ⟨preF o ++ [⟨fT, y, z⟩], false, f⟩ fT).2 = 0 := by
  unfold readR; rw [if_pos (asked_up (why_PT h0 h1)), if_pos (has_PT.trans has_T)]
theorem read_P {o : Option ByteArray} {f : Int} : (readR ⟨preF o, false, f⟩ fT).2 = 6 := by
  have hh : hasF ⟨preF o, false, f⟩ fT = false := by
    have := has_PT (o := o) (b := false) (f := f) (l := [])
    rw [List.append_nil, has_nil] at this; exact this
  unfold readR; rw [if_pos (asked_up why_P), if_neg (by rw [hh]; simp)]
/-- A disk of snapshots: what was saved, and perhaps a file under way. -/
def StF (o : Option ByteArray) (l : List Fil) : Prop := l = preF o ∨ ∃ (y : ByteArray) (z : Int), 0 ≤ z ∧ z ≤ (y.size : Int) ∧ y.size ≤ 3000 ∧ l = preF o ++ [⟨fT, y, z⟩]
theorem StF.why {o : Option ByteArray} {l : List Fil} {b : Bool} {f : Int} (h : StF o l) : diskWhy ⟨l, b, f⟩ = 0 := by
  rcases h with rfl | ⟨y, z, h0, h1, _, rfl⟩
  · exact why_P
  · exact why_PT h0 h1
theorem StF.few {o : Option ByteArray} {l : List Fil} (h : StF o l) : l.length ≤ 2 := by
  rcases h with rfl | ⟨y, z, h0, h1, _, rfl⟩ <;> cases o <;> simp [preF]
theorem StF.room {o : Option ByteArray} {l : List Fil} (h : StF o l) (ho : ∀ F, o = some F → F.size ≤ 3000) : ∀ x ∈ l, x.data.size ≤ 1000000 := by
  intro x hx
  have hP : ∀ x ∈ preF o, x.data.size ≤ 1000000 := fun x hx => by
    cases o with
    | none => cases hx
    | some F =>
      have := ho F rfl
      simp only [preF, List.mem_singleton] at hx
      subst hx; dsimp only; omega
  rcases h with rfl | ⟨y, z, _, _, h2, rfl⟩
  · exact hP x hx
  · rcases List.mem_append.1 hx with h | h
    · exact hP x h
    · rw [List.mem_singleton] at h; subst h; dsimp only; omega
theorem put3_law {o : Option ByteArray} {f : Int} {x : ByteArray} (hx : x.size ≤ 3000) {D : Dsk} {e : Int} (h : put3 ⟨preF o, false, f⟩ fT fS x = (D, e)) : (e = 0 ∧ D.down = false ∧ D.files = preF (some x)) ∨ (e = 8 ∧ StF o D.files) := by
  unfold put3 at h
  rw [add_PT] at h
  by_cases h1 : f = 0
  · rw [if_pos h1, if_neg (by dsimp only; omega)] at h
    cases h; exact .inr ⟨rfl, .inr ⟨x, 0, by omega, by omega, hx, rfl⟩⟩
  · rw [if_neg h1, if_pos rfl] at h
    dsimp only at h
    generalize (if 0 < f then f - 1 else f) = f1 at h
    rw [sync_PT] at h
    by_cases h2 : f1 = 0
    · rw [if_pos h2, if_neg (by dsimp only; omega)] at h
      cases h; exact .inr ⟨rfl, .inr ⟨x, 0, by omega, by omega, hx, rfl⟩⟩
    · rw [if_neg h2, if_pos rfl] at h
      dsimp only at h
      generalize (if 0 < f1 then f1 - 1 else f1) = f2 at h
      rw [swap_PT] at h
      by_cases h3 : f2 = 0
      · rw [if_pos h3] at h; cases h; exact .inr ⟨rfl, .inr ⟨x, (x.size : Int), by omega, by omega, hx, rfl⟩⟩
      · rw [if_neg h3] at h; cases h; exact .inl ⟨rfl, rfl, rfl⟩
theorem put_law {o : Option ByteArray} {l : List Fil} (hl : StF o l) {f : Int} {x : ByteArray} (hx : x.size ≤ 3000) {D : Dsk} {e : Int} (h : putR ⟨l, false, f⟩ fS x = (D, e)) : (e = 0 ∧ D.down = false ∧ D.files = preF (some x)) ∨ (e = 8 ∧ StF o D.files) := by
  unfold putR at h
  rw [tmp_fT] at h
  rcases hl with rfl | ⟨y, z, h0, h1, h2, rfl⟩
  · rw [if_neg (by rw [read_P]; omega)] at h
    exact put3_law hx h
  · rw [if_pos (read_PT h0 h1), drop_PT h0 h1] at h
    by_cases h3 : f = 0
    · rw [if_pos h3, if_neg (by dsimp only; omega)] at h
      cases h; exact .inr ⟨rfl, .inr ⟨y, z, h0, h1, h2, rfl⟩⟩
    · rw [if_neg h3, if_pos rfl] at h
      exact put3_law hx h
theorem crash_A {F : ByteArray} {z : Int} : crashF ⟨fS, F, (F.size : Int)⟩ z = ⟨fS, F, (F.size : Int)⟩ := by
  have h := cut_le (f := ⟨fS, F, (F.size : Int)⟩) (z := z) (by dsimp only; omega) (by dsimp only; omega)
  dsimp only at h
  have e : cutY ⟨fS, F, (F.size : Int)⟩ z = (F.size : Int) := by omega
  unfold crashF
  rw [e, Int.toNat_natCast]
  dsimp only
  rw [ByteArray.extract_zero_size]
theorem crash_law {o : Option ByteArray} {d : Dsk} (h : StF o d.files) {ks : List Int} : ∃ l', StF o l' ∧ crashR d ks = (⟨l', false, -1⟩, 0) := by
  obtain ⟨l, b, f⟩ := d
  dsimp only at h
  have hw := h.why (b := b) (f := f)
  refine ⟨crashTo l ks l.length, ?_, by unfold crashR; rw [if_pos hw]⟩
  rcases h with rfl | ⟨y, z, h0, h1, h2, rfl⟩
  · refine .inl ?_
    cases o with
    | none => rfl
    | some F =>
      show [crashF ⟨fS, F, (F.size : Int)⟩ (ks.getD 0 0)] = _
      rw [crash_A]; rfl
  · have hc := fun k => cut_le (f := ⟨fT, y, z⟩) (z := k) h0 h1
    have hT : ∀ k, ∃ (y' : ByteArray) (z' : Int), 0 ≤ z' ∧ z' ≤ (y'.size : Int) ∧ y'.size ≤ 3000 ∧ crashF ⟨fT, y, z⟩ k = ⟨fT, y', z'⟩ := fun k => by
      obtain ⟨g1, g2, g3⟩ := hc k
      dsimp only at g1 g2 g3
      refine ⟨y.extract 0 (cutY ⟨fT, y, z⟩ k).toNat, cutY ⟨fT, y, z⟩ k, g1, ?_, ?_, rfl⟩
      · rw [ByteArray.size_extract]; omega
      · rw [ByteArray.size_extract]; omega
    cases o with
    | none =>
      obtain ⟨y', z', g1, g2, g3, g4⟩ := hT (ks.getD 0 0)
      refine .inr ⟨y', z', g1, g2, g3, ?_⟩
      show [crashF ⟨fT, y, z⟩ (ks.getD 0 0)] = _
      rw [g4]; rfl
    | some F =>
      obtain ⟨y', z', g1, g2, g3, g4⟩ := hT (ks.getD 1 0)
      refine .inr ⟨y', z', g1, g2, g3, ?_⟩
      show [crashF ⟨fS, F, (F.size : Int)⟩ (ks.getD 0 0), crashF ⟨fT, y, z⟩ (ks.getD 1 0)] = _
      rw [g4, crash_A]; rfl
def readO (o : Option ByteArray) : ByteArray × Int := match o with | none => (⟨#[]⟩, 6) | some F => (F, 0)
theorem read_law {o : Option ByteArray} {l : List Fil} (h : StF o l) {f : Int} : readR ⟨l, false, f⟩ fS = readO o := by
  unfold readR readO
  rw [if_pos (asked_up h.why)]
  rcases h with rfl | ⟨y, z, h0, h1, h2, rfl⟩ <;> cases o with
  | none => simp [preF, hasF, hasBy, nTS]
  | some F => simp [preF, hasF, hasBy, posF, posBy, lt_irr]
def snO (i : Nat) (n : ByteArray) : Option ByteArray := if i = 0 then none else some (frameB (snB i n))
theorem read_ok {i : Nat} {n : ByteArray} {l : List Fil} (h : StF (snO i n) l) {f : Int} (hi : i ≤ 1000) (hn : n.size ≤ 1000) (h0 : i = 0 → n = ⟨#[]⟩) : readOk ⟨l, false, f⟩ i n := by
  have hr := read_law h (f := f)
  unfold snO at hr
  by_cases e : i = 0
  · rw [if_pos e] at hr; exact .inl ⟨e, h0 e, hr⟩
  · rw [if_neg e] at hr; exact .inr ⟨by omega, hi, hn, hr⟩
theorem snO_room {i : Nat} {n : ByteArray} (hi : i ≤ 1000) (hn : n.size ≤ 1000) : ∀ F, snO i n = some F → F.size ≤ 3000 := by
  intro F h
  have := snB_size hi hn
  unfold snO at h
  split at h
  · cases h
  · cases h; rw [frameB_size]; omega

end Go.Proofs.YtjoaccnfnniahaaDoor
