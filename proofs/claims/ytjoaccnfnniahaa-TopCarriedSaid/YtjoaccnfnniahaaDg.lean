/- Walks of functions over a symbolic memory, printed by a program of the session. -/
import Derived.Test.YtjoaccnfnniahaaDd
namespace Go.Proofs.Ytjoaccnfnniahaa
open Go.Sy
set_option linter.unusedSimpArgs false
set_option linter.unusedVariables false

theorem row_ne {m p q k j : Nat} (hp : p < m) (hq : q < m) (h : p ≠ q) : k * m + q ≠ j * m + p := fun e => by
  have h1 := congrArg (fun x => x % m) e
  simp only [Nat.mul_comm _ m, Nat.mul_add_mod, Nat.mod_eq_of_lt hp, Nat.mod_eq_of_lt hq] at h1
  exact h h1.symm
theorem cell_setY {cs : List Value} {k p q m : Nat} {v mv : Value} (hp : p < m) (hq : q < m) (hpq : p ≠ q) (hb : k * m + q < cs.length) (h : cs[0 + k * m + p]? = some mv) : (setL cs (0 + k * m + q) [v])[0 + k * m + p]? = some mv := by
  simp only [Nat.zero_add] at h ⊢
  rw [setL_one (by omega), List.getElem?_set_ne (row_ne hp hq hpq)]
  exact h

def cutY (f : Fil) (z : Int) : Int := if z ≤ 0 then f.sync else f.sync + (if (f.data.size : Int) - f.sync < z then (f.data.size : Int) - f.sync else z)
def crashF (f : Fil) (z : Int) : Fil := { f with sync := cutY f z, data := f.data.extract 0 (cutY f z).toNat }
def crashTo (l : List Fil) (ks : List Int) : Nat → List Fil
  | 0 => l
  | k + 1 => (crashTo l ks k).set k (crashF (l.getD k fil0) (ks.getD k 0))
theorem crash_len (l : List Fil) (ks : List Int) : ∀ k, (crashTo l ks k).length = l.length
  | 0 => rfl
  | k + 1 => by rw [crashTo, List.length_set]; exact crash_len l ks k
theorem crash_get (l : List Fil) (ks : List Int) : ∀ k j, k ≤ j → (crashTo l ks k)[j]? = l[j]?
  | 0, _, _ => rfl
  | k + 1, j, h => by rw [crashTo, List.getElem?_set_ne (by omega)]; exact crash_get l ks k j (by omega)
def crashR (d : Dsk) (ks : List Int) : Dsk × Int := if diskWhy d = 0 then (⟨crashTo d.files ks d.files.length, false, -1⟩, 0) else (⟨[], false, 0⟩, diskWhy d)
theorem cut_le {f : Fil} {z : Int} (h0 : 0 ≤ f.sync) (h1 : f.sync ≤ (f.data.size : Int)) : 0 ≤ cutY f z ∧ cutY f z ≤ (f.data.size : Int) ∧ f.sync ≤ cutY f z := by
  unfold cutY
  split
  · omega
  · split <;> omega
theorem cut_lo {f : Fil} {z : Int} (h : z ≤ 0) : cutY f z = f.sync := by unfold cutY; rw [if_pos h]
theorem cut_hi {f : Fil} {z : Int} (h : ¬z ≤ 0) : cutY f z = f.sync + (if (f.data.size : Int) - f.sync < z then (f.data.size : Int) - f.sync else z) := by unfold cutY; rw [if_neg h]
theorem crash_lo {l : List Fil} {ks : List Int} {k : Nat} (hk : k < l.length) (hz : ks.getD k 0 ≤ 0) : crashTo l ks (k + 1) = (crashTo l ks k).set k { l[k] with data := l[k].data.extract 0 l[k].sync.toNat } := by
  rw [crashTo, filD hk]; unfold crashF; rw [cut_lo hz]
theorem crash_hi {l : List Fil} {ks : List Int} {k : Nat} {y : Int} (hk : k < l.length) (hy : cutY l[k] (ks.getD k 0) = y) : crashTo l ks (k + 1) = (((crashTo l ks k).set k { l[k] with data := l[k].data.extract 0 l[k].sync.toNat }).set k { l[k] with data := l[k].data.extract 0 l[k].sync.toNat, sync := y }).set k { l[k] with data := l[k].data.extract 0 y.toNat, sync := y } := by
  rw [crashTo, filD hk, List.set_set, List.set_set]; unfold crashF; rw [hy]
theorem own_setQ {cs ws : List Value} {n k q m cap b : Nat} {T : TypeId} (h : OwnS m (.slice (some ⟨b, 0, none⟩) n cap) n ws [(b, .cells ⟨cs⟩ T (0, 0))]) (v : Value) (hk : k < n) (hq : q < m) :
    OwnS m (.slice (some ⟨b, 0, none⟩) n cap) n (ws.set (k * m + q) v) [(b, .cells ⟨setL cs (0 + k * m + q) [v]⟩ T (0, 0))] := by
  obtain ⟨e, _⟩ | ⟨b', cap', cs', T', e, e2, h1, h2, h3, h4, h5⟩ := h
  · cases e
  · cases e; cases e2
    exact own_setY v h3 hk hq h1 h2 h4 h5
theorem cell_self {cs : List Value} {p : Nat} {v : Value} (h : p < cs.length) : (setL cs p [v])[p]? = some v := by rw [setL_one h, List.getElem?_set_self h]
theorem intD {ks : List Int} {k : Nat} (h : k < ks.length) : ks.getD k 0 = ks[k] := by simp [h]
theorem ext_str {s : ByteArray} {n : Nat} (h : StrOk s) : StrOk (s.extract 0 n) := by unfold StrOk at *; rw [ByteArray.size_extract]; omega

end Go.Proofs.Ytjoaccnfnniahaa
