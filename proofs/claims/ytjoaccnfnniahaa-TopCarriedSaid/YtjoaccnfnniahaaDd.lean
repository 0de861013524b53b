/- Walks of functions over a symbolic memory, printed by a program of the session. -/
import Derived.Test.YtjoaccnfnniahaaDc
namespace Go.Proofs.Ytjoaccnfnniahaa
open Go.Sy
set_option linter.unusedSimpArgs false
set_option linter.unusedVariables false

theorem cellY {cs ws : List Value} {n k p m : Nat} {v : Value} (hw : cs.take (n * m) = ws) (h : ws[k * m + p]? = some v) : cs[0 + k * m + p]? = some v := by
  subst hw
  rw [List.getElem?_take] at h
  split at h
  · rw [Nat.zero_add]; exact h
  · cases h
theorem own_setY {cs ws : List Value} {n k q m cap b : Nat} {T : TypeId} (v : Value) (hw : cs.take (n * m) = ws) (hk : k < n) (hq : q < m) (hn : n ≤ cap) (hc : cs.length = cap * m) (hl : ws.length = n * m) (hm : cap ≤ 9223372036854775807) :
    OwnS m (.slice (some ⟨b, 0, none⟩) n cap) n (ws.set (k * m + q) v) [(b, .cells ⟨setL cs (0 + k * m + q) [v]⟩ T (0, 0))] := by
  have h1 : k * m + m ≤ n * m := by rw [← Nat.succ_mul]; exact Nat.mul_le_mul_right m hk
  have h2 : n * m ≤ cap * m := Nat.mul_le_mul_right m hn
  rw [setL_one (by omega), Nat.zero_add]
  exact .inr ⟨b, cap, _, T, rfl, rfl, hn, by simpa using hc, by rw [List.take_set, hw], by simpa using hl, hm⟩

def baseF (d : Dsk) (s : ByteArray) : List Fil := if hasF d s = true then d.files else d.files.take (posF d s) ++ (⟨s, ⟨#[]⟩, 0⟩ :: d.files.drop (posF d s))
def atF (d : Dsk) (s : ByteArray) : Fil := (baseF d s).getD (posF d s) fil0
def putF (d : Dsk) (s x : ByteArray) : List Fil := (baseF d s).set (posF d s) { atF d s with data := (atF d s).data ++ x }
def syncF (d : Dsk) (s : ByteArray) : List Fil := d.files.set (posF d s) { atF d s with sync := ((atF d s).data.size : Int) }
def addR (d : Dsk) (s x : ByteArray) : Dsk × Int := if diskWhy d = 0 then (if d.down = true then (d, 8) else if refA d s = 0 then (if d.fuse = 0 then (⟨putF d s x, true, d.fuse⟩, 8) else (⟨putF d s x, d.down, if 0 < d.fuse then d.fuse - 1 else d.fuse⟩, 0)) else (d, refA d s)) else (⟨[], false, 0⟩, diskWhy d)
def syncR (d : Dsk) (s : ByteArray) : Dsk × Int := if diskWhy d = 0 then (if d.down = true then (d, 8) else if refS d s = 0 then (if d.fuse = 0 then (⟨d.files, true, d.fuse⟩, 8) else (⟨syncF d s, d.down, if 0 < d.fuse then d.fuse - 1 else d.fuse⟩, 0)) else (d, refS d s)) else (⟨[], false, 0⟩, diskWhy d)
theorem base_yes {d : Dsk} {s : ByteArray} (h : hasF d s = true) : baseF d s = d.files := by unfold baseF; rw [if_pos h]
theorem base_no {d : Dsk} {s : ByteArray} (h : hasF d s = false) : baseF d s = d.files.take (posF d s) ++ (⟨s, ⟨#[]⟩, 0⟩ :: d.files.drop (posF d s)) := by unfold baseF; rw [if_neg (by rw [h]; simp)]
theorem posF_le {d : Dsk} {s : ByteArray} : posF d s ≤ d.files.length := pos_le
theorem base_len {d : Dsk} {s : ByteArray} : (baseF d s).length = if hasF d s = true then d.files.length else d.files.length + 1 := by
  have := posF_le (d := d) (s := s)
  unfold baseF; split
  · rfl
  · rw [List.length_append, List.length_take, List.length_cons, List.length_drop]; omega
theorem base_at {d : Dsk} {s : ByteArray} (h : filesTo d.files d.files.length = true) : posF d s < (baseF d s).length := by
  rw [base_len]
  have := posF_le (d := d) (s := s)
  split
  · rename_i h2; exact (has_get (disk_rising h) h2).1
  · omega
theorem at_yes {d : Dsk} {s : ByteArray} (h : hasF d s = true) : atF d s = d.files.getD (posF d s) fil0 := by unfold atF; rw [base_yes h]
theorem at_no {d : Dsk} {s : ByteArray} (h : hasF d s = false) : atF d s = ⟨s, ⟨#[]⟩, 0⟩ := by
  have := posF_le (d := d) (s := s)
  have e : (d.files.take (posF d s)).length = posF d s := by rw [List.length_take]; omega
  unfold atF; rw [base_no h, List.getD_eq_getElem?_getD, List.getElem?_append_right (by omega), e, Nat.sub_self]; rfl
theorem at_get {d : Dsk} {s : ByteArray} (h : posF d s < (baseF d s).length) : (baseF d s)[posF d s]? = some (atF d s) := by
  unfold atF; rw [List.getD_eq_getElem?_getD, List.getElem?_eq_getElem h]; rfl
theorem at_str {d : Dsk} {s x : ByteArray} (hx : StrOk x) (hs : ∀ f ∈ d.files, StrOk (f.data ++ x)) (h : posF d s < (baseF d s).length) : StrOk ((atF d s).data ++ x) := by
  cases h2 : hasF d s with
  | true => 
    have h3 := at_get h
    rw [base_yes h2] at h3
    exact hs _ (List.mem_of_getElem? h3)
  | false =>
    rw [at_no h2]
    unfold StrOk at *
    rw [ByteArray.size_append]; show 0 + x.size ≤ _; omega
theorem fil_at {I : Imm} {ws : List Value} {l : List Fil} {k : Nat} {f : Fil} (h : DR FilR 3 I ws l) (hk : l[k]? = some f) : ws[k * 3 + 1]? = some (.string f.data) ∧ ws[k * 3 + 2]? = some (.int .i64 f.sync) ∧ ws[k * 3 + 0]? = some (.string f.name) := by
  obtain ⟨e, _⟩ := h.2 k f hk
  have h1 := congrArg (fun x : List Value => x[1]?) e
  have h2 := congrArg (fun x : List Value => x[2]?) e
  have h3 := congrArg (fun x : List Value => x[0]?) e
  simp only [List.getElem?_take, List.getElem?_drop, Fil.cells] at h1 h2 h3
  exact ⟨by simpa using h1, by simpa using h2, by simpa using h3⟩
theorem lt_of_get {α : Type} {l : List α} {k : Nat} {x : α} (h : l[k]? = some x) : k < l.length := (List.getElem?_eq_some_iff.1 h).1
theorem fil_put {I : Imm} {ws : List Value} {l : List Fil} {k : Nat} {f : Fil} {y : ByteArray} (h : DR FilR 3 I ws l) (hk : l[k]? = some f) (hy : StrOk y) : DR FilR 3 I (ws.set (k * 3 + 1) (.string y)) (l.set k { f with data := y }) := by
  obtain ⟨e, h1, _, h3⟩ := h.2 k f hk
  exact DR.setCell h (lt_of_get hk) (by decide) (fun _ _ h => h) ⟨by rw [e]; rfl, h1, hy, h3⟩
theorem fil_sync {I : Imm} {ws : List Value} {l : List Fil} {k : Nat} {f : Fil} {z : Int} (h : DR FilR 3 I ws l) (hk : l[k]? = some f) (hz : I64 z) : DR FilR 3 I (ws.set (k * 3 + 2) (.int .i64 z)) (l.set k { f with sync := z }) := by
  obtain ⟨e, h1, h2, _⟩ := h.2 k f hk
  exact DR.setCell h (lt_of_get hk) (by decide) (fun _ _ h => h) ⟨by rw [e]; rfl, h1, h2, hz⟩

theorem refS_in {d : Dsk} {s : ByteArray} (h : refS d s = 0) : hasF d s = true := by
  unfold refS at h
  split at h
  · assumption
  · cases h

end Go.Proofs.Ytjoaccnfnniahaa
