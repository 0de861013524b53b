/- From what an argument reads as to plain data in memory that never turns; and a law's row out of its walk. Nothing of the program's code stands here. -/
import Derived.Test.YtjoaccnfnniahaaSyT
import Derived.ProofKit
import Derived.Deep.Slices
import Derived.Below
import Derived.SizedLaws
import Derived.OpenShut
import Derived.Carry
import Derived.ChangeOld
import Derived.WideShapes
namespace Go.Sy
set_option linter.unusedSimpArgs false
set_option linter.unusedVariables false
open Go.ChangeShapes Go.WideShapes Go.Deep Go.RowKit

def snap (W : World) : Imm := ⟨fun b => W.heap[b]?, W.env⟩
theorem sat_snap (W : World) : Sat W (snap W) [] := ⟨fun _ _ h => h, (fun _ _ h => by cases h), List.nodup_nil, (fun _ _ h => by cases h), rfl⟩
theorem below_of_sat {W w' : World} {I' : Imm} (h : Sat w' I' []) (hI : (snap W).le I') : Below W.heap.size W w' := by
  have he := h.env.trans hI.env
  have h1 : w'.os = W.os := congrArg Env.os he
  have h2 : w'.tape = W.tape := congrArg Env.tape he
  have h3 : w'.output = W.output := congrArg Env.output he
  have hb : ∀ k, k < W.heap.size → w'.heap[k]? = W.heap[k]? := fun k hk => by
    have e : W.heap[k]? = some W.heap[k] := Array.getElem?_eq_getElem hk
    rw [e]
    exact h.imm k _ (hI.row k _ e)
  refine ⟨h1, h2, h3, ?_, hb⟩
  rcases Nat.eq_zero_or_pos W.heap.size with h0 | h0
  · omega
  · have := hb (W.heap.size - 1) (by omega)
    have h4 : W.heap[W.heap.size - 1]? = some (W.heap[W.heap.size - 1]'(by omega)) := Array.getElem?_eq_getElem (by omega)
    rw [h4] at this
    have := (Array.getElem?_eq_some_iff.1 this).1
    omega

/-- What is known of the size of what is read. -/
structure Meas (P : Program) (H : Type) where
  ok : TypeId → DataW H → Prop
  L : Nat → Nat → Prop
  S : Nat → Prop
  nil : ∀ b, L b 0
  agg : ∀ {t : TypeId} {fs : Array Field} {ds : List (DataW H)} {i : Nat} {f : Field} {d : DataW H}, P.underlying t = some (.struct fs) → ok t (.agg ds) → fs[i]? = some f → ds[i]? = some d → ok f.type d
  arr : ∀ {t e : TypeId} {n : Nat} {ds : List (DataW H)} {d : DataW H}, P.underlying t = some (.array n e) → ok t (.agg ds) → d ∈ ds → ok e d
  len : ∀ {t e : TypeId} {l r : List (DataW H)}, P.underlying t = some (.slice e) → ok t (.slice l r) → L (P.bytesOf e) l.length
  elem : ∀ {t e : TypeId} {l r : List (DataW H)} {d : DataW H}, P.underlying t = some (.slice e) → ok t (.slice l r) → d ∈ l → ok e d
  str : ∀ {t : TypeId} {b : List UInt8}, ok t (.lit (.string b)) → S b.length
def Meas.any (P : Program) (H : Type) : Meas P H := ⟨fun _ _ => True, fun _ _ => True, fun _ => True, fun _ => trivial, fun _ _ _ _ => trivial, fun _ _ _ => trivial, fun _ _ => trivial, fun _ _ _ => trivial, fun _ => trivial⟩
theorem weights_each {H : Type} {P : Program} {fs : Array Field} {ds : List (DataW H)} {i : Nat} {f : Field} {d : DataW H} (hf : fs[i]? = some f) (hd : ds[i]? = some d) : ∀ n ∈ d.weights P f.type, n ∈ DataW.weightsEach P (fs.toList.map (·.type)) ds := fun n hn =>
  DataW.weights_mem_each (j := i) (by simp [← Array.getElem?_toList] at hf ⊢; exact ⟨f, hf, rfl⟩) hd n hn
theorem weights_all {H : Type} {P : Program} {e : TypeId} : ∀ {ds : List (DataW H)} {d : DataW H}, d ∈ ds → ∀ n ∈ d.weights P e, n ∈ DataW.weightsAll P e ds
  | [], _, h, _, _ => by cases h
  | a :: r, d, h, n, hn => by
    unfold DataW.weightsAll
    rcases List.mem_cons.1 h with rfl | h
    · exact List.mem_append_left _ hn
    · exact List.mem_append_right _ (weights_all h n hn)
def Meas.said (P : Program) (H : Type) : Meas P H where
  ok t d := ∀ n ∈ d.weights P t, n ≤ reachBytes
  L b n := n * b ≤ reachBytes
  S n := n ≤ reachBytes
  nil b := by rw [Nat.zero_mul]; exact Nat.zero_le _
  agg hu h hf hd := fun n hn => h n (by simp only [DataW.weights, hu]; exact weights_each hf hd n hn)
  arr hu h hd := fun n hn => h n (by simp only [DataW.weights, hu]; exact weights_all hd n hn)
  len {t e l r} hu h := Nat.le_trans (Nat.mul_le_mul_right _ (Nat.le_add_right l.length r.length)) (h _ (by simp only [DataW.weights, hu]; exact List.mem_cons_self))
  elem hu h hd := fun n hn => h n (by simp only [DataW.weights, hu]; exact List.mem_cons_of_mem _ (List.mem_append_left _ (weights_all hd n hn)))
  str {t b} h := h _ (by simp [DataW.weights])
theorem said_of {H : Type} {P : Program} {ts : List TypeId} {ds : List (DataW H)} (h : (DataW.weightsEach P ts ds).all (· ≤ reachBytes) = true) {j : Nat} {t : TypeId} {d : DataW H} (ht : ts[j]? = some t) (hd : ds[j]? = some d) : (Meas.said P H).ok t d := fun n hn =>
  of_decide_eq_true (List.all_eq_true.1 h n (DataW.weights_mem_each ht hd n hn))

section
variable {H : Type} {enc : TypeId × Value → H} {P : Program} {W : World} {base : Nat} {spare : Nat → Bool} {held : Bool} {fuel : Nat} {t : TypeId} {cs : List Value} {x : DataW H × List MemPlace} (M : Meas P H)
theorem rd_int {k : IntKind} (ht : P.underlying t = some (.int k)) (h : DataW.trod enc P W base spare held fuel t cs = some x) : ∃ n, cs = [.int k n] ∧ (Lit.int k n).wf = true := by
  cases fuel with
  | zero => simp [DataW.trod] at h
  | succ m =>
    unfold DataW.trod at h
    rw [ht] at h
    split at h <;> simp_all
theorem rd_str (ht : P.underlying t = some .string) (h : DataW.trod enc P W base spare held fuel t cs = some x) (hm : M.ok t x.1) : ∃ s, cs = [.string s] ∧ StrOk s ∧ M.S s.size := by
  cases fuel with
  | zero => simp [DataW.trod] at h
  | succ m =>
    unfold DataW.trod at h
    rw [ht] at h
    split at h <;> simp_all
    obtain ⟨h1, h2⟩ := h
    subst h2
    refine ⟨h1, ?_⟩
    have := M.str hm
    simpa using this
theorem rd_bool (ht : P.underlying t = some .bool) (h : DataW.trod enc P W base spare held fuel t cs = some x) : ∃ b, cs = [.bool b] := by
  cases fuel with
  | zero => simp [DataW.trod] at h
  | succ m =>
    unfold DataW.trod at h
    rw [ht] at h
    split at h <;> simp_all
theorem rd_struct {fs : Array Field} (ht : P.underlying t = some (.struct fs)) (h : DataW.trod enc P W base spare held fuel t cs = some x) (hm : M.ok t x.1) :
    ∃ n, cs.length = P.cellsOf t ∧ ∀ (i : Nat) (f : Field), fs[i]? = some f → ∃ y, DataW.trod enc P W base spare held n f.type ((cs.drop f.offset).take (P.cellsOf f.type)) = some y ∧ M.ok f.type y.1 := by
  obtain ⟨ys, n, _, rfl, hl, hyl, hf⟩ := DataW.trod_struct ht h
  refine ⟨n, hl, fun i f hi => ?_⟩
  have hlt : i < fs.size := (Array.getElem?_eq_some_iff.1 hi).1
  rw [hf i f hi]
  exact ⟨_, List.getElem?_eq_getElem (by omega), M.agg ht hm hi (by rw [List.getElem?_map, List.getElem?_eq_getElem (by omega)]; rfl)⟩
theorem rd_array {m : Nat} {e : TypeId} (ht : P.underlying t = some (.array m e)) (h : DataW.trod enc P W base spare held fuel t cs = some x) :
    ∃ n, cs.length = P.cellsOf t ∧ ∀ i, i < m → ∃ y, DataW.trod enc P W base spare held n e ((cs.drop (i * P.cellsOf e)).take (P.cellsOf e)) = some y := by
  obtain ⟨ys, n, _, _, hl, hyl, hf⟩ := DataW.trod_array ht h
  refine ⟨n, hl, fun i hi => ?_⟩
  rw [hf i hi]
  exact ⟨_, List.getElem?_eq_getElem (by omega)⟩
theorem rd_a3 {e : TypeId} (ht : P.underlying t = some (.array 3 e)) (he : P.underlying e = some (.int .i64)) (hc : P.cellsOf t = 3) (hce : P.cellsOf e = 1) (h : DataW.trod enc P W base spare held fuel t cs = some x) :
    ∃ a : A3, cs = a.cells ∧ a.ok := by
  obtain ⟨n, hl, hf⟩ := rd_array ht h
  rw [hc] at hl
  obtain ⟨y0, h0⟩ := hf 0 (by omega)
  obtain ⟨y1, h1⟩ := hf 1 (by omega)
  obtain ⟨y2, h2⟩ := hf 2 (by omega)
  match cs, hl with
  | [c0, c1, c2], _ =>
    rw [hce] at h0 h1 h2
    obtain ⟨n0, e0, w0⟩ := rd_int (cs := [c0]) he h0
    obtain ⟨n1, e1, w1⟩ := rd_int (cs := [c1]) he h1
    obtain ⟨n2, e2, w2⟩ := rd_int (cs := [c2]) he h2
    cases e0; cases e1; cases e2
    exact ⟨⟨n0, n1, n2⟩, rfl, bounds_i64 w0, bounds_i64 w1, bounds_i64 w2⟩
theorem at_cells {a : Addr} {n : Nat} {cs : List Value} (h : W.cells? base a n = some cs) (hn : 0 < n) : ∃ b off, a = ⟨b, off, none⟩ ∧ At (snap W) b off cs := by
  obtain ⟨_, hl, hc⟩ := World.cells?_some h
  have h0 := hc 0 hn
  rw [List.getElem?_eq_getElem (by omega)] at h0
  have e0 : a.add 0 = a := by unfold Addr.add; rfl
  rw [e0] at h0
  obtain ⟨b, off, spot⟩ := a
  have hsp : spot = none := by
    cases spot with
    | none => rfl
    | some s =>
      unfold World.cell? at h0
      split at h0 <;> simp at h0
  subst hsp
  refine ⟨b, off, rfl, .inr ?_⟩
  have hrow : ∃ arr T fz, W.heap[b]? = some (.cells arr T fz) := by
    unfold World.cell? at h0
    split at h0
    · rename_i arr T fz hb; exact ⟨arr, T, fz, hb⟩
    · cases h0
  obtain ⟨arr, T, fz, hb⟩ := hrow
  refine ⟨arr, T, fz, hb, fun j v hv => ?_⟩
  have hj : j < n := by have := (List.getElem?_eq_some_iff.1 hv).1; omega
  have h1 := hc j hj
  rw [hv, addr_add] at h1
  simpa [World.cell?, hb] using h1
theorem rd_slice {α : Type} {R : Imm → List Value → α → Prop} {Z : α → Prop} {e : TypeId} {m b : Nat} (ht : P.underlying t = some (.slice e)) (hc : P.cellsOf e = m) (hb : P.bytesOf e = b) (hm : 0 < m)
    (hE : ∀ n cs y, DataW.trod enc P W base spare held n e cs = some y → M.ok e y.1 → ∃ x, R (snap W) cs x ∧ Z x) (h : DataW.trod enc P W base spare held fuel t cs = some x) (hx : M.ok t x.1) :
    ∃ v xs, cs = [v] ∧ SlR R m (snap W) v xs ∧ M.L b xs.length ∧ ∀ x ∈ xs, Z x := by
  rcases open_slice ht h with ⟨rfl, _⟩ | ⟨a, len, cap, k, n, D, Pl, rfl, _, hl, hcap, hk, rfl, hi⟩
  · exact ⟨_, [], rfl, SlR.nil, M.nil _, fun _ h => by cases h⟩
  · rw [hc] at hi
    have hlk : len ≤ k := by rw [hk]; split <;> omega
    have hall : ∀ i : Fin len, ∃ x : α, (∃ cs', W.cells? base (a.add (i.1 * m)) m = some cs' ∧ R (snap W) cs' x) ∧ Z x := fun i => by
      obtain ⟨cs', h1, h2⟩ := hi i.1 (by omega)
      obtain ⟨x, hx, hz⟩ := hE _ _ _ h2 (M.elem ht hx (List.mem_map.2 ⟨i.1, List.mem_range.2 i.2, rfl⟩))
      exact ⟨x, ⟨cs', h1, hx⟩, hz⟩
    have hL : M.L b len := by have := M.len ht hx; rw [hb] at this; simpa using this
    refine ⟨_, List.ofFn fun i => Classical.choose (hall i), rfl, ⟨some a, cap, by simp, by simpa using hl, by unfold maxLen at hcap; exact hcap, ?_⟩, by simpa using hL, fun x hx => ?_⟩
    · rcases Nat.eq_zero_or_pos len with h0 | h0
      · left; subst h0; simp
      · right
        obtain ⟨⟨cs0, h1, _⟩, _⟩ := Classical.choose_spec (hall ⟨0, h0⟩)
        obtain ⟨b, off, ha, _⟩ := at_cells h1 hm
        have ha' : a = ⟨b, off, none⟩ := by simpa [Addr.add] using ha
        subst ha'
        refine ⟨b, off, rfl, fun i x hx => ?_⟩
        rw [List.getElem?_ofFn] at hx
        split at hx
        · rename_i hlt
          cases hx
          obtain ⟨⟨cs', h1, h2⟩, _⟩ := Classical.choose_spec (hall ⟨i, hlt⟩)
          rw [addr_add] at h1
          obtain ⟨b', off', he, hat⟩ := at_cells h1 hm
          cases he
          exact ⟨cs', hat, h2⟩
        · cases hx
    · obtain ⟨i, rfl⟩ := (List.mem_ofFn ..).1 hx
      exact (Classical.choose_spec (hall i)).2
theorem wide_agg {r : Reach} {v : Value} (ht : (∃ fs, P.underlying t = some (.struct fs)) ∨ ∃ n e, P.underlying t = some (.array n e)) (h : Value.okWide P W r base t v) : ∃ cs : List Value, v = .agg ⟨cs⟩ := by
  rcases ht with ⟨fs, ht⟩ | ⟨n, e, ht⟩ <;>
  · simp only [Value.okWide, ht] at h
    obtain ⟨cs, h1, _⟩ := h
    exact ⟨cs.toList, h1⟩
theorem cells_one {v : Value} (h : one v) : v.cells.toList = [v] := by cases v <;> first | exact h.elim | rfl
end
/-! a world that holds listed tables -/
def litCells : Nat → DataW Unit → List Value
  | _, .lit l => [l.value]
  | n + 1, .agg ds => ds.flatMap (litCells n)
  | _, _ => []
def fillRow (l : List Value) : Obj → Obj
  | .cells _ t fz => .cells ⟨l⟩ t fz
  | o => o
def World.lay (w : World) (b : Nat) (d : DataW Unit) : World := { w with heap := w.heap.modify b (fillRow (litCells 6 d)) }
end Go.Sy
