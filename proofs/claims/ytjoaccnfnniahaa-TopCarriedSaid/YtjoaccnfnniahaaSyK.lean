/- Binds, books and orders, as they lie in memory. Nothing of the program stands here. -/
import Derived.Test.YtjoaccnfnniahaaSyW
import Derived.Test.YtjoaccnfnniahaaSyH
namespace Go.Sy
open Go
set_option linter.unusedVariables false
structure Bnd where
  task : ByteArray
  node : ByteArray
  deriving DecidableEq
def Bnd.cells (b : Bnd) : List Value := [.string b.task, .string b.node]
def BndR (_ : Imm) (cs : List Value) (b : Bnd) : Prop := cs = b.cells ∧ StrOk b.task ∧ StrOk b.node
theorem BndR.len {I : Imm} {cs : List Value} {b : Bnd} (h : BndR I cs b) : cs.length = 2 := by rw [h.1]; rfl
theorem BndR.ones {I : Imm} {cs : List Value} {b : Bnd} (h : BndR I cs b) : Go.Sy.ones cs = true := by rw [h.1]; rfl
abbrev BndsR (I : Imm) (v : Value) (l : List Bnd) : Prop := SlR BndR 2 I v l
theorem BndsR.mono {I J : Imm} {v : Value} {l : List Bnd} (hI : I.le J) (h : BndsR I v l) : BndsR J v l := SlR.mono (I := I) (J := J) (fun _ _ h => h) hI h
structure BndZ (L : Nat → Nat → Prop) (S : Nat → Prop) (b : Bnd) : Prop where
  task : S b.task.size
  node : S b.node.size
structure Bk where
  nodes : List Nod
  tasks : List Tsk
  binds : List Bnd
  fence : Int
  deriving DecidableEq
def Bk.cells (b : Bk) (nv tv bv : Value) : List Value := [nv, tv, bv, .int .u64 b.fence]
structure BkR (I : Imm) (cs : List Value) (b : Bk) : Prop where
  ex : ∃ nv tv bv, cs = b.cells nv tv bv ∧ NodsR I nv b.nodes ∧ TsksR I tv b.tasks ∧ BndsR I bv b.binds
  fence : U64 b.fence
theorem BkR.mono {I J : Imm} {cs : List Value} {b : Bk} (hI : I.le J) (h : BkR I cs b) : BkR J cs b := by
  obtain ⟨nv, tv, bv, e, h1, h2, h3⟩ := h.ex
  exact ⟨⟨nv, tv, bv, e, h1.mono hI, h2.mono hI, h3.mono hI⟩, h.fence⟩
theorem BkR.len {I : Imm} {cs : List Value} {b : Bk} (h : BkR I cs b) : cs.length = 4 := by obtain ⟨_, _, _, rfl, _⟩ := h.ex; rfl
structure BkZ (L : Nat → Nat → Prop) (S : Nat → Prop) (b : Bk) : Prop where
  nodes : SlZ L (NodZ L S) 88 b.nodes
  tasks : SlZ L (TskZ L S) 128 b.tasks
  binds : SlZ L (BndZ L S) 32 b.binds
structure Ordr where
  kind : Int
  node : Nod
  task : Tsk
  name : ByteArray
  on : ByteArray
  fence : Int
  deriving DecidableEq
def Ordr.cells (o : Ordr) (lv tv wv bv : Value) : List Value := (.int .u8 o.kind :: o.node.cells lv tv) ++ (o.task.cells wv bv ++ [.string o.name, .string o.on, .int .u64 o.fence])
structure OrdrR (I : Imm) (cs : List Value) (o : Ordr) : Prop where
  ex : ∃ lv tv wv bv, cs = o.cells lv tv wv bv ∧ NodR I (o.node.cells lv tv) o.node ∧ PrsR I lv o.node.labels ∧ PrsR I tv o.node.taints ∧ TskR I (o.task.cells wv bv) o.task ∧ PrsR I wv o.task.wants ∧ PrsR I bv o.task.bears
  kind : U8 o.kind
  name : StrOk o.name
  on : StrOk o.on
  fence : U64 o.fence
structure OrdrZ (L : Nat → Nat → Prop) (S : Nat → Prop) (o : Ordr) : Prop where
  node : NodZ L S o.node
  task : TskZ L S o.task
  name : S o.name.size
  on : S o.on.size
/-! ### names in order -/
theorem bl_irr : ∀ l : List UInt8, Op.bytesLess l l = false
  | [] => rfl
  | x :: r => by simp [Op.bytesLess, bl_irr r]
theorem bl_tr : ∀ a b c : List UInt8, Op.bytesLess a b = true → Op.bytesLess b c = true → Op.bytesLess a c = true
  | _, [], c, h, h2 => by cases c <;> simp_all [Op.bytesLess]
  | [], _ :: _, [], h, h2 => by simp [Op.bytesLess] at h2
  | [], _ :: _, _ :: _, h, h2 => by simp [Op.bytesLess]
  | _ :: _, _ :: _, [], h, h2 => by simp [Op.bytesLess] at h2
  | x :: a, y :: b, z :: c, h, h2 => by
    simp only [Op.bytesLess, Bool.or_eq_true, decide_eq_true_eq, Bool.and_eq_true, beq_iff_eq] at h h2 ⊢
    rcases h with h | ⟨rfl, h⟩
    · rcases h2 with h2 | ⟨rfl, h2⟩
      · exact .inl (UInt8.lt_trans h h2)
      · exact .inl h
    · rcases h2 with h2 | ⟨rfl, h2⟩
      · exact .inl h2
      · exact .inr ⟨rfl, bl_tr a b c h h2⟩
theorem bl_tot : ∀ a b : List UInt8, Op.bytesLess a b = false → Op.bytesLess b a = false → a = b
  | [], [], _, _ => rfl
  | [], _ :: _, h, _ => by simp [Op.bytesLess] at h
  | _ :: _, [], _, h => by simp [Op.bytesLess] at h
  | x :: a, y :: b, h, h' => by
    simp only [Op.bytesLess, ne_eq, Bool.or_eq_false_iff, decide_eq_false_iff_not, Bool.and_eq_false_iff, beq_eq_false_iff_ne] at h h'
    have hxy : x = y := by
      rcases Nat.lt_trichotomy x.toNat y.toNat with h1 | h1 | h1
      · exact absurd (UInt8.lt_iff_toNat_lt.2 h1) h.1
      · exact UInt8.toNat_inj.1 h1
      · exact absurd (UInt8.lt_iff_toNat_lt.2 h1) h'.1
    subst hxy
    have h1 := h.2.resolve_left (fun e => e rfl)
    have h2 := h'.2.resolve_left (fun e => e rfl)
    rw [bl_tot a b h1 h2]
theorem lt_irr (a : ByteArray) : slt a a = false := bl_irr _
theorem lt_tr {a b c : ByteArray} (h : slt a b = true) (h2 : slt b c = true) : slt a c = true := bl_tr _ _ _ h h2
theorem lt_tot {a b : ByteArray} (h : slt a b = false) (h2 : slt b a = false) : a = b := by
  have h3 := bl_tot _ _ h h2
  have e : ∀ x : ByteArray, x.toList = x.data.toList := fun x => ByteArray.toList_eq x
  rw [e, e] at h3
  cases a; cases b; simp at h3; simp [h3]
theorem lt_asym {a b : ByteArray} (h : slt a b = true) : slt b a = false := by
  rw [Bool.eq_false_iff]; intro h2
  have := lt_tr h h2
  rw [lt_irr] at this; cases this
section
variable {α : Type} (nm : α → ByteArray)
def Rising (l : List α) : Prop := ∀ (i j : Nat) (hi : i < l.length) (hj : j < l.length), i < j → slt (nm l[i]) (nm l[j]) = true
def risAt (l : List α) (i : Nat) : Bool := match l[i]?, l[i + 1]? with
  | some a, some b => slt (nm a) (nm b)
  | _, _ => true
def risingB (l : List α) : Bool := (List.range (l.length - 1)).all (risAt nm l)
def posBy (l : List α) (s : ByteArray) : Nat := (l.takeWhile fun x => slt (nm x) s).length
def hasBy (l : List α) (s : ByteArray) : Bool := l.any fun x => decide (nm x = s)
variable {nm}
theorem pos_le {l : List α} {s : ByteArray} : posBy nm l s ≤ l.length := (List.takeWhile_prefix _).length_le
theorem pos_of {l : List α} {s : ByteArray} {k : Nat} (hk : k ≤ l.length) (h1 : ∀ j (hj : j < l.length), j < k → slt (nm l[j]) s = true) (h2 : ∀ hk : k < l.length, slt (nm l[k]) s = false) : posBy nm l s = k := by
  induction l generalizing k with
  | nil => simp at hk; subst hk; rfl
  | cons a r ih =>
    unfold posBy
    rw [List.takeWhile_cons]
    cases k with
    | zero =>
      have := h2 (by simp)
      simp at this
      rw [this]; rfl
    | succ k =>
      have h0 := h1 0 (by simp) (by omega)
      simp at h0
      rw [h0]
      simp only [if_true, List.length_cons]
      have := ih (k := k) (by simpa using hk) (fun j hj hjk => h1 (j + 1) (by simpa using hj) (by omega)) (fun hk => h2 (by simpa using hk))
      unfold posBy at this
      rw [this]
theorem has_at {l : List α} {s : ByteArray} (hr : Rising nm l) (hk : posBy nm l s < l.length) (h1 : ∀ j (hj : j < l.length), j < posBy nm l s → slt (nm l[j]) s = true) : hasBy nm l s = decide (nm l[posBy nm l s] = s) := by
  rw [Bool.eq_iff_iff]
  unfold hasBy
  rw [List.any_eq_true, decide_eq_true_eq]
  constructor
  · rintro ⟨x, hx, hs⟩
    rw [decide_eq_true_eq] at hs
    obtain ⟨j, hj, rfl⟩ := List.mem_iff_getElem.1 hx
    rcases Nat.lt_trichotomy j (posBy nm l s) with h | h | h
    · have := h1 j hj h; rw [hs, lt_irr] at this; cases this
    · subst h; exact hs
    · have h3 := hr _ _ hk hj h
      rw [hs] at h3
      have h4 : slt (nm l[posBy nm l s]) s = false := by
        have key : ∀ (l : List α) (h : posBy nm l s < l.length), slt (nm l[posBy nm l s]) s = false := by
          intro l
          induction l with
          | nil => intro h; simp at h
          | cons a r ih =>
            intro h
            unfold posBy at h ⊢
            by_cases ha : slt (nm a) s = true
            · simp only [List.takeWhile_cons, ha, if_true, List.length_cons] at h ⊢
              exact ih (by unfold posBy; simpa using h)
            · simp only [List.takeWhile_cons, ha, Bool.false_eq_true, if_false, List.length_nil]
              simpa using ha
        exact key l hk
      rw [h3] at h4; cases h4
  · intro h
    exact ⟨_, List.getElem_mem hk, by rw [decide_eq_true_eq]; exact h⟩
theorem has_none {l : List α} {s : ByteArray} (h : ∀ j (hj : j < l.length), slt (nm l[j]) s = true) : hasBy nm l s = false := by
  rw [Bool.eq_false_iff]
  unfold hasBy
  intro h2
  obtain ⟨x, hx, hs⟩ := List.any_eq_true.1 h2
  rw [decide_eq_true_eq] at hs
  obtain ⟨j, hj, rfl⟩ := List.mem_iff_getElem.1 hx
  have := h j hj
  rw [hs, lt_irr] at this; cases this
end
end Go.Sy
