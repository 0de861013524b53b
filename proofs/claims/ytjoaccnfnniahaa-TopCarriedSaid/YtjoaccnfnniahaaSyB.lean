/- The rules of single operations over a symbolic memory; regions in order and regions that draw their order. Nothing of the program stands here. -/
import Derived.Test.YtjoaccnfnniahaaSyA
namespace Go.Sy
set_option linter.unusedSimpArgs false
set_option linter.unusedVariables false
set_option linter.unnecessarySimpa false

/-! ### facts on types, to be met by the kernel once a seat -/
def szOf (P : Program) (t : TypeId) : Option Nat := (P.info? t).map (·.size)
def byOf (P : Program) (t : TypeId) : Option Nat := (P.info? t).map (·.bytes)
def zrOf (P : Program) (t : TypeId) : Option (List Value) := (P.info? t).bind fun i => i.zero.map fun z => z.cells.toList
def zvOf (P : Program) (t : TypeId) : Option Value := (P.info? t).bind (·.zero)
def isAggD : TypeDesc → Bool
  | .struct _ | .array _ _ => true
  | _ => false
def aggOf (P : Program) (t : TypeId) : Option Bool := (P.underlying t).map isAggD
def fieldOff (P : Program) (s : TypeId) (f : Nat) : Option Nat :=
  match P.underlying s with
  | some (.struct fs) => match fs[f]? with
    | some fd => match szOf P fd.type with
      | some 0 | none => none
      | some _ => some fd.offset
    | none => none
  | _ => none
def fieldTy (P : Program) (s : TypeId) (f : Nat) : Option (TypeId × Nat) :=
  match P.underlying s with
  | some (.struct fs) => (fs[f]?).map fun fd => (fd.type, fd.offset)
  | _ => none
def slOf (P : Program) (t : TypeId) : Option (TypeId × Nat) :=
  match P.underlying t with
  | some (.slice e) => (szOf P e).map fun n => (e, n)
  | _ => none
def arOf (P : Program) (t : TypeId) : Option (Nat × TypeId × Nat) :=
  match P.underlying t with
  | some (.array n e) => (szOf P e).map fun k => (n, e, k)
  | _ => none

section
variable {P : Program} {w : World}
theorem run_underlying {t : TypeId} {d : TypeDesc} (h : P.underlying t = some d) : (underlying t).run P w = .ok d w := by
  unfold underlying
  simp [program, Sem.run, h]
theorem run_typeInfo {t : TypeId} {i : TypeInfo} (h : P.info? t = some i) : (typeInfo t).run P w = .ok i w := by
  unfold typeInfo
  simp [program, Sem.run, h]
theorem run_sizeOf {t : TypeId} {k : Nat} (h : szOf P t = some k) : (sizeOf t).run P w = .ok k w := by
  unfold szOf at h
  obtain ⟨i, hi, rfl⟩ := Option.map_eq_some_iff.1 h
  unfold sizeOf
  simp [run_typeInfo hi]
theorem run_bytesOf {t : TypeId} {k : Nat} (h : byOf P t = some k) : ∃ i, (typeInfo t).run P w = .ok i w ∧ i.bytes = k := by
  unfold byOf at h
  obtain ⟨i, hi, rfl⟩ := Option.map_eq_some_iff.1 h
  exact ⟨i, run_typeInfo hi, rfl⟩
theorem run_zeroValue {t : TypeId} {z : Value} (h : zvOf P t = some z) : (zeroValue t).run P w = .ok z w := by
  unfold zvOf at h
  obtain ⟨i, hi, hz⟩ := Option.bind_eq_some_iff.1 h
  unfold zeroValue
  simp [run_typeInfo hi, hz]
theorem run_isAgg {t : TypeId} {b : Bool} (h : aggOf P t = some b) : (isAgg t).run P w = .ok b w := by
  unfold aggOf at h
  obtain ⟨d, hd, rfl⟩ := Option.map_eq_some_iff.1 h
  unfold isAgg
  rw [Sem.run_bind, run_underlying hd]
  cases d <;> rfl

/-- A list of cells that can be read at an address. -/
def CellsAt (w : World) (b off : Nat) (cs : List Value) : Prop := ∀ j v, cs[j]? = some v → w.cell? ⟨b, off + j, none⟩ = some v
theorem addr_add (b off n : Nat) : (⟨b, off, none⟩ : Addr).add n = ⟨b, off + n, none⟩ := by
  unfold Addr.add; split
  · rename_i h; subst h; rfl
  · rfl
theorem run_loadCellsFrom {b off : Nat} : ∀ (n i : Nat) (acc : Array Value) (cs : List Value), cs.length = n → CellsAt w b (off + i) cs →
    (loadCellsFrom ⟨b, off, none⟩ i n acc).run P w = .ok (acc ++ cs.toArray) w
  | 0, i, acc, cs, hn, _ => by
    have : cs = [] := List.length_eq_zero_iff.1 hn
    subst this; simp [loadCellsFrom]
  | n + 1, i, acc, [], hn, _ => by simp at hn
  | n + 1, i, acc, c :: cs, hn, h => by
    have h0 : w.cell? ⟨b, off + i, none⟩ = some c := by simpa using h 0 c rfl
    have h1 : CellsAt w b (off + (i + 1)) cs := fun j v e => by
      have := h (j + 1) v (by simpa using e)
      rw [show off + (i + 1) + j = off + i + (j + 1) from by omega]; exact this
    unfold loadCellsFrom
    rw [Sem.run_bind, addr_add]
    simp only [load, Sem.run, h0, Result.andThen_ok]
    rw [run_loadCellsFrom n (i + 1) (acc.push c) cs (by simpa using hn) h1]
    simp
theorem run_loadCells {b off n : Nat} {cs : List Value} (hn : cs.length = n) (h : CellsAt w b off cs) : (loadCells ⟨b, off, none⟩ n).run P w = .ok cs.toArray w := by
  unfold loadCells
  rw [run_loadCellsFrom n 0 #[] cs hn (by simpa using h)]; simp
theorem run_loadVar_agg {t : TypeId} {b off n : Nat} {cs : List Value} (ha : aggOf P t = some true) (hs : szOf P t = some n) (hn : cs.length = n) (h : CellsAt w b off cs) :
    (loadVar t ⟨b, off, none⟩).run P w = .ok (.agg ⟨cs⟩) w := by
  unfold loadVar
  rw [Sem.run_bind, run_isAgg ha]
  simp only [Result.andThen_ok, if_true]
  rw [Sem.run_bind, run_sizeOf hs]
  simp only [Result.andThen_ok]
  rw [Sem.run_bind, run_loadCells hn h]; rfl
theorem run_loadVar_one {t : TypeId} {b off : Nat} {v : Value} (ha : aggOf P t = some false) (h : w.cell? ⟨b, off, none⟩ = some v) :
    (loadVar t ⟨b, off, none⟩).run P w = .ok v w := by
  unfold loadVar
  rw [Sem.run_bind, run_isAgg ha]
  simp [load, Sem.run, h]
end

/-! ### operations that only yield a value -/
/-- Blocks that are known in a world. -/
def Knows (w : World) (I : Imm) (B : Own) : Prop := (∀ b q, I b = some q → w.heap[b]? = some q) ∧ ∀ b q, (b, q) ∈ B → w.heap[b]? = some q
theorem Sat.knows {w : World} {I : Imm} {O : Own} (h : Sat w I O) : Knows w I O := ⟨h.imm, h.own⟩

def EV (P : Program) (F : Fr) (I : Imm) (B : Own) (o : Oper) (v : Value) : Prop :=
  ∀ ρ : Operand → Value, (∀ x u, F.op x = some u → ρ x = u) → ∀ w, Knows w I B → (execOp ρ o).run P w = .ok (.value v) w

theorem Fr.evals {F : Fr} {ρ : Operand → Value} (hρ : ∀ x u, F.op x = some u → ρ x = u) : ∀ {xs : List Operand} {vs : List Value}, F.ops xs = some vs → xs.map ρ = vs
  | [], vs, hv => by simp [Fr.ops] at hv; simp [hv]
  | x :: r, vs, hv => by
    unfold Fr.ops at hv
    split at hv
    · rename_i v l h1 h2
      cases hv
      simp [hρ _ _ h1, Fr.evals hρ h2]
    · cases hv

section
variable {P : Program} {F : Fr} {I : Imm} {B : Own} {d : Option Tmp} {ty : TypeId} {pos : String} {af : Array Edge} {g : Option (Nat × Bool)}

theorem EV.move {x : Operand} {v : Value} (hx : F.op x = some v) : EV P F I B ⟨d, .move x, ty, pos, af, g⟩ v := fun ρ hρ w _ => by
  simp only [execOp, hρ _ _ hx]; rfl
theorem EV.assign {x : Operand} {v : Value} (hx : F.op x = some v) : EV P F I B ⟨d, .assign x, ty, pos, af, g⟩ v := fun ρ hρ w _ => by
  simp only [execOp, hρ _ _ hx]; rfl
theorem EV.pick {c x y : Operand} {b : Bool} {u v : Value} (hc : F.op c = some (.bool b)) (hx : F.op x = some u) (hy : F.op y = some v) :
    EV P F I B ⟨d, .pick c x y, ty, pos, af, g⟩ (if b then u else v) := fun ρ hρ w _ => by
  simp only [execOp, hρ _ _ hc, hρ _ _ hx, hρ _ _ hy]
  cases b <;> rfl
theorem EV.pickT {c x y : Operand} {u : Value} (hc : F.op c = some (.bool true)) (hx : F.op x = some u) :
    EV P F I B ⟨d, .pick c x y, ty, pos, af, g⟩ u := fun ρ hρ w _ => by
  simp only [execOp, hρ _ _ hc, hρ _ _ hx]; rfl
theorem EV.pickF {c x y : Operand} {v : Value} (hc : F.op c = some (.bool false)) (hy : F.op y = some v) :
    EV P F I B ⟨d, .pick c x y, ty, pos, af, g⟩ v := fun ρ hρ w _ => by
  simp only [execOp, hρ _ _ hc, hρ _ _ hy]; rfl
theorem EV.pickB {c x y : Operand} {b u v : Bool} (hc : F.op c = some (.bool b)) (hx : F.op x = some (.bool u)) (hy : F.op y = some (.bool v)) :
    EV P F I B ⟨d, .pick c x y, ty, pos, af, g⟩ (.bool (if b then u else v)) := fun ρ hρ w _ => by
  simp only [execOp, hρ _ _ hc, hρ _ _ hx, hρ _ _ hy]
  cases b <;> rfl

theorem Knows.own {w : World} (h : Knows w I B) {b off : Nat} {cs : Array Value} {t : TypeId} {fz : Nat × Nat} {v : Value} (hb : Has B b (.cells cs t fz)) (hv : cs[off]? = some v) : w.cell? ⟨b, off, none⟩ = some v := by
  simp [World.cell?, h.2 _ _ hb, hv]
theorem Knows.imm {w : World} (h : Knows w I B) {b off : Nat} {cs : Array Value} {t : TypeId} {fz : Nat × Nat} {v : Value} (hb : I b = some (.cells cs t fz)) (hv : cs[off]? = some v) : w.cell? ⟨b, off, none⟩ = some v := by
  simp [World.cell?, h.1 _ _ hb, hv]

/-- Cells that never turn. -/
def At (I : Imm) (b off : Nat) (cs : List Value) : Prop := cs = [] ∨ ∃ arr T fz, I b = some (.cells arr T fz) ∧ ∀ j v, cs[j]? = some v → arr[off + j]? = some v
theorem At.cells {w : World} (h : Knows w I B) {b off : Nat} {cs : List Value} (ha : At I b off cs) : CellsAt w b off cs := fun j v e => by
  rcases ha with rfl | ⟨arr, T, fz, hb, hc⟩
  · simp at e
  · exact h.imm hb (hc j v e)
theorem At.mono {J : Imm} (h : I.le J) {b off : Nat} {cs : List Value} (ha : At I b off cs) : At J b off cs := by
  rcases ha with rfl | ⟨arr, T, fz, hb, hc⟩
  · exact .inl rfl
  · exact .inr ⟨arr, T, fz, h.row _ _ hb, hc⟩

theorem EV.load {t t' : TypeId} {x : Operand} {b off : Nat} {cs : Array Value} {fz : Nat × Nat} {v : Value} (ha : aggOf P t = some false)
    (hx : F.op x = some (.pointer (some ⟨b, off, none⟩))) (hb : Has B b (.cells cs t' fz)) (hv : cs[off]? = some v) :
    EV P F I B ⟨d, .load t x, ty, pos, af, g⟩ v := fun ρ hρ w hw => by
  simp only [execOp, hρ _ _ hx, Instr.loadAt, Instr.sureAddr]
  simp [run_loadVar_one ha (hw.own hb hv)]
theorem EV.loadI {t : TypeId} {x : Operand} {b off : Nat} {v : Value} (ha : aggOf P t = some false)
    (hx : F.op x = some (.pointer (some ⟨b, off, none⟩))) (hv : At I b off [v]) :
    EV P F I B ⟨d, .load t x, ty, pos, af, g⟩ v := fun ρ hρ w hw => by
  simp only [execOp, hρ _ _ hx, Instr.loadAt, Instr.sureAddr]
  have := hv.cells hw 0 v rfl
  simp [run_loadVar_one ha (by simpa using this)]
/-- The whole of an owned block. -/
theorem EV.loadW {t t' : TypeId} {x : Operand} {b n : Nat} {cs : List Value} {fz : Nat × Nat} (ha : aggOf P t = some true) (hs : szOf P t = some n)
    (hx : F.op x = some (.pointer (some ⟨b, 0, none⟩))) (hb : Has B b (.cells ⟨cs⟩ t' fz)) (hn : cs.length = n) :
    EV P F I B ⟨d, .load t x, ty, pos, af, g⟩ (.agg ⟨cs⟩) := fun ρ hρ w hw => by
  simp only [execOp, hρ _ _ hx, Instr.loadAt, Instr.sureAddr]
  have : CellsAt w b 0 cs := fun j v e => hw.own hb (by simpa using e)
  simp [run_loadVar_agg ha hs hn this]
/-- A part of an owned block. -/
theorem EV.loadP {t t' : TypeId} {x : Operand} {b off n : Nat} {cs : List Value} {fz : Nat × Nat} (ha : aggOf P t = some true) (hs : szOf P t = some n)
    (hx : F.op x = some (.pointer (some ⟨b, off, none⟩))) (hb : Has B b (.cells ⟨cs⟩ t' fz)) (hn : Nat.ble (off + n) cs.length = true) :
    EV P F I B ⟨d, .load t x, ty, pos, af, g⟩ (.agg ⟨(cs.drop off).take n⟩) := fun ρ hρ w hw => by
  simp only [execOp, hρ _ _ hx, Instr.loadAt, Instr.sureAddr]
  have hn' : off + n ≤ cs.length := by simpa using hn
  have : CellsAt w b off ((cs.drop off).take n) := fun j v e => hw.own hb (by
    rw [List.getElem?_take] at e
    split at e
    · simpa using e
    · cases e)
  simp [run_loadVar_agg ha hs (by simp; omega) this]
theorem EV.loadIA {t : TypeId} {x : Operand} {b off n : Nat} {cs : List Value} (ha : aggOf P t = some true) (hs : szOf P t = some n)
    (hx : F.op x = some (.pointer (some ⟨b, off, none⟩))) (hc : At I b off cs) (hn : cs.length = n) :
    EV P F I B ⟨d, .load t x, ty, pos, af, g⟩ (.agg ⟨cs⟩) := fun ρ hρ w hw => by
  simp only [execOp, hρ _ _ hx, Instr.loadAt, Instr.sureAddr]
  simp [run_loadVar_agg ha hs hn (hc.cells hw)]

theorem EV.fieldAddr {s : TypeId} {x : Operand} {f b off k : Nat} (hf : fieldOff P s f = some k) (hx : F.op x = some (.pointer (some ⟨b, off, none⟩))) :
    EV P F I B ⟨d, .fieldAddr s x f, ty, pos, af, g⟩ (.pointer (some ⟨b, off + k, none⟩)) := fun ρ hρ w hw => by
  simp only [execOp, hρ _ _ hx, Instr.fieldAt, Instr.sureAddr]
  unfold fieldOff at hf
  split at hf
  · rename_i fs hu
    split at hf
    · rename_i fd hfd
      split at hf
      · cases hf
      · cases hf
      · rename_i m hm hsz
        cases hf
        have hm0 : ¬ m = 0 := fun e => hm (by rw [e])
        simp [run_underlying hu, hfd, fieldPlace, run_sizeOf hsz, hm0, addr_add]
    · cases hf
  · cases hf
theorem EV.field {s t : TypeId} {x : Operand} {f k : Nat} {cs : Array Value} {v : Value} (hf : fieldTy P s f = some (t, k)) (ha : aggOf P t = some false)
    (hx : F.op x = some (.agg cs)) (hv : cs[k]? = some v) : EV P F I B ⟨d, .field s x f, ty, pos, af, g⟩ v := fun ρ hρ w hw => by
  unfold fieldTy at hf
  split at hf
  · rename_i fs hu
    obtain ⟨fd, hfd, he⟩ := Option.map_eq_some_iff.1 hf
    cases he
    simp [execOp, hρ _ _ hx, Instr.field, run_underlying hu, hfd, asAgg, part, run_isAgg ha, hv]
  · cases hf
theorem EV.fieldA {s t : TypeId} {x : Operand} {f k n : Nat} {cs : List Value} (hf : fieldTy P s f = some (t, k)) (ha : aggOf P t = some true) (hs : szOf P t = some n)
    (hx : F.op x = some (.agg ⟨cs⟩)) : EV P F I B ⟨d, .field s x f, ty, pos, af, g⟩ (.agg ⟨(cs.drop k).take n⟩) := fun ρ hρ w hw => by
  unfold fieldTy at hf
  split at hf
  · rename_i fs hu
    obtain ⟨fd, hfd, he⟩ := Option.map_eq_some_iff.1 hf
    cases he
    have e : Array.extract ⟨cs⟩ fd.offset (fd.offset + n) = ⟨(cs.drop fd.offset).take n⟩ := by
      have := List.extract_toArray (l := cs) (start := fd.offset) (stop := fd.offset + n)
      simpa [List.extract_eq_take_drop] using this
    simp [execOp, hρ _ _ hx, Instr.field, run_underlying hu, hfd, asAgg, part, run_isAgg ha, run_sizeOf hs, e]
  · cases hf
theorem EV.indexAddrA {t e : TypeId} {x i : Operand} {b off n k j : Nat} {q : IntKind} {m : Int} (hf : arOf P t = some (n, e, k)) (hx : F.op x = some (.pointer (some ⟨b, off, none⟩)))
    (hi : F.op i = some (.int q m)) (hm : m = (j : Int)) (hj : j < n) : EV P F I B ⟨d, .indexAddr t x i, ty, pos, af, g⟩ (.pointer (some ⟨b, off + j * k, none⟩)) := fun ρ hρ w hw => by
  unfold arOf at hf
  split at hf
  · rename_i n' e' hu
    obtain ⟨k', hk, he⟩ := Option.map_eq_some_iff.1 hf
    cases he
    subst hm
    have h1 : (0 : Int) ≤ (j : Int) ∧ (j : Int) < (n : Int) := ⟨by omega, by omega⟩
    simp [execOp, hρ _ _ hx, hρ _ _ hi, Instr.indexAt, asIntOf, run_underlying hu, Instr.sureAddr, h1, run_sizeOf hk, addr_add, hj]
  · cases hf
theorem EV.indexAddrS {t e : TypeId} {x i : Operand} {ad : Addr} {len cap k : Nat} {q : IntKind} {m : Int} (hf : slOf P t = some (e, k)) (hx : F.op x = some (.slice (some ad) len cap))
    (hi : F.op i = some (.int q m)) (h0 : 0 ≤ m) (hj : m < (len : Int)) : EV P F I B ⟨d, .indexAddr t x i, ty, pos, af, g⟩ (.pointer (some (ad.add (m.toNat * k)))) := fun ρ hρ w hw => by
  unfold slOf at hf
  split at hf
  · rename_i e' hu
    obtain ⟨k', hk, he⟩ := Option.map_eq_some_iff.1 hf
    cases he
    simp [execOp, hρ _ _ hx, hρ _ _ hi, Instr.indexAt, asIntOf, run_underlying hu, h0, hj, run_sizeOf hk]
  · cases hf
theorem EV.extract {x : Operand} {i : Nat} {vs : Array Value} {v : Value} (hx : F.op x = some (.tuple vs)) (hv : vs[i]? = some v) : EV P F I B ⟨d, .extract x i, ty, pos, af, g⟩ v := fun ρ hρ w hw => by
  simp [execOp, hρ _ _ hx, Instr.extract, hv]
theorem EV.not {t : TypeId} {x : Operand} {b : Bool} (hx : F.op x = some (.bool b)) : EV P F I B ⟨d, .unOp .not t x, ty, pos, af, g⟩ (.bool (!b)) := fun ρ hρ w hw => by
  simp [execOp, hρ _ _ hx, Op.unary]
theorem EV.conv {s t : TypeId} {x : Operand} {q k : IntKind} {m : Int} {u : TypeDesc} (hs : P.underlying s = some u) (ht : P.underlying t = some (.int k)) (hx : F.op x = some (.int q m)) :
    EV P F I B ⟨d, .convert s t x, ty, pos, af, g⟩ (.int k (k.wrap m)) := fun ρ hρ w hw => by
  simp only [execOp, hρ _ _ hx, convert]
  simp only [Sem.run_bind, run_underlying hs, run_underlying ht, Result.andThen_ok]
  cases u <;> rfl
theorem EV.makeFunc {fn : Fn} {xs ys : Array Operand} {us vs : List Value} (h1 : F.ops xs.toList = some us) (h2 : F.ops ys.toList = some vs) :
    EV P F I B ⟨d, .makeFunc fn xs ys, ty, pos, af, g⟩ (.func fn ⟨us⟩ ⟨vs⟩) := fun ρ hρ w hw => by
  have e1 := Fr.evals hρ h1
  have e2 := Fr.evals hρ h2
  have e1' : xs.map ρ = ⟨us⟩ := by apply Array.ext'; simp [e1]
  have e2' : ys.map ρ = ⟨vs⟩ := by apply Array.ext'; simp [e2]
  simp [execOp, Instr.makeFunc, e1', e2']

theorem int_beq (a b : Int) : (a == b) = decide (a = b) := by rw [Bool.eq_iff_iff]; simp
/-! whole numbers -/
theorem guard_int {P : Program} {op : BinOp} {t : TypeId} {x y : Operand} {k k' : IntKind} {a b : Int} {w : World} : (eqGuard op t x y (.int k a) (.int k' b)).run P w = .ok () w := by
  unfold eqGuard; split <;> rfl
theorem EV.int {op : BinOp} {t t2 : TypeId} {x y : Operand} {k k' : IntKind} {a b : Int} {v : Value} (hx : F.op x = some (.int k a)) (hy : F.op y = some (.int k' b))
    (hv : ∀ w, (binOp op t (.int k a) (.int k' b)).run P w = .ok v w) : EV P F I B ⟨d, .binOp op t x y t2, ty, pos, af, g⟩ v := fun ρ hρ w hw => by
  simp only [execOp, hρ _ _ hx, hρ _ _ hy]
  simp [guard_int, hv]
theorem EV.lss {t t2 : TypeId} {x y : Operand} {k : IntKind} {a b : Int} (hx : F.op x = some (.int k a)) (hy : F.op y = some (.int k b)) :
    EV P F I B ⟨d, .binOp .lss t x y t2, ty, pos, af, g⟩ (.bool (decide (a < b))) := .int hx hy fun w => by simp [binOp, Op.intCmp]
theorem EV.leq {t t2 : TypeId} {x y : Operand} {k : IntKind} {a b : Int} (hx : F.op x = some (.int k a)) (hy : F.op y = some (.int k b)) :
    EV P F I B ⟨d, .binOp .leq t x y t2, ty, pos, af, g⟩ (.bool (decide (a ≤ b))) := .int hx hy fun w => by simp [binOp, Op.intCmp]
theorem EV.gtr {t t2 : TypeId} {x y : Operand} {k : IntKind} {a b : Int} (hx : F.op x = some (.int k a)) (hy : F.op y = some (.int k b)) :
    EV P F I B ⟨d, .binOp .gtr t x y t2, ty, pos, af, g⟩ (.bool (decide (b < a))) := .int hx hy fun w => by simp [binOp, Op.intCmp]
theorem EV.geq {t t2 : TypeId} {x y : Operand} {k : IntKind} {a b : Int} (hx : F.op x = some (.int k a)) (hy : F.op y = some (.int k b)) :
    EV P F I B ⟨d, .binOp .geq t x y t2, ty, pos, af, g⟩ (.bool (decide (b ≤ a))) := .int hx hy fun w => by simp [binOp, Op.intCmp]
theorem EV.eql {t t2 : TypeId} {x y : Operand} {k : IntKind} {a b : Int} (hx : F.op x = some (.int k a)) (hy : F.op y = some (.int k b)) :
    EV P F I B ⟨d, .binOp .eql t x y t2, ty, pos, af, g⟩ (.bool (decide (a = b))) := .int hx hy fun w => by simp [binOp, Op.intCmp, int_beq]
theorem EV.neq {t t2 : TypeId} {x y : Operand} {k : IntKind} {a b : Int} (hx : F.op x = some (.int k a)) (hy : F.op y = some (.int k b)) :
    EV P F I B ⟨d, .binOp .neq t x y t2, ty, pos, af, g⟩ (.bool (!decide (a = b))) := .int hx hy fun w => by simp [binOp, Op.intCmp, bne, int_beq]
theorem EV.add {t t2 : TypeId} {x y : Operand} {k : IntKind} {a b c : Int} (hx : F.op x = some (.int k a)) (hy : F.op y = some (.int k b)) (hc : k.wrap (a + b) = c) :
    EV P F I B ⟨d, .binOp .add t x y t2, ty, pos, af, g⟩ (.int k c) := .int hx hy fun w => by simp [binOp, Op.intArith, hc]
theorem EV.sub {t t2 : TypeId} {x y : Operand} {k : IntKind} {a b c : Int} (hx : F.op x = some (.int k a)) (hy : F.op y = some (.int k b)) (hc : k.wrap (a - b) = c) :
    EV P F I B ⟨d, .binOp .sub t x y t2, ty, pos, af, g⟩ (.int k c) := .int hx hy fun w => by simp [binOp, Op.intArith, hc]
theorem EV.mul {t t2 : TypeId} {x y : Operand} {k : IntKind} {a b c : Int} (hx : F.op x = some (.int k a)) (hy : F.op y = some (.int k b)) (hc : k.wrap (a * b) = c) :
    EV P F I B ⟨d, .binOp .mul t x y t2, ty, pos, af, g⟩ (.int k c) := .int hx hy fun w => by simp [binOp, Op.intArith, hc]
theorem EV.rem {t t2 : TypeId} {x y : Operand} {k : IntKind} {a b c : Int} (hx : F.op x = some (.int k a)) (hy : F.op y = some (.int k b)) (hb : b ≠ 0) (hc : a.tmod b = c) :
    EV P F I B ⟨d, .binOp .rem t x y t2, ty, pos, af, g⟩ (.int k c) := .int hx hy fun w => by simp [binOp, Op.intDiv, hb, hc]
theorem EV.quo {t t2 : TypeId} {x y : Operand} {k : IntKind} {a b c : Int} (hx : F.op x = some (.int k a)) (hy : F.op y = some (.int k b)) (hb : b ≠ 0) (hc : k.wrap (a.tdiv b) = c) :
    EV P F I B ⟨d, .binOp .quo t x y t2, ty, pos, af, g⟩ (.int k c) := .int hx hy fun w => by simp [binOp, Op.intDiv, hb, hc]

/-! texts -/
theorem toList_beq (a b : ByteArray) : (a.toList == b.toList) = decide (a = b) := by
  by_cases h : a = b
  · subst h; simp
  · have : a.toList ≠ b.toList := fun e => h (by
      have h1 : ∀ c : ByteArray, c.toList = c.data.toList := fun c => by
        exact ByteArray.toList_eq c
      rw [h1, h1] at e
      cases a; cases b; simp at e; simp [e])
    simp [h, this]
theorem guard_str {P : Program} {op : BinOp} {t : TypeId} {x y : Operand} {a b : ByteArray} {w : World} : (eqGuard op t x y (.string a) (.string b)).run P w = .ok () w := by
  unfold eqGuard; split <;> rfl
theorem EV.str {op : BinOp} {t t2 : TypeId} {x y : Operand} {a b : ByteArray} {v : Value} (hx : F.op x = some (.string a)) (hy : F.op y = some (.string b))
    (hv : ∀ w, (binOp op t (.string a) (.string b)).run P w = .ok v w) : EV P F I B ⟨d, .binOp op t x y t2, ty, pos, af, g⟩ v := fun ρ hρ w hw => by
  simp only [execOp, hρ _ _ hx, hρ _ _ hy]
  simp [guard_str, hv]
theorem EV.streq {t t2 : TypeId} {x y : Operand} {a b : ByteArray} (hx : F.op x = some (.string a)) (hy : F.op y = some (.string b)) :
    EV P F I B ⟨d, .binOp .eql t x y t2, ty, pos, af, g⟩ (.bool (decide (a = b))) := .str hx hy fun w => by simp [binOp, Op.stringOp, toList_beq]
theorem EV.strne {t t2 : TypeId} {x y : Operand} {a b : ByteArray} (hx : F.op x = some (.string a)) (hy : F.op y = some (.string b)) :
    EV P F I B ⟨d, .binOp .neq t x y t2, ty, pos, af, g⟩ (.bool (!decide (a = b))) := .str hx hy fun w => by simp [binOp, Op.stringOp, toList_beq]
def slt (a b : ByteArray) : Bool := Op.bytesLess a.toList b.toList
theorem EV.strlt {t t2 : TypeId} {x y : Operand} {a b : ByteArray} (hx : F.op x = some (.string a)) (hy : F.op y = some (.string b)) :
    EV P F I B ⟨d, .binOp .lss t x y t2, ty, pos, af, g⟩ (.bool (slt a b)) := .str hx hy fun w => by simp [binOp, Op.stringOp, slt]
theorem EV.strle {t t2 : TypeId} {x y : Operand} {a b : ByteArray} (hx : F.op x = some (.string a)) (hy : F.op y = some (.string b)) :
    EV P F I B ⟨d, .binOp .leq t x y t2, ty, pos, af, g⟩ (.bool (slt a b || decide (a = b))) := .str hx hy fun w => by simp [binOp, Op.stringOp, slt, toList_beq]
theorem EV.strgt {t t2 : TypeId} {x y : Operand} {a b : ByteArray} (hx : F.op x = some (.string a)) (hy : F.op y = some (.string b)) :
    EV P F I B ⟨d, .binOp .gtr t x y t2, ty, pos, af, g⟩ (.bool (!(slt a b || decide (a = b)))) := .str hx hy fun w => by simp [binOp, Op.stringOp, slt, toList_beq]
theorem EV.strge {t t2 : TypeId} {x y : Operand} {a b : ByteArray} (hx : F.op x = some (.string a)) (hy : F.op y = some (.string b)) :
    EV P F I B ⟨d, .binOp .geq t x y t2, ty, pos, af, g⟩ (.bool (!slt a b)) := .str hx hy fun w => by simp [binOp, Op.stringOp, slt]
theorem EV.strcat {t t2 : TypeId} {x y : Operand} {a b : ByteArray} (hx : F.op x = some (.string a)) (hy : F.op y = some (.string b)) (hs : a.size + b.size ≤ 9223372036854775807) :
    EV P F I B ⟨d, .binOp .add t x y t2, ty, pos, af, g⟩ (.string (a ++ b)) := .str hx hy fun w => by
  have h1 : (a.size : Int) + (b.size : Int) ≤ 9223372036854775807 := by omega
  simp [binOp, Op.stringOp, h1]

/-! lengths -/
theorem EV.len {ats : Array TypeId} {t e : TypeId} {k : Nat} {x : Operand} {ad : Option Addr} {len cap : Nat} (hf : slOf P t = some (e, k)) (ht : ats[0]? = some t) (hx : F.op x = some (.slice ad len cap)) :
    EV P F I B ⟨d, .call ⟨.builtin .len, #[x], ats⟩, ty, pos, af, g⟩ (.int .i64 len) := fun ρ hρ w hw => by
  unfold slOf at hf
  split at hf
  · rename_i e' hu
    simp [execOp, resolve, invoke, builtin, Builtin.len_, ht, hρ _ _ hx, run_underlying hu, goInt]
  · cases hf
theorem EV.lenS {ats : Array TypeId} {t : TypeId} {x : Operand} {s : ByteArray} (hu : P.underlying t = some .string) (ht : ats[0]? = some t) (hx : F.op x = some (.string s)) :
    EV P F I B ⟨d, .call ⟨.builtin .len, #[x], ats⟩, ty, pos, af, g⟩ (.int .i64 s.size) := fun ρ hρ w hw => by
  simp [execOp, resolve, invoke, builtin, Builtin.len_, ht, hρ _ _ hx, run_underlying hu, goInt]
end
end Go.Sy
