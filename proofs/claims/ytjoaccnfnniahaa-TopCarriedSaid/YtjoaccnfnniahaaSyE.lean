/- More rules: structs built, equality of structs, min and max, scopes. Nothing of the program stands here. -/
import Derived.Test.YtjoaccnfnniahaaSyD
namespace Go.Sy
set_option linter.unusedSimpArgs false
set_option linter.unusedVariables false
set_option linter.unnecessarySimpa false

/-! ### equality -/
def EqOk (P : Program) (t : TypeId) (u v : Value) (c : Bool) : Prop :=
  ∀ (op : BinOp) (x y : Operand) (w : World), (eqGuard op t x y u v).run P w = .ok () w ∧ (Op.equal t u v).run P w = .ok c w
def plainPair : Value → Value → Bool
  | .agg _, .agg _ => true
  | .bool _, .bool _ => true
  | .pointer _, .pointer _ => true
  | .slice _ _ _, .slice _ _ _ => true
  | _, _ => false
section
variable {P : Program} {F : Fr} {I : Imm} {B : Own} {d : Option Tmp} {ty : TypeId} {pos : String} {af : Array Edge} {g : Option (Nat × Bool)}
theorem EV.eqv {t t2 : TypeId} {x y : Operand} {u v : Value} {c : Bool} (h : EqOk P t u v c) (hx : F.op x = some u) (hy : F.op y = some v) (hp : plainPair u v = true := by rfl) :
    EV P F I B ⟨d, .binOp .eql t x y t2, ty, pos, af, g⟩ (.bool c) := fun ρ hρ w hw => by
  obtain ⟨h1, h2⟩ := h .eql x y w
  simp only [execOp, hρ _ _ hx, hρ _ _ hy]
  have e : binOp .eql t u v = (do pure (.bool (← Op.equal t u v))) := by
    cases u <;> cases v <;> simp [plainPair] at hp <;> rfl
  rw [e]
  simp [h1, h2]
theorem EV.nev {t t2 : TypeId} {x y : Operand} {u v : Value} {c : Bool} (h : EqOk P t u v c) (hx : F.op x = some u) (hy : F.op y = some v) (hp : plainPair u v = true := by rfl) :
    EV P F I B ⟨d, .binOp .neq t x y t2, ty, pos, af, g⟩ (.bool (!c)) := fun ρ hρ w hw => by
  obtain ⟨h1, h2⟩ := h .neq x y w
  simp only [execOp, hρ _ _ hx, hρ _ _ hy]
  have e : binOp .neq t u v = (do pure (.bool (!(← Op.equal t u v)))) := by
    cases u <;> cases v <;> simp [plainPair] at hp <;> rfl
  rw [e]
  simp [h1, h2]
end
section
variable {P : Program}
theorem equalIn_int {d : Nat} {t : TypeId} {k : IntKind} {a b : Int} {w : World} (ht : P.underlying t = some (.int k)) : (Op.equalIn (d + 1) t (.int k a) (.int k b)).run P w = .ok (decide (a = b)) w := by
  unfold Op.equalIn
  rw [Sem.run_bind, run_underlying ht]
  simp [int_beq]
theorem equalIn_str {d : Nat} {t : TypeId} {a b : ByteArray} {w : World} (ht : P.underlying t = some .string) : (Op.equalIn (d + 1) t (.string a) (.string b)).run P w = .ok (decide (a = b)) w := by
  unfold Op.equalIn
  rw [Sem.run_bind, run_underlying ht]
  have : (a == b) = decide (a = b) := by rw [beq_toListBytes, toList_beq]
  simp [this]
theorem equalIn_bool {d : Nat} {t : TypeId} {a b : Bool} {w : World} (ht : P.underlying t = some .bool) : (Op.equalIn (d + 1) t (.bool a) (.bool b)).run P w = .ok (decide (a = b)) w := by
  unfold Op.equalIn
  rw [Sem.run_bind, run_underlying ht]
  have : (a == b) = decide (a = b) := by rw [Bool.eq_iff_iff]; simp
  simp [this]
theorem EqOk.bool {t : TypeId} {a b : Bool} (ht : P.underlying t = some .bool) : EqOk P t (.bool a) (.bool b) (decide (a = b)) := fun op x y w =>
  ⟨by unfold eqGuard; split <;> rfl, equalIn_bool (d := 9999) ht⟩

theorem EqOk.nilSlice {t e : TypeId} {ad : Option Addr} {len cap : Nat} (ht : P.underlying t = some (.slice e)) : EqOk P t (.slice ad len cap) (.slice none 0 0) ad.isNone := fun op x y w => by
  refine ⟨?_, ?_⟩
  · unfold eqGuard
    cases op <;> rfl
  · unfold Op.equal
    show (Op.equalIn (9999 + 1) t _ _).run P w = _
    unfold Op.equalIn
    rw [Sem.run_bind, run_underlying ht]
    simp only [Result.andThen_ok]
    cases ad <;> rfl
theorem guard_agg {op : BinOp} {t : TypeId} {x y : Operand} {xs ys : Array Value} {w : World} (hg : P.eqGuardType P.depth t = false) : (eqGuard op t x y (.agg xs) (.agg ys)).run P w = .ok () w := by
  unfold eqGuard
  cases op <;> first | rfl | simp [program, Sem.run, hg]
/-- The fields of two structs, one by one. -/
def FldsOk (P : Program) (d : Nat) (xs ys : Array Value) : List Field → Bool → Prop
  | [], c => c = true
  | f :: r, c => ∃ (u v : Value) (c1 c2 : Bool), (f.name == "_") = false ∧ (∀ w, (part f.type xs f.offset).run P w = .ok u w) ∧ (∀ w, (part f.type ys f.offset).run P w = .ok v w) ∧
      (∀ w, (Op.equalIn d f.type u v).run P w = .ok c1 w) ∧ FldsOk P d xs ys r c2 ∧ c = (c1 && c2)
theorem FldsOk.run {d : Nat} {xs ys : Array Value} : ∀ {l : List Field} {c : Bool} {w : World}, FldsOk P d xs ys l c → (Op.eqFields d xs ys l).run P w = .ok c w
  | [], c, w, h => by unfold Op.eqFields; rw [show c = true from h]; rfl
  | f :: r, c, w, ⟨u, v, c1, c2, hn, ha, hb, he, hr, hc⟩ => by
    have hn' : f.name ≠ "_" := by simpa using hn
    subst hc
    rw [Op.eqFields]
    simp only [if_pos hn', Sem.run_bind, ha, hb, he, Result.andThen_ok]
    cases c1
    · simp
    · simpa using FldsOk.run hr
theorem FldsOk.equalIn {d : Nat} {t : TypeId} {fs : Array Field} {xs ys : Array Value} {c : Bool} {w : World} (ht : P.underlying t = some (.struct fs)) (hh : P.stoodInHeld t = false)
    (h : FldsOk P d xs ys fs.toList c) : (Op.equalIn (d + 1) t (.agg xs) (.agg ys)).run P w = .ok c w := by
  have hf : P.fieldsOf t = fs := by simp [Program.fieldsOf, ht]
  rw [run_equalIn_struct (P := P) w d t xs ys (by rw [hf]; exact ht) hh, hf]
  exact h.run
theorem EqOk.struct {t : TypeId} {fs : Array Field} {xs ys : List Value} {c : Bool} (ht : P.underlying t = some (.struct fs)) (hh : P.stoodInHeld t = false) (hg : P.eqGuardType P.depth t = false)
    (h : FldsOk P 9999 ⟨xs⟩ ⟨ys⟩ fs.toList c) : EqOk P t (.agg ⟨xs⟩) (.agg ⟨ys⟩) c := fun op x y w => ⟨guard_agg hg, h.equalIn ht hh⟩
theorem run_part {t : TypeId} {cs : List Value} {off : Nat} {v : Value} (ha : aggOf P t = some false) (hv : cs[off]? = some v) : ∀ w, (part t ⟨cs⟩ off).run P w = .ok v w := fun w => by
  unfold part
  rw [Sem.run_bind, run_isAgg ha]
  simp [hv]
theorem run_partA {t : TypeId} {cs : List Value} {off k : Nat} (ha : aggOf P t = some true) (hs : szOf P t = some k) : ∀ w, (part t ⟨cs⟩ off).run P w = .ok (.agg ⟨(cs.drop off).take k⟩) w := fun w => by
  unfold part
  rw [Sem.run_bind, run_isAgg ha]
  have e : Array.extract ⟨cs⟩ off (off + k) = ⟨(cs.drop off).take k⟩ := by
    have := List.extract_toArray (l := cs) (start := off) (stop := off + k)
    simpa [List.extract_eq_take_drop] using this
  simp [run_sizeOf hs, e]
theorem equalIn_arr3 {d : Nat} {t e : TypeId} {k : IntKind} {a b c a' b' c' : Int} {w : World} (ht : P.underlying t = some (.array 3 e)) (he : P.underlying e = some (.int k)) (hs : szOf P e = some 1) :
    (Op.equalIn (d + 2) t (.agg ⟨[.int k a, .int k b, .int k c]⟩) (.agg ⟨[.int k a', .int k b', .int k c']⟩)).run P w = .ok (decide (a = a') && (decide (b = b') && decide (c = c'))) w := by
  have ha : aggOf P e = some false := by simp [aggOf, he, isAggD]
  rw [show d + 2 = (d + 1) + 1 from rfl]
  unfold Op.equalIn
  rw [Sem.run_bind, run_underlying ht]
  simp only [Result.andThen_ok]
  rw [Sem.run_bind, run_sizeOf hs]
  simp only [Result.andThen_ok]
  have p0 : ∀ (x y z : Value) (w : World), (part e ⟨[x, y, z]⟩ 0).run P w = .ok x w := fun _ _ _ => run_part ha rfl
  have p1 : ∀ (x y z : Value) (w : World), (part e ⟨[x, y, z]⟩ 1).run P w = .ok y w := fun _ _ _ => run_part ha rfl
  have p2 : ∀ (x y z : Value) (w : World), (part e ⟨[x, y, z]⟩ 2).run P w = .ok z w := fun _ _ _ => run_part ha rfl
  by_cases h1 : a = a' <;> by_cases h2 : b = b' <;> by_cases h3 : c = c' <;>
    simp [show List.range' 0 3 = [0, 1, 2] from rfl, List.forIn_cons, List.forIn_nil, p0, p1, p2, equalIn_int he, h1, h2, h3]
theorem EqOk.arr3 {t e : TypeId} {k : IntKind} {a b c a' b' c' : Int} (ht : P.underlying t = some (.array 3 e)) (he : P.underlying e = some (.int k)) (hs : szOf P e = some 1) (hg : P.eqGuardType P.depth t = false) :
    EqOk P t (.agg ⟨[.int k a, .int k b, .int k c]⟩) (.agg ⟨[.int k a', .int k b', .int k c']⟩) (decide (a = a') && (decide (b = b') && decide (c = c'))) := fun op x y w => ⟨guard_agg hg, equalIn_arr3 (d := 9998) ht he hs⟩
end

/-! ### structs and arrays built -/
def structAt (P : Program) (t : TypeId) : Option (List (Nat × Nat)) :=
  match P.underlying t with
  | some (.struct fs) => fs.toList.mapM fun f => (szOf P f.type).map fun k => (f.offset, k)
  | _ => none
def Fr.parts (F : Fr) : List (Nat × Operand) → Option (List (Nat × Value))
  | [] => some []
  | (i, x) :: r => match F.op x, Fr.parts F r with
    | some v, some l => some ((i, v) :: l)
    | _, _ => none
def fillL (pl : Nat → Option (Nat × Nat)) : List Value → List (Nat × Value) → Option (List Value)
  | z, [] => some z
  | z, (i, v) :: r => match pl i with
    | some (off, k) => if v.cells.toList.length = k ∧ off + k ≤ z.length then fillL pl (setL z off v.cells.toList) r else none
    | none => none
theorem setL_length {z vs : List Value} {off : Nat} (h : off + vs.length ≤ z.length) : (setL z off vs).length = z.length := by
  unfold setL
  simp; omega
theorem foldl_set : ∀ (vs : List Value) (z : List Value) (off k : Nat), off + k + vs.length ≤ z.length →
    (vs.zipIdx k).foldl (fun (cs : Array Value) (x : Value × Nat) => cs.setIfInBounds (off + x.2) x.1) ⟨z⟩ = ⟨setL z (off + k) vs⟩
  | [], z, off, k, _ => by simp [setL]
  | v :: vs, z, off, k, h => by
    simp only [List.length_cons] at h
    rw [List.zipIdx_cons, List.foldl_cons]
    have e1 : (⟨z⟩ : Array Value).setIfInBounds (off + k) v = ⟨z.set (off + k) v⟩ := by simp
    rw [e1, foldl_set vs (z.set (off + k) v) off (k + 1) (by simp; omega)]
    congr 1
    unfold setL
    have e2 : (z.set (off + k) v).take (off + (k + 1)) = z.take (off + k) ++ [v] := by
      rw [show off + (k + 1) = (off + k) + 1 from by omega, List.take_succ_eq_append_getElem (by simp; omega)]
      rw [List.take_set_of_le (by omega)]; simp
    have e3 : (z.set (off + k) v).drop (off + (k + 1) + vs.length) = z.drop (off + k + (v :: vs).length) := by
      rw [List.drop_set_of_lt (by omega)]
      congr 1
      simp; omega
    rw [e2, e3]; simp
theorem fill_eq {pl : Nat → Option (Nat × Nat)} : ∀ {ps : List (Nat × Value)} {z out : List Value}, fillL pl z ps = some out → Instr.fill pl ⟨z⟩ ps = some ⟨out⟩
  | [], z, out, h => by simp [fillL] at h; simp [Instr.fill, h]
  | (i, v) :: r, z, out, h => by
    unfold fillL at h
    split at h
    · rename_i off k hp
      split at h
      · rename_i hk
        unfold Instr.fill
        rw [hp]
        have h1 : ¬ ((v.cells.size ≠ k || off + v.cells.size > (⟨z⟩ : Array Value).size) = true) := by
          have : v.cells.size = k := by simpa using hk.1
          simp [this]; omega
        simp only
        rw [if_neg h1]
        have h2 := foldl_set v.cells.toList z off 0 (by omega)
        have h3 : Array.foldl (fun (cs : Array Value) (x : Value × Nat) => cs.setIfInBounds (off + x.2) x.1) ⟨z⟩ v.cells.zipIdx = ⟨setL z off v.cells.toList⟩ := by
          rw [← Array.foldl_toList]
          simpa using h2
        have h4 := fill_eq h
        rw [← h3] at h4
        exact h4
      · cases h
    · cases h
section
variable {P : Program} {F : Fr} {I : Imm} {B : Own} {d : Option Tmp} {ty : TypeId} {pos : String} {af : Array Edge} {g : Option (Nat × Bool)}
theorem Fr.parts_eq {F : Fr} {ρ : Operand → Value} (hρ : ∀ x u, F.op x = some u → ρ x = u) : ∀ {xs : List (Nat × Operand)} {vs : List (Nat × Value)}, F.parts xs = some vs → xs.map (fun x => (x.1, ρ x.2)) = vs
  | [], vs, h => by simp [Fr.parts] at h; simp [h]
  | (i, x) :: r, vs, h => by
    unfold Fr.parts at h
    split at h
    · rename_i v l h1 h2
      cases h
      simp [hρ _ _ h1, Fr.parts_eq hρ h2]
    · cases h
theorem EV.build {t : TypeId} {xs : Array (Nat × Operand)} {vs : List (Nat × Value)} {pl : List (Nat × Nat)} {z out : List Value} (hs : structAt P t = some pl) (hz : zvOf P t = some (.agg ⟨z⟩)) (hx : F.parts xs.toList = some vs)
    (hf : fillL (fun i => pl[i]?) z vs = some out) : EV P F I B ⟨d, .build t xs, ty, pos, af, g⟩ (.agg ⟨out⟩) := fun ρ hρ w hw => by
  have e1 : xs.map (fun x => (x.1, ρ x.2)) = ⟨vs⟩ := by apply Array.ext'; simp [Fr.parts_eq hρ hx]
  unfold structAt at hs
  split at hs
  · rename_i fs hu
    have key : ∀ (l : List Field) (pl : List (Nat × Nat)), l.mapM (fun f => (szOf P f.type).map fun k => (f.offset, k)) = some pl →
        (l.mapM (m := Sem) fun f => do pure (f.offset, ← sizeOf f.type)).run P w = .ok pl w := by
      intro l
      induction l with
      | nil => intro pl h; simp at h; subst h; rfl
      | cons f r ih =>
        intro pl h
        rw [List.mapM_cons] at h
        simp only [Option.bind_eq_bind, Option.bind_eq_some_iff] at h
        obtain ⟨p, hp, q, hq, h⟩ := h
        obtain ⟨k, hk, rfl⟩ := Option.map_eq_some_iff.1 hp
        cases h
        rw [List.mapM_cons, Sem.run_bind, Sem.run_bind, run_sizeOf hk]
        simp only [Result.andThen_ok, Sem.run_pure]
        rw [Sem.run_bind, ih q hq]; rfl
    have hm : (fs.mapM (m := Sem) fun f => do pure (f.offset, ← sizeOf f.type)).run P w = .ok ⟨pl⟩ w := by
      rw [Array.mapM_eq_mapM_toList, Sem.run_map, key _ _ hs]
      simp
    simp only [execOp]
    rw [e1]
    rw [Sem.run_bind]
    unfold Instr.build
    rw [Sem.run_bind, run_zeroValue hz]
    simp only [Result.andThen_ok]
    rw [Sem.run_bind, run_underlying hu]
    simp only [Result.andThen_ok]
    rw [Sem.run_bind, hm]
    simp only [Result.andThen_ok]
    have h4 : Instr.fill (fun i => (⟨pl⟩ : Array (Nat × Nat))[i]?) ⟨z⟩ vs = some ⟨out⟩ := by
      have := fill_eq hf
      simpa using this
    have h5 : (Value.agg ⟨z⟩).cells = ⟨z⟩ := rfl
    rw [h5]
    show (Result.andThen (Sem.run P (match Instr.fill (fun i => (⟨pl⟩ : Array (Nat × Nat))[i]?) ⟨z⟩ vs with | some cells => _ | _ => _) w) _) = _
    rw [h4]
    rfl
  · cases hs
theorem EV.buildA {t n e k : Nat} {xs : Array (Nat × Operand)} {vs : List (Nat × Value)} {z out : List Value} (hs : arOf P t = some (n, e, k)) (hz : zvOf P t = some (.agg ⟨z⟩)) (hx : F.parts xs.toList = some vs)
    (hf : fillL (fun i => some (i * k, k)) z vs = some out) : EV P F I B ⟨d, .build t xs, ty, pos, af, g⟩ (.agg ⟨out⟩) := fun ρ hρ w hw => by
  have e1 : xs.map (fun x => (x.1, ρ x.2)) = ⟨vs⟩ := by apply Array.ext'; simp [Fr.parts_eq hρ hx]
  unfold arOf at hs
  split at hs
  · rename_i n' e' hu
    obtain ⟨k', hk, he⟩ := Option.map_eq_some_iff.1 hs
    cases he
    simp only [execOp]
    rw [e1, Sem.run_bind]
    unfold Instr.build
    rw [Sem.run_bind, run_zeroValue hz]
    simp only [Result.andThen_ok]
    rw [Sem.run_bind, run_underlying hu]
    simp only [Result.andThen_ok]
    rw [Sem.run_bind, run_sizeOf hk]
    simp only [Result.andThen_ok]
    have h5 : (Value.agg ⟨z⟩).cells = ⟨z⟩ := rfl
    rw [h5]
    show (Result.andThen (Sem.run P (match Instr.fill (fun i => some (i * k, k)) ⟨z⟩ vs with | some cells => _ | _ => _) w) _) = _
    rw [fill_eq hf]
    rfl
  · cases hs

/-! min, max -/
theorem EV.min2 {xs : Array Operand} {ats : Array TypeId} {k : IntKind} {a b : Int} {x y : Operand} (hxs : xs = #[x, y]) (hx : F.op x = some (.int k a)) (hy : F.op y = some (.int k b)) :
    EV P F I B ⟨d, .call ⟨.builtin .min, xs, ats⟩, ty, pos, af, g⟩ (.int k (if b < a then b else a)) := fun ρ hρ w hw => by
  subst hxs
  simp [execOp, resolve, invoke, builtin, Builtin.min_, Builtin.min2, hρ _ _ hx, hρ _ _ hy]
theorem EV.max2 {xs : Array Operand} {ats : Array TypeId} {k : IntKind} {a b : Int} {x y : Operand} (hxs : xs = #[x, y]) (hx : F.op x = some (.int k a)) (hy : F.op y = some (.int k b)) :
    EV P F I B ⟨d, .call ⟨.builtin .max, xs, ats⟩, ty, pos, af, g⟩ (.int k (if a < b then b else a)) := fun ρ hρ w hw => by
  subst hxs
  simp [execOp, resolve, invoke, builtin, Builtin.max_, Builtin.max2, hρ _ _ hx, hρ _ _ hy]
/-- A slice of a whole array that lies in an owned block. -/
theorem EV.sliceArr {t e : TypeId} {x : Operand} {b off n k : Nat} (hf : arOf P t = some (n, e, k)) (hx : F.op x = some (.pointer (some ⟨b, off, none⟩))) :
    EV P F I B ⟨d, .slice t x none none none, ty, pos, af, g⟩ (.slice (some ⟨b, off, none⟩) n n) := fun ρ hρ w hw => by
  unfold arOf at hf
  split at hf
  · rename_i n' e' hu
    obtain ⟨k', hk, he⟩ := Option.map_eq_some_iff.1 hf
    cases he
    have : (if n = 0 then (⟨b, off, none⟩ : Addr) else ⟨b, off, none⟩) = ⟨b, off, none⟩ := by split <;> rfl
    simp [execOp, hρ _ _ hx, Instr.sliceAt, run_underlying hu, Instr.sureAddr, Instr.sliceBounds, run_sizeOf hk, addr_add, this]
  · cases hf
theorem At.part {I : Imm} {b off j k : Nat} {cs vs : List Value} (h : At I b off cs) (hv : (cs.drop j).take k = vs) : At I b (off + j) vs := by
  rcases h with rfl | ⟨arr, T, fz, hb, hc⟩
  · simp at hv; exact .inl hv
  · refine .inr ⟨arr, T, fz, hb, fun i u hu => ?_⟩
    subst hv
    rw [List.getElem?_take] at hu
    split at hu
    · rw [List.getElem?_drop] at hu
      rw [Nat.add_assoc]; exact hc _ _ hu
    · cases hu
theorem Keeps.self {ms : List Nat} {B : Fr} : Keeps ms B B := fun _ _ _ h => h
end

/-! ### scopes without a jump -/
section
variable {P : Program} {n : Nat} {Q : Exit → Act → World → Prop} {F : Fr} {I : Imm} {O : Own}
theorem WC.scope {c : Code} (h : WC P n c (Exit.noGoto Q) F I O) : WC P n (.scope c) Q F I O := fun a w ha hw => wp_scope_straight (h a w ha hw)
theorem WN.sc_normal (h : WN n Q .normal F I O) : WN n (Exit.noGoto Q) .normal F I O := fun a w ha hw => h a w ha hw
theorem WN.sc_ret (h : WN n Q .ret F I O) : WN n (Exit.noGoto Q) .ret F I O := fun a w ha hw => h a w ha hw
theorem WN.sc_exit {i : Nat} (h : WN n Q (.exit i) F I O) : WN n (Exit.noGoto Q) (.exit i) F I O := fun a w ha hw => h a w ha hw
end
end Go.Sy
