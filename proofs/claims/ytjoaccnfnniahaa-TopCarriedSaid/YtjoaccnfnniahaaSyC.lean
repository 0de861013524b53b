/- Operations that turn the memory, calls, regions, and whole functions over a symbolic memory. Nothing of the program stands here. -/
import Derived.Test.YtjoaccnfnniahaaSyB
namespace Go.Sy
set_option linter.unusedSimpArgs false
set_option linter.unusedVariables false

/-- What a call comes to: a value; what was known stays known, and K says what is known of it. -/
def Does (P : Program) (f : FuncId) (vs : List Value) (I : Imm) (O : Own) (K : Value → Imm → Own → Prop) : Prop :=
  ∀ w, Sat w I O → Calls P f ⟨vs⟩ w fun e w' => ∃ v I' O', e = .returned v ∧ I.le I' ∧ Sat w' I' O' ∧ K v I' O'

theorem Does.mono {P : Program} {f : FuncId} {vs : List Value} {I : Imm} {O : Own} {K K' : Value → Imm → Own → Prop} (h : Does P f vs I O K) (hk : ∀ v I' O', K v I' O' → K' v I' O') :
    Does P f vs I O K' := fun w hw => (h w hw).mono fun e w' ⟨v, I', O', h1, h2, h3, h4⟩ => ⟨v, I', O', h1, h2, h3, hk _ _ _ h4⟩

section
variable {P : Program} {n : Nat} {Q : Exit → Act → World → Prop} {F : Fr} {I : Imm} {O : Own}

def dstOk (n : Nat) : Option Nat → Bool
  | none => true
  | some d => Nat.blt d n
theorem Ok.put' {a : Act} (h : Ok n F a) {d : Option Nat} (hd : dstOk n d = true) (v : Value) : Ok n (F.put d v) (a.put d v) := by
  cases d with
  | none => exact h
  | some d => exact h.put hd v

/-- One operation that is carried out; K: what is known behind it. -/
def WOp (P : Program) (n : Nat) (Q : Exit → Act → World → Prop) (o : Oper) (F : Fr) (I : Imm) (O : Own) (K : Fr → Imm → Own → Prop) : Prop :=
  ∀ a w, Ok n F a → Sat w I O → o.wp P a w (fun a' w' => ∃ F' I' O', Ok n F' a' ∧ I.le I' ∧ Sat w' I' O' ∧ K F' I' O') Q

theorem WOp.ev {o : Oper} {v : Value} {K : Fr → Imm → Own → Prop} (h : EV P F I O o v) (hd : dstOk n o.dst = true) (k : K (F.put o.dst v) I O) : WOp P n Q o F I O K := fun a w ha hw => by
  unfold Oper.wp
  rw [h a.eval (fun x u e => ha.eval e) w hw.knows]
  exact ⟨_, _, _, ha.put' hd v, Imm.le_refl I, hw, k⟩
theorem WOp.sr {o : Oper} {K : Fr → Imm → Own → Prop} (hd : dstOk n o.dst = true)
    (h : ∀ ρ : Operand → Value, (∀ x u, F.op x = some u → ρ x = u) → SR P (execOp ρ o) I O (fun x O' => ∃ v, x = .value v ∧ K (F.put o.dst v) I O')) : WOp P n Q o F I O K := fun a w ha hw => by
  obtain ⟨x, w', O', h1, h2, v, rfl, h3⟩ := h a.eval (fun x u e => ha.eval e) w hw
  unfold Oper.wp
  rw [h1]
  exact ⟨_, _, _, ha.put' hd v, Imm.le_refl I, h2, h3⟩
theorem WOp.skip {o : Oper} {K : Fr → Imm → Own → Prop} (hd : o.dst = none)
    (h : ∀ ρ : Operand → Value, (∀ x u, F.op x = some u → ρ x = u) → SR P (execOp ρ o) I O (fun x O' => x = .skip ∧ K F I O')) : WOp P n Q o F I O K := fun a w ha hw => by
  obtain ⟨x, w', O', h1, h2, rfl, h3⟩ := h a.eval (fun x u e => ha.eval e) w hw
  unfold Oper.wp
  rw [h1]
  show ∃ F' I' O', Ok n F' (a.put o.dst undef) ∧ _
  rw [hd]
  exact ⟨_, _, _, ha, Imm.le_refl I, h2, h3⟩

theorem SR.value {s : Sem Value} {K : Next → Own → Prop} (h : SR P s I O fun v O' => K (Next.value v) O') : SR P (do pure (Next.value (← s))) I O K :=
  .bind (h.mono fun _ _ hk => .done hk)
theorem SR.unit {s : Sem Unit} {K : Next → Own → Prop} (h : SR P s I O fun _ O' => K Next.skip O') : SR P (do s; pure Next.skip) I O K :=
  .bind (h.mono fun _ _ hk => .done hk)

theorem SR.newVar {t : TypeId} {v : Value} {K : Addr → Own → Prop} (h : ∀ b, I b = none → b ∉ O.map Prod.fst → K ⟨b, 0, none⟩ ((b, .cells v.cells t (0, 0)) :: O)) : SR P (newVar t v) I O K := by
  unfold Go.newVar newRow
  exact .bind (.new fun b h1 h2 => .done (h b h1 h2))

def setL (cs : List Value) (off : Nat) (vs : List Value) : List Value := cs.take off ++ (vs ++ cs.drop (off + vs.length))
def ones : List Value → Bool
  | [] => true
  | v :: r => (match v with | .agg _ | .tuple _ => false | _ => true) && ones r
theorem run_storeCells (P : Program) {b : Nat} {t : TypeId} : ∀ {vs : List Value} {cs : List Value} {off i : Nat} {w : World}, ones vs = true → off + i + vs.length ≤ cs.length →
    w.heap[b]? = some (.cells ⟨cs⟩ t (0, 0)) →
    ∃ w', (storeCells ⟨b, off, none⟩ vs i).run P w = .ok () w' ∧ w'.env = w.env ∧ w'.heap[b]? = some (.cells ⟨setL cs (off + i) vs⟩ t (0, 0)) ∧ ∀ c, c ≠ b → w'.heap[c]? = w.heap[c]?
  | [], cs, off, i, w, _, hl, hb => ⟨w, by unfold Go.storeCells; rfl, rfl, by simpa [setL] using hb, fun _ _ => rfl⟩
  | v :: vs, cs, off, i, w, h1, hl, hb => by
    simp only [List.length_cons] at hl
    have hv : one v := by
      cases v <;> simp [ones] at h1 <;> trivial
    have hvs : ones vs = true := by
      unfold ones at h1
      cases hx : ones vs
      · rw [hx] at h1; simp at h1
      · rfl
    have hblt := (Array.getElem?_eq_some_iff.1 hb).1
    have hlt : off + i < cs.length := by omega
    have hc : w.cell? ⟨b, off + i, none⟩ = some cs[off + i] := by simp [World.cell?, hb, hlt]
    have hf : w.frozen? ⟨b, off + i, none⟩ = false := by simp [World.frozen?, hb]
    have hs : (Go.store ⟨b, off + i, none⟩ v).run P w = .ok () (w.setCell ⟨b, off + i, none⟩ v) := by
      unfold Go.store
      cases v <;> first | exact hv.elim | simp [Sem.run, hc, hf]
    have hb1 : (w.setCell ⟨b, off + i, none⟩ v).heap[b]? = some (.cells ⟨cs.set (off + i) v⟩ t (0, 0)) := by
      simp [World.setCell, Array.getElem?_modify, hb]
    have ho : ∀ c, c ≠ b → (w.setCell ⟨b, off + i, none⟩ v).heap[c]? = w.heap[c]? := fun c hc => by
      simp [World.setCell, Array.getElem?_modify, Ne.symm hc]
    obtain ⟨w', g1, g0, g2, g3⟩ := run_storeCells P (off := off) (i := i + 1) hvs (by simp; omega) hb1
    refine ⟨w', ?_, g0, ?_, fun c hc => (g3 c hc).trans (ho c hc)⟩
    · unfold Go.storeCells
      rw [addr_add, Sem.run_bind, hs]
      exact g1
    · rw [g2]
      congr 3
      unfold setL
      have e1 : (cs.set (off + i) v).take (off + (i + 1)) = cs.take (off + i) ++ [v] := by
        rw [show off + (i + 1) = (off + i) + 1 from by omega, List.take_succ_eq_append_getElem (by simpa using hlt)]
        rw [List.take_set_of_le (by omega)]; simp
      have e2 : (cs.set (off + i) v).drop (off + (i + 1) + vs.length) = cs.drop (off + i + (v :: vs).length) := by
        rw [List.drop_set_of_lt (by omega)]
        congr 1
        simp; omega
      rw [e1, e2]; simp

theorem SR.storeVar {t T : TypeId} {b off m : Nat} {cs vs : List Value} {v : Value} {O' : Own} {K : Unit → Own → Prop} (hs : szOf P t = some m) (hv : v.cells = ⟨vs⟩) (hm : vs.length = m)
    (h1 : ones vs = true) (hl : Nat.ble (off + vs.length) cs.length = true) (hu : Upd O b (.cells ⟨cs⟩ T (0, 0)) (.cells ⟨setL cs off vs⟩ T (0, 0)) O') (hk : K () O') :
    SR P (storeVar t ⟨b, off, none⟩ v) I O K := fun w hw => by
  have hl' : off + vs.length ≤ cs.length := by simpa using hl
  obtain ⟨w', g1, g0, g2, g3⟩ := run_storeCells P (off := off) (i := 0) h1 (by simpa using hl') (hw.own _ _ hu.has)
  refine ⟨(), w', O', ?_, hw.upd hu (by simpa using g2) g3 g0, hk⟩
  unfold Go.storeVar
  rw [Sem.run_bind, run_sizeOf hs]
  simp [hv, hm, g1]

section
variable {d : Option Tmp} {ty : TypeId} {pos : String} {af : Array Edge} {g : Option (Nat × Bool)} {K : Fr → Imm → Own → Prop}
theorem WOp.alloc {t : TypeId} {z : List Value} (hz : zrOf P t = some z) (hd : dstOk n d = true)
    (k : ∀ b, I b = none → b ∉ O.map Prod.fst → K (F.put d (.pointer (some ⟨b, 0, none⟩))) I ((b, .cells ⟨z⟩ t (0, 0)) :: O)) : WOp P n Q ⟨d, .alloc t, ty, pos, af, g⟩ F I O K :=
  .sr hd fun ρ hρ => by
    unfold zrOf at hz
    obtain ⟨i, hi, hz'⟩ := Option.bind_eq_some_iff.1 hz
    obtain ⟨zv, hzv, rfl⟩ := Option.map_eq_some_iff.1 hz'
    simp only [execOp]
    refine .value ?_
    unfold Instr.alloc
    refine .bind_run (fun w => run_zeroValue (z := zv) (by unfold zvOf; simp [hi, hzv])) ?_
    refine .bind (.newVar fun b h1 h2 => .done ⟨_, rfl, k b h1 h2⟩)
theorem WOp.box {t : TypeId} {x : Operand} {v : Value} {cs : List Value} (hx : F.op x = some v) (hc : v.cells = ⟨cs⟩) (hd : dstOk n d = true)
    (k : ∀ b, I b = none → b ∉ O.map Prod.fst → K (F.put d (.pointer (some ⟨b, 0, none⟩))) I ((b, .cells ⟨cs⟩ t (0, 0)) :: O)) : WOp P n Q ⟨d, .box t x, ty, pos, af, g⟩ F I O K :=
  .sr hd fun ρ hρ => by
    simp only [execOp, hρ _ _ hx]
    refine .value ?_
    unfold Instr.box
    refine .bind (.newVar fun b h1 h2 => .done ⟨_, rfl, ?_⟩)
    rw [hc]; exact k b h1 h2
/-- A store into a part of an owned block. -/
theorem WOp.store {t T : TypeId} {x y : Operand} {b off m : Nat} {cs vs : List Value} {v : Value} {O' : Own} (hs : szOf P t = some m)
    (hx : F.op x = some (.pointer (some ⟨b, off, none⟩))) (hy : F.op y = some v) (hv : v.cells = ⟨vs⟩) (hm : vs.length = m) (h1 : ones vs = true) (hl : Nat.ble (off + vs.length) cs.length = true)
    (hu : Upd O b (.cells ⟨cs⟩ T (0, 0)) (.cells ⟨setL cs off vs⟩ T (0, 0)) O') (k : K F I O') : WOp P n Q ⟨none, .store t x y, ty, pos, af, g⟩ F I O K :=
  .skip rfl fun ρ hρ => by
    simp only [execOp, hρ _ _ hx, hρ _ _ hy]
    refine .unit ?_
    unfold Instr.storeAt Instr.sureAddr
    exact .bind (.done (.storeVar hs hv hm h1 hl hu ⟨rfl, k⟩))
/-- A store of the whole of an owned block. -/
theorem WOp.storeW {t T : TypeId} {x y : Operand} {b m : Nat} {cs vs : List Value} {v : Value} {O' : Own} (hs : szOf P t = some m)
    (hx : F.op x = some (.pointer (some ⟨b, 0, none⟩))) (hy : F.op y = some v) (hv : v.cells = ⟨vs⟩) (hm : vs.length = m) (h1 : ones vs = true) (hl : cs.length = m)
    (hu : Upd O b (.cells ⟨cs⟩ T (0, 0)) (.cells ⟨vs⟩ T (0, 0)) O') (k : K F I O') : WOp P n Q ⟨none, .store t x y, ty, pos, af, g⟩ F I O K := by
  refine WOp.store (cs := cs) (vs := vs) (T := T) (O' := O') hs hx hy hv hm h1 (by simp; omega) ?_ k
  have : setL cs 0 vs = vs := by unfold setL; simp; omega
  rw [this]; exact hu

/-! calls -/
theorem run_callFunc {f : FuncId} {fn : Func} {args : Array Value} {w : World} (hf : P.funcs[f]? = some fn) (hb : fn.body.isSome = true) (hn : (fn.name == "runtime.NumGoroutine") = false) :
    (callFunc f args).run P w = .ok (.enter f args) w := by
  unfold callFunc
  have hb' : fn.body.isNone = false := by cases h : fn.body <;> simp [h] at hb ⊢
  have hn' : ¬ fn.name = "runtime.NumGoroutine" := by simpa using hn
  have hne : ¬ fn.body = none := fun e => by rw [e] at hb; simp at hb
  simp [program, Sem.run, hf, hne, hn']
def callee (P : Program) (f : FuncId) : Bool := match P.funcs[f]? with
  | some fn => fn.body.isSome && !(fn.name == "runtime.NumGoroutine")
  | none => false
theorem run_call {f : FuncId} {args : Array Value} {w : World} (h : callee P f = true) : (callFunc f args).run P w = .ok (.enter f args) w := by
  unfold callee at h
  split at h
  · rename_i fn hf
    simp at h
    exact run_callFunc hf (by simpa using h.1) (by simpa using h.2)
  · cases h
theorem WOp.call {f : FuncId} {x : Operand} {xs : Array Operand} {ats : Array TypeId} {us vs : List Value} {KV : Value → Imm → Own → Prop} (hc : callee P f = true)
    (hx : F.op x = some (.func (.func f) #[] ⟨us⟩)) (hs : F.ops xs.toList = some vs) (hd : dstOk n d = true) (h : Does P f (vs ++ us) I O KV)
    (k : ∀ v I' O', I.le I' → KV v I' O' → K (F.put d v) I' O') : WOp P n Q ⟨d, .call ⟨.value x, xs, ats⟩, ty, pos, af, g⟩ F I O K := fun a w ha hw => by
  unfold Oper.wp
  have e1 : xs.map a.eval = ⟨vs⟩ := by apply Array.ext'; simp [ha.evals hs]
  have e : (execOp a.eval ⟨d, .call ⟨.value x, xs, ats⟩, ty, pos, af, g⟩).run P w = .ok (.enter f ⟨vs ++ us⟩) w := by
    simp only [execOp, resolve, ha.eval hx, e1]
    simp [Deferred.ofValue, invoke, run_call hc]
  rw [e]
  show Calls P f ⟨vs ++ us⟩ w _
  refine (h w hw).mono ?_
  rintro e w' ⟨v, I', O', rfl, h1, h2, h3⟩
  exact ⟨_, _, _, ha.put' hd v, h1, h2, k v I' O' h1 h3⟩
end

/-! ### a region in order -/
def wantedF (ops : Array Oper) (o : Oper) (F : Fr) : Option Bool :=
  match o.guard with
  | none => some true
  | some (j, b) => match (ops[j]?).bind (·.dst) with
    | some d => match F.get d with
      | some (.bool c) => some (c == b)
      | some _ => some false
      | none => none
    | none => none
theorem wantedF_spec {ops : Array Oper} {o : Oper} {a : Act} {b : Bool} (ha : Ok n F a) (h : wantedF ops o F = some b) : Region.wanted o (yielded ops a.tmps) = b := by
  unfold wantedF at h
  unfold Region.wanted
  split at h
  · rename_i hg; rw [hg]; simpa using h
  · rename_i j c hg
    rw [hg]
    simp only
    split at h
    · rename_i d hd
      split at h
      · rename_i v hv
        have := ha.get _ _ hv
        simp only [yielded, hd, Option.bind_some, this]
        simpa using h
      · rename_i v hv hnb
        have := ha.get _ _ hnb
        cases h
        simp only [yielded, hd, Option.bind_some, this]
        cases v <;> first | rfl | exact absurd rfl (hv _)
      · cases h
    · cases h

def wpL (P : Program) (ops : Array Oper) (Q : Exit → Act → World → Prop) : List Oper → Act → World → Prop
  | [], a, w => Q .normal a w
  | o :: r, a, w => if Region.wanted o (yielded ops a.tmps) then o.wp P a w (wpL P ops Q r) Q else wpL P ops Q r (a.put o.dst undef) w
theorem wpOps_of_wpL {ops : Array Oper} : ∀ (l : List Oper) (k : Nat) (a : Act) (w : World), (∀ j, j < l.length → ops[k + j]? = l[j]?) → wpL P ops Q l a w → wpOps P ops Q (List.range' k l.length) a w
  | [], k, a, w, _, h => h
  | o :: r, k, a, w, hl, h => by
    have h0 : ops[k]? = some o := by simpa using hl 0 (by simp)
    have ih : ∀ a w, wpL P ops Q r a w → wpOps P ops Q (List.range' (k + 1) r.length) a w := fun a w h =>
      wpOps_of_wpL r (k + 1) a w (fun j hj => by have := hl (j + 1) (by simpa using hj); rw [show k + (j + 1) = k + 1 + j from by omega] at this; simpa using this) h
    simp only [List.length_cons, List.range'_succ, wpOps, h0]
    unfold wpL at h
    split at h
    · rename_i hw
      simp only [hw, if_true]
      exact .inl (Oper.wp_mono ih h)
    · rename_i hw
      simp only [hw]
      exact ih _ _ h
def WL (P : Program) (n : Nat) (ops : Array Oper) (Q : Exit → Act → World → Prop) (l : List Oper) (F : Fr) (I : Imm) (O : Own) : Prop :=
  ∀ a w, Ok n F a → Sat w I O → wpL P ops Q l a w
theorem WC.region {id : Nat} {ops : Array Oper} (h : WL P n ops Q ops.toList F I O) : WC P n (.region id ops false) Q F I O := fun a w ha hw => by
  refine wp_region ?_
  have := wpOps_of_wpL (P := P) (Q := Q) ops.toList 0 a w (fun j hj => by simp) (h a w ha hw)
  rw [List.range_eq_range']
  simpa using this
theorem WL.nil {ops : Array Oper} (h : WN n Q .normal F I O) : WL P n ops Q [] F I O := fun a w ha hw => h a w ha hw
theorem WL.on {ops : Array Oper} {o : Oper} {l : List Oper} (hw : wantedF ops o F = some true) (h : WOp P n Q o F I O (fun F' I' O' => WL P n ops Q l F' I' O')) : WL P n ops Q (o :: l) F I O := fun a w ha hs => by
  unfold wpL
  rw [if_pos (wantedF_spec ha hw)]
  refine Oper.wp_mono ?_ (h a w ha hs)
  rintro a' w' ⟨F', I', O', h1, _, h3, h4⟩
  exact h4 a' w' h1 h3
theorem WL.off {ops : Array Oper} {o : Oper} {l : List Oper} (hw : wantedF ops o F = some false) (hd : dstOk n o.dst = true) (h : WL P n ops Q l (F.put o.dst undef) I O) : WL P n ops Q (o :: l) F I O := fun a w ha hs => by
  unfold wpL
  rw [if_neg (by rw [wantedF_spec ha hw]; simp)]
  exact h _ _ (ha.put' hd undef) hs
theorem WL.split {ops : Array Oper} {l : List Oper} (t : Nat) {c : Bool} (hc : F.get t = some (.bool c)) (h1 : c = true → WL P n ops Q l ((t, .bool true) :: F) I O) (h0 : c = false → WL P n ops Q l ((t, .bool false) :: F) I O) :
    WL P n ops Q l F I O := fun a w ha hs => by
  have up : ∀ b, c = b → Ok n ((t, .bool b) :: F) a := fun b e => ⟨ha.defers, ha.size, fun s v hv => by
    unfold Fr.get at hv
    by_cases hts : t = s
    · subst hts; simp at hv; subst hv; rw [← e]; exact ha.get _ _ hc
    · have : Nat.beq t s = false := Bool.eq_false_iff.2 fun h => hts (Nat.eq_of_beq_eq_true h)
      rw [this] at hv
      exact ha.get _ _ hv⟩
  cases hcc : c
  · exact h0 hcc a w (up _ hcc) hs
  · exact h1 hcc a w (up _ hcc) hs

theorem WN.tail {e : Exit} {x : Nat × Obj} (h : WN n Q e F I O) : WN n Q e F I (x :: O) := fun a w ha hw => h a w ha hw.tail
theorem WC.tail {c : Code} {x : Nat × Obj} (h : WC P n c Q F I O) : WC P n c Q F I (x :: O) := fun a w ha hw => h a w ha hw.tail

/-! ### whole functions -/
def Post (P : Program) (fn : Func) (I : Imm) (K : Value → Imm → Own → Prop) : Exit → Act → World → Prop :=
  bodyPost P fn fun e w' => ∃ v I' O', e = .returned v ∧ I.le I' ∧ Sat w' I' O' ∧ K v I' O'
def Fr.start : Nat → List Value → Fr
  | _, [] => []
  | k, v :: r => (k, v) :: Fr.start (k + 1) r
theorem Fr.start_get : ∀ (vs : List Value) (k t : Nat) (v : Value), (Fr.start k vs).get t = some v → k ≤ t ∧ vs[t - k]? = some v
  | [], k, t, v, h => by simp [Fr.start, Fr.get] at h
  | u :: r, k, t, v, h => by
    unfold Fr.start Fr.get at h
    by_cases e : k = t
    · subst e; simp at h; simp [h]
    · have : Nat.beq k t = false := Bool.eq_false_iff.2 fun h => e (Nat.eq_of_beq_eq_true h)
      rw [this] at h
      obtain ⟨h1, h2⟩ := Fr.start_get r (k + 1) t v h
      refine ⟨by omega, ?_⟩
      rw [show t - k = (t - (k + 1)) + 1 from by omega]
      simpa using h2
theorem Does.enter {f : FuncId} {fn : Func} {c : Code} {vs : List Value} {K : Value → Imm → Own → Prop} (hf : P.funcs[f]? = some fn) (hb : fn.body = some c) (hn : fn.ntmps = n) (hl : Nat.ble vs.length n = true)
    (h : WC P n c (Post P fn I K) (Fr.start 0 vs) I O) : Does P f vs I O K := fun w hw => by
  refine calls_of_wp hf hb (h _ w ⟨rfl, ?_, fun t v e => ?_⟩ hw)
  · have : vs.length ≤ n := by simpa using hl
    simp [hn]; omega
  · obtain ⟨_, h2⟩ := Fr.start_get vs 0 t v e
    simp at h2
    have hlt := (List.getElem?_eq_some_iff.1 h2).1
    have h3 : vs[t] = v := by rw [List.getElem?_eq_getElem hlt] at h2; exact Option.some.inj h2
    simp [Array.getElem?_append, hlt, h3]
theorem Post.ret1 {fn : Func} {K : Value → Imm → Own → Prop} {I0 : Imm} {t : Nat} {v : Value} (hr : fn.results = #[.tmp t]) (hv : F.get t = some v) (hI : I0.le I) (hk : K v I O) : WN n (Post P fn I0 K) .ret F I O :=
  fun a w ha hw => ⟨ha.defers, v, by
    have := ha.tmp hv
    simp only [Array.getD_eq_getD_getElem?] at this
    unfold results; rw [hr]; simp [this], v, I, O, rfl, hI, hw, hk⟩
theorem Post.normal {fn : Func} {K : Value → Imm → Own → Prop} {I0 : Imm} (h : WN n (Post P fn I0 K) .ret F I O) : WN n (Post P fn I0 K) .normal F I O := fun a w ha hw => h a w ha hw
/-- What the results' variables hold at the end. -/
inductive ResV (P : Program) (F : Fr) (I : Imm) (O : Own) : List ResultVar → List Value → Prop
  | nil : ResV P F I O [] []
  | tmp {t : Nat} {v : Value} {r : List ResultVar} {l : List Value} (h : F.get t = some v) (hr : ResV P F I O r l) : ResV P F I O (.tmp t :: r) (v :: l)
  | agg {x t b m : Nat} {T : TypeId} {cs : List Value} {r : List ResultVar} {l : List Value} (h : F.get x = some (.pointer (some ⟨b, 0, none⟩))) (ha : aggOf P t = some true) (hs : szOf P t = some m)
      (hb : Has O b (.cells ⟨cs⟩ T (0, 0))) (hm : cs.length = m) (hr : ResV P F I O r l) : ResV P F I O (.cell x t :: r) (.agg ⟨cs⟩ :: l)
  | one {x t b : Nat} {T : TypeId} {v : Value} {r : List ResultVar} {l : List Value} (h : F.get x = some (.pointer (some ⟨b, 0, none⟩))) (ha : aggOf P t = some false)
      (hb : Has O b (.cells ⟨[v]⟩ T (0, 0))) (hr : ResV P F I O r l) : ResV P F I O (.cell x t :: r) (v :: l)
theorem ResV.run {P : Program} {F : Fr} {I : Imm} {O : Own} {n : Nat} {a : Act} {w : World} (ha : Ok n F a) (hw : Sat w I O) (g : ResultVar → Sem Value)
    (g1 : ∀ t, g (.tmp t) = pure (a.tmps.getD t undef)) (g2 : ∀ x t, g (.cell x t) = (asAddr (a.tmps.getD x undef) >>= fun c => loadVar t c)) : ∀ {l : List ResultVar} {vs : List Value}, ResV P F I O l vs →
    (l.mapM g).run P w = .ok vs w := by
  intro l vs h
  induction h with
  | nil => rfl
  | tmp h hr ih =>
    rw [List.mapM_cons, Sem.run_bind, g1, ha.tmp h, Sem.run_pure, Result.andThen_ok, Sem.run_bind, ih]
    rfl
  | @agg x t b m T cs r l h hg hs hb hm hr ih =>
    have h0 : CellsAt w b 0 cs := fun j v e => hw.knows.own hb (by simpa using e)
    rw [List.mapM_cons, Sem.run_bind, g2, ha.tmp h, show (asAddr (.pointer (some ⟨b, 0, none⟩)) >>= fun a => loadVar t a) = loadVar t ⟨b, 0, none⟩ from rfl, run_loadVar_agg hg hs hm h0, Result.andThen_ok, Sem.run_bind, ih]
    rfl
  | @one x t b T v r l h hg hb hr ih =>
    have h0 : w.cell? ⟨b, 0, none⟩ = some v := hw.knows.own hb rfl
    rw [List.mapM_cons, Sem.run_bind, g2, ha.tmp h, show (asAddr (.pointer (some ⟨b, 0, none⟩)) >>= fun a => loadVar t a) = loadVar t ⟨b, 0, none⟩ from rfl, run_loadVar_one hg h0, Result.andThen_ok, Sem.run_bind, ih]
    rfl
theorem Post.ret {P : Program} {n : Nat} {F : Fr} {I : Imm} {O : Own} {fn : Func} {K : Value → Imm → Own → Prop} {I0 : Imm} {rs : List ResultVar} {vs : List Value} {v : Value} (hr : fn.results = ⟨rs⟩) (hv : ResV P F I O rs vs)
    (hl : (if h : vs.length = 1 then vs[0] else .tuple ⟨vs⟩) = v) (hI : I0.le I) (hk : K v I O) : WN n (Post P fn I0 K) .ret F I O :=
  fun a w ha hw => by
    refine ⟨ha.defers, v, ?_, _, I, O, rfl, hI, hw, hk⟩
    unfold results
    rw [hr, Sem.run_bind, Array.mapM_eq_mapM_toList, Sem.run_map, hv.run ha hw _ (fun _ => rfl) (fun _ _ => rfl)]
    simp only [Result.andThen_ok, Sem.run_pure]
    rw [← hl]
    simp
end
end Go.Sy
