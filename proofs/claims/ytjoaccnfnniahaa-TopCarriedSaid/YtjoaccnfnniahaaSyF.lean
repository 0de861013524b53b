/- Slices that the call makes: built, appended to, frozen. Nothing of the program stands here. -/
import Derived.Test.YtjoaccnfnniahaaSyT
import Derived.LoopN
namespace Go.Sy
set_option linter.unusedSimpArgs false
set_option linter.unusedVariables false

theorem Pure.castT {P : Program} {f : FuncId} {vs : List Value} {I : Imm} {O : Own} {b : Bool} (h : Pure P f vs I O (.bool b)) (e : b = true) : Pure P f vs I O (.bool true) := e ▸ h
theorem Pure.castF {P : Program} {f : FuncId} {vs : List Value} {I : Imm} {O : Own} {b : Bool} (h : Pure P f vs I O (.bool b)) (e : b = false) : Pure P f vs I O (.bool false) := e ▸ h
theorem Pure.cast {P : Program} {f : FuncId} {vs : List Value} {I : Imm} {O : Own} {v u : Value} (h : Pure P f vs I O v) (e : v = u) : Pure P f vs I O u := e ▸ h

section
variable {P : Program} {n : Nat} {Q : Exit → Act → World → Prop} {F : Fr} {I : Imm} {O : Own}
/-! ### a row of the call's own turns no more -/
theorem frz {b : Nat} {o : Obj} {w : World} (h : Sat w I ((b, o) :: O)) : ∃ J, I.le J ∧ J b = some o ∧ Sat w J O := ⟨_, h.freeze.2, Imm.put_self I b o, h.freeze.1⟩
theorem WL.freeze {ops : Array Oper} {l : List Oper} {b : Nat} {o : Obj} (h : ∀ J, I.le J → J b = some o → WL P n ops Q l F J O) : WL P n ops Q l F I ((b, o) :: O) := fun a w ha hw => by
  obtain ⟨J, h1, h2, h3⟩ := frz hw
  exact h J h1 h2 a w ha h3
theorem WC.freeze {c : Code} {b : Nat} {o : Obj} (h : ∀ J, I.le J → J b = some o → WC P n c Q F J O) : WC P n c Q F I ((b, o) :: O) := fun a w ha hw => by
  obtain ⟨J, h1, h2, h3⟩ := frz hw
  exact h J h1 h2 a w ha h3
theorem WN.freeze {e : Exit} {b : Nat} {o : Obj} (h : ∀ J, I.le J → J b = some o → WN n Q e F J O) : WN n Q e F I ((b, o) :: O) := fun a w ha hw => by
  obtain ⟨J, h1, h2, h3⟩ := frz hw
  exact h J h1 h2 a w ha h3
theorem WA.freeze {ops : Array Oper} {K : Imm} {B : Own} {k : Nat} {listed : Array Bool} {b : Nat} {o : Obj} (h : ∀ J, I.le J → J b = some o → WA P n ops Q K B k listed F J O) : WA P n ops Q K B k listed F I ((b, o) :: O) := fun a w ha hw => by
  obtain ⟨J, h1, h2, h3⟩ := frz hw
  exact h J h1 h2 a w ha h3
/-- What was frozen may be forgotten. -/
theorem WN.back {e : Exit} {J : Imm} (hJ : J.le I) (h : WN n Q e F J O) : WN n Q e F I O := fun a w ha hw => h a w ha (hw.sub hJ (fun _ hx => hx) hw.nodup)

/-- A loop of so many rounds, one by one. -/
theorem WC.unroll {c : Code} (k : Nat) (h : WC P n c (Exit.then (Code.rounds P c Q k) Q) F I O) : WC P n (.loop c) Q F I O := fun a w ha hw => wp_loop_rounds (k + 1) (h a w ha hw)
theorem WN.again {c : Code} {k : Nat} (h : WC P n c (Exit.then (Code.rounds P c Q k) Q) F I O) : WN n (Exit.then (Code.rounds P c Q (k + 1)) Q) .normal F I O := fun a w ha hw => h a w ha hw

/-! ### what is removed of what is owned -/
inductive Rem : Own → Own → Own → Prop
  | nil {O : Own} : Rem O [] O
  | here {O : Own} {x : Nat × Obj} : Rem (x :: O) [x] O
  | there {O O' ob : Own} {x : Nat × Obj} (h : Rem O ob O') : Rem (x :: O) ob (x :: O')
  | front {O ob : Own} : Rem (ob ++ O) ob O
theorem Rem.sub {O ob O' : Own} (h : Rem O ob O') : (∀ x, x ∈ O' → x ∈ O) ∧ (∀ x, x ∈ ob → x ∈ O) := by
  induction h with
  | nil => exact ⟨fun _ h => h, fun _ h => by cases h⟩
  | here => exact ⟨fun _ h => List.mem_cons_of_mem _ h, fun y h => by simp at h; subst h; exact List.mem_cons_self⟩
  | there h ih => exact ⟨fun y hy => by
      rcases List.mem_cons.1 hy with rfl | hy
      · exact List.mem_cons_self
      · exact List.mem_cons_of_mem _ (ih.1 y hy), fun y hy => List.mem_cons_of_mem _ (ih.2 y hy)⟩
  | front => exact ⟨fun y h => List.mem_append_right _ h, fun y h => List.mem_append_left _ h⟩
theorem Rem.perm {O ob O' : Own} (h : Rem O ob O') : O.Perm (ob ++ O') := by
  induction h with
  | nil => exact .refl _
  | here => exact .refl _
  | front => exact .refl _
  | @there O O' ob x h ih => exact (ih.cons x).trans (List.perm_middle.symm)
theorem Sat.perm {w : World} {O' : Own} (h : Sat w I O) (hp : O.Perm O') : Sat w I O' :=
  h.sub (Imm.le_refl I) (fun x hx => hp.mem_iff.2 hx) ((hp.map Prod.fst).nodup_iff.1 h.nodup)
theorem Sat.rem {w : World} {ob O' : Own} (h : Sat w I O) (hr : Rem O ob O') : Sat w I (ob ++ O') := h.perm hr.perm
theorem WL.front {ops : Array Oper} {l : List Oper} {ob O' : Own} (hr : Rem O ob O') (h : WL P n ops Q l F I (ob ++ O')) : WL P n ops Q l F I O := fun a w ha hw => h a w ha (hw.rem hr)
theorem WC.front {c : Code} {ob O' : Own} (hr : Rem O ob O') (h : WC P n c Q F I (ob ++ O')) : WC P n c Q F I O := fun a w ha hw => h a w ha (hw.rem hr)
theorem WN.front {e : Exit} {ob O' : Own} (hr : Rem O ob O') (h : WN n Q e F I (ob ++ O')) : WN n Q e F I O := fun a w ha hw => h a w ha (hw.rem hr)
theorem WA.front {ops : Array Oper} {K : Imm} {B : Own} {k : Nat} {listed : Array Bool} {ob O' : Own} (hr : Rem O ob O') (h : WA P n ops Q K B k listed F I (ob ++ O')) : WA P n ops Q K B k listed F I O := fun a w ha hw => h a w ha (hw.rem hr)

/-! ### slices of the call's own -/
def OwnS (k : Nat) (v : Value) (m : Nat) (ws : List Value) (ob : Own) : Prop :=
  (v = .slice none 0 0 ∧ m = 0 ∧ ws = [] ∧ ob = []) ∨
  ∃ b cap cs T, v = .slice (some ⟨b, 0, none⟩) m cap ∧ ob = [(b, .cells ⟨cs⟩ T (0, 0))] ∧ m ≤ cap ∧ cs.length = cap * k ∧ cs.take (m * k) = ws ∧ ws.length = m * k ∧ cap ≤ 9223372036854775807
theorem OwnS.nil {k : Nat} : OwnS k (.slice none 0 0) 0 [] [] := .inl ⟨rfl, rfl, rfl, rfl⟩
/-- Cells that an operand slice has: in memory that never turns, or in a row that is owned. -/
def Src (I : Imm) (B : Own) (v : Value) (m : Nat) (ws : List Value) : Prop :=
  ∃ ad cap, v = .slice ad m cap ∧ (ws = [] ∨ ∃ b off, ad = some ⟨b, off, none⟩ ∧ (At I b off ws ∨ ∃ cs T fz, Has B b (.cells cs T fz) ∧ ∀ j u, ws[j]? = some u → cs[off + j]? = some u))
theorem Src.cells {w : World} {B : Own} {v : Value} {m k : Nat} {ws : List Value} (h : Src I B v m ws) (hw : Knows w I B) (hl : ws.length = m * k) : (Builtin.firstCells k m v).run P w = .ok ws.toArray w := by
  obtain ⟨ad, cap, rfl, h⟩ := h
  rcases h with rfl | ⟨b, off, rfl, h⟩
  · have h0 : m * k = 0 := by simpa using hl.symm
    cases ad with
    | none => rfl
    | some a =>
      unfold Builtin.firstCells loadCells
      rw [h0]
      rfl
  · unfold Builtin.firstCells
    refine run_loadCells hl fun j u hu => ?_
    rcases h with h | ⟨cs, T, fz, hb, hc⟩
    · exact h.cells hw j u hu
    · exact hw.own hb (hc j u hu)
theorem OwnS.src {k m : Nat} {v : Value} {ws : List Value} {ob O' : Own} (h : OwnS k v m ws ob) (hr : Rem O ob O') : Src I O v m ws := by
  rcases h with ⟨rfl, rfl, rfl, rfl⟩ | ⟨b, cap, cs, T, rfl, rfl, _, _, hw, _, _⟩
  · exact ⟨none, 0, rfl, .inl rfl⟩
  · refine ⟨_, cap, rfl, .inr ⟨b, 0, rfl, .inr ⟨⟨cs⟩, T, (0, 0), hr.sub.2 _ (by simp), fun j u hu => ?_⟩⟩⟩
    rw [← hw, List.getElem?_take] at hu
    split at hu
    · simpa using hu
    · cases hu

theorem take_setL {cs ws : List Value} {i : Nat} (h : i + ws.length ≤ cs.length) : (setL cs i ws).take (i + ws.length) = cs.take i ++ ws := by
  unfold setL
  rw [← List.append_assoc, List.take_left']
  simp; omega

theorem run_grow {w : World} {t t2 e e2 : TypeId} {k m m2 cap : Nat} {ad : Option Addr} {x : Value} {ws ws2 : List Value} {ty : TypeId} {inf : TypeInfo} {zv : Value} (hu : P.underlying t = some (.slice e)) (hu2 : P.underlying t2 = some (.slice e2))
    (hk : szOf P e = some k) (hinf : P.info? e = some inf) (hz : zvOf P e = some zv) (hc : cap < m + m2) (hb : (m + m2) * inf.bytes ≤ 140737488355328) (hcap : m + m2 ≤ 4611686018427387904)
    (hxl : ∀ w, (Builtin.lenOf x).run P w = .ok m2 w) (hv : ∀ w' : World, w'.heap = w.heap → (Builtin.firstCells k m (.slice ad m cap)).run P w' = .ok ws.toArray w') (hx : ∀ w' : World, w'.heap = w.heap → (Builtin.firstCells k m2 x).run P w' = .ok ws2.toArray w') :
    ∃ c, m + m2 ≤ c ∧ c ≤ 9223372036854775807 ∧ (Builtin.append_ #[t, t2] ty #[.slice ad m cap, x]).run P w = .ok (.slice (some ⟨w.heap.size, 0, none⟩) (m + m2) c) { w with heap := w.heap.push (.cells (ws.toArray ++ ws2.toArray ++ Builtin.zeroCells zv.cells (c - (m + m2))) e), drawn := w.drawn + 1 } := by
  have hgrow : ¬ (m + m2 ≤ cap) := by omega
  have hmax : ¬ (((m + m2 : Nat) : Int) > IntKind.i64.max ∧ (false = true ∨ inf.bytes = 0)) := by
    intro hh
    have : IntKind.i64.max = 9223372036854775807 := rfl
    omega
  have hfit : ¬ (Builtin.nextslicecap (m + m2) cap * inf.bytes > 2 ^ 48) := by
    have := growslice_fits (need := m + m2) (old := cap) (bytes := inf.bytes) (by omega) (by omega)
    omega
  refine ⟨(Question.appendCap (m + m2) cap e).cut (w.tape w.drawn (.appendCap (m + m2) cap e)), Nat.le_add_right _ _, ?_, ?_⟩
  · have : w.tape w.drawn (.appendCap (m + m2) cap e) % (2 ^ 63 - (m + m2)) < 2 ^ 63 - (m + m2) := Nat.mod_lt _ (by omega)
    simp only [Question.cut]
    omega
  unfold Builtin.append_
  have h1 : (#[t, t2] : Array TypeId)[0]? = some t := rfl
  have h2 : (#[t, t2] : Array TypeId)[1]? = some t2 := rfl
  have h3 : (#[Value.slice ad m cap, x] : Array Value)[0]? = some (.slice ad m cap) := rfl
  have h4 : (#[Value.slice ad m cap, x] : Array Value)[1]? = some x := rfl
  rw [h1, h2, h3, h4]
  have hI : ∀ w, (typeInfo e).run P w = .ok inf w := fun w => run_typeInfo hinf
  have hS : ∀ w, (sizeOf e).run P w = .ok k w := fun w => run_sizeOf hk
  have hZ : ∀ w, (zeroValue e).run P w = .ok zv w := fun w => run_zeroValue hz
  have hask : ∀ b w, (askRoom b).run P w = .ok () w := fun b w => by unfold askRoom; split <;> rfl
  have hm1 : ¬ ((9223372036854775807 : Int) < (m : Int) + (m2 : Int)) := by omega
  have hfit' : ¬ 281474976710656 < Builtin.nextslicecap (m + m2) cap * inf.bytes := by omega
  have hv' := hv w.drew rfl
  have hx' := hx w.drew rfl
  have hfo : (Question.appendCap (m + m2) cap e).forced = false := rfl
  simp only [Sem.run_bind, run_underlying hu, run_underlying hu2, Result.andThen_ok, hS, hxl, Sem.run_pure, Bool.false_eq_true, if_false, if_neg hgrow, hI, false_or, Bool.not_false, if_true]
  simp [hm1, hfit', hI, hask, hv', hx', hZ, newRow, newObj, Sem.run, hfo]
  refine congrArg (fun z => w.drew.alloc (.cells z e)) ?_
  apply Array.ext'
  simp
theorem zeroCells_size (z : Array Value) (m : Nat) : (Builtin.zeroCells z m).size = m * z.size := by simp [Builtin.zeroCells]

theorem SR.append {t t2 e e2 : TypeId} {k by_ m m2 : Nat} {v x : Value} {ws ws2 : List Value} {ob O0 : Own} {ty : TypeId} {zv : Value} (hu : P.underlying t = some (.slice e)) (hu2 : P.underlying t2 = some (.slice e2)) (hk : szOf P e = some k) (hby : byOf P e = some by_)
    (hz : zvOf P e = some zv) (hzk : zv.cells.size = k) (hr : Rem O ob O0) (hv : OwnS k v m ws ob) (hx : Src I O x m2 ws2) (hl2 : ws2.length = m2 * k) (ho : ones ws2 = true) (hb : (m + m2) * by_ ≤ 140737488355328) (hcap : m + m2 ≤ 4611686018427387904) :
    SR P (Builtin.append_ #[t, t2] ty #[v, x]) I O (fun u O' => ∃ ob', OwnS k u (m + m2) (ws ++ ws2) ob' ∧ O' = ob' ++ O0) := fun w hw => by
  unfold byOf at hby
  obtain ⟨inf, hinf, hby⟩ := Option.map_eq_some_iff.1 hby
  have hxl : ∀ w, (Builtin.lenOf x).run P w = .ok m2 w := fun w => by obtain ⟨ad, cap, rfl, _⟩ := hx; rfl
  have hwl : ws.length = m * k := by
    rcases hv with ⟨_, rfl, rfl, _⟩ | ⟨_, _, _, _, _, _, _, _, _, h, _⟩
    · simp
    · exact h
  have kn : ∀ w' : World, w'.heap = w.heap → Knows w' I O := fun w' e => ⟨fun b q h => by rw [e]; exact hw.imm b q h, fun b q h => by rw [e]; exact hw.own b q h⟩
  have hxc : ∀ w' : World, w'.heap = w.heap → (Builtin.firstCells k m2 x).run P w' = .ok ws2.toArray w' := fun w' e => hx.cells (kn w' e) hl2
  have hvc : ∀ w' : World, w'.heap = w.heap → (Builtin.firstCells k m v).run P w' = .ok ws.toArray w' := fun w' e => (hv.src (I := I) hr).cells (kn w' e) hwl
  have h0 : Sat w I O0 := hw.sub (Imm.le_refl I) hr.sub.1 (by
    have := hr.perm.map Prod.fst |>.nodup_iff.1 hw.nodup
    rw [List.map_append, List.nodup_append] at this
    exact this.2.1)
  obtain ⟨ad, cap, hvs⟩ : ∃ ad cap, v = .slice ad m cap := by
    rcases hv with ⟨rfl, rfl, _⟩ | ⟨b, cap, _, _, rfl, _⟩
    · exact ⟨_, _, rfl⟩
    · exact ⟨_, _, rfl⟩
  by_cases hc : cap < m + m2
  · subst hvs
    obtain ⟨c, hcm, hc63, hrun⟩ := run_grow (P := P) (w := w) (ty := ty) hu hu2 hk hinf hz hc (by rw [hby]; exact hb) hcap hxl hvc hxc
    obtain ⟨g1, _, _⟩ := (h0.same (w' := w.drew) rfl).new (.cells (ws.toArray ++ ws2.toArray ++ Builtin.zeroCells zv.cells (c - (m + m2))) e)
    refine ⟨_, _, _, hrun, g1, [(w.heap.size, .cells (ws.toArray ++ ws2.toArray ++ Builtin.zeroCells zv.cells (c - (m + m2))) e)], .inr ⟨w.heap.size, c, (ws ++ ws2) ++ (Builtin.zeroCells zv.cells (c - (m + m2))).toList, e, rfl, ?_, hcm, ?_, ?_, ?_, hc63⟩, rfl⟩
    · congr 3
      apply Array.ext'
      simp
    · simp only [List.length_append, hwl, hl2, Array.length_toList, zeroCells_size, hzk]
      rw [← Nat.add_mul, ← Nat.add_mul]
      congr 1
      omega
    · rw [List.take_left']
      simp only [List.length_append, hwl, hl2, Nat.add_mul]
    · simp only [List.length_append, hwl, hl2, Nat.add_mul]
  · have hin : m + m2 ≤ cap := by omega
    have hS : ∀ w, (sizeOf e).run P w = .ok k w := fun w => run_sizeOf hk
    have h1 : (#[t, t2] : Array TypeId)[0]? = some t := rfl
    have h2 : (#[t, t2] : Array TypeId)[1]? = some t2 := rfl
    rcases hv with ⟨rfl, rfl, rfl, rfl⟩ | ⟨b, cap', cs, T, rfl, rfl, hmc, hcl, htk, _, h63⟩
    · cases hvs
      have hm2 : m2 = 0 := by omega
      subst hm2
      have hw2 : ws2 = [] := by simpa using hl2
      subst hw2
      refine ⟨.slice none 0 0, w, O0, ?_, h0, [], .inl ⟨rfl, rfl, rfl, rfl⟩, rfl⟩
      unfold Builtin.append_
      simp [run_underlying hu, run_underlying hu2, hS, hxl, hxc w rfl]
    · cases hvs
      have hsat := hw.rem hr
      have hbk := hsat.own b (.cells ⟨cs⟩ T (0, 0)) (by simp)
      have hlen : m * k + ws2.length ≤ cs.length := by
        rw [hl2, hcl, ← Nat.add_mul]
        exact Nat.mul_le_mul_right k hin
      obtain ⟨w', g1, g0, g2, g3⟩ := run_storeCells P (off := m * k) (i := 0) ho (by simpa using hlen) hbk
      have hu' : Upd ((b, .cells ⟨cs⟩ T (0, 0)) :: O0) b (.cells ⟨cs⟩ T (0, 0)) (.cells ⟨setL cs (m * k) ws2⟩ T (0, 0)) ((b, .cells ⟨setL cs (m * k) ws2⟩ T (0, 0)) :: O0) := .here
      have hsat' := Sat.upd hsat hu' (by simpa using g2) g3 g0
      refine ⟨_, w', _, ?_, hsat', _, .inr ⟨b, cap, setL cs (m * k) ws2, T, rfl, rfl, hin, ?_, ?_, ?_, h63⟩, rfl⟩
      · unfold Builtin.append_
        simp [run_underlying hu, run_underlying hu2, hS, hxl, hxc w rfl, hin, addr_add, g1]
      · rw [setL_length hlen, hcl]
      · rw [Nat.add_mul, ← hl2, take_setL hlen, htk]
      · simp only [List.length_append, hwl, hl2, Nat.add_mul]
section
variable {d : Option Tmp} {pos : String} {af : Array Edge} {g : Option (Nat × Bool)} {K : Fr → Imm → Own → Prop}
theorem WOp.append {ty : TypeId} {t t2 e e2 : TypeId} {xo yo : Operand} {k by_ m m2 : Nat} {v x : Value} {ws ws2 : List Value} {ob O0 : Own} {zv : Value} (hu : P.underlying t = some (.slice e)) (hu2 : P.underlying t2 = some (.slice e2)) (hk : szOf P e = some k) (hby : byOf P e = some by_)
    (hz : zvOf P e = some zv) (hzk : zv.cells.size = k) (hxo : F.op xo = some v) (hyo : F.op yo = some x) (hr : Rem O ob O0) (hv : OwnS k v m ws ob) (hx : Src I O x m2 ws2) (hl2 : ws2.length = m2 * k) (ho : ones ws2 = true) (hb : (m + m2) * by_ ≤ 140737488355328) (hcap : m + m2 ≤ 4611686018427387904)
    (hd : dstOk n d = true) (kk : ∀ u ob', OwnS k u (m + m2) (ws ++ ws2) ob' → K (F.put d u) I (ob' ++ O0)) : WOp P n Q ⟨d, .call ⟨.builtin .append, #[xo, yo], #[t, t2]⟩, ty, pos, af, g⟩ F I O K :=
  .sr hd fun ρ hρ => by
    simp only [execOp, resolve, pure_bind, invoke, builtin]
    have e1 : (#[xo, yo] : Array Operand).map ρ = #[v, x] := by simp [hρ _ _ hxo, hρ _ _ hyo]
    rw [e1]
    refine .value ?_
    refine (SR.append (ty := ty) hu hu2 hk hby hz hzk hr hv hx hl2 ho hb hcap).mono ?_
    rintro u O' ⟨ob', h1, rfl⟩
    exact ⟨_, rfl, kk u ob' h1⟩

/-! a slice's literal -/
def repL (z : List Value) : Nat → List Value
  | 0 => []
  | m + 1 => z ++ repL z m
theorem repL_length (z : List Value) : ∀ m, (repL z m).length = m * z.length
  | 0 => by simp [repL]
  | m + 1 => by simp [repL, repL_length z m, Nat.add_mul]; omega
theorem range_rep (z : List Value) (hz : 0 < z.length) : ∀ m, (List.range (m * z.length)).map (fun i => z[i % z.length]!) = repL z m
  | 0 => by simp [repL]
  | m + 1 => by
    rw [Nat.add_mul, Nat.one_mul, Nat.add_comm, List.range_add, List.map_append]
    unfold repL
    congr 1
    · apply List.ext_getElem (by simp)
      intro i h1 h2
      simp at h1
      simp [Nat.mod_eq_of_lt h1, h1]
    · rw [← range_rep z hz m, List.map_map]
      apply List.map_congr_left
      intro i _
      simp
theorem WOp.buildSlice {ty : TypeId} {t e len k : Nat} {xs : Array (Nat × Operand)} {vs : List (Nat × Value)} {zv : Value} {z out : List Value} (hu : P.underlying t = some (.slice e)) (hk : szOf P e = some k) (hkp : 0 < k) (hlen : len * k ≤ 16777216) (hz : zvOf P e = some zv) (hzz : zv.cells = ⟨z⟩) (hzk : z.length = k)
    (hx : F.parts xs.toList = some vs) (hf : fillL (fun i => some (i * k, k)) (repL z len) vs = some out) (hd : dstOk n d = true)
    (kk : ∀ b, I b = none → b ∉ O.map Prod.fst → K (F.put d (.slice (some ⟨b, 0, none⟩) len len)) I ((b, .cells ⟨out⟩ e (0, 0)) :: O)) : WOp P n Q ⟨d, .buildSlice t len xs, ty, pos, af, g⟩ F I O K :=
  .sr hd fun ρ hρ => by
    have e1 : xs.map (fun x => (x.1, ρ x.2)) = ⟨vs⟩ := by apply Array.ext'; simp [Fr.parts_eq hρ hx]
    simp only [execOp]
    rw [e1]
    refine .value ?_
    unfold Instr.buildSlice
    refine .bind_run (fun w => run_underlying hu) ?_
    simp only
    refine .bind_run (fun w => run_sizeOf hk) ?_
    have h1 : ¬ (len * k > 2 ^ 24) := by omega
    rw [if_neg h1]
    have e2 : (Array.range (len * k)).map (fun i => (if len * k = 0 then (#[] : Array Value) else ⟨z⟩)[i % (if len * k = 0 then (#[] : Array Value) else ⟨z⟩).size]!) = ⟨repL z len⟩ := by
      apply Array.ext'
      rcases Nat.eq_zero_or_pos len with h0 | h0
      · subst h0; simp [repL]
      · have hne : len * k ≠ 0 := Nat.mul_ne_zero (by omega) (by omega)
        simp only [if_neg hne]
        have := range_rep z (by omega) len
        rw [hzk] at this
        simpa [hzk] using this
    by_cases h0 : len * k = 0
    · rw [if_pos h0]
      simp only [if_pos h0] at e2
      refine .bind_run (x := #[]) (fun _ => rfl) ?_
      rw [e2, fill_eq hf]
      unfold newRow
      exact .bind (.bind (.new fun b h2 h3 => .done (.done ⟨_, rfl, kk b h2 h3⟩)))
    · rw [if_neg h0]
      simp only [if_neg h0] at e2
      refine .bind_run (fun w => run_zeroValue hz) ?_
      refine .bind_run (x := ⟨z⟩) (fun _ => by rw [hzz]; rfl) ?_
      rw [e2, fill_eq hf]
      unfold newRow
      exact .bind (.bind (.new fun b h2 h3 => .done (.done ⟨_, rfl, kk b h2 h3⟩)))
end

/-! ### the elements of a row, as data -/
section
variable {α : Type}
def DR (R : Imm → List Value → α → Prop) (k : Nat) (I : Imm) (ws : List Value) (xs : List α) : Prop :=
  ws.length = xs.length * k ∧ ∀ i x, xs[i]? = some x → R I ((ws.drop (i * k)).take k) x
theorem DR.nil {R : Imm → List Value → α → Prop} {k : Nat} : DR R k I [] [] := ⟨by simp, fun i x h => by simp at h⟩
theorem DR.append {R : Imm → List Value → α → Prop} {k : Nat} {ws ws2 : List Value} {xs ys : List α} (h : DR R k I ws xs) (h2 : DR R k I ws2 ys) : DR R k I (ws ++ ws2) (xs ++ ys) := by
  refine ⟨by simp [h.1, h2.1, Nat.add_mul], fun i x hx => ?_⟩
  rw [List.getElem?_append] at hx
  split at hx
  · rename_i hlt
    have := h.2 i x hx
    rw [List.drop_append_of_le_length (by rw [h.1]; exact Nat.mul_le_mul_right k (by omega)), List.take_append_of_le_length]
    · exact this
    · rw [List.length_drop, h.1, ← Nat.sub_mul]
      exact Nat.le_mul_of_pos_left k (by omega)
  · rename_i hge
    have := h2.2 _ x hx
    have e : (ws ++ ws2).drop (i * k) = ws2.drop ((i - xs.length) * k) := by
      rw [List.drop_append, List.drop_of_length_le (by rw [h.1]; exact Nat.mul_le_mul_right k (by omega)), List.nil_append, h.1, ← Nat.sub_mul]
    rw [e]; exact this
theorem DR.single {R : Imm → List Value → α → Prop} {k : Nat} {cs : List Value} {x : α} (hl : cs.length = k) (h : R I cs x) : DR R k I cs [x] := by
  refine ⟨by simp [hl], fun i y hy => ?_⟩
  match i, hy with
  | 0, hy => simp at hy; subst hy; simp [← hl]; exact h
theorem DR.mono {R : Imm → List Value → α → Prop} {k : Nat} {J : Imm} {ws : List Value} {xs : List α} (hR : ∀ cs x, R I cs x → R J cs x) (h : DR R k I ws xs) : DR R k J ws xs := ⟨h.1, fun i x hx => hR _ _ (h.2 i x hx)⟩
/-- What a slice in memory that never turns holds. -/
theorem SlR.src {R : Imm → List Value → α → Prop} {k : Nat} {v : Value} {xs : List α} {B : Own} (hlen : ∀ cs x, R I cs x → cs.length = k) (h : SlR R k I v xs) : ∃ ws, Src I B v xs.length ws ∧ DR R k I ws xs := by
  obtain ⟨ad, cap, rfl, h2, h3, h4⟩ := h
  rcases h4 with rfl | ⟨b, off, rfl, h6⟩
  · exact ⟨[], ⟨ad, cap, rfl, .inl rfl⟩, DR.nil⟩
  · rcases Nat.eq_zero_or_pos xs.length with h0 | h0
    · have : xs = [] := List.length_eq_zero_iff.1 h0
      subst this
      exact ⟨[], ⟨_, cap, rfl, .inl rfl⟩, DR.nil⟩
    · -- the block's own cells
      have key : ∀ m, m ≤ xs.length → ∃ ws, ws.length = m * k ∧ At I b off ws ∧ ∀ i x, i < m → xs[i]? = some x → R I ((ws.drop (i * k)).take k) x := by
        intro m
        induction m with
        | zero => exact fun _ => ⟨[], by simp, .inl rfl, fun i x hi => absurd hi (by omega)⟩
        | succ m ih =>
          intro hm
          obtain ⟨ws, hl, hat, hR⟩ := ih (by omega)
          obtain ⟨cs, hc, hx⟩ := h6 m xs[m] (List.getElem?_eq_getElem (by omega))
          have hcl := hlen _ _ hx
          refine ⟨ws ++ cs, by rw [List.length_append, hl, hcl, Nat.add_mul]; omega, ?_, fun i x hi hxi => ?_⟩
          · rcases hc with rfl | ⟨arr, T, fz, hb, hcc⟩
            · simpa using hat
            · refine .inr ⟨arr, T, fz, hb, fun j v hv => ?_⟩
              rw [List.getElem?_append] at hv
              split at hv
              · rename_i hj
                rcases hat with rfl | ⟨arr', T', fz', hb', hcc'⟩
                · simp at hj
                · rw [hb] at hb'; cases hb'
                  exact hcc' j v hv
              · rename_i hj
                have := hcc _ v hv
                rw [← this]; congr 1; omega
          · by_cases him : i < m
            · have := hR i x him hxi
              rw [List.drop_append_of_le_length (by rw [hl]; exact Nat.mul_le_mul_right k (by omega)), List.take_append_of_le_length]
              · exact this
              · rw [List.length_drop, hl, ← Nat.sub_mul]
                exact Nat.le_mul_of_pos_left k (by omega)
            · have : i = m := by omega
              subst this
              rw [List.getElem?_eq_getElem (by omega)] at hxi
              cases hxi
              rw [List.drop_left' (by rw [hl]), List.take_of_length_le (by omega)]
              exact hx
      obtain ⟨ws, h7, h8, h9⟩ := key xs.length (Nat.le_refl _)
      exact ⟨ws, ⟨_, cap, rfl, .inr ⟨b, off, rfl, .inl h8⟩⟩, h7, fun i x hx => h9 i x (List.getElem?_eq_some_iff.1 hx).1 hx⟩
/-- An own row, frozen, is a slice that can be read. -/
theorem OwnS.read {R : Imm → List Value → α → Prop} {k : Nat} {v : Value} {ws : List Value} {xs : List α} {b : Nat} {o : Obj} {J : Imm} (h : OwnS k v xs.length ws [(b, o)]) (hd : DR R k J ws xs) (hb : J b = some o) : SlR R k J v xs := by
  rcases h with ⟨_, _, _, h⟩ | ⟨b', cap, cs, T, rfl, h, h3, h4, h5, _, h63⟩
  · cases h
  · cases h
    refine ⟨_, cap, rfl, h3, h63, .inr ⟨b, 0, rfl, fun i x hx => ⟨_, .inr ⟨_, _, _, hb, fun j u hu => ?_⟩, hd.2 i x hx⟩⟩⟩
    rw [List.getElem?_take] at hu
    split at hu
    · rw [List.getElem?_drop, ← h5, List.getElem?_take] at hu
      split at hu
      · simpa using hu
      · cases hu
    · cases hu
end
section
variable {B : Own} {d : Option Tmp} {ty : TypeId} {pos : String} {af : Array Edge} {g : Option (Nat × Bool)}
theorem EV.index {t e n k : Nat} {x i : Operand} {q : IntKind} {m : Int} {j : Nat} {cs : List Value} {v : Value} (hf : arOf P t = some (n, e, k)) (ha : aggOf P e = some false) (hx : F.op x = some (.agg ⟨cs⟩)) (hi : F.op i = some (.int q m)) (hm : m = (j : Int)) (hj : j < n) (hv : cs[j * k]? = some v) :
    EV P F I B ⟨d, .index t x i, ty, pos, af, g⟩ v := fun ρ hρ w hw => by
  unfold arOf at hf
  split at hf
  · rename_i n' e' hu
    obtain ⟨k', hk, he⟩ := Option.map_eq_some_iff.1 hf
    cases he
    subst hm
    have h1 : (0 : Int) ≤ (j : Int) ∧ (j : Int) < (n : Int) := ⟨by omega, by omega⟩
    simp [execOp, hρ _ _ hx, hρ _ _ hi, Instr.index, asIntOf, run_underlying hu, h1, hj, run_sizeOf hk, run_part ha hv]
  · cases hf
theorem run_bound {x : Value} {q : IntKind} {m : Int} {j y : Nat} {code : BoundsCode} {w : World} (hx : x = .int q m) (hm : m = (j : Int)) (hj : j ≤ y) : (Instr.sliceBound x y code).run P w = .ok j w := by
  subst hx hm
  unfold Instr.sliceBound
  have h1 : (0 : Int) ≤ (j : Int) ∧ (j : Int) ≤ (y : Int) := ⟨by omega, by omega⟩
  simp [asIntOf, h1, hj]
/-- s[lo:hi], s a slice. -/
theorem EV.sliceLH {t e k : Nat} {x lo hi : Operand} {ad : Option Addr} {len cap l h : Nat} {q1 q2 : IntKind} {m1 m2 : Int} (hf : slOf P t = some (e, k)) (hx : F.op x = some (.slice ad len cap)) (hlo : F.op lo = some (.int q1 m1)) (hhi : F.op hi = some (.int q2 m2)) (h1 : m1 = (l : Int)) (h2 : m2 = (h : Int)) (hl : l ≤ h) (hh : h ≤ cap) :
    EV P F I B ⟨d, .slice t x (some lo) (some hi) none, ty, pos, af, g⟩ (.slice (if cap = l then ad else ad.map (·.add (l * k))) (h - l) (cap - l)) := fun ρ hρ w hw => by
  unfold slOf at hf
  split at hf
  · rename_i e' hu
    obtain ⟨k', hk, he⟩ := Option.map_eq_some_iff.1 hf
    cases he
    have b1 : ∀ w, (Instr.sliceBound (.int q1 m1) h .sliceB).run P w = .ok l w := fun w => run_bound rfl h1 hl
    have b2 : ∀ w, (Instr.sliceBound (.int q2 m2) cap .sliceAcap).run P w = .ok h w := fun w => run_bound rfl h2 hh
    simp [execOp, hρ _ _ hx, hρ _ _ hlo, hρ _ _ hhi, Instr.sliceAt, Instr.slice, run_underlying hu, Instr.sliceBounds, b1, b2, run_sizeOf hk]
  · cases hf
theorem EV.sliceL {t e k : Nat} {x lo : Operand} {ad : Option Addr} {len cap l : Nat} {q1 : IntKind} {m1 : Int} (hf : slOf P t = some (e, k)) (hx : F.op x = some (.slice ad len cap)) (hlo : F.op lo = some (.int q1 m1)) (h1 : m1 = (l : Int)) (hl : l ≤ len) :
    EV P F I B ⟨d, .slice t x (some lo) none none, ty, pos, af, g⟩ (.slice (if cap = l then ad else ad.map (·.add (l * k))) (len - l) (cap - l)) := fun ρ hρ w hw => by
  unfold slOf at hf
  split at hf
  · rename_i e' hu
    obtain ⟨k', hk, he⟩ := Option.map_eq_some_iff.1 hf
    cases he
    have b1 : ∀ w, (Instr.sliceBound (.int q1 m1) len .sliceB).run P w = .ok l w := fun w => run_bound rfl h1 hl
    simp [execOp, hρ _ _ hx, hρ _ _ hlo, Instr.sliceAt, Instr.slice, run_underlying hu, Instr.sliceBounds, b1, run_sizeOf hk]
  · cases hf
theorem EV.sliceH {t e k : Nat} {x hi : Operand} {ad : Option Addr} {len cap h : Nat} {q2 : IntKind} {m2 : Int} (hf : slOf P t = some (e, k)) (hx : F.op x = some (.slice ad len cap)) (hhi : F.op hi = some (.int q2 m2)) (h2 : m2 = (h : Int)) (hh : h ≤ cap) :
    EV P F I B ⟨d, .slice t x none (some hi) none, ty, pos, af, g⟩ (.slice (if cap = 0 then ad else ad.map (·.add (0 * k))) h cap) := fun ρ hρ w hw => by
  unfold slOf at hf
  split at hf
  · rename_i e' hu
    obtain ⟨k', hk, he⟩ := Option.map_eq_some_iff.1 hf
    cases he
    have b2 : ∀ w, (Instr.sliceBound (.int q2 m2) cap .sliceAcap).run P w = .ok h w := fun w => run_bound rfl h2 hh
    simp [execOp, hρ _ _ hx, hρ _ _ hhi, Instr.sliceAt, Instr.slice, run_underlying hu, Instr.sliceBounds, b2, run_sizeOf hk]
  · cases hf
end
theorem SlR.cut {α : Type} {R : Imm → List Value → α → Prop} {m : Nat} {ad : Option Addr} {len cap l h : Nat} {xs : List α} (hs : SlR R m I (.slice ad len cap) xs) (hl : l ≤ h) (hh : h ≤ xs.length) :
    SlR R m I (.slice (if cap = l then ad else ad.map (·.add (l * m))) (h - l) (cap - l)) ((xs.take h).drop l) := by
  obtain ⟨ad', cap', h1, h2, h3, h4⟩ := hs
  cases h1
  have e : ((xs.take h).drop l).length = h - l := by simp; omega
  refine ⟨_, cap - l, by rw [e], by omega, by omega, ?_⟩
  rcases Nat.eq_zero_or_pos (h - l) with h0 | h0
  · left; exact List.length_eq_zero_iff.1 (by omega)
  · right
    rcases h4 with rfl | ⟨b, off, rfl, h6⟩
    · simp at hh; omega
    · rw [if_neg (by omega)]
      refine ⟨b, off + l * m, by simp [addr_add], fun i x hx => ?_⟩
      rw [List.getElem?_drop, List.getElem?_take] at hx
      split at hx
      · obtain ⟨cs, h7, h8⟩ := h6 _ _ hx
        refine ⟨cs, ?_, h8⟩
        rw [show off + l * m + i * m = off + (l + i) * m from by rw [Nat.add_mul]; omega]
        exact h7
      · cases hx
theorem SlR.ofRow {α : Type} {R : Imm → List Value → α → Prop} {k b cap len : Nat} {ws : List Value} {T : TypeId} {fz : Nat × Nat} {xs : List α} (hb : I b = some (.cells ⟨ws⟩ T fz)) (hd : DR R k I ws xs) (hl : len = xs.length) (hc : xs.length ≤ cap) (hm : cap ≤ 9223372036854775807) :
    SlR R k I (.slice (some ⟨b, 0, none⟩) len cap) xs := by
  subst hl
  refine ⟨_, cap, rfl, hc, hm, .inr ⟨b, 0, rfl, fun i x hx => ⟨_, .inr ⟨_, _, _, hb, fun j u hu => ?_⟩, hd.2 i x hx⟩⟩⟩
  rw [List.getElem?_take] at hu
  split at hu
  · rw [List.getElem?_drop] at hu; simpa using hu
  · cases hu
/-! the first that a test takes -/
def idxOf {α : Type} (p : α → Bool) (l : List α) : Int := if l.any p then (l.findIdx p : Int) else -1
theorem idxOf_none {α : Type} {p : α → Bool} {l : List α} (h : l.any p = false) : idxOf p l = -1 := by unfold idxOf; rw [h]; simp
theorem idxOf_some {α : Type} {p : α → Bool} {l : List α} {k : Nat} (hk : k < l.length) (h : (l.take k).any p = false) (hp : p l[k] = true) : idxOf p l = (k : Int) := by
  unfold idxOf
  have h1 : l.any p = true := List.any_eq_true.2 ⟨_, List.getElem_mem hk, hp⟩
  rw [if_pos h1]
  have h2 : l.findIdx p = k := by
    rw [List.findIdx_eq hk]
    refine ⟨hp, fun j hj => ?_⟩
    rw [Bool.eq_false_iff]
    intro hjp
    have : (l.take k).any p = true := List.any_eq_true.2 ⟨l[j], by
      rw [List.mem_take_iff_getElem]; exact ⟨j, by omega, rfl⟩, hjp⟩
    rw [h] at this; cases this
  rw [h2]
theorem idxOf_ge {α : Type} {p : α → Bool} {l : List α} : decide (0 ≤ idxOf p l) = l.any p := by
  unfold idxOf
  cases h : l.any p <;> simp
theorem any_take_step {α : Type} {p : α → Bool} {l : List α} {k : Nat} (hk : k < l.length) (h : (l.take k).any p = false) (hp : p l[k] = false) : (l.take (k + 1)).any p = false := by
  rw [List.take_succ_eq_append_getElem hk, List.any_append, h]; simp [hp]
theorem any_take_all {α : Type} {p : α → Bool} {l : List α} {k : Nat} (hk : l.length ≤ k) (h : (l.take k).any p = false) : l.any p = false := by rwa [List.take_of_length_le hk] at h
end
/-! ### what is owned, a part of it without a name -/
section
theorem Has.app {O ob : Own} {b : Nat} {o : Obj} (h : Has O b o) : Has (ob ++ O) b o := List.mem_append_right _ h
theorem Upd.app {O O' : Own} {b : Nat} {o o' : Obj} (h : Upd O b o o' O') : ∀ {ob : Own}, Upd (ob ++ O) b o o' (ob ++ O')
  | [] => h
  | _ :: r => .there (Upd.app h (ob := r))
theorem Rem.app {O O' ob : Own} (h : Rem O ob O') : ∀ {oc : Own}, Rem (oc ++ O) ob (oc ++ O')
  | [] => h
  | _ :: r => .there (Rem.app h (oc := r))
end
/-- Rem, for what lies in front. -/
def RemL (O ob O' : Own) : Prop := O.Perm (ob ++ O')
theorem Rem.toL {O ob O' : Own} (h : Rem O ob O') : RemL O ob O' := h.perm
section
variable {P : Program} {n : Nat} {Q : Exit → Act → World → Prop} {F : Fr} {I : Imm} {O : Own}
theorem WN.drop {e : Exit} {ob : Own} (h : WN n Q e F I O) : WN n Q e F I (ob ++ O) := fun a w ha hw => h a w ha hw.drop
theorem WL.drop {ops : Array Oper} {l : List Oper} {ob : Own} (h : WL P n ops Q l F I O) : WL P n ops Q l F I (ob ++ O) := fun a w ha hw => h a w ha hw.drop
theorem WL.tail {ops : Array Oper} {l : List Oper} {x : Nat × Obj} (h : WL P n ops Q l F I O) : WL P n ops Q l F I (x :: O) := fun a w ha hw => h a w ha hw.tail
theorem WC.drop {c : Code} {ob : Own} (h : WC P n c Q F I O) : WC P n c Q F I (ob ++ O) := fun a w ha hw => h a w ha hw.drop
theorem DR.ones {α : Type} {R : Imm → List Value → α → Prop} {k : Nat} (hk : 0 < k) (hR : ∀ cs x, R I cs x → Go.Sy.ones cs = true) {ws : List Value} {xs : List α} (h : DR R k I ws xs) : Go.Sy.ones ws = true := by
  have key : ∀ (l : List Value), (∀ v ∈ l, one v) → Go.Sy.ones l = true := by
    intro l
    induction l with
    | nil => intro _; rfl
    | cons v r ih =>
      intro hv
      have h1 := hv v List.mem_cons_self
      have h2 := ih fun u hu => hv u (List.mem_cons_of_mem _ hu)
      cases v <;> first | exact h1.elim | simpa [Go.Sy.ones] using h2
  have back : ∀ (l : List Value), Go.Sy.ones l = true → ∀ v ∈ l, one v := by
    intro l
    induction l with
    | nil => intro _ v hv; cases hv
    | cons u r ih =>
      intro ho v hv
      have h2 : Go.Sy.ones r = true := by unfold Go.Sy.ones at ho; cases hr : Go.Sy.ones r <;> simp_all
      rcases List.mem_cons.1 hv with rfl | hv
      · cases v <;> first | trivial | (unfold Go.Sy.ones at ho; simp at ho)
      · exact ih h2 v hv
  refine key ws fun v hv => ?_
  obtain ⟨j, hj, rfl⟩ := List.mem_iff_getElem.1 hv
  have hjk : j / k < xs.length := by
    rw [Nat.div_lt_iff_lt_mul hk, ← h.1]; exact hj
  have h2 := h.2 (j / k) xs[j / k] (List.getElem?_eq_getElem hjk)
  refine back _ (hR _ _ h2) _ ?_
  rw [List.mem_iff_getElem?]
  refine ⟨j % k, ?_⟩
  rw [List.getElem?_take, if_pos (Nat.mod_lt _ hk), List.getElem?_drop]
  rw [show j / k * k + j % k = j from by rw [Nat.mul_comm]; exact Nat.div_add_mod j k]
  exact List.getElem?_eq_getElem hj
theorem PrR.ones {cs : List Value} {p : Pr} (h : PrR I cs p) : Go.Sy.ones cs = true := by obtain ⟨rfl, _⟩ := h; rfl
theorem PrR.len {cs : List Value} {p : Pr} (h : PrR I cs p) : cs.length = 2 := by obtain ⟨rfl, _⟩ := h; rfl
theorem SlR.isSl {α : Type} {R : Imm → List Value → α → Prop} {k : Nat} {v : Value} {xs : List α} (h : SlR R k I v xs) : one v := by obtain ⟨_, _, rfl, _⟩ := h; trivial
theorem ones_cons {v : Value} {l : List Value} (h : one v) (hl : Go.Sy.ones l = true) : Go.Sy.ones (v :: l) = true := by cases v <;> first | exact h.elim | simpa [Go.Sy.ones] using hl
theorem TskR.ones {cs : List Value} {t : Tsk} (h : TskR I cs t) : Go.Sy.ones cs = true := by
  obtain ⟨wv, bv, rfl, h1, h2⟩ := h.ex
  exact ones_cons trivial (ones_cons trivial (ones_cons trivial (ones_cons trivial (ones_cons h1.isSl (ones_cons h2.isSl rfl)))))
theorem NodR.ones {cs : List Value} {t : Nod} (h : NodR I cs t) : Go.Sy.ones cs = true := by
  obtain ⟨wv, bv, rfl, h1, h2⟩ := h.ex
  exact ones_cons trivial (ones_cons trivial (ones_cons trivial (ones_cons trivial (ones_cons h1.isSl (ones_cons h2.isSl rfl)))))
/-- A row that has an element is a block. -/
theorem OwnS.blk {k m : Nat} {v : Value} {ws : List Value} {ob : Own} (h : OwnS k v m ws ob) (hm : 0 < m) : ∃ b o, ob = [(b, o)] := by
  rcases h with ⟨_, rfl, _, _⟩ | ⟨b, _, _, _, _, rfl, _⟩
  · omega
  · exact ⟨_, _, rfl⟩
theorem OwnS.made {k len b : Nat} {cs : List Value} {T : TypeId} (h : cs.length = len * k) (hl : len ≤ 9223372036854775807) : OwnS k (.slice (some ⟨b, 0, none⟩) len len) len cs [(b, .cells ⟨cs⟩ T (0, 0))] :=
  .inr ⟨b, len, cs, T, rfl, rfl, Nat.le_refl _, h, by rw [List.take_of_length_le (by omega)], h, hl⟩
end
end Go.Sy
