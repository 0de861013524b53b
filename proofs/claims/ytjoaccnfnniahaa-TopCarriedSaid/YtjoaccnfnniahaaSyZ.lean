/- A strings.Builder that the call owns. Nothing of the program stands here. -/
import Derived.Test.YtjoaccnfnniahaaSyS
import Derived.Lib.UnsafeStr
import Derived.Lib.Builder
import Derived.Laws.Externs
namespace Go.Sy
open Go
set_option linter.unusedVariables false
set_option linter.unusedSimpArgs false
variable {P : Program} {n : Nat} {Q : Exit → Act → World → Prop} {F : Fr} {I : Imm} {O : Own}
/-- A row of bytes that is owned. -/
def OwnB (T : TypeId) (v : Value) (s : ByteArray) (ob : Own) : Prop :=
  (v = .slice none 0 0 ∧ s = ⟨#[]⟩ ∧ ob = []) ∨
  ∃ b cap cs, v = .slice (some ⟨b, 0, none⟩) s.size cap ∧ ob = [(b, .cells ⟨cs⟩ T (0, 0))] ∧ s.size ≤ cap ∧ cs.length = cap ∧ cs.take s.size = Lib.strCells s ∧ cap ≤ 9223372036854775807
theorem OwnB.nil {T : TypeId} : OwnB T (.slice none 0 0) ⟨#[]⟩ [] := .inl ⟨rfl, rfl, rfl⟩
theorem OwnB.form {T : TypeId} {v : Value} {s : ByteArray} {ob : Own} (h : OwnB T v s ob) : ∃ ad cap, v = .slice ad s.size cap := by
  rcases h with ⟨rfl, rfl, _⟩ | ⟨b, cap, cs, rfl, _⟩
  · exact ⟨_, _, rfl⟩
  · exact ⟨_, _, rfl⟩
theorem OwnB.src {T : TypeId} {v : Value} {s : ByteArray} {ob O' : Own} (h : OwnB T v s ob) (hr : Rem O ob O') : Src I O v s.size (Lib.strCells s) := by
  rcases h with ⟨rfl, rfl, rfl⟩ | ⟨b, cap, cs, rfl, rfl, _, _, hw, _⟩
  · exact ⟨none, 0, rfl, .inl rfl⟩
  · refine ⟨_, cap, rfl, .inr ⟨b, 0, rfl, .inr ⟨⟨cs⟩, T, (0, 0), hr.sub.2 _ (by simp), fun j u hu => ?_⟩⟩⟩
    rw [← hw, List.getElem?_take] at hu
    split at hu
    · simpa using hu
    · cases hu
theorem strCells_cat (a b : ByteArray) : Lib.strCells (a ++ b) = Lib.strCells a ++ Lib.strCells b := by
  simp [Lib.strCells, ByteArray.data_append]
theorem strCells_ones (s : ByteArray) : ones (Lib.strCells s) = true := by
  unfold Lib.strCells
  induction s.data.toList with
  | nil => rfl
  | cons x l ih => simp [ones, ih]
theorem run_growS {w : World} {t t2 e : TypeId} {k m m2 cap : Nat} {ad : Option Addr} {x : Value} {ws ws2 : List Value} {ty : TypeId} {inf : TypeInfo} {zv : Value} (hu : P.underlying t = some (.slice e)) (hu2 : P.underlying t2 = some .string)
    (hk : szOf P e = some k) (hinf : P.info? e = some inf) (hz : zvOf P e = some zv) (hc : cap < m + m2) (hb : (m + m2) * inf.bytes ≤ 140737488355328) (hcap : m + m2 ≤ 4611686018427387904)
    (hxl : ∀ w, (Builtin.lenOf x).run P w = .ok m2 w) (hv : ∀ w' : World, w'.heap = w.heap → (Builtin.firstCells k m (.slice ad m cap)).run P w' = .ok ws.toArray w') (hx : ∀ w' : World, w'.heap = w.heap → (Builtin.firstCells k m2 x).run P w' = .ok ws2.toArray w') :
    ∃ c, m + m2 ≤ c ∧ c ≤ 9223372036854775807 ∧ (Builtin.append_ #[t, t2] ty #[.slice ad m cap, x]).run P w = .ok (.slice (some ⟨w.heap.size, 0, none⟩) (m + m2) c) { w with heap := w.heap.push (.cells (ws.toArray ++ ws2.toArray ++ Builtin.zeroCells zv.cells (c - (m + m2))) e), drawn := w.drawn + 1 } := by
  have hgrow : ¬ (m + m2 ≤ cap) := by omega
  have hmax : ¬ (((m + m2 : Nat) : Int) > IntKind.i64.max ∧ (false = true ∨ inf.bytes = 0)) := by
    intro hh
    have : IntKind.i64.max = 9223372036854775807 := rfl
    omega
  have hfit : ¬ (Builtin.nextslicecap (m + m2) cap * inf.bytes > 2 ^ 48) := by
    have := growslice_fits (need := m + m2) (old := cap) (bytes := inf.bytes) (by omega) (by omega)
    omega
  refine ⟨(Question.appendCap (m + m2) cap e).cut (w.tape w.drawn (.appendCap (m + m2) cap e)), Nat.le_add_right _ _, ?_, ?_⟩
  · have : w.tape w.drawn (.appendCap (m + m2) cap e) % (2 ^ 63 - (m + m2)) < 2 ^ 63 - (m + m2) := Nat.mod_lt _ (by omega)
    simp only [Question.cut]
    omega
  unfold Builtin.append_
  have h1 : (#[t, t2] : Array TypeId)[0]? = some t := rfl
  have h2 : (#[t, t2] : Array TypeId)[1]? = some t2 := rfl
  have h3 : (#[Value.slice ad m cap, x] : Array Value)[0]? = some (.slice ad m cap) := rfl
  have h4 : (#[Value.slice ad m cap, x] : Array Value)[1]? = some x := rfl
  rw [h1, h2, h3, h4]
  have hI : ∀ w, (typeInfo e).run P w = .ok inf w := fun w => run_typeInfo hinf
  have hS : ∀ w, (sizeOf e).run P w = .ok k w := fun w => run_sizeOf hk
  have hZ : ∀ w, (zeroValue e).run P w = .ok zv w := fun w => run_zeroValue hz
  have hask : ∀ b w, (askRoom b).run P w = .ok () w := fun b w => by unfold askRoom; split <;> rfl
  have hm1 : ¬ ((9223372036854775807 : Int) < (m : Int) + (m2 : Int)) := by omega
  have hfit' : ¬ 281474976710656 < Builtin.nextslicecap (m + m2) cap * inf.bytes := by omega
  have hv' := hv w.drew rfl
  have hx' := hx w.drew rfl
  have hfo : (Question.appendCap (m + m2) cap e).forced = false := rfl
  simp only [Sem.run_bind, run_underlying hu, run_underlying hu2, Result.andThen_ok, hS, hxl, Sem.run_pure, Bool.false_eq_true, if_false, if_neg hgrow, hI, false_or, Bool.not_false, if_true]
  simp [hm1, hfit', hI, hask, hv', hx', hZ, newRow, newObj, Sem.run, hfo]
  refine congrArg (fun z => w.drew.alloc (.cells z e)) ?_
  apply Array.ext'
  simp
theorem SR.appendS {t t2 e : TypeId} {by_ : Nat} {v : Value} {s x : ByteArray} {ob O0 : Own} {ty : TypeId} {zv : Value} (hu : P.underlying t = some (.slice e)) (hu2 : P.underlying t2 = some .string) (hk : szOf P e = some 1) (hby : byOf P e = some by_)
    (hz : zvOf P e = some zv) (hzk : zv.cells.size = 1) (hr : Rem O ob O0) (hv : OwnB e v s ob) (hb : (s.size + x.size) * by_ ≤ 140737488355328) (hcap : s.size + x.size ≤ 4611686018427387904) :
    SR P (Builtin.append_ #[t, t2] ty #[v, .string x]) I O (fun u O' => ∃ ob', OwnB e u (s ++ x) ob' ∧ O' = ob' ++ O0) := fun w hw => by
  unfold byOf at hby
  obtain ⟨inf, hinf, hby⟩ := Option.map_eq_some_iff.1 hby
  have hxl : ∀ w, (Builtin.lenOf (.string x)).run P w = .ok x.size w := fun w => rfl
  have hsz : (s ++ x).size = s.size + x.size := ByteArray.size_append
  have hsl : (Lib.strCells s).length = s.size := Lib.strCells_length s
  have hxz : (Lib.strCells x).length = x.size := Lib.strCells_length x
  have kn : ∀ w' : World, w'.heap = w.heap → Knows w' I O := fun w' e => ⟨fun b q h => by rw [e]; exact hw.imm b q h, fun b q h => by rw [e]; exact hw.own b q h⟩
  have hxc : ∀ w' : World, w'.heap = w.heap → (Builtin.firstCells 1 x.size (.string x)).run P w' = .ok (Lib.strCells x).toArray w' := fun w' e => Lib.run_firstCells_string w' 1 x
  have hvc : ∀ w' : World, w'.heap = w.heap → (Builtin.firstCells 1 s.size v).run P w' = .ok (Lib.strCells s).toArray w' := fun w' e => (hv.src (I := I) hr).cells (kn w' e) (by rw [hsl, Nat.mul_one])
  have h0 : Sat w I O0 := hw.sub (Imm.le_refl I) hr.sub.1 (by
    have := hr.perm.map Prod.fst |>.nodup_iff.1 hw.nodup
    rw [List.map_append, List.nodup_append] at this
    exact this.2.1)
  obtain ⟨ad, cap, hvs⟩ := hv.form
  by_cases hc : cap < s.size + x.size
  · subst hvs
    obtain ⟨c, hcm, hc63, hrun⟩ := run_growS (P := P) (w := w) (ty := ty) hu hu2 hk hinf hz hc (by rw [hby]; exact hb) hcap hxl hvc hxc
    obtain ⟨g1, _, _⟩ := (h0.same (w' := w.drew) rfl).new (.cells ((Lib.strCells s).toArray ++ (Lib.strCells x).toArray ++ Builtin.zeroCells zv.cells (c - (s.size + x.size))) e)
    rw [← hsz] at hcm
    refine ⟨.slice (some ⟨w.heap.size, 0, none⟩) (s ++ x).size c, _, _, hrun.trans (by rw [hsz]; rfl), g1, [(w.heap.size, .cells ((Lib.strCells s).toArray ++ (Lib.strCells x).toArray ++ Builtin.zeroCells zv.cells (c - (s.size + x.size))) e)], .inr ⟨w.heap.size, c, (Lib.strCells s ++ Lib.strCells x) ++ (Builtin.zeroCells zv.cells (c - (s.size + x.size))).toList, rfl, ?_, hcm, ?_, ?_, hc63⟩, rfl⟩
    · congr 3
      apply Array.ext'
      simp
    · simp only [List.length_append, hsl, hxz, Array.length_toList, zeroCells_size, hzk]
      omega
    · rw [strCells_cat, List.take_left']
      simp only [List.length_append, hsl, hxz, hsz]
  · have hin : s.size + x.size ≤ cap := by omega
    have hS : ∀ w, (sizeOf e).run P w = .ok 1 w := fun w => run_sizeOf hk
    rcases hv with ⟨rfl, rfl, rfl⟩ | ⟨b, cap', cs, rfl, rfl, hmc, hcl, htk, h63⟩
    · cases hvs
      have hm2 : x.size = 0 := by have : (⟨#[]⟩ : ByteArray).size = 0 := rfl; omega
      obtain rfl : x = ⟨#[]⟩ := by
        obtain ⟨⟨l⟩⟩ := x
        have : l.length = 0 := hm2
        rw [List.length_eq_zero_iff.1 this]
      refine ⟨.slice none 0 0, w, O0, ?_, h0, [], .inl ⟨rfl, rfl, rfl⟩, rfl⟩
      have hx9 := hxc w rfl
      unfold Builtin.append_
      simp [run_underlying hu, run_underlying hu2, hS, hxl]
      rfl
    · cases hvs
      have hsat := hw.rem hr
      have hbk := hsat.own b (.cells ⟨cs⟩ e (0, 0)) (by simp)
      have hlen : s.size + (Lib.strCells x).length ≤ cs.length := by rw [hxz]; omega
      obtain ⟨w', g1, g0, g2, g3⟩ := run_storeCells P (off := s.size) (i := 0) (strCells_ones x) (by simpa using hlen) hbk
      have hu' : Upd ((b, .cells ⟨cs⟩ e (0, 0)) :: O0) b (.cells ⟨cs⟩ e (0, 0)) (.cells ⟨setL cs s.size (Lib.strCells x)⟩ e (0, 0)) ((b, .cells ⟨setL cs s.size (Lib.strCells x)⟩ e (0, 0)) :: O0) := .here
      have hsat' := Sat.upd hsat hu' (by simpa using g2) g3 g0
      refine ⟨.slice (some ⟨b, 0, none⟩) (s ++ x).size cap, w', _, ?_, hsat', _, .inr ⟨b, cap, setL cs s.size (Lib.strCells x), rfl, rfl, by omega, ?_, ?_, h63⟩, rfl⟩
      · rw [hsz]
        unfold Builtin.append_
        simp [run_underlying hu, run_underlying hu2, hS, hxl, hxc w rfl, hin, addr_add, g1]
      · rw [setL_length hlen, hcl]
      · rw [hsz, ← hxz, take_setL hlen, htk, strCells_cat]
section
variable {d : Option Tmp} {pos : String} {af : Array Edge} {g : Option (Nat × Bool)} {K : Fr → Imm → Own → Prop}
theorem WOp.appendS {ty : TypeId} {t t2 e : TypeId} {xo yo : Operand} {by_ : Nat} {v : Value} {s x : ByteArray} {ob O0 : Own} {zv : Value} (hu : P.underlying t = some (.slice e)) (hu2 : P.underlying t2 = some .string) (hk : szOf P e = some 1) (hby : byOf P e = some by_)
    (hz : zvOf P e = some zv) (hzk : zv.cells.size = 1) (hxo : F.op xo = some v) (hyo : F.op yo = some (.string x)) (hr : Rem O ob O0) (hv : OwnB e v s ob) (hb : (s.size + x.size) * by_ ≤ 140737488355328) (hcap : s.size + x.size ≤ 4611686018427387904)
    (hd : dstOk n d = true) (kk : ∀ u ob', OwnB e u (s ++ x) ob' → K (F.put d u) I (ob' ++ O0)) : WOp P n Q ⟨d, .call ⟨.builtin .append, #[xo, yo], #[t, t2]⟩, ty, pos, af, g⟩ F I O K :=
  .sr hd fun ρ hρ => by
    simp only [execOp, resolve, pure_bind, invoke, builtin]
    have e1 : (#[xo, yo] : Array Operand).map ρ = #[v, .string x] := by simp [hρ _ _ hxo, hρ _ _ hyo]
    rw [e1]
    refine .value ?_
    refine (SR.appendS (ty := ty) hu hu2 hk hby hz hzk hr hv hb hcap).mono ?_
    rintro u O' ⟨ob', h1, rfl⟩
    exact ⟨_, rfl, kk u ob' h1⟩
end
section
variable {B : Own} {d : Option Tmp} {ty : TypeId} {pos : String} {af : Array Edge} {g : Option (Nat × Bool)}
theorem guard_ptr {op : BinOp} {t : TypeId} {x y : Operand} {a b : Option Addr} {w : World} : (eqGuard op t x y (.pointer a) (.pointer b)).run P w = .ok () w := by
  unfold eqGuard
  cases op <;> rfl
theorem EqOk.ptrNil {t te : TypeId} (hp : P.underlying t = some (.pointer te)) : EqOk P t (.pointer none) (.pointer none) true := fun op x y w => by
  refine ⟨guard_ptr, ?_⟩
  have h : ∀ d : Nat, (Op.equalIn (d + 1) t (.pointer none) (.pointer none)).run P w = .ok true w := fun d => by
    simp [Op.equalIn, run_underlying hp]
  exact h 9999
theorem EqOk.ptrSome {t te : TypeId} {a : Addr} (hp : P.underlying t = some (.pointer te)) : EqOk P t (.pointer (some a)) (.pointer none) false := fun op x y w => by
  refine ⟨guard_ptr, ?_⟩
  have h : ∀ d : Nat, (Op.equalIn (d + 1) t (.pointer (some a)) (.pointer none)).run P w = .ok false w := fun d => by
    simp [Op.equalIn, run_underlying hp]
  exact h 9999
theorem EV.ptrSame {t te t2 : TypeId} {x y : Operand} {a : Addr} {m : Nat} (hp : P.underlying t = some (.pointer te)) (hs : szOf P te = some m) (hx : F.op x = some (.pointer (some a))) (hy : F.op y = some (.pointer (some a))) :
    EV P F I B ⟨d, .binOp .neq t x y t2, ty, pos, af, g⟩ (.bool false) := fun ρ hρ w hw => by
  unfold szOf at hs
  obtain ⟨inf, hinf, _⟩ := Option.map_eq_some_iff.1 hs
  simp only [execOp, hρ _ _ hx, hρ _ _ hy]
  simp [Lib.run_neq_ptr_same w a hp hinf, guard_ptr]
theorem Knows.shape {w : World} {b : Nat} {cs : List Value} {T : TypeId} {fz : Nat × Nat} (hw : Knows w I B) (hb : Has B b (.cells ⟨cs⟩ T fz)) : w.shape? b = some (T, cs.length) := by
  have h := hw.2 b _ hb
  simp [World.shape?, h]
theorem EV.toUnsafe {s t te : TypeId} {x : Operand} {b m : Nat} {cs : List Value} {T : TypeId} {fz : Nat × Nat} (hs : P.underlying s = some (.pointer te)) (ht : P.underlying t = some .unsafePointer) (hm : szOf P te = some m) (hm0 : m ≠ 0) (hx : F.op x = some (.pointer (some ⟨b, 0, none⟩))) (hb : Has B b (.cells ⟨cs⟩ T fz)) (hc : 0 < cs.length) :
    EV P F I B ⟨d, .convert s t x, ty, pos, af, g⟩ (.pointer (some ⟨b, 0, none⟩)) := fun ρ hρ w hw => by
  unfold szOf at hm
  obtain ⟨inf, hinf, hm2⟩ := Option.map_eq_some_iff.1 hm
  simp only [execOp, hρ _ _ hx]
  simp [Lib.run_to_unsafe w ⟨b, 0, none⟩ hs ht hinf (by rw [hm2]; exact hm0) (hw.shape hb) hc]
theorem EV.fromUnsafe {s t te : TypeId} {x : Operand} {b m : Nat} {cs : List Value} {T : TypeId} {fz : Nat × Nat} (hs : P.underlying s = some .unsafePointer) (ht : P.underlying t = some (.pointer te)) (hm : szOf P te = some m) (hx : F.op x = some (.pointer (some ⟨b, 0, none⟩))) (hb : Has B b (.cells ⟨cs⟩ T fz)) (hl : liesAt P P.depth T (cs.length / P.cellsOf T) 0 te 1 = true) :
    EV P F I B ⟨d, .convert s t x, ty, pos, af, g⟩ (.pointer (some ⟨b, 0, none⟩)) := fun ρ hρ w hw => by
  unfold szOf at hm
  obtain ⟨inf, hinf, hm2⟩ := Option.map_eq_some_iff.1 hm
  simp only [execOp, hρ _ _ hx]
  simp [Lib.run_from_unsafe w ⟨b, 0, none⟩ hs ht hinf (hw.shape hb) hl]
/-- internal/abi.NoEscape: what it was. -/
theorem EV.noEscape {f : FuncId} {fn : Func} {x y : Operand} {ats : Array TypeId} {u : Value} (hf : P.funcs[f]? = some fn) (h1 : (fn.name == "runtime.NumGoroutine") = false) (h2 : fn.body.isNone = true) (h3 : Extern.findNext fn = none) (h4 : Extern.find fn = some Extern.AbiNoEscape.same)
    (hx : F.op x = some (.func (.func f) #[] #[])) (hy : F.op y = some u) : EV P F I B ⟨d, .call ⟨.value x, #[y], ats⟩, ty, pos, af, g⟩ u := fun ρ hρ w hw => by
  simp only [execOp, resolve, hρ _ _ hx]
  simp [Deferred.ofValue, invoke, hρ _ _ hy, run_callFunc_extern hf h1 h2 h3 h4, Lib.run_noEscape]
end
/-- A builder's row gives its bytes, and falls. -/
theorem Sat.builder {w : World} {c b : Nat} {o : Obj} {cs : Array Value} {T : TypeId} {m : Nat} (h : Sat w I ((c, o) :: ([(b, .cells cs T (0, 0))] ++ O))) : Sat (w.drew.freeze ⟨b, 0, none⟩ m) I O := by
  have h1 : Sat w I ((b, .cells cs T (0, 0)) :: O) := h.tail
  have hlt := h1.lt List.mem_cons_self
  have hbk := h1.own b _ List.mem_cons_self
  by_cases hm : m = 0
  · subst hm; exact (h1.tail).same rfl
  · refine (Sat.upd (w' := w.drew.freeze ⟨b, 0, none⟩ m) (o' := .cells cs T (0, 0 + m)) h1 .here ?_ (fun k hk => ?_) ?_).tail
    · unfold World.freeze
      rw [if_neg hm]
      have e : w.drew.heap = w.heap := rfl
      simp [Array.getElem?_modify, e, hbk]
    · unfold World.freeze
      rw [if_neg hm]
      have e : w.drew.heap = w.heap := rfl
      simp [Array.getElem?_modify, e, Ne.symm hk]
    · unfold World.freeze
      rw [if_neg hm]; rfl
end Go.Sy
