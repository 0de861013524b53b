/- Rules for slices.Insert and slices.BinarySearchFunc: cap, copy into an own row, append of zeros, overlaps, shifts. Nothing of the program stands here. -/
import Derived.Test.YtjoaccnfnniahaaSyP
import Derived.Lib.Overlaps
import Derived.Laws.Externs
namespace Go.Sy
open Go
set_option linter.unusedVariables false
set_option linter.unusedSimpArgs false
variable {P : Program} {n : Nat} {Q : Exit → Act → World → Prop} {F : Fr} {I : Imm} {O : Own} {k : Nat}
section
variable {B : Own} {d : Option Tmp} {ty : TypeId} {pos : String} {af : Array Edge} {g : Option (Nat × Bool)}
theorem EV.cap {ats : Array TypeId} {t e : TypeId} {x : Operand} {ad : Option Addr} {len cap : Nat} (hf : slOf P t = some (e, k)) (ht : ats[0]? = some t) (hx : F.op x = some (.slice ad len cap)) :
    EV P F I B ⟨d, .call ⟨.builtin .cap, #[x], ats⟩, ty, pos, af, g⟩ (.int .i64 cap) := fun ρ hρ w hw => by
  unfold slOf at hf
  split at hf
  · rename_i e' hu
    simp [execOp, resolve, invoke, builtin, Builtin.cap_, ht, hρ _ _ hx, run_underlying hu, goInt]
  · cases hf
theorem EV.nilCheck {x : Operand} {ad : Addr} (hx : F.op x = some (.pointer (some ad))) : EV P F I B ⟨d, .nilCheck x, ty, pos, af, g⟩ (.pointer (some ad)) := fun ρ hρ w hw => by
  simp [execOp, hρ _ _ hx]
theorem EV.shr1 {t t2 : TypeId} {x y : Operand} {q r : IntKind} {a c : Int} (hx : F.op x = some (.int q a)) (hy : F.op y = some (.int r 1)) (hb : 1 ≤ q.bits) (hc : a.fdiv 2 = c) :
    EV P F I B ⟨d, .binOp .shr t x y t2, ty, pos, af, g⟩ (.int q c) := .int hx hy fun w => by
  have : min 1 q.bits = 1 := by omega
  simp [binOp, Op.shift, this, hc]
end
theorem Src.cellsPre {w : World} {B : Own} {v : Value} {m c : Nat} {ws : List Value} (h : Src I B v m ws) (hw : Knows w I B) (hl : ws.length = m * k) (hc : c ≤ m) : (Builtin.firstCells k c v).run P w = .ok (ws.take (c * k)).toArray w := by
  obtain ⟨ad, cap, rfl, h⟩ := h
  have hck := Nat.mul_le_mul_right k hc
  rcases h with rfl | ⟨b, off, rfl, h⟩
  · have h0 : c * k = 0 := by simp at hl; omega
    cases ad with
    | none => simp [Builtin.firstCells]
    | some a =>
      unfold Builtin.firstCells loadCells
      rw [h0]
      rfl
  · unfold Builtin.firstCells
    refine run_loadCells (by rw [List.length_take]; omega) fun j u hu => ?_
    rw [List.getElem?_take] at hu
    split at hu
    · rcases h with h | ⟨cs, T, fz, hb, hcc⟩
      · exact h.cells hw j u hu
      · exact hw.own hb (hcc j u hu)
    · cases hu
theorem ones_take : ∀ (l : List Value) (q : Nat), Go.Sy.ones l = true → Go.Sy.ones (l.take q) = true := by
  intro l
  induction l with
  | nil => intro q _; simp [Go.Sy.ones]
  | cons v r ih =>
    intro q h
    cases q with
    | zero => rfl
    | succ q =>
      have h2 : Go.Sy.ones r = true := by unfold Go.Sy.ones at h; cases hr : Go.Sy.ones r <;> simp_all
      have h1 : one v := by cases v <;> first | trivial | (unfold Go.Sy.ones at h; simp at h)
      exact ones_cons h1 (ih q h2)
theorem setL_take {z vs : List Value} {off q : Nat} (h : off + vs.length ≤ q) (hq : q ≤ z.length) : (setL z off vs).take q = setL (z.take q) off vs := by
  unfold setL
  rw [List.take_append, List.length_take, Nat.min_eq_left (show off ≤ z.length by omega), List.take_of_length_le (show (z.take off).length ≤ q by rw [List.length_take]; omega)]
  rw [List.take_append, List.take_of_length_le (show vs.length ≤ q - off by omega), List.take_take, Nat.min_eq_left (show off ≤ q by omega), List.drop_take]
  rw [show q - off - vs.length = q - (off + vs.length) by omega]
theorem OwnS.wsLen {v : Value} {m : Nat} {ws : List Value} {ob : Own} (h : OwnS k v m ws ob) : ws.length = m * k := by
  rcases h with ⟨_, rfl, rfl, _⟩ | ⟨b, c, cs, T, _, _, _, _, _, h4, _⟩
  · simp
  · exact h4
section
variable {d : Option Tmp} {ty : TypeId} {pos : String} {af : Array Edge} {g : Option (Nat × Bool)} {K : Fr → Imm → Own → Prop}
/-- copy(s[lo:], x), s an own row. -/
theorem WOp.copyAt {t t2 e : TypeId} {xo yo : Operand} {m m2 cap lo : Nat} {ad : Option Addr} {x : Value} {ws ws2 : List Value} {ob O0 : Own} (hu : P.underlying t = some (.slice e)) (hk : szOf P e = some k)
    (hxo : F.op xo = some (.slice (if cap = lo then ad else ad.map (·.add (lo * k))) (m - lo) (cap - lo))) (hyo : F.op yo = some x) (hr : Rem O ob O0) (hv : OwnS k (.slice ad m cap) m ws ob) (hx : Src I O x m2 ws2) (hl2 : ws2.length = m2 * k) (ho2 : Go.Sy.ones (ws2.take (min m2 (m - lo) * k)) = true) (hlo : lo ≤ m)
    (hd : dstOk n d = true) (kk : ∀ ob', OwnS k (.slice ad m cap) m (setL ws (lo * k) (ws2.take (min m2 (m - lo) * k))) ob' → K (F.put d (.int .i64 (min m2 (m - lo) : Nat))) I (ob' ++ O0)) : WOp P n Q ⟨d, .call ⟨.builtin .copy, #[xo, yo], #[t, t2]⟩, ty, pos, af, g⟩ F I O K :=
  .sr hd fun ρ hρ => by
    simp only [execOp, resolve, pure_bind, invoke, builtin]
    have e1 : (#[xo, yo] : Array Operand).map ρ = #[.slice (if cap = lo then ad else ad.map (·.add (lo * k))) (m - lo) (cap - lo), x] := by simp [hρ _ _ hxo, hρ _ _ hyo]
    rw [e1]
    refine .value ?_
    intro w hw
    have hxl : ∀ w, (Builtin.lenOf x).run P w = .ok m2 w := fun w => by obtain ⟨ad, cap, rfl, _⟩ := hx; rfl
    have hxc : (Builtin.firstCells k (min m2 (m - lo)) x).run P w = .ok (ws2.take (min m2 (m - lo) * k)).toArray w := hx.cellsPre hw.knows hl2 (Nat.min_le_left _ _)
    have hS : ∀ w, (sizeOf e).run P w = .ok k w := fun w => run_sizeOf hk
    have hsat := hw.rem hr
    have hwl := hv.wsLen
    have hmin : min m2 (m - lo) * k ≤ m2 * k := Nat.mul_le_mul_right k (Nat.min_le_left _ _)
    have hmin2 : lo * k + min m2 (m - lo) * k ≤ m * k := by rw [← Nat.add_mul]; exact Nat.mul_le_mul_right k (by omega)
    have hlen2 : (ws2.take (min m2 (m - lo) * k)).length = min m2 (m - lo) * k := by rw [List.length_take]; omega
    rcases hv with ⟨e2, rfl, rfl, rfl⟩ | ⟨b, cap', cs, T, e2, rfl, hmc, hcl, htk, _, h63⟩
    · cases e2
      have h0 : lo = 0 := by omega
      subst h0
      refine ⟨.int .i64 (min m2 (0 - 0) : Nat), w, [] ++ O0, ?_, hsat, _, rfl, kk [] (by simpa [setL] using OwnS.nil)⟩
      have hxc' : (Builtin.firstCells k 0 x).run P w = .ok #[] w := by simpa using hxc
      unfold Builtin.copy_
      simp [run_underlying hu, hS, hxl, goInt, hxc']
    · cases e2
      by_cases h0 : min m2 (m - lo) = 0
      · refine ⟨.int .i64 (min m2 (m - lo) : Nat), w, _, ?_, hsat, _, rfl, kk _ (.inr ⟨b, cap, cs, T, rfl, rfl, hmc, hcl, ?_, ?_, h63⟩)⟩
        · unfold Builtin.copy_
          generalize (if cap = lo then some (⟨b, 0, none⟩ : Addr) else Option.map (fun x : Addr => x.add (lo * k)) (some ⟨b, 0, none⟩)) = ad'
          have e3 : m2.min (m - lo) = 0 := h0
          have hxc' : (Builtin.firstCells k 0 x).run P w = .ok #[] w := by rw [h0] at hxc; simpa using hxc
          simp [run_underlying hu, hS, hxl, goInt, h0, e3, hxc']
          cases ad' <;> simp [storeCells]
        · rw [h0, htk]; simp [setL]
        · rw [h0]; simp [setL, hwl]
      · have hcap : ¬cap = lo := by omega
        have hbk := hsat.own b (.cells ⟨cs⟩ T (0, 0)) (by simp)
        have hck : m * k ≤ cap * k := Nat.mul_le_mul_right k hmc
        obtain ⟨w', g1, g0, g2, g3⟩ := run_storeCells P (off := lo * k) (i := 0) ho2 (by rw [hlen2]; omega) hbk
        have hu' : Upd ((b, .cells ⟨cs⟩ T (0, 0)) :: O0) b (.cells ⟨cs⟩ T (0, 0)) (.cells ⟨setL cs (lo * k) (ws2.take (min m2 (m - lo) * k))⟩ T (0, 0)) _ := .here
        have hsat' := Sat.upd hsat hu' (by simpa using g2) g3 g0
        refine ⟨.int .i64 (min m2 (m - lo) : Nat), w', _, ?_, hsat', _, rfl, kk [(b, .cells ⟨setL cs (lo * k) (ws2.take (min m2 (m - lo) * k))⟩ T (0, 0))] (.inr ⟨b, cap, _, T, rfl, rfl, hmc, ?_, ?_, ?_, h63⟩)⟩
        · rw [if_neg hcap]
          have e3 : (some (⟨b, 0, none⟩ : Addr)).map (·.add (lo * k)) = some ⟨b, lo * k, none⟩ := by simp [addr_add]
          rw [e3]
          unfold Builtin.copy_
          simp [run_underlying hu, hS, hxl, goInt]
          have e4 : m2.min (m - lo) = min m2 (m - lo) := rfl
          rw [e4, hxc]
          simp [g1]
        · rw [setL_length (by rw [hlen2]; omega), hcl]
        · rw [setL_take (by rw [hlen2]; omega) (by rw [hcl]; exact hck), htk]
        · rw [setL_length (by rw [hlen2, hwl]; omega), hwl]
/-- append(s, make(S, q)...) where there is no room. -/
theorem WOp.appendMake {t t2 e : TypeId} {xo yo : Operand} {by_ m q cap : Nat} {ad : Option Addr} {ws : List Value} {ob O0 : Own} {zv : Value} {z : Int} {kk0 : IntKind} (hu : P.underlying t = some (.slice e)) (hu2 : P.underlying t2 = some (.int kk0)) (hk : szOf P e = some k) (hby : byOf P e = some by_) (hz : zvOf P e = some zv) (hzk : zv.cells.size = k) (hk0 : 0 < k)
    (hxo : F.op xo = some (.slice ad m cap)) (hyo : F.op yo = some (.int .i64 z)) (hzq : z = (q : Int)) (hq : 0 < q) (hr : Rem O ob O0) (hv : OwnS k (.slice ad m cap) m ws ob) (hcap : cap < m + q) (hb : (m + q) * by_ ≤ 140737488355328) (hm : m + q ≤ 4611686018427387904)
    (hd : dstOk n d = true) (kk : ∀ u ob', OwnS k u (m + q) (ws ++ (Builtin.zeroCells zv.cells q).toList) ob' → K (F.put d u) I (ob' ++ O)) : WOp P n Q ⟨d, .call ⟨.builtin .append, #[xo, yo], #[t, t2]⟩, ty, pos, af, g⟩ F I O K :=
  .sr hd fun ρ hρ => by
    simp only [execOp, resolve, pure_bind, invoke, builtin]
    have e1 : (#[xo, yo] : Array Operand).map ρ = #[.slice ad m cap, .int .i64 z] := by simp [hρ _ _ hxo, hρ _ _ hyo]
    rw [e1]
    refine .value ?_
    intro w hw
    subst hzq
    unfold byOf at hby
    obtain ⟨inf, hinf, hby⟩ := Option.map_eq_some_iff.1 hby
    have hwl := hv.wsLen
    have kn : ∀ w' : World, w'.heap = w.heap → Knows w' I O := fun w' e => ⟨fun b q h => by rw [e]; exact hw.imm b q h, fun b q h => by rw [e]; exact hw.own b q h⟩
    have hvc : (Builtin.firstCells k m (.slice ad m cap)).run P w.drew = .ok ws.toArray w.drew := (hv.src (I := I) hr).cells (kn w.drew rfl) hwl
    have hS : ∀ w, (sizeOf e).run P w = .ok k w := fun w => run_sizeOf hk
    have hI : ∀ w, (typeInfo e).run P w = .ok inf w := fun w => run_typeInfo hinf
    have hZ : ∀ w, (zeroValue e).run P w = .ok zv w := fun w => run_zeroValue hz
    have hask : ∀ b w, (askRoom b).run P w = .ok () w := fun b w => by unfold askRoom; split <;> rfl
    have hgrow : ¬(m + q ≤ cap) := by omega
    have hl : IntKind.i64.wrap (q : Int) = (q : Int) := IntWalk.i64_in _ (by omega)
    have hneg : ¬((q : Int) < 0) := by omega
    have hqb : q * inf.bytes ≤ (m + q) * inf.bytes := Nat.mul_le_mul_right _ (by omega)
    have hmb : (m + q) * inf.bytes ≤ 140737488355328 := by rw [hby]; exact hb
    have hbig : ¬((q : Int) * (inf.bytes : Int) > 281474976710656) := by
      have : (q : Int) * (inf.bytes : Int) = ((q * inf.bytes : Nat) : Int) := by simp
      omega
    have hmx : ¬(((m + q : Nat) : Int) > IntKind.i64.max) := by
      have : IntKind.i64.max = 9223372036854775807 := rfl
      omega
    have hfit : ¬(Builtin.nextslicecap (m + q) cap * inf.bytes > 281474976710656) := by
      have := growslice_fits (need := m + q) (old := cap) (bytes := inf.bytes) (by omega) (by omega)
      omega
    have hq0 : ¬(q = 0) := by omega
    have hkz : ¬(k = 0) := by omega
    obtain ⟨c, hc⟩ : ∃ c, (Question.appendCap (m + q) cap e).cut (w.tape w.drawn (.appendCap (m + q) cap e)) = c := ⟨_, rfl⟩
    have hcm : m + q ≤ c := by rw [← hc]; exact Nat.le_add_right _ _
    have hc63 : c ≤ 9223372036854775807 := by
      have : w.tape w.drawn (.appendCap (m + q) cap e) % (2 ^ 63 - (m + q)) < 2 ^ 63 - (m + q) := Nat.mod_lt _ (by omega)
      rw [← hc]
      simp only [Question.cut]
      omega
    obtain ⟨row, hrow⟩ : ∃ row, (ws.toArray ++ (Builtin.zeroCells zv.cells q) ++ Builtin.zeroCells zv.cells (c - (m + q)) : Array Value) = row := ⟨_, rfl⟩
    obtain ⟨g1, _, _⟩ := (hw.same (w' := w.drew) rfl).new (.cells row e)
    have hsz1 : (Builtin.zeroCells zv.cells q).toList.length = q * k := by simp [Builtin.zeroCells, hzk]
    have hsz2 : (Builtin.zeroCells zv.cells (c - (m + q))).toList.length = (c - (m + q)) * k := by simp [Builtin.zeroCells, hzk]
    refine ⟨.slice (some ⟨w.heap.size, 0, none⟩) (m + q) c, { w.drew with heap := w.drew.heap.push (.cells row e) }, _, ?_, g1, _, rfl, kk _ [(w.heap.size, .cells row e)] (.inr ⟨w.heap.size, c, row.toList, e, rfl, rfl, hcm, ?_, ?_, ?_, hc63⟩)⟩
    · unfold Builtin.append_
      have hfo : (Question.appendCap (m + q) cap e).forced = false := rfl
      have hc' : (Question.appendCap (m + q) cap e).cut (w.tape w.drawn (.appendCap (m + q) cap e)) = c := hc
      have hbig' : ¬(281474976710656 < (q : Int) * (inf.bytes : Int)) := hbig
      have hmaxq : max (q : Int) 0 = q := by omega
      have hmx' : ¬(9223372036854775807 < (m : Int) + (q : Int)) := by omega
      have hfit' : ¬(281474976710656 < Builtin.nextslicecap (m + q) cap * inf.bytes) := hfit
      simp [run_underlying hu, run_underlying hu2, hS, asInt, asIntOf, hl, hneg, hI, hbig', hmaxq, hmx', hfit', hgrow, hq0, hkz, hZ, hask, hvc, newRow, newObj, Sem.run, hfo, choose, hc']
      have hqk : ¬(q * k = 0) := by
        intro h0
        rcases Nat.mul_eq_zero.1 h0 with h1 | h1 <;> omega
      rw [if_neg hqk, ← Array.append_assoc, hrow]
      rfl
    · rw [← hrow]
      simp only [Array.toList_append, List.length_append, hsz1, hsz2, hwl]
      rw [← Nat.add_mul, ← Nat.add_mul]
      congr 1
      omega
    · rw [← hrow]
      simp only [Array.toList_append]
      rw [List.take_left']
      · simp [hsz1, hwl, Nat.add_mul]
    · simp only [List.length_append, hsz1, hwl, Nat.add_mul]
/-- slices.overlaps of two rows of the call's own. -/
theorem WOp.overlapsNo {f : FuncId} {fn : Func} {x xo yo : Operand} {tS tR e : TypeId} {ats : Array TypeId} {b c offc lb cb la ca : Nat} {csb csc : Array Value} {Tb Tc : TypeId} (hf : P.funcs[f]? = some fn) (hname : (fn.name == "runtime.NumGoroutine") = false) (hbody : fn.body.isNone = true) (hn : Extern.findNext fn = none) (he : Extern.find fn = some (Extern.SlicesOverlaps.overlaps #[tS, tS] #[tR]))
    (ht : P.underlying tS = some (.slice e)) (hk : szOf P e = some k) (hx : F.op x = some (.func (.func f) #[] #[])) (hxo : F.op xo = some (.slice (some ⟨b, 0, none⟩) la ca)) (hyo : F.op yo = some (.slice (some ⟨c, offc, none⟩) lb cb))
    (hb : Has O b (.cells csb Tb (0, 0))) (hc : Has O c (.cells csc Tc (0, 0))) (hbc : b ≠ c) (hcs : csc.size ≠ 0) (hd : dstOk n d = true) (kk : K (F.put d (.bool false)) I O) :
    WOp P n Q ⟨d, .call ⟨.value x, #[xo, yo], ats⟩, ty, pos, af, g⟩ F I O K :=
  .sr hd fun ρ hρ => by
    intro w hw
    have hbw := hw.own _ _ hb
    have hcw := hw.own _ _ hc
    have e1 : (#[xo, yo] : Array Operand).map ρ = #[.slice (some ⟨b, 0, none⟩) la ca, .slice (some ⟨c, offc, none⟩) lb cb] := by simp [hρ _ _ hxo, hρ _ _ hyo]
    refine ⟨_, w, O, ?_, hw, _, rfl, kk⟩
    simp only [execOp, resolve, hρ _ _ hx, e1]
    simp only [Deferred.ofValue, invoke, Sem.run_bind, Sem.run_pure, Result.andThen_ok]
    have hcall := run_callFunc_extern hf hname hbody hn he #[.slice (some ⟨b, 0, none⟩) la ca, .slice (some ⟨c, offc, none⟩) lb cb] w
    rw [Lib.run_overlaps_apart w tS tR e ht k (fun w => run_sizeOf hk) ⟨b, 0, none⟩ ⟨c, offc, none⟩ la ca lb cb hbc Tb Tc csb.size csc.size (by simp [World.shape?, hbw]) (by simp [World.shape?, hcw]) hcs (by simp [World.frozen?, hbw]) (by simp [World.frozen?, hbw])] at hcall
    simpa using hcall
theorem Has.ne {w : World} {b c : Nat} {o q : Obj} {ob : Own} (hw : Sat w I (ob ++ (c, q) :: O)) (hb : (b, o) ∈ ob) : b ≠ c := by
  intro e
  subst e
  have := hw.nodup
  rw [List.map_append, List.nodup_append] at this
  exact this.2.2 b (List.mem_map_of_mem (f := Prod.fst) hb) b (by simp) rfl
theorem WL.ne {ops : Array Oper} {l : List Oper} {b c : Nat} {o q : Obj} {ob : Own} (hb : (b, o) ∈ ob) (h : b ≠ c → WL P n ops Q l F I (ob ++ (c, q) :: O)) : WL P n ops Q l F I (ob ++ (c, q) :: O) := fun a w ha hw => h (Has.ne hw hb) a w ha hw
end
end Go.Sy
