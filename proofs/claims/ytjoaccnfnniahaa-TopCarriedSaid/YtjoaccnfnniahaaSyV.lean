/- Channels in one goroutine: made, closed; a select of one send with a default, a receive in a range. Nothing of the program stands here. -/
import Derived.Test.YtjoaccnfnniahaaSyJ
import Derived.Conc.LoneSelect
namespace Go.Sy
open Go Go.Conc
set_option linter.unusedVariables false
set_option linter.unusedSimpArgs false
variable {P : Program} {n : Nat} {Q : Exit → Act → World → Prop} {F : Fr} {I : Imm} {O : Own}
section
variable {d : Option Tmp} {ty : TypeId} {pos : String} {af : Array Edge} {g : Option (Nat × Bool)} {K : Fr → Imm → Own → Prop}
theorem WOp.makeChan {t e by_ m : Nat} {dir : ChanDir} {x : Operand} {q : IntKind} {z : Int} (hu : P.underlying t = some (.chan dir e)) (hb : byOf P e = some by_) (hx : F.op x = some (.int q z)) (hz : z = (m : Int)) (hm : by_ * m ≤ 281474976710544) (hm2 : m ≤ 9223372036854775807) (hd : dstOk n d = true)
    (k : ∀ b, I b = none → b ∉ O.map Prod.fst → K (F.put d (.chan (some b))) I ((b, .chan m #[] false 0 0 false) :: O)) : WOp P n Q ⟨d, .makeChan t x, ty, pos, af, g⟩ F I O K :=
  .sr hd fun ρ hρ => by
    unfold byOf at hb
    obtain ⟨inf, hinf, hby⟩ := Option.map_eq_some_iff.1 hb
    simp only [execOp, hρ _ _ hx]
    refine .value ?_
    unfold Instr.makeChan
    refine .bind_run (x := z) (fun w => rfl) ?_
    refine .bind_run (fun w => run_underlying hu) ?_
    dsimp only
    refine .bind_run (fun w => run_typeInfo hinf) ?_
    subst hz
    have h1 : ¬ ((m : Int) < 0 ∨ (m : Int) > IntKind.i64.max ∨ (inf.bytes : Int) * (m : Int) > 2 ^ 48 - 112) := by
      have : IntKind.i64.max = 9223372036854775807 := rfl
      have h3 : (inf.bytes : Int) * (m : Int) = ((by_ * m : Nat) : Int) := by rw [hby]; simp
      omega
    rw [if_neg h1]
    have h2 : ((m : Int)).toNat = m := by omega
    rw [h2]
    exact .bind (.new fun b h3 h4 => .done ⟨_, rfl, k b h3 h4⟩)
theorem run_getChan {b cap s r : Nat} {buf : Array Value} {c tm : Bool} {w : World} (h : w.heap[b]? = some (.chan cap buf c s r tm)) : (getObj b).run P w = .ok (.chan cap buf c s r tm) w := by simp [getObj, Sem.run, h]
theorem SR.setChan {b cap s r : Nat} {buf : Array Value} {c tm : Bool} {o' : Obj} {O' : Own} {K : Unit → Own → Prop} (hu : Upd O b (.chan cap buf c s r tm) o' O') (h : K () O') : SR P (Go.setObj b o') I O K := fun w hw => by
  have hb := hw.own _ _ hu.has
  have hlt := (Array.getElem?_eq_some_iff.1 hb).1
  refine ⟨(), { w with heap := w.heap.setIfInBounds b o' }, O', by simp [Go.setObj, Sem.run, hb], hw.upd hu (by simp [hlt]) (fun c hc => by simp [Array.getElem?_setIfInBounds_ne (Ne.symm hc)]) rfl, h⟩
theorem WOp.close {ats : Array TypeId} {x : Operand} {b cap s r : Nat} {buf : Array Value} {tm : Bool} {O' : Own} (hx : F.op x = some (.chan (some b))) (hu : Upd O b (.chan cap buf false s r tm) (.chan cap buf true s r tm) O') (hd : dstOk n d = true)
    (k : K (F.put d (.tuple #[])) I O') : WOp P n Q ⟨d, .call ⟨.builtin .close, #[x], ats⟩, ty, pos, af, g⟩ F I O K :=
  .sr hd fun ρ hρ => by
    simp only [execOp, resolve, pure_bind, invoke, builtin]
    have e1 : (#[x] : Array Operand).map ρ = #[.chan (some b)] := by simp [hρ _ _ hx]
    rw [e1]
    refine .value ?_
    unfold Builtin.close_
    dsimp only
    refine .bind ?_
    intro w hw
    refine ⟨_, w, O, run_getChan (hw.own _ _ hu.has), hw, ?_⟩
    dsimp only
    simp only [Bool.false_eq_true, if_false]
    refine .bind ?_
    exact SR.setChan hu (.done ⟨_, rfl, k⟩)
end
/-! a region that begins with a communication -/
theorem comm_at {ops : Array Oper} {o : Oper} {rest : List Nat} {i : Nat} {b : Frame} {a : Act} {k : List Item} {cs : List Frame} {w : World} {cases : Array CommCase} {bl : Bool} {sh : CommShape}
    (ho : ops[i]? = some o) (hw : Region.wanted o (yielded ops a.tmps) = true) (hx : (execOp a.eval o).run P w = .ok (.comm cases bl sh) w) :
    ∃ es, stepG P true (G (b.at a (.inRegion ops (i :: rest) :: k)) cs) w = .comm (G (b.at a (.inRegion ops (i :: rest) :: k)) cs) cases bl sh w es := by
  have h := stepG_op (P := P) (b := b) (a := a) (k := k) (cs := cs) (w := w) (rest := rest) ho hw
  unfold G
  rw [h]
  simp only [stepG.apply, Sem.runT_eq, hx]
  exact ⟨_, rfl⟩
/-- From one step on: the rest of the region. -/
theorem WC.commFirst {id : Nat} {ops : Array Oper} {o : Oper} {rest : List Oper} (ho : ops.toList = o :: rest) (hw : wantedF ops o F = some true) (hd : dstOk n o.dst = true)
    (h : ∀ a w, Ok n F a → Sat w I O → ∃ v w' I' O', (∀ (b : Frame) (k : List Item) (cs : List Frame) (l : List Nat), step P (lone (b.at a (.inRegion ops (0 :: l) :: k)) cs w) = .next (lone ((b.at a (.inRegion ops (0 :: l) :: k)).finish v) cs w')) ∧ Sat w' I' O' ∧ WL P n ops Q rest (F.put o.dst v) I' O') :
    WC P n (.region id ops false) Q F I O := fun a w ha hs b k cs => by
  obtain ⟨v, w', I', O', hstep, hs', hl⟩ := h a w ha hs
  have h0 : ops[0]? = some o := by rw [← Array.getElem?_toList, ho]; rfl
  have hsz : ops.size = rest.length + 1 := by rw [← Array.length_toList, ho]; rfl
  have hwp := wpOps_of_wpL (P := P) (Q := Q) (ops := ops) rest 1 (a.put o.dst v) w' (fun j hj => by rw [← Array.getElem?_toList, ho, Nat.add_comm]; rfl) (hl _ _ (ha.put' hd v) hs')
  obtain ⟨e, a', w2, hq, harr⟩ := wp_ops _ _ _ hwp b k cs
  refine ⟨e, a', w2, hq, .of_steps (.one step_region) (.of_steps (.one ?_) harr)⟩
  have e1 : List.range ops.size = 0 :: List.range' 1 rest.length := by rw [hsz, List.range_eq_range', List.range'_succ]
  rw [e1, hstep b k cs, Frame.finish_at, h0]
  rfl
theorem WC.selectSend {id : Nat} {ops : Array Oper} {rest : List Oper} {d : Option Tmp} {ty : TypeId} {pos : String} {af : Array Edge} {x y : Operand} {e c cap s r : Nat} {buf : Array Value} {tm : Bool} {v z : Value} {O' : Own}
    (ho : ops.toList = ⟨d, .select #[⟨x, some y, e⟩] false, ty, pos, af, none⟩ :: rest) (hd : dstOk n d = true) (hz : zvOf P e = some z) (hx : F.op x = some (.chan (some c))) (hy : F.op y = some v)
    (hu : Upd O c (.chan cap buf false s r tm) (.chan cap (buf.push v) false (s + 1) r tm) O')
    (h1 : buf.size < cap → WL P n ops Q rest (F.put d (.tuple #[.int .i64 0, .bool false])) I O') (h0 : cap ≤ buf.size → WL P n ops Q rest (F.put d (.tuple #[.int .i64 (-1), .bool false])) I O) :
    WC P n (.region id ops false) Q F I O := by
  refine WC.commFirst ho rfl hd fun a w ha hs => ?_
  have hop : ops[0]? = some ⟨d, .select #[⟨x, some y, e⟩] false, ty, pos, af, none⟩ := by rw [← Array.getElem?_toList, ho]; rfl
  have hrun : (execOp a.eval ⟨d, .select #[⟨x, some y, e⟩] false, ty, pos, af, none⟩).run P w = .ok (.comm #[scase c v z] false .select) w := by
    simp only [execOp]
    rw [Sem.run_bind]
    have : (Array.mapM (m := Sem) (fun s : SelectCase => do pure { chan := a.eval s.chan, send := s.send.map a.eval, zero := ← zeroValue s.elem : CommCase }) #[⟨x, some y, e⟩]).run P w = .ok #[scase c v z] w := by
      rw [Array.mapM_eq_mapM_toList, Sem.run_map]
      simp [List.mapM_cons, Sem.run_bind, run_zeroValue hz, ha.eval hx, ha.eval hy, scase]
    rw [this]
    rfl
  have hb := hs.own _ _ hu.has
  have hlt := (Array.getElem?_eq_some_iff.1 hb).1
  by_cases hr : buf.size < cap
  · refine ⟨_, w.setChan c cap (buf.push v) false (s + 1) r tm, I, O', fun b k cs l => ?_, ?_, h1 hr⟩
    · obtain ⟨es, hc⟩ := comm_at (b := b) (k := k) (cs := cs) (rest := l) hop (by rfl) hrun
      exact step_lone_select_send_room hc hb hr
    · exact hs.upd hu (by simp [World.setChan, hlt]) (fun q hq => by simp [World.setChan, Array.getElem?_setIfInBounds_ne (Ne.symm hq)]) rfl
  · refine ⟨_, w, I, O, fun b k cs l => ?_, hs, h0 (by omega)⟩
    obtain ⟨es, hc⟩ := comm_at (b := b) (k := k) (cs := cs) (rest := l) hop (by rfl) hrun
    exact step_lone_select_send_full hc hb (by omega)
/-- A receive in a range over a channel that is closed. -/
theorem WC.recvShut {id : Nat} {ops : Array Oper} {rest : List Oper} {d : Option Tmp} {ty : TypeId} {pos : String} {af : Array Edge} {x : Operand} {t e c cap s r : Nat} {dir : ChanDir} {tm : Bool} {z : Value} {buf : List Value} {O' : Own}
    (ho : ops.toList = ⟨d, .recv t x true, ty, pos, af, none⟩ :: rest) (hd : dstOk n d = true) (ht : P.underlying t = some (.chan dir e)) (hz : zvOf P e = some z) (hx : F.op x = some (.chan (some c)))
    (hu : Upd O c (.chan cap ⟨buf⟩ true s r tm) (.chan cap ⟨buf.tail⟩ true s (r + 1) tm) O')
    (h1 : ∀ v l, buf = v :: l → WL P n ops Q rest (F.put d (.tuple #[v, .bool true])) I O') (h0 : buf = [] → WL P n ops Q rest (F.put d (.tuple #[z, .bool false])) I O) :
    WC P n (.region id ops false) Q F I O := by
  refine WC.commFirst ho rfl hd fun a w ha hs => ?_
  have hop : ops[0]? = some ⟨d, .recv t x true, ty, pos, af, none⟩ := by rw [← Array.getElem?_toList, ho]; rfl
  have hrun : (execOp a.eval ⟨d, .recv t x true, ty, pos, af, none⟩).run P w = .ok (.comm #[rcase c z] true (.recv true)) w := by
    simp only [execOp, Sem.run_bind, run_underlying ht, Result.andThen_ok, run_zeroValue hz, ha.eval hx]
    rfl
  have hb := hs.own _ _ hu.has
  have hlt := (Array.getElem?_eq_some_iff.1 hb).1
  cases hbuf : buf with
  | nil =>
    subst hbuf
    refine ⟨_, w, I, O, fun b k cs l => ?_, hs, h0 rfl⟩
    obtain ⟨es, hc⟩ := comm_at (b := b) (k := k) (cs := cs) (rest := l) hop (by rfl) hrun
    exact step_lone_recv_shut true hc hb
  | cons v l =>
    subst hbuf
    refine ⟨_, w.setChan c cap ⟨l⟩ true s (r + 1) tm, I, O', fun b k cs l' => ?_, ?_, h1 v l rfl⟩
    · obtain ⟨es, hc⟩ := comm_at (b := b) (k := k) (cs := cs) (rest := l') hop (by rfl) hrun
      have := step_lone_recv_buf true hc hb (by simp)
      simp [got] at this
      exact this
    · exact hs.upd hu (by simp [World.setChan, hlt]) (fun q hq => by simp [World.setChan, Array.getElem?_setIfInBounds_ne (Ne.symm hq)]) rfl
end Go.Sy
