/- A send into a channel with room, amid a region; a select of one receive with a default. Nothing of the program stands here. -/
import Derived.Test.YtajpakifkinadaaGreatDoorSyV
import Derived.Conc.LoneCalls
namespace Go.Sy
open Go Go.Conc
set_option linter.unusedVariables false
set_option linter.unusedSimpArgs false
variable {P : Program} {n : Nat} {Q : Exit → Act → World → Prop} {F : Fr} {I : Imm} {O : Own}
/-- The rest of a region, step by step. -/
def RL (P : Program) (n : Nat) (ops : Array Oper) (Q : Exit → Act → World → Prop) (l : List Oper) (F : Fr) (I : Imm) (O : Own) : Prop :=
  ∀ i, ops.toList.drop i = l → i + l.length = ops.size → ∀ a w, Ok n F a → Sat w I O → ∀ (b : Frame) (k : List Item) (cs : List Frame),
    ∃ e a' w', Q e a' w' ∧ Arrives P (lone (b.at a (.inRegion ops (List.range' i l.length) :: k)) cs w) b k cs e a' w'
theorem drop_at {ops : Array Oper} {i : Nat} {o : Oper} {l : List Oper} (h : ops.toList.drop i = o :: l) : ops[i]? = some o ∧ ops.toList.drop (i + 1) = l := by
  constructor
  · have := congrArg (fun x : List Oper => x[0]?) h
    simpa [List.getElem?_drop] using this
  · rw [show ops.toList.drop (i + 1) = (ops.toList.drop i).drop 1 by rw [List.drop_drop], h]; rfl
theorem WC.regionR {id : Nat} {ops : Array Oper} (h : RL P n ops Q ops.toList F I O) : WC P n (.region id ops false) Q F I O := fun a w ha hw b k cs => by
  obtain ⟨e, a', w', hq, harr⟩ := h 0 rfl (by simp) a w ha hw b k cs
  refine ⟨e, a', w', hq, .of_steps (.one step_region) ?_⟩
  rw [List.range_eq_range']
  simpa using harr
theorem RL.wl {ops : Array Oper} {l : List Oper} (h : WL P n ops Q l F I O) : RL P n ops Q l F I O := fun i hl hs a w ha hw b k cs => by
  have hwp := wpOps_of_wpL (P := P) (Q := Q) (ops := ops) l i a w (fun j hj => by rw [← hl, List.getElem?_drop, ← Array.getElem?_toList]) (h a w ha hw)
  exact wp_ops _ _ _ hwp b k cs
theorem RL.e {ops : Array Oper} {o : Oper} {l : List Oper} {v : Value} (h : EV P F I O o v) (hw : wantedF ops o F = some true) (hd : dstOk n o.dst = true) (k : RL P n ops Q l (F.put o.dst v) I O) : RL P n ops Q (o :: l) F I O := fun i hl hs a w ha hS b kk cs => by
  obtain ⟨ho, hl'⟩ := drop_at hl
  rw [List.length_cons] at hs
  obtain ⟨e, a', w', hq, harr⟩ := k (i + 1) hl' (by omega) (a.put o.dst v) w (ha.put' hd v) hS b kk cs
  have hr := h a.eval (fun x u e => ha.eval e) w hS.knows
  have hg := stepG_op (P := P) (b := b) (a := a) (k := kk) (cs := cs) (w := w) (rest := List.range' (i + 1) l.length) ho (wantedF_spec ha hw)
  refine ⟨e, a', w', hq, .of_steps (.one (step_lone_go ?_)) harr⟩
  rw [List.length_cons, List.range'_succ, hg]
  have hfin : (b.at a (.inRegion ops (i :: List.range' (i + 1) l.length) :: kk)).finish v = b.at (a.put o.dst v) (.inRegion ops (List.range' (i + 1) l.length) :: kk) := by rw [Frame.finish_at, ho]; rfl
  rw [← hfin]
  simp [stepG.apply, hr]
theorem RL.send {ops : Array Oper} {l : List Oper} {ty : TypeId} {pos : String} {af : Array Edge} {x y : Operand} {c cap s r : Nat} {buf : Array Value} {tm : Bool} {v : Value} {O' : Own}
    (hx : F.op x = some (.chan (some c))) (hy : F.op y = some v) (hu : Upd O c (.chan cap buf false s r tm) (.chan cap (buf.push v) false (s + 1) r tm) O') (hr : buf.size < cap) (k : RL P n ops Q l F I O') :
    RL P n ops Q (⟨none, .send x y, ty, pos, af, none⟩ :: l) F I O := fun i hl hs a w ha hS b kk cs => by
  obtain ⟨ho, hl'⟩ := drop_at hl
  rw [List.length_cons] at hs
  have hb := hS.own _ _ hu.has
  have hlt := (Array.getElem?_eq_some_iff.1 hb).1
  have hS' : Sat (w.setChan c cap (buf.push v) false (s + 1) r tm) I O' := hS.upd hu (by simp [World.setChan, hlt]) (fun q hq => by simp [World.setChan, Array.getElem?_setIfInBounds_ne (Ne.symm hq)]) rfl
  obtain ⟨e, a', w', hq, harr⟩ := k (i + 1) hl' (by omega) a _ ha hS' b kk cs
  have hrun : (execOp a.eval ⟨none, .send x y, ty, pos, af, none⟩).run P w = .ok (.comm #[scase c v (.tuple #[])] true .send) w := by
    simp only [execOp, ha.eval hx, ha.eval hy]
    rfl
  obtain ⟨es, hc⟩ := comm_at (b := b) (k := kk) (cs := cs) (rest := List.range' (i + 1) l.length) ho (by rfl) hrun
  have hst := step_lone_send_room hc hb hr
  refine ⟨e, a', w', hq, .of_steps (.one ?_) harr⟩
  rw [List.length_cons, List.range'_succ]
  have hfin : (b.at a (.inRegion ops (i :: List.range' (i + 1) l.length) :: kk)).finish undef = b.at a (.inRegion ops (List.range' (i + 1) l.length) :: kk) := by rw [Frame.finish_at, ho]; rfl
  rw [hfin] at hst
  exact hst
/-- A select of one receive, with a default, over a channel that is open. -/
theorem WC.selectRecv {id : Nat} {ops : Array Oper} {rest : List Oper} {d : Option Tmp} {ty : TypeId} {pos : String} {af : Array Edge} {x : Operand} {e c cap s r : Nat} {buf : List Value} {tm : Bool} {z : Value} {O' : Own}
    (ho : ops.toList = ⟨d, .select #[⟨x, none, e⟩] false, ty, pos, af, none⟩ :: rest) (hd : dstOk n d = true) (hz : zvOf P e = some z) (hx : F.op x = some (.chan (some c)))
    (hu : Upd O c (.chan cap ⟨buf⟩ false s r tm) (.chan cap ⟨buf.tail⟩ false s (r + 1) tm) O')
    (h1 : ∀ v l, buf = v :: l → WL P n ops Q rest (F.put d (.tuple #[.int .i64 0, .bool true, v])) I O') (h0 : buf = [] → WL P n ops Q rest (F.put d (.tuple #[.int .i64 (-1), .bool false, z])) I O) :
    WC P n (.region id ops false) Q F I O := by
  refine WC.commFirst ho rfl hd fun a w ha hs => ?_
  have hop : ops[0]? = some ⟨d, .select #[⟨x, none, e⟩] false, ty, pos, af, none⟩ := by rw [← Array.getElem?_toList, ho]; rfl
  have hrun : (execOp a.eval ⟨d, .select #[⟨x, none, e⟩] false, ty, pos, af, none⟩).run P w = .ok (.comm #[rcase c z] false .select) w := by
    simp only [execOp]
    rw [Sem.run_bind]
    have : (Array.mapM (m := Sem) (fun s : SelectCase => do pure { chan := a.eval s.chan, send := s.send.map a.eval, zero := ← zeroValue s.elem : CommCase }) #[⟨x, none, e⟩]).run P w = .ok #[rcase c z] w := by
      rw [Array.mapM_eq_mapM_toList, Sem.run_map]
      simp [List.mapM_cons, Sem.run_bind, run_zeroValue hz, ha.eval hx, rcase]
    rw [this]
    rfl
  have hb := hs.own _ _ hu.has
  have hlt := (Array.getElem?_eq_some_iff.1 hb).1
  cases hbuf : buf with
  | nil =>
    subst hbuf
    refine ⟨_, w, I, O, fun b k cs l => ?_, hs, h0 rfl⟩
    obtain ⟨es, hc⟩ := comm_at (b := b) (k := k) (cs := cs) (rest := l) hop (by rfl) hrun
    exact step_lone_select_default hc hb
  | cons v l =>
    subst hbuf
    refine ⟨_, w.setChan c cap ⟨l⟩ false s (r + 1) tm, I, O', fun b k cs l' => ?_, ?_, h1 v l rfl⟩
    · obtain ⟨es, hc⟩ := comm_at (b := b) (k := k) (cs := cs) (rest := l') hop (by rfl) hrun
      have := step_lone_select_recv_buf hc hb (by simp)
      simp at this
      exact this
    · exact hs.upd hu (by simp [World.setChan, hlt]) (fun q hq => by simp [World.setChan, Array.getElem?_setIfInBounds_ne (Ne.symm hq)]) rfl
end Go.Sy
