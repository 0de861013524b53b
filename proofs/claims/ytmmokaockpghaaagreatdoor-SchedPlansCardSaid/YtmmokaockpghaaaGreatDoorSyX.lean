/- slices.SortFunc over a row of the call's own, elements of k cells, by the kit's contract. Nothing of the program stands here. -/
import Derived.Test.YtmmokaockpghaaaGreatDoorSyJ
import Derived.Shelf.SlSortCmp.NoneTotal
import Derived.Test.YtmmokaockpghaaaGreatDoorSyV
import Derived.Conc.LoneCalls
namespace Go.Sy
open Go Go.Shelf Go.Lib Go.Sort Go.Proofs
set_option linter.unusedSimpArgs false
set_option linter.unusedVariables false
set_option linter.unusedSectionVars false
section
variable {α : Type} [Inhabited α] {enc : α → List Value} {k : Nat}
theorem flat_get (hk : ∀ x, (enc x).length = k) : ∀ (l : List α) (i j : Nat) (hi : i < l.length), j < k → (l.flatMap enc)[i * k + j]? = (enc l[i])[j]?
  | [], i, j, hi, _ => by simp at hi
  | x :: r, 0, j, _, hj => by
    rw [List.flatMap_cons, List.getElem?_append_left (by rw [hk]; omega)]; simp
  | x :: r, i + 1, j, hi, hj => by
    rw [List.flatMap_cons, List.getElem?_append_right (by rw [hk, Nat.add_mul]; omega), hk]
    rw [show (i + 1) * k + j - k = i * k + j by rw [Nat.add_mul]; omega]
    simpa using flat_get hk r i j (by simpa using hi) hj
theorem flat_len (hk : ∀ x, (enc x).length = k) (l : List α) : (l.flatMap enc).length = l.length * k := by
  induction l with
  | nil => simp
  | cons x r ih => rw [List.flatMap_cons, List.length_append, hk, ih, List.length_cons, Nat.add_mul]; omega
theorem flatK_eq (hk : ∀ x, (enc x).length = k) (d : Array α) : flatK enc k d = ⟨d.toList.flatMap enc⟩ := by
  have hs : (flatK enc k d).size = (⟨d.toList.flatMap enc⟩ : Array Value).size := by
    rw [size_flatK]; show _ = (d.toList.flatMap enc).length; rw [flat_len hk]; simp
  refine ext_get! hs fun t ht => ?_
  rw [size_flatK] at ht
  rw [get_flatK _ _ _ t ht]
  have k0 : 0 < k := by
    rcases Nat.eq_zero_or_pos k with h | h
    · subst h; simp at ht
    · exact h
  have h1 : t / k < d.toList.length := by simpa using (Nat.div_lt_iff_lt_mul k0).2 ht
  have h2 : t % k < k := Nat.mod_lt _ k0
  have h3 := flat_get hk d.toList (t / k) (t % k) h1 h2
  rw [Nat.div_add_mod' t k] at h3
  have e1 : d[t / k]! = d.toList[t / k] := by rw [getElem!_pos d (t / k) (by simpa using h1)]; simp
  rw [e1, List.getElem!_eq_getElem?_getD, ← h3]
  simp [List.getElem!_eq_getElem?_getD]
theorem put_eq {cs vs : List Value} (h : vs.length ≤ cs.length) : putCells id 0 ⟨vs⟩ ⟨cs⟩ = ⟨setL cs 0 vs⟩ := by
  have hl : (setL cs 0 vs).length = cs.length := by unfold setL; simp; omega
  refine Array.ext (by simp [putCells, hl]) fun i h1 h2 => ?_
  have hi : i < cs.length := by simpa [putCells] using h1
  simp only [putCells, Array.getElem_mapIdx, id]
  unfold setL
  simp only [List.take_zero, List.nil_append, Nat.zero_add, Nat.zero_le, true_and, Nat.sub_zero, List.getElem_toArray]
  by_cases hv : i < vs.length
  · rw [if_pos (by simpa using hv), List.getElem_append_left hv]
    simp [hv]
  · rw [if_neg (by simpa using hv), List.getElem_append_right (by omega), List.getElem_drop]
    congr 1; omega
theorem holdsK_of (hk : ∀ x, (enc x).length = k) {w : World} {b : Nat} {cs : List Value} {T : TypeId} {d : Array α} (hd : cs.take (d.size * k) = d.toList.flatMap enc) (hb : w.heap[b]? = some (.cells ⟨cs⟩ T (0, 0))) : HoldsK enc k w b 0 d := by
  unfold HoldsK Holds
  rw [flatK_eq hk]
  intro j hj
  have hj : j < (d.toList.flatMap enc).length := hj
  have hj2 : j < d.size * k := by rw [flat_len hk] at hj; simpa using hj
  have e : cs[j]? = some ((d.toList.flatMap enc)[j]) := by
    rw [← List.getElem?_eq_getElem hj, ← hd, List.getElem?_take_of_lt hj2]
  refine ⟨?_, by simp [World.frozen?, hb]⟩
  simp [World.cell?, hb, e]
  rw [List.getElem?_eq_getElem hj]; rfl
theorem Sat.grown {w : World} {I : Imm} {O : Own} (h : Sat w I O) (os : Array Obj) : Sat (grow w os) I O := by
  have hlt : ∀ b o, w.heap[b]? = some o → (w.heap ++ os)[b]? = some o := fun b o ho => by
    rw [Array.getElem?_append_left (Array.getElem?_eq_some_iff.1 ho).1]; exact ho
  exact ⟨fun b o e => hlt b o (h.imm b o e), fun b o hm => hlt b o (h.own b o hm), h.nodup, h.apart, h.env⟩
theorem Does.sortFunc {P : Program} {ρ : Ren} (L : SlLaysF0.n6 P ρ) (aE : ∀ w, (isAgg (ρ.t 24)).run P w = .ok true w) (zE : ∀ w, (Go.sizeOf (ρ.t 24)).run P w = .ok k w) (hk : ∀ x, (enc x).length = k) (h1 : ∀ x, ∀ v ∈ enc x, v.oneCell' = true) (cf : α → α → Int) (hO : SWO (ltOf cf)) {g : Nat} {cb : List Value} {b cap : Nat} {cs : List Value} {T : TypeId} {d : Array α} {I : Imm} {O : Own}
    (eg : ∀ args w, (callFunc g args).run P w = .ok (.enter g args) w) (hcmp : ∀ x y w, Calls P g (#[.agg (enc x).toArray, .agg (enc y).toArray] ++ ⟨cb⟩) w fun e w' => e = .returned (.int .i64 (cf x y)) ∧ ∃ q os', w' = grow (w.drewN q) os')
    (hd : cs.take (d.size * k) = d.toList.flatMap enc) (hc : d.size * k ≤ cs.length) (hsz : d.size < 4611686018427387904) :
    Does P (ρ.f 6) [.slice (some ⟨b, 0, none⟩) d.size cap, .func (.func g) #[] ⟨cb⟩] I ((b, .cells ⟨cs⟩ T (0, 0)) :: O) fun u I' O' => I' = I ∧ u = .tuple #[] ∧ ∃ d' : Array α, d'.toList.Perm d.toList ∧ (∀ i j, i < j → j < d.size → ltOf cf d'[j]! d'[i]! = false) ∧ O' = (b, .cells ⟨setL cs 0 (d'.toList.flatMap enc)⟩ T (0, 0)) :: O := fun w hw => by
  have hb := hw.own b _ List.mem_cons_self
  have hlt := (Array.getElem?_eq_some_iff.1 hb).1
  refine (AnyQ.slices_SortFunc L k aE zE enc hk h1 cf hO g ⟨cb⟩ b 0 cap d w eg (fun m os dk _ x y => hcmp x y _) (holdsK_of hk hd hb) hlt hsz).mono ?_
  rintro e w' ⟨rfl, d', n, os, ⟨p1, p2, p3⟩, hs, rfl⟩
  have e1 : d'.toList.Perm d.toList := by
    have h2 : d.extract 0 d.size = d := by simp
    have h3 : d'.extract 0 d.size = d' := by rw [← p1]; simp
    rwa [h2, h3] at p3
  have hF : (d'.toList.flatMap enc).length ≤ cs.length := by
    rw [flat_len hk, Array.length_toList, p1]; exact hc
  have hb2 : (Go.Sort.ahead w n).heap[b]? = some (.cells ⟨cs⟩ T (0, 0)) := hb
  have hrow : (putRowK enc k (Go.Sort.ahead w n) b 0 d').heap[b]? = some (.cells ⟨setL cs 0 (d'.toList.flatMap enc)⟩ T (0, 0)) := by
    unfold putRowK putRow mapBlock
    rw [flatK_eq hk]
    simp only [Array.getElem?_modify, if_true, hb2, Option.map_some, onCells]
    rw [put_eq hF]
  have hoth : ∀ c, c ≠ b → (putRowK enc k (Go.Sort.ahead w n) b 0 d').heap[c]? = w.heap[c]? := fun c hc => by
    unfold putRowK putRow mapBlock
    simp only [Array.getElem?_modify, if_neg (Ne.symm hc)]
    rfl
  have s1 : Sat (putRowK enc k (Go.Sort.ahead w n) b 0 d') I ((b, .cells ⟨setL cs 0 (d'.toList.flatMap enc)⟩ T (0, 0)) :: O) := hw.upd Upd.here hrow hoth rfl
  exact ⟨_, I, _, rfl, Imm.le_refl I, s1.grown os, rfl, rfl, d', e1, fun i j hij hj => hs i j (Nat.zero_le _) hij hj, rfl⟩
end
theorem Pure.sortNone {P : Program} {ρ : Ren} (L : SlLaysF0.n6 P ρ) {p : Option Addr} {cap : Nat} {fv : Value} {I : Imm} {O : Own} : Pure P (ρ.f 6) [.slice p 0 cap, fv] I O (.tuple #[]) := fun w hw => by
  refine (AnyF.slices_SortFunc_none (P := P) (ρ := ρ) L p cap fv w).mono ?_
  rintro e w' ⟨rfl, rfl⟩
  exact ⟨_, I, O, rfl, Imm.le_refl I, hw, rfl, rfl, rfl⟩
end Go.Sy

namespace Go.Sy
open Go Go.Conc
set_option linter.unusedVariables false
set_option linter.unusedSimpArgs false
variable {P : Program} {n : Nat} {Q : Exit → Act → World → Prop} {F : Fr} {I : Imm} {O : Own}
/-- The rest of a region, step by step. -/
def RL (P : Program) (n : Nat) (ops : Array Oper) (Q : Exit → Act → World → Prop) (l : List Oper) (F : Fr) (I : Imm) (O : Own) : Prop :=
  ∀ i, ops.toList.drop i = l → i + l.length = ops.size → ∀ a w, Ok n F a → Sat w I O → ∀ (b : Frame) (k : List Item) (cs : List Frame),
    ∃ e a' w', Q e a' w' ∧ Arrives P (lone (b.at a (.inRegion ops (List.range' i l.length) :: k)) cs w) b k cs e a' w'
theorem drop_at {ops : Array Oper} {i : Nat} {o : Oper} {l : List Oper} (h : ops.toList.drop i = o :: l) : ops[i]? = some o ∧ ops.toList.drop (i + 1) = l := by
  constructor
  · have := congrArg (fun x : List Oper => x[0]?) h
    simpa [List.getElem?_drop] using this
  · rw [show ops.toList.drop (i + 1) = (ops.toList.drop i).drop 1 by rw [List.drop_drop], h]; rfl
theorem WC.regionR {id : Nat} {ops : Array Oper} (h : RL P n ops Q ops.toList F I O) : WC P n (.region id ops false) Q F I O := fun a w ha hw b k cs => by
  obtain ⟨e, a', w', hq, harr⟩ := h 0 rfl (by simp) a w ha hw b k cs
  refine ⟨e, a', w', hq, .of_steps (.one step_region) ?_⟩
  rw [List.range_eq_range']
  simpa using harr
theorem RL.wl {ops : Array Oper} {l : List Oper} (h : WL P n ops Q l F I O) : RL P n ops Q l F I O := fun i hl hs a w ha hw b k cs => by
  have hwp := wpOps_of_wpL (P := P) (Q := Q) (ops := ops) l i a w (fun j hj => by rw [← hl, List.getElem?_drop, ← Array.getElem?_toList]) (h a w ha hw)
  exact wp_ops _ _ _ hwp b k cs
theorem RL.e {ops : Array Oper} {o : Oper} {l : List Oper} {v : Value} (h : EV P F I O o v) (hw : wantedF ops o F = some true) (hd : dstOk n o.dst = true) (k : RL P n ops Q l (F.put o.dst v) I O) : RL P n ops Q (o :: l) F I O := fun i hl hs a w ha hS b kk cs => by
  obtain ⟨ho, hl'⟩ := drop_at hl
  rw [List.length_cons] at hs
  obtain ⟨e, a', w', hq, harr⟩ := k (i + 1) hl' (by omega) (a.put o.dst v) w (ha.put' hd v) hS b kk cs
  have hr := h a.eval (fun x u e => ha.eval e) w hS.knows
  have hg := stepG_op (P := P) (b := b) (a := a) (k := kk) (cs := cs) (w := w) (rest := List.range' (i + 1) l.length) ho (wantedF_spec ha hw)
  refine ⟨e, a', w', hq, .of_steps (.one (step_lone_go ?_)) harr⟩
  rw [List.length_cons, List.range'_succ, hg]
  have hfin : (b.at a (.inRegion ops (i :: List.range' (i + 1) l.length) :: kk)).finish v = b.at (a.put o.dst v) (.inRegion ops (List.range' (i + 1) l.length) :: kk) := by rw [Frame.finish_at, ho]; rfl
  rw [← hfin]
  simp [stepG.apply, hr]
theorem RL.send {ops : Array Oper} {l : List Oper} {ty : TypeId} {pos : String} {af : Array Edge} {x y : Operand} {c cap s r : Nat} {buf : Array Value} {tm : Bool} {v : Value} {O' : Own}
    (hx : F.op x = some (.chan (some c))) (hy : F.op y = some v) (hu : Upd O c (.chan cap buf false s r tm) (.chan cap (buf.push v) false (s + 1) r tm) O') (hr : buf.size < cap) (k : RL P n ops Q l F I O') :
    RL P n ops Q (⟨none, .send x y, ty, pos, af, none⟩ :: l) F I O := fun i hl hs a w ha hS b kk cs => by
  obtain ⟨ho, hl'⟩ := drop_at hl
  rw [List.length_cons] at hs
  have hb := hS.own _ _ hu.has
  have hlt := (Array.getElem?_eq_some_iff.1 hb).1
  have hS' : Sat (w.setChan c cap (buf.push v) false (s + 1) r tm) I O' := hS.upd hu (by simp [World.setChan, hlt]) (fun q hq => by simp [World.setChan, Array.getElem?_setIfInBounds_ne (Ne.symm hq)]) rfl
  obtain ⟨e, a', w', hq, harr⟩ := k (i + 1) hl' (by omega) a _ ha hS' b kk cs
  have hrun : (execOp a.eval ⟨none, .send x y, ty, pos, af, none⟩).run P w = .ok (.comm #[scase c v (.tuple #[])] true .send) w := by
    simp only [execOp, ha.eval hx, ha.eval hy]
    rfl
  obtain ⟨es, hc⟩ := comm_at (b := b) (k := kk) (cs := cs) (rest := List.range' (i + 1) l.length) ho (by rfl) hrun
  have hst := step_lone_send_room hc hb hr
  refine ⟨e, a', w', hq, .of_steps (.one ?_) harr⟩
  rw [List.length_cons, List.range'_succ]
  have hfin : (b.at a (.inRegion ops (i :: List.range' (i + 1) l.length) :: kk)).finish undef = b.at a (.inRegion ops (List.range' (i + 1) l.length) :: kk) := by rw [Frame.finish_at, ho]; rfl
  rw [hfin] at hst
  exact hst
/-- A select of one receive, with a default, over a channel that is open. -/
theorem WC.selectRecv {id : Nat} {ops : Array Oper} {rest : List Oper} {d : Option Tmp} {ty : TypeId} {pos : String} {af : Array Edge} {x : Operand} {e c cap s r : Nat} {buf : List Value} {tm : Bool} {z : Value} {O' : Own}
    (ho : ops.toList = ⟨d, .select #[⟨x, none, e⟩] false, ty, pos, af, none⟩ :: rest) (hd : dstOk n d = true) (hz : zvOf P e = some z) (hx : F.op x = some (.chan (some c)))
    (hu : Upd O c (.chan cap ⟨buf⟩ false s r tm) (.chan cap ⟨buf.tail⟩ false s (r + 1) tm) O')
    (h1 : ∀ v l, buf = v :: l → WL P n ops Q rest (F.put d (.tuple #[.int .i64 0, .bool true, v])) I O') (h0 : buf = [] → WL P n ops Q rest (F.put d (.tuple #[.int .i64 (-1), .bool false, z])) I O) :
    WC P n (.region id ops false) Q F I O := by
  refine WC.commFirst ho rfl hd fun a w ha hs => ?_
  have hop : ops[0]? = some ⟨d, .select #[⟨x, none, e⟩] false, ty, pos, af, none⟩ := by rw [← Array.getElem?_toList, ho]; rfl
  have hrun : (execOp a.eval ⟨d, .select #[⟨x, none, e⟩] false, ty, pos, af, none⟩).run P w = .ok (.comm #[rcase c z] false .select) w := by
    simp only [execOp]
    rw [Sem.run_bind]
    have : (Array.mapM (m := Sem) (fun s : SelectCase => do pure { chan := a.eval s.chan, send := s.send.map a.eval, zero := ← zeroValue s.elem : CommCase }) #[⟨x, none, e⟩]).run P w = .ok #[rcase c z] w := by
      rw [Array.mapM_eq_mapM_toList, Sem.run_map]
      simp [List.mapM_cons, Sem.run_bind, run_zeroValue hz, ha.eval hx, rcase]
    rw [this]
    rfl
  have hb := hs.own _ _ hu.has
  have hlt := (Array.getElem?_eq_some_iff.1 hb).1
  cases hbuf : buf with
  | nil =>
    subst hbuf
    refine ⟨_, w, I, O, fun b k cs l => ?_, hs, h0 rfl⟩
    obtain ⟨es, hc⟩ := comm_at (b := b) (k := k) (cs := cs) (rest := l) hop (by rfl) hrun
    exact step_lone_select_default hc hb
  | cons v l =>
    subst hbuf
    refine ⟨_, w.setChan c cap ⟨l⟩ false s (r + 1) tm, I, O', fun b k cs l' => ?_, ?_, h1 v l rfl⟩
    · obtain ⟨es, hc⟩ := comm_at (b := b) (k := k) (cs := cs) (rest := l') hop (by rfl) hrun
      have := step_lone_select_recv_buf hc hb (by simp)
      simp at this
      exact this
    · exact hs.upd hu (by simp [World.setChan, hlt]) (fun q hq => by simp [World.setChan, Array.getElem?_setIfInBounds_ne (Ne.symm hq)]) rfl
end Go.Sy
