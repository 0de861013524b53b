/- Regions that draw their order; calls without a trace; loops by a state; slices that are read. Nothing of the program stands here. -/
import Derived.Test.YtjoaccnfnniahaaSyC
namespace Go.Sy
set_option linter.unusedSimpArgs false
set_option linter.unusedVariables false

/-- A call that yields v and leaves all that was known as it was. -/
def Pure (P : Program) (f : FuncId) (vs : List Value) (I : Imm) (O : Own) (v : Value) : Prop := Does P f vs I O fun u I' O' => u = v ∧ I' = I ∧ O' = O

section
variable {P : Program} {n : Nat} {Q : Exit → Act → World → Prop} {F : Fr} {I : Imm} {O : Own}

theorem WOp.callP {f : FuncId} {x : Operand} {xs : Array Operand} {ats : Array TypeId} {us vs : List Value} {v : Value} {d : Option Tmp} {ty : TypeId} {pos : String} {af : Array Edge} {g : Option (Nat × Bool)} {K : Fr → Imm → Own → Prop}
    (hc : callee P f = true) (hx : F.op x = some (.func (.func f) #[] ⟨us⟩)) (hs : F.ops xs.toList = some vs) (hd : dstOk n d = true) (h : Pure P f (vs ++ us) I O v) (k : K (F.put d v) I O) :
    WOp P n Q ⟨d, .call ⟨.value x, xs, ats⟩, ty, pos, af, g⟩ F I O K :=
  .call hc hx hs hd h fun _ _ _ _ ⟨h1, h2, h3⟩ => by subst h1 h2 h3; exact k

/-! short words for the walks -/
theorem WL.e {ops : Array Oper} {o : Oper} {l : List Oper} {v : Value} (h : EV P F I O o v) (hw : wantedF ops o F = some true) (hd : dstOk n o.dst = true) (k : WL P n ops Q l (F.put o.dst v) I O) :
    WL P n ops Q (o :: l) F I O := .on hw (.ev h hd k)
theorem Post.retE {fn : Func} {u v : Value} {t : Nat} (hr : fn.results = #[.tmp t]) (hv : F.get t = some u) (h : u = v) : WN n (Post P fn I fun u I' O' => u = v ∧ I' = I ∧ O' = O) .ret F I O :=
  .ret1 hr hv (Imm.le_refl I) ⟨h, rfl, rfl⟩
theorem Post.retsE {fn : Func} {rs : List ResultVar} {vs : List Value} {u v : Value} {O1 : Own} (hr : fn.results = ⟨rs⟩) (hv : ResV P F I O rs vs) (hl : (if h : vs.length = 1 then vs[0] else .tuple ⟨vs⟩) = u) (hO : ∀ w, Sat w I O → Sat w I O1) (h : u = v) :
    WN n (Post P fn I fun u I' O' => u = v ∧ I' = I ∧ O' = O1) .ret F I O := fun a w ha hw => by
  have := Post.ret (n := n) (I0 := I) (K := fun u I' O' => u = v) hr hv hl (Imm.le_refl I) h a w ha hw
  obtain ⟨h1, x, h2, _⟩ := this
  have h3 := Post.ret (n := n) (I0 := I) (K := fun u I' O' => u = v) hr hv hl (Imm.le_refl I) h a w ha hw
  refine ⟨h1, ?_⟩
  obtain ⟨_, y, g1, v', I', O', g2, g3, g4, g5⟩ := h3
  cases g2
  exact ⟨_, g1, _, I, O1, rfl, Imm.le_refl I, hO w hw, g5, rfl, rfl⟩
theorem Post.retP {fn : Func} {v : Value} {t : Nat} (hr : fn.results = #[.tmp t]) (hv : F.get t = some v) : WN n (Post P fn I fun u I' O' => u = v ∧ I' = I ∧ O' = O) .ret F I O :=
  .ret1 hr hv (Imm.le_refl I) ⟨rfl, rfl, rfl⟩

/-! ### a region that draws its order -/
def Bs (B O : Own) : Prop := ∀ x, x ∈ B → x ∈ O
theorem Bs.nil {O : Own} : Bs [] O := fun _ h => by cases h
theorem Bs.cons {B O : Own} {b : Nat} {o : Obj} (h : Has O b o) (hB : Bs B O) : Bs ((b, o) :: B) O := fun x hx => by
  rcases List.mem_cons.1 hx with rfl | hx
  · exact h
  · exact hB x hx
def Held (I : Imm) (B : Own) (w : World) : Prop := Knows w I B
/-- The last operation, a store that waits for each other one. -/
def lateOp (ops : Array Oper) (j : Nat) : Bool := decide (j + 1 = ops.size) && (match ops[j]? with
  | some o => (match o.op with | .store .. => true | _ => false) && (List.range j).all fun i => o.after.any fun e => Region.binds .any e && e.on == i
  | none => false)
theorem lateOp_spec {ops : Array Oper} {j : Nat} (h : lateOp ops j = true) : j + 1 = ops.size ∧ ∃ o, ops[j]? = some o ∧ ∀ i, i < j → ∃ e ∈ o.after, Region.binds .any e = true ∧ e.on = i := by
  unfold lateOp at h
  rw [Bool.and_eq_true, decide_eq_true_eq] at h
  refine ⟨h.1, ?_⟩
  have h2 := h.2
  split at h2
  · rename_i o ho
    rw [Bool.and_eq_true, List.all_eq_true] at h2
    refine ⟨o, ho, fun i hi => ?_⟩
    have h3 := h2.2 i (List.mem_range.2 hi)
    rw [Array.any_eq_true'] at h3
    obtain ⟨e, he, h4⟩ := h3
    rw [Bool.and_eq_true, beq_iff_eq] at h4
    exact ⟨e, he, h4⟩
  · cases h2
/-- Whatever order is picked from here on, and S holds behind every operation that is carried out but the late one. -/
def wpAnyK (P : Program) (ops : Array Oper) (Q : Exit → Act → World → Prop) (S : World → Prop) : Nat → Array Bool → Act → World → Prop
  | 0, listed, a, w => Region.ready .any ops listed = [] ∧ Q .normal a w
  | fuel + 1, listed, a, w =>
    (Region.ready .any ops listed = [] → Q .normal a w) ∧
    ∀ i ∈ Region.ready .any ops listed, wpOp P ops Q i (fun a' w' => (lateOp ops i = false → S w') ∧ wpAnyK P ops Q S fuel (listed.setIfInBounds i true) a' w') a w
theorem wpAny_of_k {ops : Array Oper} {S : World → Prop} : ∀ (fuel : Nat) (listed : Array Bool) (a : Act) (w : World), wpAnyK P ops Q S fuel listed a w → wpAny P .any ops Q fuel listed a w
  | 0, _, _, _, h => h
  | fuel + 1, _, _, _, h => ⟨h.1, fun i hi => wpOp_mono (fun a' w' h' => wpAny_of_k fuel _ a' w' h'.2) (h.2 i hi)⟩
theorem wpAnyK_first {ops : Array Oper} {S : World → Prop} {i : Nat} {oi : Oper} {v : Value} (hi : ops[i]? = some oi) (hsel : ∀ (j : Nat) (o : Oper) cs b, ops[j]? = some o → o.op ≠ .select cs b)
    (hQ : ∀ c a w, Q (.panic c) (a.put oi.dst v) w → Q (.panic c) a w) : ∀ (fuel : Nat) (listed : Array Bool) (a : Act) (w : World),
      (∀ j oj, ops[j]? = some oj → j ≠ i → listed.getD j true = false → (∀ e ∈ oj.after, Region.binds .any e = true → e.on ≠ i) → oi.apart ops oj = true) →
      i ∈ Region.ready .any ops listed → YieldsIf P ops S oi v a → S w → wpAnyK P ops Q S fuel (listed.setIfInBounds i true) (a.put oi.dst v) w → wpAnyK P ops Q S (fuel + 1) listed a w := by
  intro fuel
  induction fuel with
  | zero =>
    intro listed a w _ hr hy hS H
    refine ⟨fun h => (by rw [h] at hr; cases hr), fun j hj => ?_⟩
    by_cases hji : j = i
    · subst hji; exact hy.wpOp hi hS ⟨fun _ => hS, H⟩
    · have := ready_mono hj hji
      rw [H.1] at this; cases this
  | succ fuel ih =>
    intro listed a w hfree hr hy hS H
    refine ⟨fun h => (by rw [h] at hr; cases hr), fun j hj => ?_⟩
    by_cases hji : j = i
    · subst hji; exact hy.wpOp hi hS ⟨fun _ => hS, H⟩
    · have h1 := H.2 j (ready_mono hj hji)
      obtain ⟨hjun, oj, hoj, hall⟩ := mem_ready.1 hj
      have hnot : ∀ e ∈ oj.after, Region.binds .any e = true → e.on ≠ i := fun e he hb heq => by
        have h1 := hall e he hb
        have h0 := (mem_ready.1 hr).1
        rw [heq] at h1
        rcases Nat.lt_or_ge i listed.size with h' | h'
        · simp [h'] at h0 h1; rw [h0] at h1; cases h1
        · simp [Array.getElem?_eq_none h'] at h1
      have hlate : lateOp ops j = false := Bool.eq_false_iff.2 fun hl => by
        obtain ⟨h3, o, ho, h4⟩ := lateOp_spec hl
        rw [hoj] at ho; cases ho
        have h5 := (Array.getElem?_eq_some_iff.1 hi).1
        obtain ⟨e, he, hb, heq⟩ := h4 i (by omega)
        exact hnot e he hb heq
      have h2 := wpOp_putIf hoj (hfree j oj hoj hji hjun hnot) (fun cs b => hsel i oi cs b hi) (fun cs b => hsel j oj cs b hoj) hQ hy h1
      have hfree' : ∀ k ok, ops[k]? = some ok → k ≠ i → (listed.setIfInBounds j true).getD k true = false → (∀ e ∈ ok.after, Region.binds .any e = true → e.on ≠ i) → oi.apart ops ok = true := fun k ok hk hki hun hno => by
        refine hfree k ok hk hki ?_ hno
        by_cases hjk : j = k
        · subst hjk; exact hjun
        · rw [getD_set_ne true hjk] at hun; exact hun
      refine wpOp_mono (fun a' w' h3 => ⟨h3.2.1, ih (listed.setIfInBounds j true) a' w' hfree' (ready_mono hr (Ne.symm hji)) h3.1 (h3.2.1 hlate) ?_⟩) h2
      rw [Array.setIfInBounds_comm _ _ hji]
      exact h3.2.2
theorem wpAnyK_take {ops : Array Oper} {S : World → Prop} {i : Nat} {oi : Oper} {v : Value} {fuel : Nat} {listed : Array Bool} {a : Act} {w : World} (hi : ops[i]? = some oi)
    (hs : Region.noSelect ops = true) (hf : Region.free .any ops listed i = true) (hr : (Region.ready .any ops listed).contains i = true)
    (hQ : ∀ c a w, Q (.panic c) (a.put oi.dst v) w → Q (.panic c) a w) (hy : YieldsIf P ops S oi v a) (hS : S w)
    (h : wpAnyK P ops Q S fuel (listed.setIfInBounds i true) (a.put oi.dst v) w) : wpAnyK P ops Q S (fuel + 1) listed a w :=
  wpAnyK_first hi (Region.noSelect_spec hs) hQ fuel listed a w (Region.free_spec hi hf) (by simpa using hr) hy hS h
theorem wpAnyK_all {ops : Array Oper} {S : World → Prop} {rs : List Nat} {fuel : Nat} {listed : Array Bool} {a : Act} {w : World} (hr : Region.ready .any ops listed = rs) (hne : rs ≠ [])
    (h : ∀ i ∈ rs, wpOp P ops Q i (fun a' w' => (lateOp ops i = false → S w') ∧ wpAnyK P ops Q S fuel (listed.setIfInBounds i true) a' w') a w) : wpAnyK P ops Q S (fuel + 1) listed a w :=
  ⟨fun h0 => absurd (hr ▸ h0) hne, hr ▸ h⟩
theorem wpAnyK_done {ops : Array Oper} {S : World → Prop} {listed : Array Bool} {a : Act} {w : World} (hr : Region.ready .any ops listed = []) (h : Q .normal a w) : ∀ fuel, wpAnyK P ops Q S fuel listed a w
  | 0 => ⟨hr, h⟩
  | _ + 1 => ⟨fun _ => h, by rw [hr]; simp⟩
def WA (P : Program) (n : Nat) (ops : Array Oper) (Q : Exit → Act → World → Prop) (J : Imm) (B : Own) (k : Nat) (listed : Array Bool) (F : Fr) (I : Imm) (O : Own) : Prop :=
  ∀ a w, Ok n F a → Sat w I O → Held J B w → wpAnyK P ops Q (Held J B) k listed a w
/-- The blocks B (and what never turns) stay as they are while the region runs. -/
theorem WC.draw {id : Nat} {ops : Array Oper} (B : Own) (hm : P.follows .mixedOrders = true) (hB : Bs B O)
    (h : WA P n ops Q I B ops.size (Array.replicate ops.size false) F I O) : WC P n (.region id ops true) Q F I O := fun a w ha hw =>
  wp_region_any hm (wpAny_of_k _ _ _ _ (h a _ ha (hw.same rfl) ⟨hw.imm, fun b q hm => hw.own b q (hB _ hm)⟩))
theorem WA.take {ops : Array Oper} {J : Imm} {B : Own} {k i : Nat} {listed : Array Bool} {o : Oper} {v : Value} (ho : ops[i]? = some o) (h : EV P F J B o v) (hw : wantedF ops o F = some true) (hd : dstOk n o.dst = true)
    (hs : Region.noSelect ops = true) (hf : Region.free .any ops listed i = true) (hr : (Region.ready .any ops listed).contains i = true)
    (hQ : ∀ c a w, Q (.panic c) (a.put o.dst v) w → Q (.panic c) a w) (kk : WA P n ops Q J B k (listed.setIfInBounds i true) (F.put o.dst v) I O) : WA P n ops Q J B (k + 1) listed F I O := fun a w ha hs' hk =>
  wpAnyK_take ho hs hf hr hQ (.inl ⟨wantedF_spec ha hw, fun w' hw' => h a.eval (fun x u e => ha.eval e) w' hw'⟩) hk (kk _ _ (ha.put' hd v) hs' hk)
theorem WA.skip {ops : Array Oper} {J : Imm} {B : Own} {k i : Nat} {listed : Array Bool} {o : Oper} (ho : ops[i]? = some o) (hw : wantedF ops o F = some false) (hd : dstOk n o.dst = true)
    (hs : Region.noSelect ops = true) (hf : Region.free .any ops listed i = true) (hr : (Region.ready .any ops listed).contains i = true)
    (hQ : ∀ c a w, Q (.panic c) (a.put o.dst undef) w → Q (.panic c) a w) (kk : WA P n ops Q J B k (listed.setIfInBounds i true) (F.put o.dst undef) I O) : WA P n ops Q J B (k + 1) listed F I O := fun a w ha hs' hk =>
  wpAnyK_take ho hs hf hr hQ (.inr ⟨wantedF_spec ha hw, rfl⟩) hk (kk _ _ (ha.put' hd undef) hs' hk)
/-- What is said of a panic does not hang on the frame. -/
class QOk (Q : Exit → Act → World → Prop) : Prop where
  h : ∀ c a d v w, Q (.panic c) (Act.put a d v) w → Q (.panic c) a w
instance {K : Act → World → Prop} [h : QOk Q] : QOk (Exit.then K Q) := ⟨fun c a d v w hq => h.h c a d v w hq⟩
instance {i : Nat} [h : QOk Q] : QOk (Exit.inBlock i Q) := ⟨fun c a d v w hq => h.h c a d v w hq⟩
instance [h : QOk Q] : QOk (Exit.noGoto Q) := ⟨fun c a d v w hq => h.h c a d v w hq⟩
instance {fn : Func} {K : Value → Imm → Own → Prop} : QOk (Post P fn I K) := ⟨fun c a d v w hq => by
  obtain ⟨h1, h2⟩ := hq
  refine ⟨?_, h2⟩
  cases d <;> exact h1⟩
def chk (ops : Array Oper) (listed : Array Bool) (i : Nat) : Bool := Region.noSelect ops && (Region.free .any ops listed i && (Region.ready .any ops listed).contains i)
theorem WA.t {ops : Array Oper} {J : Imm} {B : Own} {k : Nat} {listed : Array Bool} {o : Oper} {v : Value} [hq : QOk Q] (i : Nat) (ho : ops[i]? = some o) (h : EV P F J B o v) (hw : wantedF ops o F = some true) (hd : dstOk n o.dst = true)
    (hc : chk ops listed i = true) (kk : WA P n ops Q J B k (listed.setIfInBounds i true) (F.put o.dst v) I O) : WA P n ops Q J B (k + 1) listed F I O := by
  unfold chk at hc
  simp only [Bool.and_eq_true] at hc
  exact .take ho h hw hd hc.1 hc.2.1 hc.2.2 (fun c a w hx => hq.h c a _ _ w hx) kk
theorem WA.s {ops : Array Oper} {J : Imm} {B : Own} {k : Nat} {listed : Array Bool} {o : Oper} [hq : QOk Q] (i : Nat) (ho : ops[i]? = some o) (hw : wantedF ops o F = some false) (hd : dstOk n o.dst = true)
    (hc : chk ops listed i = true) (kk : WA P n ops Q J B k (listed.setIfInBounds i true) (F.put o.dst undef) I O) : WA P n ops Q J B (k + 1) listed F I O := by
  unfold chk at hc
  simp only [Bool.and_eq_true] at hc
  exact .skip ho hw hd hc.1 hc.2.1 hc.2.2 (fun c a w hx => hq.h c a _ _ w hx) kk
/-- Whichever comes up next: each of them. -/
def WAs (P : Program) (n : Nat) (ops : Array Oper) (Q : Exit → Act → World → Prop) (J : Imm) (B : Own) (k : Nat) (listed : Array Bool) (F : Fr) (I : Imm) (O : Own) : List Nat → Prop
  | [] => True
  | i :: r => (∃ o, ops[i]? = some o ∧ ((wantedF ops o F = some true ∧ WOp P n Q o F I O (fun F' I' O' => Bs B O' ∧ J.le I' ∧ WA P n ops Q J B k (listed.setIfInBounds i true) F' I' O')) ∨
      (wantedF ops o F = some false ∧ dstOk n o.dst = true ∧ WA P n ops Q J B k (listed.setIfInBounds i true) (F.put o.dst undef) I O))) ∧ WAs P n ops Q J B k listed F I O r
theorem WAs.mem {ops : Array Oper} {J : Imm} {B : Own} {k : Nat} {listed : Array Bool} : ∀ {rs : List Nat}, WAs P n ops Q J B k listed F I O rs → ∀ i ∈ rs,
    ∃ o, ops[i]? = some o ∧ ((wantedF ops o F = some true ∧ WOp P n Q o F I O (fun F' I' O' => Bs B O' ∧ J.le I' ∧ WA P n ops Q J B k (listed.setIfInBounds i true) F' I' O')) ∨
      (wantedF ops o F = some false ∧ dstOk n o.dst = true ∧ WA P n ops Q J B k (listed.setIfInBounds i true) (F.put o.dst undef) I O))
  | [], _, i, hi => by cases hi
  | j :: r, h, i, hi => by
    rcases List.mem_cons.1 hi with rfl | hi
    · exact h.1
    · exact WAs.mem h.2 i hi
theorem WA.all {ops : Array Oper} {J : Imm} {B : Own} {k : Nat} {listed : Array Bool} {rs : List Nat} (hr : Region.ready .any ops listed = rs) (hne : rs ≠ []) (h : WAs P n ops Q J B k listed F I O rs) :
    WA P n ops Q J B (k + 1) listed F I O := fun a w ha hs hk => by
  refine wpAnyK_all hr hne fun i hi => ?_
  obtain ⟨o, ho, h⟩ := h.mem i hi
  unfold wpOp
  rw [ho]
  simp only
  rcases h with ⟨hw, h⟩ | ⟨hw, hd, h⟩
  · rw [if_pos (wantedF_spec ha hw)]
    refine .inl (Oper.wp_mono ?_ (h a w ha hs))
    rintro a' w' ⟨F', I', O', h1, h2, h3, h4, h5, h6⟩
    have hk' : Held J B w' := ⟨fun b q e => h3.imm b q (h5.row b q e), fun b q hm => h3.own b q (h4 _ hm)⟩
    exact ⟨fun _ => hk', h6 a' w' h1 h3 hk'⟩
  · rw [if_neg (by rw [wantedF_spec ha hw]; simp)]
    exact ⟨fun _ => hk, h _ _ (ha.put' hd undef) hs hk⟩
theorem WA.one {ops : Array Oper} {J : Imm} {B : Own} {k i : Nat} {listed : Array Bool} {o : Oper} (hr : Region.ready .any ops listed = [i]) (ho : ops[i]? = some o) (hw : wantedF ops o F = some true)
    (h : WOp P n Q o F I O (fun F' I' O' => Bs B O' ∧ J.le I' ∧ WA P n ops Q J B k (listed.setIfInBounds i true) F' I' O')) : WA P n ops Q J B (k + 1) listed F I O :=
  .all hr (by simp) ⟨⟨o, ho, .inl ⟨hw, h⟩⟩, trivial⟩
theorem WA.none_ {ops : Array Oper} {J : Imm} {B : Own} {k i : Nat} {listed : Array Bool} {o : Oper} (hr : Region.ready .any ops listed = [i]) (ho : ops[i]? = some o) (hw : wantedF ops o F = some false) (hd : dstOk n o.dst = true)
    (h : WA P n ops Q J B k (listed.setIfInBounds i true) (F.put o.dst undef) I O) : WA P n ops Q J B (k + 1) listed F I O :=
  .all hr (by simp) ⟨⟨o, ho, .inr ⟨hw, hd, h⟩⟩, trivial⟩
theorem WA.done {ops : Array Oper} {J : Imm} {B : Own} {k : Nat} {listed : Array Bool} (hr : Region.ready .any ops listed = []) (h : WN n Q .normal F I O) : WA P n ops Q J B k listed F I O := fun a w ha hs hk =>
  wpAnyK_done hr (h a w ha hs) k
/-- The late one, behind all others. -/
theorem WA.late {ops : Array Oper} {J : Imm} {B : Own} {k i : Nat} {listed : Array Bool} {o : Oper} (hr : Region.ready .any ops listed = [i]) (hl : lateOp ops i = true) (he : Region.ready .any ops (listed.setIfInBounds i true) = []) (ho : ops[i]? = some o) (hw : wantedF ops o F = some true)
    (h : WOp P n Q o F I O (fun F' I' O' => WN n Q .normal F' I' O')) : WA P n ops Q J B (k + 1) listed F I O := fun a w ha hs hk => by
  refine wpAnyK_all hr (by simp) fun j hj => ?_
  obtain rfl := List.mem_singleton.1 hj
  unfold wpOp
  rw [ho]
  simp only
  rw [if_pos (wantedF_spec ha hw)]
  refine .inl (Oper.wp_mono ?_ (h a w ha hs))
  rintro a' w' ⟨F', I', O', h1, h2, h3, h4⟩
  exact ⟨fun hc => absurd hl (by rw [hc]; simp), wpAnyK_done he (h4 a' w' h1 h3) k⟩
theorem WA.split {ops : Array Oper} {J : Imm} {B : Own} {k : Nat} {listed : Array Bool} (t : Nat) {c : Bool} (hc : F.get t = some (.bool c)) (h1 : c = true → WA P n ops Q J B k listed ((t, .bool true) :: F) I O)
    (h0 : c = false → WA P n ops Q J B k listed ((t, .bool false) :: F) I O) : WA P n ops Q J B k listed F I O := fun a w ha hs hk => by
  have up : ∀ b, c = b → Ok n ((t, .bool b) :: F) a := fun b e => ⟨ha.defers, ha.size, fun s v hv => by
    unfold Fr.get at hv
    by_cases hts : t = s
    · subst hts; simp at hv; subst hv; rw [← e]; exact ha.get _ _ hc
    · have : Nat.beq t s = false := Bool.eq_false_iff.2 fun h => hts (Nat.eq_of_beq_eq_true h)
      rw [this] at hv
      exact ha.get _ _ hv⟩
  cases hcc : c
  · exact h0 hcc a w (up _ hcc) hs hk
  · exact h1 hcc a w (up _ hcc) hs hk

/-! ### states in the middle: loops, and where ways meet -/
def Fr.del (ms : List Nat) : Fr → Fr
  | [] => []
  | (s, v) :: r => bif ms.any (Nat.beq s) then Fr.del ms r else (s, v) :: Fr.del ms r
theorem Fr.del_get {ms : List Nat} : ∀ {F : Fr} {t : Nat} {v : Value}, (F.del ms).get t = some v → ms.any (Nat.beq t) = false ∧ F.get t = some v
  | [], t, v, h => by simp [Fr.del, Fr.get] at h
  | (s, u) :: r, t, v, h => by
    unfold Fr.del at h
    cases hs : ms.any (Nat.beq s) with
    | true =>
      rw [hs] at h
      obtain ⟨h1, h2⟩ := Fr.del_get (F := r) h
      refine ⟨h1, ?_⟩
      unfold Fr.get
      have : Nat.beq s t = false := Bool.eq_false_iff.2 fun e => by
        rw [Nat.eq_of_beq_eq_true e] at hs
        rw [hs] at h1; cases h1
      rw [this]; exact h2
    | false =>
      rw [hs] at h
      simp only [cond_false] at h
      unfold Fr.get at h ⊢
      cases e : Nat.beq s t with
      | true => rw [e] at h; rw [← Nat.eq_of_beq_eq_true e]; exact ⟨hs, by simpa using h⟩
      | false => rw [e] at h; exact Fr.del_get (F := r) h
theorem Fr.app_get {A B : Fr} {t : Nat} {v : Value} (h : (A ++ B).get t = some v) : A.get t = some v ∨ (A.get t = none ∧ B.get t = some v) := by
  induction A with
  | nil => exact .inr ⟨rfl, h⟩
  | cons x r ih =>
    obtain ⟨s, u⟩ := x
    rw [List.cons_append] at h
    simp only [Fr.get] at h ⊢
    cases e : Nat.beq s t with
    | true => rw [e] at h; exact .inl h
    | false => rw [e] at h; exact ih h
/-- The first k entries lie among ms; behind them the frame is B. -/
theorem Fr.ext_get {ms : List Nat} {B : Fr} : ∀ {k : Nat} {F : Fr}, (F.take k).all (fun e => ms.any (Nat.beq e.1)) = true → F.drop k = B → ∀ {t : Nat} {v : Value}, ms.any (Nat.beq t) = false → B.get t = some v → F.get t = some v
  | 0, F, _, hb, t, v, _, h => by simp at hb; rw [hb]; exact h
  | k + 1, [], _, hb, t, v, _, h => by simp at hb; subst hb; exact h
  | k + 1, (s, u) :: r, ha, hb, t, v, hm, h => by
    simp only [List.take_succ_cons, List.all_cons, Bool.and_eq_true] at ha
    unfold Fr.get
    have : Nat.beq s t = false := Bool.eq_false_iff.2 fun e => by
      rw [Nat.eq_of_beq_eq_true e] at ha
      rw [ha.1] at hm; cases hm
    rw [this]
    exact Fr.ext_get ha.2 (by simpa using hb) hm h
def Keeps (ms : List Nat) (B F : Fr) : Prop := ∀ t v, ms.any (Nat.beq t) = false → B.get t = some v → F.get t = some v
theorem any_sub {ms ms' : List Nat} (h : ms'.all (fun s => ms.any (Nat.beq s)) = true) {t : Nat} (ht : ms.any (Nat.beq t) = false) : ms'.any (Nat.beq t) = false := by
  rw [Bool.eq_false_iff] at ht ⊢
  intro h1
  obtain ⟨s, hs, he⟩ := List.any_eq_true.1 h1
  have : t = s := Nat.eq_of_beq_eq_true he
  subst this
  exact ht (List.all_eq_true.1 h t hs)
theorem Fr.get_del {ms : List Nat} : ∀ {F : Fr} {t : Nat} {v : Value}, ms.any (Nat.beq t) = false → F.get t = some v → (F.del ms).get t = some v
  | [], t, v, _, h => by simp [Fr.get] at h
  | (s, u) :: r, t, v, hm, h => by
    unfold Fr.get at h
    unfold Fr.del
    cases e : Nat.beq s t with
    | true =>
      rw [e] at h
      rw [Nat.eq_of_beq_eq_true e, hm]
      simp only [cond_false, Fr.get, Nat.beq_refl, cond_true]
      simpa using h
    | false =>
      rw [e] at h
      cases hs : ms.any (Nat.beq s) with
      | true => exact Fr.get_del hm h
      | false =>
        simp only [cond_false, Fr.get, e]
        exact Fr.get_del hm h
theorem Keeps.base {ms : List Nat} {B : Fr} : Keeps ms B (B.del ms) := fun t v hm h => Fr.get_del hm h
theorem Keeps.pre {ms : List Nat} {B F : Fr} (k : Nat) (hk : (F.take k).all (fun e => ms.any (Nat.beq e.1)) = true) (h : Keeps ms B (F.drop k)) : Keeps ms B F := fun t v hm hb =>
  Fr.ext_get hk rfl hm (h t v hm hb)
theorem Keeps.app {ms : List Nat} {B G F : Fr} (hG : G.all (fun e => ms.any (Nat.beq e.1)) = true) (h : Keeps ms B F) : Keeps ms B (G ++ F) := fun t v hm hb =>
  Fr.ext_get (k := G.length) (by simpa using hG) (by simp) hm (h t v hm hb)
theorem Keeps.del {ms ms' : List Nat} {B F : Fr} (hs : ms'.all (fun s => ms.any (Nat.beq s)) = true) (h : Keeps ms B F) : Keeps ms B (F.del ms') := fun t v hm hb =>
  Fr.get_del (any_sub hs hm) (h t v hm hb)
def Mid {σ : Type} (n : Nat) (inv : σ → Prop) (GG : σ → Fr) (II : σ → Imm) (OO : σ → Own) (B : Fr) (a : Act) (w : World) : Prop :=
  ∃ s, inv s ∧ Ok n (GG s ++ B) a ∧ Sat w (II s) (OO s)
theorem Ok.mid {ms : List Nat} {G B F' : Fr} {a : Act} (ha : Ok n F' a) (hG : F'.subOf G) (hb : Keeps ms B F') : Ok n (G ++ B.del ms) a := ha.mono fun t v h => by
  rcases Fr.app_get h with h | ⟨_, h⟩
  · exact Fr.sub_get hG t v h
  · obtain ⟨hm, h⟩ := Fr.del_get h
    exact hb t v hm h
theorem WC.loopM {σ : Type} {c : Code} (ms : List Nat) (μ : σ → Nat) (inv : σ → Prop) (GG : σ → Fr) (II : σ → Imm) (OO : σ → Own) (s0 : σ) (h0 : inv s0) (hF : F.subOf (GG s0)) (hI : II s0 = I) (hO : OO s0 = O)
    (round : ∀ s, inv s → WC P n c (Exit.then (Mid n (fun s' => μ s' < μ s ∧ inv s') GG II OO (F.del ms)) Q) (GG s ++ F.del ms) (II s) (OO s)) : WC P n (.loop c) Q F I O := fun a w ha hw => by
  have h1 : Ok n (GG s0 ++ F.del ms) a := ha.mono fun t v h => by
    rcases Fr.app_get h with h | ⟨_, h⟩
    · exact Fr.sub_get hF t v h
    · exact (Fr.del_get h).2
  subst hI hO
  refine WC.loop (fun k F' I O => ∃ s, k = μ s ∧ inv s ∧ F' = GG s ++ F.del ms ∧ I = II s ∧ O = OO s) (μ s0) ⟨s0, rfl, h0, rfl, rfl, rfl⟩ ?_ a w h1 hw
  rintro k F' I O ⟨s, rfl, hi, rfl, rfl, rfl⟩ a w ha hw
  exact wp_mono (round s hi a w ha hw) fun e a w h => by
    cases e <;> first | exact h | (obtain ⟨s', ⟨h1, h2⟩, h3, h4⟩ := h; exact ⟨μ s', _, _, _, h1, ⟨s', rfl, h2, rfl, rfl, rfl⟩, h3, h4⟩)
/-- The ways through x meet again. -/
theorem WC.meet {σ : Type} {x y : Code} (ms : List Nat) (inv : σ → Prop) (GG : σ → Fr) (II : σ → Imm) (OO : σ → Own) (hx : WC P n x (Exit.then (Mid n inv GG II OO (F.del ms)) Q) F I O)
    (hy : ∀ s, inv s → WC P n y Q (GG s ++ F.del ms) (II s) (OO s)) : WC P n (.seq x y) Q F I O := .seq fun a w ha hw =>
  wp_mono (hx a w ha hw) fun e a w h => by
    cases e <;> first | exact h | (obtain ⟨s, h1, h2, h3⟩ := h; exact hy s h1 a w h2 h3)
theorem WN.mid {σ : Type} {ms : List Nat} {inv : σ → Prop} {GG : σ → Fr} {II : σ → Imm} {OO : σ → Own} {B F' : Fr} (s : σ) (hi : inv s) (hG : F'.subOf (GG s)) (hI : II s = I) (hO : OO s = O) (hb : Keeps ms B F') :
    WN n (Exit.then (Mid n inv GG II OO (B.del ms)) Q) .normal F' I O := fun a w ha hw =>
  ⟨s, hi, ha.mid hG hb, by rw [hI, hO]; exact hw⟩
theorem WC.split {c : Code} (t : Nat) {b : Bool} (hc : F.get t = some (.bool b)) (h1 : b = true → WC P n c Q ((t, .bool true) :: F) I O) (h0 : b = false → WC P n c Q ((t, .bool false) :: F) I O) : WC P n c Q F I O := fun a w ha hs => by
  have up : ∀ x, b = x → Ok n ((t, .bool x) :: F) a := fun x e => ⟨ha.defers, ha.size, fun s v hv => by
    unfold Fr.get at hv
    by_cases hts : t = s
    · subst hts; simp at hv; subst hv; rw [← e]; exact ha.get _ _ hc
    · have : Nat.beq t s = false := Bool.eq_false_iff.2 fun h => hts (Nat.eq_of_beq_eq_true h)
      rw [this] at hv
      exact ha.get _ _ hv⟩
  cases hcc : b
  · exact h0 hcc a w (up _ hcc) hs
  · exact h1 hcc a w (up _ hcc) hs
theorem WN.swap {e : Exit} {x y : Nat × Obj} (h : WN n Q e F I (y :: x :: O)) : WN n Q e F I (x :: y :: O) := fun a w ha hw => h a w ha (hw.sub (Imm.le_refl I) (fun z hz => by
    simp only [List.mem_cons] at hz ⊢
    rcases hz with h | h | h
    · exact .inr (.inl h)
    · exact .inl h
    · exact .inr (.inr h)) (by
    have := hw.nodup
    simp only [List.map_cons, List.nodup_cons, List.mem_cons, not_or] at this ⊢
    exact ⟨⟨fun e => this.1.1 e.symm, this.2.1⟩, this.1.2, this.2.2⟩))

/-! ### slices that are read -/
section
variable {α : Type}
def SlR (R : Imm → List Value → α → Prop) (m : Nat) (I : Imm) (v : Value) (xs : List α) : Prop :=
  ∃ ad cap, v = .slice ad xs.length cap ∧ xs.length ≤ cap ∧ cap ≤ 9223372036854775807 ∧ (xs = [] ∨ ∃ b off, ad = some ⟨b, off, none⟩ ∧ ∀ k x, xs[k]? = some x → ∃ cs, At I b (off + k * m) cs ∧ R I cs x)
theorem SlR.mono {R : Imm → List Value → α → Prop} {m : Nat} {J : Imm} {v : Value} {xs : List α} (hR : ∀ cs x, R I cs x → R J cs x) (hI : I.le J) (h : SlR R m I v xs) : SlR R m J v xs := by
  obtain ⟨ad, cap, h1, h2, h3, h4⟩ := h
  refine ⟨ad, cap, h1, h2, h3, h4.imp id fun ⟨b, off, h5, h6⟩ => ⟨b, off, h5, fun k x hx => ?_⟩⟩
  obtain ⟨cs, h7, h8⟩ := h6 k x hx
  exact ⟨cs, h7.mono hI, hR _ _ h8⟩
theorem SlR.at_ {R : Imm → List Value → α → Prop} {m : Nat} {ad : Option Addr} {len cap : Nat} {xs : List α} (h : SlR R m I (.slice ad len cap) xs) {k : Nat} (hk : k < xs.length) :
    ∃ b off cs, ad = some ⟨b, off, none⟩ ∧ At I b (off + k * m) cs ∧ R I cs xs[k] := by
  obtain ⟨ad', cap', h1, h2, h3, h4⟩ := h
  cases h1
  rcases h4 with rfl | ⟨b, off, h5, h6⟩
  · simp at hk
  · obtain ⟨cs, h7, h8⟩ := h6 k xs[k] (List.getElem?_eq_getElem hk)
    exact ⟨b, off, cs, h5, h7, h8⟩
theorem SlR.nil {R : Imm → List Value → α → Prop} {m : Nat} : SlR R m I (.slice none 0 0) [] := ⟨none, 0, rfl, Nat.le_refl _, Nat.zero_le _, .inl rfl⟩
end
theorem EV.indexAddrL {B : Own} {d : Option Tmp} {ty : TypeId} {pos : String} {af : Array Edge} {g : Option (Nat × Bool)} {t e : TypeId} {x i : Operand} {b off len cap k j : Nat} {q : IntKind} {m : Int} (hf : slOf P t = some (e, k))
    (hx : F.op x = some (.slice (some ⟨b, off, none⟩) len cap)) (hi : F.op i = some (.int q m)) (hm : m = (j : Int)) (hj : j < len) : EV P F I B ⟨d, .indexAddr t x i, ty, pos, af, g⟩ (.pointer (some ⟨b, off + j * k, none⟩)) := by
  have := EV.indexAddrS (P := P) (F := F) (I := I) (B := B) (d := d) (ty := ty) (pos := pos) (af := af) (g := g) hf hx hi (by omega) (by omega)
  rw [addr_add] at this
  have e : m.toNat = j := by omega
  rwa [e] at this
theorem At.cell {b off j : Nat} {cs : List Value} {v : Value} (h : At I b off cs) (hv : cs[j]? = some v) : At I b (off + j) [v] := by
  rcases h with rfl | ⟨arr, T, fz, hb, hc⟩
  · simp at hv
  · refine .inr ⟨arr, T, fz, hb, fun i u hu => ?_⟩
    match i, hu with
    | 0, hu => simp at hu; subst hu; exact hc j _ hv
theorem wrap_succ {k : Nat} (h : k < 9223372036854775807) : IntKind.i64.wrap ((k : Int) + 1) = ((k + 1 : Nat) : Int) := by
  rw [IntKind.wrap_i64]
  omega
end
end Go.Sy
