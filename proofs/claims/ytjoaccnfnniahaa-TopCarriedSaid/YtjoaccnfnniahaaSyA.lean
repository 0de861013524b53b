/- The ground of all walks of this seat: a symbolic memory (what is known of the heap: rows that never turn, rows that the call owns), frames known in part, and the rules of the code over them. Nothing of the program stands here. -/
import Derived.WalkKit
import Derived.OrdersHeld
import Derived.KernelRfl
import Derived.Deep.Draws
import Derived.Deep.LoopGhost
namespace Go.Sy

/-! ### memory -/
structure Env where
  os : Os
  tape : Nat → Question → Nat
  output : Array (Nat × ByteArray)
structure Imm where
  row : Nat → Option Obj
  env : Env
instance : CoeFun Imm (fun _ => Nat → Option Obj) := ⟨Imm.row⟩
def _root_.Go.World.env (w : World) : Env := ⟨w.os, w.tape, w.output⟩
abbrev Own := List (Nat × Obj)
structure Imm.le (I J : Imm) : Prop where
  row : ∀ b o, I b = some o → J b = some o
  env : J.env = I.env
theorem Imm.le_refl (I : Imm) : I.le I := ⟨fun _ _ h => h, rfl⟩
theorem Imm.le_trans {I J K : Imm} (h : I.le J) (h' : J.le K) : I.le K := ⟨fun b o e => h'.row b o (h.row b o e), h'.env.trans h.env⟩

structure Sat (w : World) (I : Imm) (O : Own) : Prop where
  imm : ∀ b o, I b = some o → w.heap[b]? = some o
  own : ∀ b o, (b, o) ∈ O → w.heap[b]? = some o
  nodup : (O.map Prod.fst).Nodup
  apart : ∀ b o, (b, o) ∈ O → I b = none
  env : w.env = I.env

def Has (O : Own) (b : Nat) (o : Obj) : Prop := (b, o) ∈ O
theorem Has.here {O : Own} {b : Nat} {o : Obj} : Has ((b, o) :: O) b o := List.mem_cons_self
theorem Has.there {O : Own} {b : Nat} {o : Obj} {x : Nat × Obj} (h : Has O b o) : Has (x :: O) b o := List.mem_cons_of_mem _ h

inductive Upd : Own → Nat → Obj → Obj → Own → Prop
  | here {O : Own} {b : Nat} {o o' : Obj} : Upd ((b, o) :: O) b o o' ((b, o') :: O)
  | there {O O' : Own} {b : Nat} {o o' : Obj} {x : Nat × Obj} (h : Upd O b o o' O') : Upd (x :: O) b o o' (x :: O')

theorem Upd.has {O O' : Own} {b : Nat} {o o' : Obj} (h : Upd O b o o' O') : (b, o) ∈ O := by
  induction h with
  | here => exact List.mem_cons_self
  | there _ ih => exact List.mem_cons_of_mem _ ih
theorem Upd.fst {O O' : Own} {b : Nat} {o o' : Obj} (h : Upd O b o o' O') : O'.map Prod.fst = O.map Prod.fst := by
  induction h with
  | here => rfl
  | there _ ih => simp [ih]
theorem Upd.mem {O O' : Own} {b : Nat} {o o' : Obj} (h : Upd O b o o' O') (hn : (O.map Prod.fst).Nodup) :
    ∀ c q, (c, q) ∈ O' → (c = b ∧ q = o') ∨ (c ≠ b ∧ (c, q) ∈ O) := by
  induction h with
  | @here O b o o' =>
    intro c q hm
    rcases List.mem_cons.1 hm with e | hm2
    · cases e; exact .inl ⟨rfl, rfl⟩
    · refine .inr ⟨fun e => ?_, List.mem_cons_of_mem _ hm2⟩
      simp only [List.map_cons, List.nodup_cons] at hn
      rw [← e] at hn
      exact hn.1 (List.mem_map_of_mem (f := Prod.fst) (a := (c, q)) hm2)
  | @there O O' b o o' x h ih =>
    intro c q hm
    simp only [List.map_cons, List.nodup_cons] at hn
    rcases List.mem_cons.1 hm with e | hm2
    · cases e
      refine .inr ⟨fun e => ?_, List.mem_cons_self⟩
      rw [e] at hn
      exact hn.1 (List.mem_map.2 ⟨_, h.has, rfl⟩)
    · rcases ih hn.2 c q hm2 with h1 | h1
      · exact .inl h1
      · exact .inr ⟨h1.1, List.mem_cons_of_mem _ h1.2⟩

theorem Sat.lt {w : World} {I : Imm} {O : Own} (h : Sat w I O) {b : Nat} {o : Obj} (hm : (b, o) ∈ O) : b < w.heap.size := by
  have := h.own b o hm
  exact (Array.getElem?_eq_some_iff.1 this).1

theorem Sat.new {w : World} {I : Imm} {O : Own} (h : Sat w I O) (o : Obj) :
    Sat { w with heap := w.heap.push o } I ((w.heap.size, o) :: O) ∧ I w.heap.size = none ∧ w.heap.size ∉ O.map Prod.fst := by
  have hI : I w.heap.size = none := by
    cases e : I w.heap.size with
    | none => rfl
    | some q =>
      have := h.imm _ _ e
      have := (Array.getElem?_eq_some_iff.1 this).1
      omega
  have hO : w.heap.size ∉ O.map Prod.fst := by
    intro hm
    obtain ⟨⟨b, q⟩, hm, rfl⟩ := List.mem_map.1 hm
    have := h.lt hm
    simp at this
  refine ⟨⟨fun b q e => ?_, fun b q hm => ?_, ?_, fun b q hm => ?_, h.env⟩, hI, hO⟩
  · have := h.imm b q e
    have hlt := (Array.getElem?_eq_some_iff.1 this).1
    simpa [Array.getElem?_push_lt, hlt, Nat.ne_of_lt hlt, Array.getElem?_push] using this
  · rcases List.mem_cons.1 hm with e | hm
    · cases e; simp
    · have := h.own b q hm
      have hlt := (Array.getElem?_eq_some_iff.1 this).1
      simpa [Array.getElem?_push, Nat.ne_of_lt hlt] using this
  · simp only [List.map_cons, List.nodup_cons]; exact ⟨hO, h.nodup⟩
  · rcases List.mem_cons.1 hm with e | hm
    · cases e; exact hI
    · exact h.apart b q hm

/-- One block turned. -/
theorem Sat.upd {w w' : World} {I : Imm} {O O' : Own} {b : Nat} {o o' : Obj} (h : Sat w I O) (hu : Upd O b o o' O')
    (hb : w'.heap[b]? = some o') (hr : ∀ c, c ≠ b → w'.heap[c]? = w.heap[c]?) (he : w'.env = w.env) : Sat w' I O' := by
  refine ⟨fun c q e => ?_, fun c q hm => ?_, ?_, fun c q hm => ?_, he.trans h.env⟩
  · have hne : c ≠ b := fun e' => by
      subst e'
      rw [h.apart _ _ hu.has] at e; cases e
    rw [hr c hne]; exact h.imm c q e
  · rcases hu.mem h.nodup c q hm with ⟨rfl, rfl⟩ | ⟨hne, hm⟩
    · exact hb
    · rw [hr c hne]; exact h.own c q hm
  · rw [hu.fst]; exact h.nodup
  · rcases hu.mem h.nodup c q hm with ⟨rfl, rfl⟩ | ⟨_, hm⟩
    · exact h.apart _ _ hu.has
    · exact h.apart c q hm

/-- A world that differs in no block (a draw). -/
theorem Sat.same {w w' : World} {I : Imm} {O : Own} (h : Sat w I O) (hh : w'.heap = w.heap) (he : w'.env = w.env := by rfl) : Sat w' I O :=
  ⟨fun b o e => by rw [hh]; exact h.imm b o e, fun b o hm => by rw [hh]; exact h.own b o hm, h.nodup, h.apart, he.trans h.env⟩

/-- Order of what is owned is no matter; and less may be known. -/
theorem Sat.sub {w : World} {I J : Imm} {O O' : Own} (h : Sat w I O) (hI : J.le I) (hO : ∀ x, x ∈ O' → x ∈ O) (hn : (O'.map Prod.fst).Nodup) : Sat w J O' := by
  refine ⟨fun b o e => h.imm b o (hI.row b o e), fun b o hm => h.own b o (hO _ hm), hn, fun b o hm => ?_, h.env.trans hI.env⟩
  cases e : J b with
  | none => rfl
  | some q => have := h.apart b o (hO _ hm); rw [hI.row b q e] at this; cases this

theorem Sat.tail {w : World} {I : Imm} {x : Nat × Obj} {O : Own} (h : Sat w I (x :: O)) : Sat w I O :=
  h.sub (Imm.le_refl I) (fun _ hm => List.mem_cons_of_mem _ hm) (List.nodup_cons.1 h.nodup).2

theorem Sat.drop {w : World} {I : Imm} {O' O : Own} (h : Sat w I (O' ++ O)) : Sat w I O :=
  h.sub (Imm.le_refl I) (fun _ hm => List.mem_append_right _ hm) (by have := h.nodup; rw [List.map_append, List.nodup_append] at this; exact this.2.1)

/-- A row that will not turn any more. -/
def Imm.put (I : Imm) (b : Nat) (o : Obj) : Imm := ⟨fun c => if c = b then some o else I c, I.env⟩
theorem Imm.put_self (I : Imm) (b : Nat) (o : Obj) : I.put b o b = some o := by simp [Imm.put]
theorem Imm.le_put {I : Imm} {b : Nat} {o : Obj} (h : I b = none) : I.le (I.put b o) := ⟨fun c q e => by
  have : c ≠ b := fun e' => by subst e'; rw [h] at e; cases e
  simp [Imm.put, this, e], rfl⟩
theorem Sat.freeze {w : World} {I : Imm} {b : Nat} {o : Obj} {O : Own} (h : Sat w I ((b, o) :: O)) : Sat w (I.put b o) O ∧ I.le (I.put b o) := by
  have hb := h.apart b o List.mem_cons_self
  have hn := List.nodup_cons.1 h.nodup
  refine ⟨⟨fun c q e => ?_, fun c q hm => h.own c q (List.mem_cons_of_mem _ hm), hn.2, fun c q hm => ?_, h.env⟩, Imm.le_put hb⟩
  · by_cases hc : c = b
    · subst hc; simp [Imm.put] at e; subst e; exact h.own _ _ List.mem_cons_self
    · simp [Imm.put, hc] at e; exact h.imm c q e
  · have hc : c ≠ b := fun e => by
      subst e; exact hn.1 (List.mem_map_of_mem (f := Prod.fst) (a := (c, q)) hm)
    simp [Imm.put, hc]; exact h.apart c q (List.mem_cons_of_mem _ hm)

/-! ### what a computation of the model comes to -/
section
variable {α β : Type} {P : Program} {I : Imm} {O : Own}

def SR (P : Program) (s : Sem α) (I : Imm) (O : Own) (K : α → Own → Prop) : Prop :=
  ∀ w, Sat w I O → ∃ x w' O', s.run P w = .ok x w' ∧ Sat w' I O' ∧ K x O'

theorem SR.mono {s : Sem α} {K K' : α → Own → Prop} (h : SR P s I O K) (hk : ∀ x O', K x O' → K' x O') : SR P s I O K' := fun w hw =>
  let ⟨x, w', O', h1, h2, h3⟩ := h w hw
  ⟨x, w', O', h1, h2, hk _ _ h3⟩
theorem SR.done {x : α} {K : α → Own → Prop} (h : K x O) : SR P (Pure.pure x) I O K := fun w hw => ⟨x, w, O, rfl, hw, h⟩
theorem SR.of_run {s : Sem α} {x : α} {K : α → Own → Prop} (hs : ∀ w, s.run P w = .ok x w) (h : K x O) : SR P s I O K := fun w hw => ⟨x, w, O, hs w, hw, h⟩
theorem SR.bind {s : Sem α} {f : α → Sem β} {K : β → Own → Prop} (h : SR P s I O fun x O' => SR P (f x) I O' K) : SR P (s >>= f) I O K := fun w hw => by
  obtain ⟨x, w1, O1, h1, h2, h3⟩ := h w hw
  obtain ⟨y, w2, O2, g1, g2, g3⟩ := h3 w1 h2
  exact ⟨y, w2, O2, by rw [Sem.run_bind, h1]; exact g1, g2, g3⟩
theorem SR.bind_run {s : Sem α} {f : α → Sem β} {x : α} {K : β → Own → Prop} (hs : ∀ w, s.run P w = .ok x w) (h : SR P (f x) I O K) : SR P (s >>= f) I O K :=
  .bind (.of_run hs h)

theorem SR.load {b off : Nat} {cs : Array Value} {t : TypeId} {fz : Nat × Nat} {v : Value} {K : Value → Own → Prop}
    (hb : Has O b (.cells cs t fz)) (hv : cs[off]? = some v) (h : K v O) : SR P (Go.load ⟨b, off, none⟩) I O K := fun w hw => by
  have := hw.own _ _ hb
  exact ⟨v, w, O, by simp [Go.load, Sem.run, World.cell?, this, hv], hw, h⟩
theorem SR.loadI {b off : Nat} {cs : Array Value} {t : TypeId} {fz : Nat × Nat} {v : Value} {K : Value → Own → Prop}
    (hb : I b = some (.cells cs t fz)) (hv : cs[off]? = some v) (h : K v O) : SR P (Go.load ⟨b, off, none⟩) I O K := fun w hw => by
  have := hw.imm _ _ hb
  exact ⟨v, w, O, by simp [Go.load, Sem.run, World.cell?, this, hv], hw, h⟩

def one (v : Value) : Prop := match v with | .agg _ | .tuple _ => False | _ => True

theorem SR.store {b off : Nat} {cs : Array Value} {t : TypeId} {v : Value} {O' : Own} {K : Unit → Own → Prop}
    (hu : Upd O b (.cells cs t (0, 0)) (.cells (cs.setIfInBounds off v) t (0, 0)) O') (ho : off < cs.size) (h1 : one v) (h : K () O') :
    SR P (Go.store ⟨b, off, none⟩ v) I O K := fun w hw => by
  have hb := hw.own _ _ hu.has
  have hblt := (Array.getElem?_eq_some_iff.1 hb).1
  refine ⟨(), w.setCell ⟨b, off, none⟩ v, O', ?_, hw.upd hu ?_ ?_ rfl, h⟩
  · have hc : w.cell? ⟨b, off, none⟩ = some cs[off] := by simp [World.cell?, hb, ho]
    have hf : w.frozen? ⟨b, off, none⟩ = false := by simp [World.frozen?, hb]
    unfold Go.store
    cases v <;> first | exact h1.elim | simp [Sem.run, hc, hf]
  · simp [World.setCell, Array.getElem?_modify, hb]
  · intro c hc
    simp [World.setCell, Array.getElem?_modify, Ne.symm hc]

theorem SR.new {o : Obj} {K : Nat → Own → Prop} (h : ∀ b, I b = none → b ∉ O.map Prod.fst → K b ((b, o) :: O)) : SR P (newObj o) I O K := fun w hw => by
  obtain ⟨h1, h2, h3⟩ := hw.new o
  exact ⟨_, _, _, rfl, h1, h _ h2 h3⟩
theorem SR.choose {q : Question} {K : Nat → Own → Prop} (h : ∀ n, (∃ t, n = q.cut t) ∨ (q.forced = true ∧ n = 0) → K n O) : SR P (Go.choose q) I O K := fun w hw => by
  by_cases hf : q.forced
  · exact ⟨0, w, O, by simp [Go.choose, Sem.run, hf], hw, h _ (.inr ⟨hf, rfl⟩)⟩
  · exact ⟨q.cut (w.tape w.drawn q), { w with drawn := w.drawn + 1 }, O, by simp only [Go.choose, Sem.run, hf, if_false, Bool.false_eq_true], hw.same rfl, h _ (.inl ⟨_, rfl⟩)⟩
end

/-! ### frames of which a part is known -/
abbrev Fr := List (Nat × Value)
def Fr.get : Fr → Nat → Option Value
  | [], _ => none
  | (s, v) :: r, t => bif Nat.beq s t then some v else Fr.get r t
def Fr.op (F : Fr) : Operand → Option Value
  | .tmp t => F.get t
  | .const v => some v
  | .func f => some (.func (.func f) #[] #[])
  | .global g => some (.pointer (some ⟨g, 0, none⟩))
def Fr.ops (F : Fr) : List Operand → Option (List Value)
  | [] => some []
  | x :: r => match F.op x, Fr.ops F r with
    | some v, some l => some (v :: l)
    | _, _ => none
def Fr.put (F : Fr) : Option Nat → Value → Fr
  | some d, v => (d, v) :: F
  | none, _ => F

structure Ok (n : Nat) (F : Fr) (a : Act) : Prop where
  defers : a.defers = []
  size : a.tmps.size = n
  get : ∀ t v, F.get t = some v → a.tmps[t]? = some v

theorem Ok.tmp {n : Nat} {F : Fr} {a : Act} (h : Ok n F a) {t : Nat} {v : Value} (hv : F.get t = some v) : a.tmps.getD t undef = v := by
  have := h.get t v hv
  simp [Array.getD_eq_getD_getElem?, this]
theorem Ok.eval {n : Nat} {F : Fr} {a : Act} (h : Ok n F a) {x : Operand} {v : Value} (hv : F.op x = some v) : a.eval x = v := by
  cases x with
  | tmp t => exact h.tmp hv
  | const c => simp [Fr.op] at hv; simp [Act.eval, hv]
  | func f => simp [Fr.op] at hv; simp [Act.eval, hv]
  | global g => simp [Fr.op] at hv; simp [Act.eval, hv]
theorem Ok.evals {n : Nat} {F : Fr} {a : Act} (h : Ok n F a) : ∀ {xs : List Operand} {vs : List Value}, F.ops xs = some vs → xs.map a.eval = vs
  | [], vs, hv => by simp [Fr.ops] at hv; simp [hv]
  | x :: r, vs, hv => by
    unfold Fr.ops at hv
    split at hv
    · rename_i v l h1 h2
      cases hv
      simp [h.eval h1, Ok.evals h h2]
    · cases hv
theorem Ok.put {n : Nat} {F : Fr} {a : Act} (h : Ok n F a) {d : Nat} (hd : Nat.blt d n = true) (v : Value) : Ok n ((d, v) :: F) (a.put (some d) v) := by
  have hd' : d < n := by simpa using hd
  refine ⟨h.defers, by simp [Act.put, h.size], fun t u ht => ?_⟩
  unfold Fr.get at ht
  by_cases e : d = t
  · subst e
    simp at ht
    simp [Act.put, h.size, hd', ht]
  · have : Nat.beq d t = false := Bool.eq_false_iff.2 fun h => e (Nat.eq_of_beq_eq_true h)
    rw [this] at ht
    simp only [cond_false] at ht
    simp [Act.put, Array.getElem?_setIfInBounds_ne e, h.get t u ht]
theorem Ok.mono {n : Nat} {F F' : Fr} {a : Act} (h : Ok n F a) (hs : ∀ t v, F'.get t = some v → F.get t = some v) : Ok n F' a :=
  ⟨h.defers, h.size, fun t v e => h.get t v (hs t v e)⟩

def Fr.subOf (F : Fr) : Fr → Prop
  | [] => True
  | (t, v) :: r => F.get t = some v ∧ Fr.subOf F r
theorem Fr.sub_get {F : Fr} : ∀ {F' : Fr}, F.subOf F' → ∀ t v, F'.get t = some v → F.get t = some v
  | [], _, t, v, h => by simp [Fr.get] at h
  | (s, u) :: r, h, t, v, e => by
    unfold Fr.get at e
    by_cases hs : s = t
    · subst hs; simp at e; subst e; exact h.1
    · have : Nat.beq s t = false := Bool.eq_false_iff.2 fun h => hs (Nat.eq_of_beq_eq_true h)
      rw [this] at e
      exact Fr.sub_get h.2 t v e

/-! ### code -/
section
variable {P : Program} {n : Nat} {Q : Exit → Act → World → Prop} {F : Fr} {I : Imm} {O : Own}

def WN (n : Nat) (Q : Exit → Act → World → Prop) (e : Exit) (F : Fr) (I : Imm) (O : Own) : Prop := ∀ a w, Ok n F a → Sat w I O → Q e a w
def WC (P : Program) (n : Nat) (c : Code) (Q : Exit → Act → World → Prop) (F : Fr) (I : Imm) (O : Own) : Prop := ∀ a w, Ok n F a → Sat w I O → c.wp P Q a w

theorem WC.seq {x y : Code} (h : WC P n x (Exit.then (y.wp P Q) Q) F I O) : WC P n (.seq x y) Q F I O := fun a w ha hw => wp_seq (h a w ha hw)
theorem WN.go {y : Code} (h : WC P n y Q F I O) : WN n (Exit.then (y.wp P Q) Q) .normal F I O := fun a w ha hw => h a w ha hw
theorem WN.ret {K : Act → World → Prop} (h : WN n Q .ret F I O) : WN n (Exit.then K Q) .ret F I O := fun a w ha hw => h a w ha hw
theorem WN.exit {K : Act → World → Prop} {i : Nat} (h : WN n Q (.exit i) F I O) : WN n (Exit.then K Q) (.exit i) F I O := fun a w ha hw => h a w ha hw
theorem WN.panic {K : Act → World → Prop} {c : List PanicEntry} (h : WN n Q (.panic c) F I O) : WN n (Exit.then K Q) (.panic c) F I O := fun a w ha hw => h a w ha hw
theorem WN.blk_normal {i : Nat} (h : WN n Q .normal F I O) : WN n (Exit.inBlock i Q) .normal F I O := fun a w ha hw => h a w ha hw
theorem WN.blk_ret {i : Nat} (h : WN n Q .ret F I O) : WN n (Exit.inBlock i Q) .ret F I O := fun a w ha hw => h a w ha hw
theorem WN.blk_panic {i : Nat} {c : List PanicEntry} (h : WN n Q (.panic c) F I O) : WN n (Exit.inBlock i Q) (.panic c) F I O := fun a w ha hw => h a w ha hw
theorem WN.blk_exit {i : Nat} (h : WN n Q .normal F I O) : WN n (Exit.inBlock i Q) (.exit i) F I O := fun a w ha hw => by simp only [Exit.inBlock, if_true]; exact h a w ha hw
theorem WN.blk_other {i j : Nat} (hij : Nat.beq j i = false) (h : WN n Q (.exit j) F I O) : WN n (Exit.inBlock i Q) (.exit j) F I O := fun a w ha hw => by
  have : j ≠ i := fun e => by subst e; simp at hij
  simp only [Exit.inBlock, if_neg this]; exact h a w ha hw
theorem WC.skip (h : WN n Q .normal F I O) : WC P n .skip Q F I O := fun a w ha hw => wp_skip (h a w ha hw)
theorem WC.label {l : Nat} (h : WN n Q .normal F I O) : WC P n (.label l) Q F I O := fun a w ha hw => wp_label (h a w ha hw)
theorem WC.exit {i : Nat} (h : WN n Q (.exit i) F I O) : WC P n (.exit i) Q F I O := fun a w ha hw => wp_exit (h a w ha hw)
theorem WC.ret (h : WN n Q .ret F I O) : WC P n .ret Q F I O := fun a w ha hw => wp_ret (h a w ha hw)
theorem WC.block {i : Nat} {c : Code} (h : WC P n c (Exit.inBlock i Q) F I O) : WC P n (.block i c) Q F I O := fun a w ha hw => wp_block (h a w ha hw)
theorem WC.cond_true {c : Operand} {x y : Code} (hc : F.op c = some (.bool true)) (h : WC P n x Q F I O) : WC P n (.cond c x y) Q F I O :=
  fun a w ha hw => wp_cond_true (ha.eval hc) (h a w ha hw)
theorem WC.cond_false {c : Operand} {x y : Code} (hc : F.op c = some (.bool false)) (h : WC P n y Q F I O) : WC P n (.cond c x y) Q F I O :=
  fun a w ha hw => wp_cond_false (ha.eval hc) (h a w ha hw)
theorem WC.cond {c : Operand} {b : Bool} {x y : Code} (hc : F.op c = some (.bool b)) (ht : b = true → WC P n x Q F I O) (hf : b = false → WC P n y Q F I O) :
    WC P n (.cond c x y) Q F I O :=
  fun a w ha hw => wp_cond_split (ha.eval hc) (fun e => ht e a w ha hw) (fun e => hf e a w ha hw)
theorem WC.weaken {c : Code} {F' : Fr} {J : Imm} {O' : Own} (hF : F.subOf F') (hI : J.le I) (hO : ∀ x, x ∈ O' → x ∈ O) (hn : (O.map Prod.fst).Nodup → (O'.map Prod.fst).Nodup)
    (h : WC P n c Q F' J O') : WC P n c Q F I O :=
  fun a w ha hw => h a w (ha.mono (Fr.sub_get hF)) (hw.sub hI hO (hn hw.nodup))
theorem WC.frame {c : Code} (F' : Fr) (hF : F.subOf F') (h : WC P n c Q F' I O) : WC P n c Q F I O :=
  fun a w ha hw => h a w (ha.mono (Fr.sub_get hF)) hw
theorem WN.frame {e : Exit} (F' : Fr) (hF : F.subOf F') (h : WN n Q e F' I O) : WN n Q e F I O :=
  fun a w ha hw => h a w (ha.mono (Fr.sub_get hF)) hw

/-- A loop: what holds at every round's head, at a falling number. -/
theorem WC.loop {c : Code} (J : Nat → Fr → Imm → Own → Prop) (k : Nat) (h0 : J k F I O)
    (round : ∀ k F I O, J k F I O → WC P n c (Exit.then (fun a w => ∃ k' F' I' O', k' < k ∧ J k' F' I' O' ∧ Ok n F' a ∧ Sat w I' O') Q) F I O) :
    WC P n (.loop c) Q F I O := by
  intro a w ha hw
  refine wp_loop_ghost (fun k a w => ∃ F I O, J k F I O ∧ Ok n F a ∧ Sat w I O) k ⟨F, I, O, h0, ha, hw⟩ ?_
  rintro k a w ⟨F, I, O, hJ, ha, hw⟩
  exact wp_mono (round k F I O hJ a w ha hw) fun e a w h => by
    cases e <;> first | exact h | (obtain ⟨k', F', I', O', h1, h2, h3, h4⟩ := h; exact ⟨k', h1, F', I', O', h2, h3, h4⟩)
end
end Go.Sy
