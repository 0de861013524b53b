/- Rows that were made since a given memory: they lie in no row of it, and they may be owned and turned again. Nothing of the program stands here. -/
import Derived.Test.YtajpakifkinadaaGreatDoorSyI
import Derived.Test.YtajpakifkinadaaGreatDoorSyP
namespace Go.Sy
open Go
variable {P : Program} {n : Nat} {Q : Exit → Act → World → Prop} {F : Fr} {I : Imm} {O : Own}
def Imm.erase (I : Imm) (b : Nat) : Imm := ⟨fun c => if c = b then none else I c, I.env⟩
theorem Imm.erase_ne {b c : Nat} (h : c ≠ b) : I.erase b c = I c := by
  show (if c = b then none else I c) = I c
  rw [if_neg h]
theorem Imm.erase_self {b : Nat} : I.erase b b = none := by
  show (if b = b then none else I b) = none
  rw [if_pos rfl]
theorem Imm.le_erase {J : Imm} {b : Nat} (h : I.le J) (hb : I b = none) : I.le (J.erase b) := ⟨fun c o e => by
  have hc : c ≠ b := fun e2 => by subst e2; rw [hb] at e; cases e
  rw [Imm.erase_ne hc]; exact h.row c o e, h.env⟩
theorem Sat.melt {w : World} {b : Nat} {o : Obj} (h : Sat w I O) (hb : I b = some o) : Sat w (I.erase b) ((b, o) :: O) := by
  have hn : b ∉ O.map Prod.fst := fun hm => by
    obtain ⟨⟨c, q⟩, hq, e⟩ := List.mem_map.1 hm
    dsimp only at e
    subst e
    have := h.apart _ _ hq
    rw [hb] at this; cases this
  refine ⟨fun c q e => ?_, fun c q hm => ?_, List.nodup_cons.2 ⟨hn, h.nodup⟩, fun c q hm => ?_, h.env⟩
  · by_cases hc : c = b
    · subst hc; rw [Imm.erase_self] at e; cases e
    · rw [Imm.erase_ne hc] at e; exact h.imm c q e
  · rcases List.mem_cons.1 hm with e | hm
    · cases e; exact h.imm _ _ hb
    · exact h.own c q hm
  · rcases List.mem_cons.1 hm with e | hm
    · cases e; exact Imm.erase_self
    · by_cases hc : c = b
      · subst hc; exact Imm.erase_self
      · rw [Imm.erase_ne hc]; exact h.apart c q hm
theorem WL.melt {ops : Array Oper} {l : List Oper} {b : Nat} {o : Obj} (hb : I b = some o) (h : WL P n ops Q l F (I.erase b) ((b, o) :: O)) : WL P n ops Q l F I O := fun a w ha hw => h a w ha (hw.melt hb)
theorem WC.melt {c : Code} {b : Nat} {o : Obj} (hb : I b = some o) (h : WC P n c Q F (I.erase b) ((b, o) :: O)) : WC P n c Q F I O := fun a w ha hw => h a w ha (hw.melt hb)
/-- A slice's row is none of the first memory's; in the second it lies whole. -/
def FrK (k : Nat) (I0 J : Imm) (v : Value) : Prop := v = .slice none 0 0 ∨ ∃ b m cap cs T, v = .slice (some ⟨b, 0, none⟩) m cap ∧ I0 b = none ∧ J b = some (.cells ⟨cs⟩ T (0, 0)) ∧ m * k ≤ cs.length ∧ m ≤ cap ∧ cap ≤ 9223372036854775807
theorem FrK.mono {k : Nat} {I0 J K : Imm} {v : Value} (hJ : J.le K) (h : FrK k I0 J v) : FrK k I0 K v := by
  rcases h with h | ⟨b, m, cap, cs, T, h1, h2, h3, h4⟩
  · exact .inl h
  · exact .inr ⟨b, m, cap, cs, T, h1, h2, hJ.row _ _ h3, h4⟩
theorem FrK.back {k : Nat} {I0 I1 J : Imm} {v : Value} (hI : I1.le I0) (h : FrK k I0 J v) : FrK k I1 J v := by
  rcases h with h | ⟨b, m, cap, cs, T, h1, h2, h3⟩
  · exact .inl h
  · refine .inr ⟨b, m, cap, cs, T, h1, ?_, h3⟩
    cases e : I1 b with
    | none => rfl
    | some o => rw [hI.row _ _ e] at h2; cases h2
abbrev FrR := FrK 2
/-- Rows made since I0 have turned, none has gone, none has another length. -/
def Turned (I0 J K : Imm) : Prop := ∀ b cs T, I0 b = none → J b = some (.cells ⟨cs⟩ T (0, 0)) → ∃ cs', K b = some (.cells ⟨cs'⟩ T (0, 0)) ∧ cs'.length = cs.length
theorem FrK.turn {k : Nat} {I0 J K : Imm} {v : Value} (hT : Turned I0 J K) (h : FrK k I0 J v) : FrK k I0 K v := by
  rcases h with h | ⟨b, m, cap, cs, T, h1, h2, h3, h4, h5⟩
  · exact .inl h
  · obtain ⟨cs', e1, e2⟩ := hT b cs T h2 h3
    exact .inr ⟨b, m, cap, cs', T, h1, h2, e1, by rw [e2]; exact h4, h5⟩
theorem Turned.trans {I0 J K M : Imm} (h : Turned I0 J K) (h2 : Turned I0 K M) : Turned I0 J M := fun b cs T h0 hb => by
  obtain ⟨cs', e1, e2⟩ := h b cs T h0 hb
  obtain ⟨cs'', e3, e4⟩ := h2 b cs' T h0 e1
  exact ⟨cs'', e3, e4.trans e2⟩
theorem Turned.le {I0 J K : Imm} (h : J.le K) : Turned I0 J K := fun b cs T _ hb => ⟨cs, h.row _ _ hb, rfl⟩
/-- The row that was owned again, turned, and given back. -/
theorem Turned.one {I0 J K : Imm} {b : Nat} {cs cs' : List Value} {T : TypeId} (hb : J b = some (.cells ⟨cs⟩ T (0, 0))) (hl : cs'.length = cs.length) (hK : (J.erase b).le K) (hKb : K b = some (.cells ⟨cs'⟩ T (0, 0))) : Turned I0 J K := fun c ds T' _ hc => by
  by_cases e : c = b
  · subst e
    rw [hb] at hc; cases hc
    exact ⟨cs', hKb, hl⟩
  · exact ⟨ds, hK.row _ _ (by rw [Imm.erase_ne e]; exact hc), rfl⟩
theorem frzF {k m : Nat} {v : Value} {ws : List Value} {ob : Own} {w : World} (hs : OwnS k v m ws ob) (h : Sat w I (ob ++ O)) : ∃ J, I.le J ∧ Reads J k v m ws ∧ FrK k I J v ∧ Sat w J O := by
  rcases hs with ⟨rfl, rfl, rfl, rfl⟩ | ⟨b, cap, cs, T, rfl, rfl, h1, h2, h3, h4, h5⟩
  · obtain ⟨J, a1, a2, a3⟩ := frzS (k := k) (m := 0) (v := .slice none 0 0) (ws := []) (ob := []) OwnS.nil h
    exact ⟨J, a1, a2, .inl rfl, a3⟩
  · have hI : I b = none := h.apart b _ List.mem_cons_self
    obtain ⟨J, hJ, hb, hw⟩ := frz h
    refine ⟨J, hJ, fun {α R xs} hd hm => by subst hm; exact OwnS.read (.inr ⟨b, cap, cs, T, rfl, rfl, h1, h2, h3, h4, h5⟩) hd hb, .inr ⟨b, m, cap, cs, T, rfl, hI, hb, ?_, h1, h5⟩, hw⟩
    rw [h2]; exact Nat.mul_le_mul_right k h1
section
variable {k m : Nat} {v : Value} {ws : List Value} {ob : Own} (hs : OwnS k v m ws ob)
include hs
theorem WL.freezeF {ops : Array Oper} {l : List Oper} (h : ∀ J, I.le J → Reads J k v m ws → FrK k I J v → WL P n ops Q l F J O) : WL P n ops Q l F I (ob ++ O) := fun a w ha hw => by
  obtain ⟨J, h1, h2, h3, h4⟩ := frzF hs hw
  exact h J h1 h2 h3 a w ha h4
theorem WC.freezeF {c : Code} (h : ∀ J, I.le J → Reads J k v m ws → FrK k I J v → WC P n c Q F J O) : WC P n c Q F I (ob ++ O) := fun a w ha hw => by
  obtain ⟨J, h1, h2, h3, h4⟩ := frzF hs hw
  exact h J h1 h2 h3 a w ha h4
theorem WN.freezeF {e : Exit} (h : ∀ J, I.le J → Reads J k v m ws → FrK k I J v → WN n Q e F J O) : WN n Q e F I (ob ++ O) := fun a w ha hw => by
  obtain ⟨J, h1, h2, h3, h4⟩ := frzF hs hw
  exact h J h1 h2 h3 a w ha h4
theorem WA.freezeF {ops : Array Oper} {K : Imm} {B : Own} {r : Nat} {listed : Array Bool} (h : ∀ J, I.le J → Reads J k v m ws → FrK k I J v → WA P n ops Q K B r listed F J O) : WA P n ops Q K B r listed F I (ob ++ O) := fun a w ha hw hk => by
  obtain ⟨J, h1, h2, h3, h4⟩ := frzF hs hw
  exact h J h1 h2 h3 a w ha h4 hk
end
theorem DR.to {α : Type} {R S : Imm → List Value → α → Prop} {k : Nat} {I J : Imm} {ws : List Value} {xs : List α} (h : DR R k I ws xs) (hR : ∀ cs x, R I cs x → S J cs x) : DR S k J ws xs := ⟨h.1, fun i x hx => hR _ _ (h.2 i x hx)⟩
/-- Those up to k are fresh, the others lie as they lay. -/
def mixTo {α : Type} (l : List α) (k : Nat) : List (α × Bool) := (l.take k).map (fun x => (x, true)) ++ (l.drop k).map (fun x => (x, false))
theorem mixTo_len {α : Type} {l : List α} {k : Nat} : (mixTo l k).length = l.length := by unfold mixTo; rw [List.length_append, List.length_map, List.length_map, ← List.length_append, List.take_append_drop]
theorem mixTo_at {α : Type} {l : List α} {k : Nat} (h : k < l.length) : (mixTo l k)[k]? = some (l[k], false) := by
  unfold mixTo
  rw [List.getElem?_append_right (by rw [List.length_map, List.length_take]; omega), List.getElem?_map, List.getElem?_drop, List.length_map, List.length_take, show k + (k - min k l.length) = k by omega, List.getElem?_eq_getElem h]; rfl
theorem mixTo_step {α : Type} {l : List α} {k : Nat} (h : k < l.length) : (mixTo l k).set k (l[k], true) = mixTo l (k + 1) := by
  unfold mixTo
  have hl : ((l.take k).map (fun x => (x, true))).length = k := by rw [List.length_map, List.length_take]; omega
  rw [List.set_append_right _ _ (by omega), hl, Nat.sub_self, List.take_succ_eq_append_getElem h, List.map_append, List.drop_eq_getElem_cons h]
  simp only [List.map_cons, List.set_cons_zero, List.map_nil, List.append_assoc, List.cons_append, List.nil_append]
def MixR {α : Type} (R S : Imm → List Value → α → Prop) (J : Imm) (cs : List Value) (x : α × Bool) : Prop := R J cs x.1 ∧ (x.2 = true → S J cs x.1)
theorem mix_start {α : Type} {R S : Imm → List Value → α → Prop} {m : Nat} {J : Imm} {ws : List Value} {l : List α} (h : DR R m J ws l) : DR (MixR R S) m J ws (mixTo l 0) := by
  refine ⟨by rw [mixTo_len]; exact h.1, fun i x hx => ?_⟩
  unfold mixTo at hx
  rw [List.take_zero, List.drop_zero, List.map_nil, List.nil_append, List.getElem?_map] at hx
  cases e : l[i]? with
  | none => rw [e] at hx; cases hx
  | some y =>
    rw [e] at hx
    cases hx
    exact ⟨h.2 i y e, fun h => by cases h⟩
theorem mix_end {α : Type} {R S : Imm → List Value → α → Prop} {m k : Nat} {J : Imm} {ws : List Value} {l : List α} (h : DR (MixR R S) m J ws (mixTo l k)) (hk : l.length ≤ k) : DR S m J ws l := by
  refine ⟨by rw [h.1, mixTo_len], fun i x hx => ?_⟩
  refine (h.2 i (x, true) ?_).2 rfl
  unfold mixTo
  rw [List.take_of_length_le hk, List.drop_of_length_le hk, List.map_nil, List.append_nil, List.getElem?_map, hx]; rfl
theorem dr_setY {α : Type} {R : Imm → List Value → α → Prop} {ws vs : List Value} {l : List α} {x : α} {k m : Nat} {I : Imm} (h : DR R m I ws l) (hk : k < l.length) (hv : vs.length = m) (hx : R I vs x) : DR R m I (setL ws (k * m) vs) (l.set k x) := by
  have e : l.set k x = l.take k ++ ([x] ++ l.drop (k + 1)) := by rw [List.singleton_append]; exact List.set_eq_take_append_cons_drop.trans (if_pos hk)
  have e2 : setL ws (k * m) vs = ws.take (k * m) ++ (vs ++ ws.drop ((k + 1) * m)) := by unfold setL; rw [hv, Nat.succ_mul]
  rw [e, e2]
  exact (h.take (Nat.le_of_lt hk)).append ((DR.single hv hx).append (h.drop (l := k + 1) hk))
theorem mix_turn {α : Type} {R S : Imm → List Value → α → Prop} {m k : Nat} {J K : Imm} {ws vs : List Value} {l : List α} (h : DR (MixR R S) m J ws (mixTo l k)) (hk : k < l.length) (hR : ∀ cs x, R J cs x → R K cs x) (hS : ∀ cs x, S J cs x → S K cs x) (hv : vs.length = m) (h1 : R K vs l[k]) (h2 : S K vs l[k]) : DR (MixR R S) m K (setL ws (k * m) vs) (mixTo l (k + 1)) := by
  rw [← mixTo_step hk]
  exact dr_setY (h.mono fun _ _ h => ⟨hR _ _ h.1, fun e => hS _ _ (h.2 e)⟩) (by rw [mixTo_len]; exact hk) hv ⟨h1, fun _ => h2⟩
/-- A node or a task whose inner rows were made since I0. -/
def NodF (I0 J : Imm) (cs : List Value) (x : Nod) : Prop := ∃ lv tv, cs = x.cells lv tv ∧ NodR J (x.cells lv tv) x ∧ FrR I0 J lv ∧ FrR I0 J tv
def TskF (I0 J : Imm) (cs : List Value) (x : Tsk) : Prop := ∃ wv bv, cs = x.cells wv bv ∧ TskR J (x.cells wv bv) x ∧ FrR I0 J wv ∧ FrR I0 J bv
theorem NodF.mono {I0 J K : Imm} {cs : List Value} {x : Nod} (hJ : J.le K) (h : NodF I0 J cs x) : NodF I0 K cs x := by
  obtain ⟨lv, tv, e, h1, h2, h3⟩ := h
  exact ⟨lv, tv, e, h1.mono hJ, h2.mono hJ, h3.mono hJ⟩
theorem TskF.mono {I0 J K : Imm} {cs : List Value} {x : Tsk} (hJ : J.le K) (h : TskF I0 J cs x) : TskF I0 K cs x := by
  obtain ⟨wv, bv, e, h1, h2, h3⟩ := h
  exact ⟨wv, bv, e, h1.mono hJ, h2.mono hJ, h3.mono hJ⟩
theorem NodF.nod {I0 J : Imm} {cs : List Value} {x : Nod} (h : NodF I0 J cs x) : NodR J cs x := by
  obtain ⟨_, _, rfl, h1, _⟩ := h; exact h1
theorem TskF.tsk {I0 J : Imm} {cs : List Value} {x : Tsk} (h : TskF I0 J cs x) : TskR J cs x := by
  obtain ⟨_, _, rfl, h1, _⟩ := h; exact h1
end Go.Sy
