/- A row of the call's own is lent: readable for a while, then the call's own again. -/
import Derived.Test.YtjoaccnfnniahaaSyG
namespace Go.Sy
open Go
variable {P : Program} {n : Nat} {Q : Exit → Act → World → Prop} {F : Fr} {I : Imm} {O : Own}
theorem Sat.thaw {w w' : World} {b : Nat} {o : Obj} {O' : Own} (h : Sat w I ((b, o) :: O)) (h' : Sat w' (I.put b o) O') : Sat w' I ((b, o) :: O') := by
  have le : I.le (I.put b o) := h.freeze.2
  have hb : (I.put b o) b = some o := Imm.put_self I b o
  have hI : I b = none := h.apart b o List.mem_cons_self
  refine ⟨fun c q hc => h'.imm c q (le.row c q hc), fun c q hc => ?_, ?_, fun c q hc => ?_, h'.env.trans le.env⟩
  · rcases List.mem_cons.1 hc with hc | hc
    · cases hc; exact h'.imm b o hb
    · exact h'.own c q hc
  · rw [List.map_cons, List.nodup_cons]
    refine ⟨fun hm => ?_, h'.nodup⟩
    obtain ⟨⟨c, q⟩, hx, rfl⟩ := List.mem_map.1 hm
    have := h'.apart c q hx
    rw [hb] at this; cases this
  · rcases List.mem_cons.1 hc with hc | hc
    · cases hc; exact hI
    · have := h'.apart c q hc
      cases h2 : I c with
      | none => rfl
      | some q2 => rw [le.row c q2 h2] at this; cases this
theorem lendS {k m : Nat} {v : Value} {ws : List Value} {ob : Own} {w : World} (hs : OwnS k v m ws ob) (h : Sat w I (ob ++ O)) : ∃ J, I.le J ∧ Reads J k v m ws ∧ (∀ w' O', Sat w' J O' → Sat w' I (ob ++ O')) ∧ Sat w J O := by
  rcases hs with ⟨rfl, rfl, rfl, rfl⟩ | ⟨b, cap, cs, T, rfl, rfl, h1, h2, h3, h4, h5⟩
  · refine ⟨I, Imm.le_refl _, fun {α R xs} _ hm => ?_, fun _ _ h => h, h⟩
    obtain rfl := List.length_eq_zero_iff.1 hm.symm
    exact SlR.nil
  · exact ⟨I.put b _, h.freeze.2, fun {α R xs} hd hm => by subst hm; exact OwnS.read (.inr ⟨b, cap, cs, T, rfl, rfl, h1, h2, h3, h4, h5⟩) hd (Imm.put_self I b _), fun w' O' h' => Sat.thaw h h', h.freeze.1⟩
section
variable {k m : Nat} {v : Value} {ws : List Value} {ob : Own} (hs : OwnS k v m ws ob)
include hs
theorem WL.lend {ops : Array Oper} {l : List Oper} (h : ∀ J, I.le J → Reads J k v m ws → (∀ w' O', Sat w' J O' → Sat w' I (ob ++ O')) → WL P n ops Q l F J O) : WL P n ops Q l F I (ob ++ O) := fun a w ha hw => by
  obtain ⟨J, h1, h2, h3, h4⟩ := lendS hs hw
  exact h J h1 h2 h3 a w ha h4
theorem WC.lend {c : Code} (h : ∀ J, I.le J → Reads J k v m ws → (∀ w' O', Sat w' J O' → Sat w' I (ob ++ O')) → WC P n c Q F J O) : WC P n c Q F I (ob ++ O) := fun a w ha hw => by
  obtain ⟨J, h1, h2, h3, h4⟩ := lendS hs hw
  exact h J h1 h2 h3 a w ha h4
end
theorem WL.thaw {J : Imm} {ob : Own} {ops : Array Oper} {l : List Oper} (ht : ∀ w' O', Sat w' J O' → Sat w' I (ob ++ O')) (h : WL P n ops Q l F I (ob ++ O)) : WL P n ops Q l F J O := fun a w ha hw => h a w ha (ht w O hw)
theorem WC.thaw {J : Imm} {ob : Own} {c : Code} (ht : ∀ w' O', Sat w' J O' → Sat w' I (ob ++ O')) (h : WC P n c Q F I (ob ++ O)) : WC P n c Q F J O := fun a w ha hw => h a w ha (ht w O hw)
theorem WN.thaw {J : Imm} {ob : Own} {e : Exit} (ht : ∀ w' O', Sat w' J O' → Sat w' I (ob ++ O')) (h : WN n Q e F I (ob ++ O)) : WN n Q e F J O := fun a w ha hw => h a w ha (ht w O hw)
theorem SlR.ofNil {α : Type} {R : Imm → List Value → α → Prop} {k len cap : Nat} {xs : List α} (h : SlR R k I (.slice none len cap) xs) : xs = [] := by
  obtain ⟨ad, cap', e, _, _, h⟩ := h
  cases e
  rcases h with h | ⟨b, off, e, _⟩
  · exact h
  · cases e
/-- The call makes a row of its own with this data. -/
def Makes {α : Type} (P : Program) (f : FuncId) (vs : List Value) (I : Imm) (O : Own) (R : Imm → List Value → α → Prop) (k : Nat) (xs : List α) : Prop :=
  Does P f vs I O fun u I' O' => I' = I ∧ ∃ ws ob, OwnS k u xs.length ws ob ∧ DR R k I ws xs ∧ O' = ob ++ O
end Go.Sy
