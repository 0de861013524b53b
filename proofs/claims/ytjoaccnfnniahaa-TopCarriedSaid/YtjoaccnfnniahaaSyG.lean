/- Rows of the call's own that turn no more; sources of cells. -/
import Derived.Test.YtjoaccnfnniahaaSyF
namespace Go.Sy
open Go
variable {P : Program} {n : Nat} {Q : Exit → Act → World → Prop} {F : Fr} {I : Imm} {O : Own}
theorem Src.any {B : Own} {v : Value} {m : Nat} {ws : List Value} (h : Src I [] v m ws) : Src I B v m ws := by
  obtain ⟨ad, cap, e, h⟩ := h
  refine ⟨ad, cap, e, h.imp id ?_⟩
  rintro ⟨b, off, e2, h⟩
  refine ⟨b, off, e2, h.imp id ?_⟩
  rintro ⟨cs, T, fz, h, _⟩
  cases h
/-- A row of the call's own is readable as data for good. -/
def Reads (J : Imm) (k : Nat) (v : Value) (m : Nat) (ws : List Value) : Prop :=
  ∀ {α : Type} {R : Imm → List Value → α → Prop} {xs : List α}, DR R k J ws xs → m = xs.length → SlR R k J v xs
theorem frzS {k m : Nat} {v : Value} {ws : List Value} {ob : Own} {w : World} (hs : OwnS k v m ws ob) (h : Sat w I (ob ++ O)) : ∃ J, I.le J ∧ Reads J k v m ws ∧ Sat w J O := by
  rcases hs with ⟨rfl, rfl, rfl, rfl⟩ | ⟨b, cap, cs, T, rfl, rfl, h1, h2, h3, h4, h5⟩
  · refine ⟨I, Imm.le_refl _, fun {α R xs} _ hm => ?_, h⟩
    obtain rfl := List.length_eq_zero_iff.1 hm.symm
    exact SlR.nil
  · obtain ⟨J, hJ, hb, hw⟩ := frz h
    exact ⟨J, hJ, fun {α R xs} hd hm => by subst hm; exact OwnS.read (.inr ⟨b, cap, cs, T, rfl, rfl, h1, h2, h3, h4, h5⟩) hd hb, hw⟩
section
variable {k m : Nat} {v : Value} {ws : List Value} {ob : Own} (hs : OwnS k v m ws ob)
include hs
theorem WL.freezeS {ops : Array Oper} {l : List Oper} (h : ∀ J, I.le J → Reads J k v m ws → WL P n ops Q l F J O) : WL P n ops Q l F I (ob ++ O) := fun a w ha hw => by
  obtain ⟨J, h1, h2, h3⟩ := frzS hs hw
  exact h J h1 h2 a w ha h3
theorem WC.freezeS {c : Code} (h : ∀ J, I.le J → Reads J k v m ws → WC P n c Q F J O) : WC P n c Q F I (ob ++ O) := fun a w ha hw => by
  obtain ⟨J, h1, h2, h3⟩ := frzS hs hw
  exact h J h1 h2 a w ha h3
theorem WN.freezeS {e : Exit} (h : ∀ J, I.le J → Reads J k v m ws → WN n Q e F J O) : WN n Q e F I (ob ++ O) := fun a w ha hw => by
  obtain ⟨J, h1, h2, h3⟩ := frzS hs hw
  exact h J h1 h2 a w ha h3
theorem WOp.freezeS {o : Oper} {K : Fr → Imm → Own → Prop} (h : ∀ J, I.le J → Reads J k v m ws → WOp P n Q o F J O K) : WOp P n Q o F I (ob ++ O) K := fun a w ha hw => by
  obtain ⟨J, h1, h2, h3⟩ := frzS hs hw
  exact Oper.wp_mono (fun a' w' ⟨F', I', O', g1, g2, g3⟩ => ⟨F', I', O', g1, Imm.le_trans h1 g2, g3⟩) (h J h1 h2 a w ha h3)
theorem WA.freezeS {ops : Array Oper} {K : Imm} {B : Own} {r : Nat} {listed : Array Bool} (h : ∀ J, I.le J → Reads J k v m ws → WA P n ops Q K B r listed F J O) : WA P n ops Q K B r listed F I (ob ++ O) := fun a w ha hw hk => by
  obtain ⟨J, h1, h2, h3⟩ := frzS hs hw
  exact h J h1 h2 a w ha h3 hk
end
theorem WOp.freeze {o : Oper} {K : Fr → Imm → Own → Prop} {b : Nat} {r : Obj} (h : ∀ J, I.le J → J b = some r → WOp P n Q o F J O K) : WOp P n Q o F I ((b, r) :: O) K := fun a w ha hw => by
  obtain ⟨J, h1, h2, h3⟩ := frz hw
  exact Oper.wp_mono (fun a' w' ⟨F', I', O', g1, g2, g3⟩ => ⟨F', I', O', g1, Imm.le_trans h1 g2, g3⟩) (h J h1 h2 a w ha h3)
theorem WOp.front {o : Oper} {K : Fr → Imm → Own → Prop} {ob O' : Own} (hr : Rem O ob O') (h : WOp P n Q o F I (ob ++ O') K) : WOp P n Q o F I O K := fun a w ha hw => h a w ha (hw.rem hr)
theorem WL.front1 {x : Nat × Obj} {O' : Own} (hr : Rem O [x] O') {ops : Array Oper} {l : List Oper} (h : WL P n ops Q l F I (x :: O')) : WL P n ops Q l F I O := fun a w ha hw => h a w ha (hw.rem hr)
theorem WC.front1 {x : Nat × Obj} {O' : Own} (hr : Rem O [x] O') {c : Code} (h : WC P n c Q F I (x :: O')) : WC P n c Q F I O := fun a w ha hw => h a w ha (hw.rem hr)
theorem WN.front1 {x : Nat × Obj} {O' : Own} (hr : Rem O [x] O') {e : Exit} (h : WN n Q e F I (x :: O')) : WN n Q e F I O := fun a w ha hw => h a w ha (hw.rem hr)
theorem WA.front1 {x : Nat × Obj} {O' : Own} (hr : Rem O [x] O') {ops : Array Oper} {K : Imm} {B : Own} {k : Nat} {listed : Array Bool} (h : WA P n ops Q K B k listed F I (x :: O')) : WA P n ops Q K B k listed F I O := fun a w ha hw => h a w ha (hw.rem hr)
theorem WOp.front1 {x : Nat × Obj} {O' : Own} (hr : Rem O [x] O') {o : Oper} {K : Fr → Imm → Own → Prop} (h : WOp P n Q o F I (x :: O') K) : WOp P n Q o F I O K := fun a w ha hw => h a w ha (hw.rem hr)
theorem EV.cast {B : Own} {o : Oper} {v u : Value} (h : EV P F I B o v) (e : v = u) : EV P F I B o u := e ▸ h
/-- The ways through x meet again; what is owned then is told from what is owned now. -/
theorem WC.meetO {σ : Type} {x y : Code} (ms : List Nat) (inv : σ → Prop) (GG : σ → Fr) (II : σ → Imm) (OO : Own → σ → Own) (hx : WC P n x (Exit.then (Mid n inv GG II (OO O) (F.del ms)) Q) F I O)
    (hy : ∀ s, inv s → WC P n y Q (GG s ++ F.del ms) (II s) (OO O s)) : WC P n (.seq x y) Q F I O := .meet ms inv GG II (OO O) hx hy
end Go.Sy
