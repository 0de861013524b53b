/- Rows of the call's own, one cell of an element turned. -/
import Derived.Test.YtjoaccnfnniahaaSyI
namespace Go.Sy
open Go
variable {I J : Imm} {α : Type} {R : Imm → List Value → α → Prop} {k : Nat}
theorem setL_one {z : List Value} {p : Nat} {v : Value} (h : p < z.length) : setL z p [v] = z.set p v := by
  unfold setL
  rw [List.set_eq_take_append_cons_drop, if_pos h]
  simp
theorem part_set_same {ws : List Value} {i r k : Nat} {v : Value} (hr : r < k) : ((ws.set (i * k + r) v).drop (i * k)).take k = ((ws.drop (i * k)).take k).set r v := by
  apply List.ext_getElem?
  intro j
  simp only [List.getElem?_take, List.getElem?_drop, List.getElem?_set]
  by_cases hj : j < k
  · simp only [hj, if_true]
    by_cases e : r = j
    · subst e; simp
      split <;> split <;> first | rfl | omega
    · rw [if_neg (by omega), if_neg e]
  · simp [hj]
    omega
theorem part_set_other {ws : List Value} {i j r k : Nat} {v : Value} (hr : r < k) (hij : i ≠ j) : ((ws.set (i * k + r) v).drop (j * k)).take k = (ws.drop (j * k)).take k := by
  apply List.ext_getElem?
  intro q
  simp only [List.getElem?_take, List.getElem?_drop, List.getElem?_set]
  by_cases hq : q < k
  · simp only [hq, if_true]
    rw [if_neg]
    intro e
    rcases Nat.lt_or_gt_of_ne hij with h | h
    · have := Nat.mul_le_mul_right k (show i + 1 ≤ j by omega)
      rw [Nat.add_mul] at this
      omega
    · have := Nat.mul_le_mul_right k (show j + 1 ≤ i by omega)
      rw [Nat.add_mul] at this
      omega
  · simp [hq]
theorem DR.setCell {ws : List Value} {xs : List α} {i r : Nat} {v : Value} {x' : α} (h : DR R k I ws xs) (hi : i < xs.length) (hr : r < k) (hm : ∀ cs x, R I cs x → R J cs x)
    (hn : R J (((ws.drop (i * k)).take k).set r v) x') : DR R k J (ws.set (i * k + r) v) (xs.set i x') := by
  refine ⟨by simpa using h.1, fun j x hx => ?_⟩
  by_cases e : i = j
  · subst e
    rw [List.getElem?_set_self hi] at hx
    cases hx
    rw [part_set_same hr]; exact hn
  · rw [List.getElem?_set_ne e] at hx
    rw [part_set_other hr e]
    exact hm _ _ (h.2 j x hx)
theorem OwnS.form {k m : Nat} {v : Value} {ws : List Value} {ob : Own} (h : OwnS k v m ws ob) : ∃ ad cap, v = .slice ad m cap := by
  rcases h with ⟨rfl, rfl, _, _⟩ | ⟨b, cap, cs, T, rfl, _⟩
  · exact ⟨_, _, rfl⟩
  · exact ⟨_, _, rfl⟩
theorem Post.rets {P : Program} {n : Nat} {F : Fr} {O O1 : Own} {fn : Func} {K : Value → Imm → Own → Prop} {I0 : Imm} {rs : List ResultVar} {vs : List Value} {v : Value} (hr : fn.results = ⟨rs⟩) (hv : ResV P F I O rs vs)
    (hl : (if h : vs.length = 1 then vs[0] else .tuple ⟨vs⟩) = v) (hI : I0.le I) (hO : ∀ w, Sat w I O → Sat w I O1) (hk : K v I O1) : WN n (Post P fn I0 K) .ret F I O := fun a w ha hw => by
  have h := Post.ret (n := n) (K := fun u J O2 => u = v ∧ J = I ∧ O2 = O) hr hv hl hI ⟨rfl, rfl, rfl⟩ a w ha hw
  obtain ⟨h1, u, h2, w2, J, O2, h3, h4, h5, rfl, rfl, rfl⟩ := h
  exact ⟨h1, u, h2, w2, J, O1, h3, h4, hO _ h5, hk⟩
/-- s[:hi:max], s a slice. -/
theorem EV.slice3 {P : Program} {F : Fr} {I : Imm} {B : Own} {d : Option Tmp} {ty : TypeId} {pos : String} {af : Array Edge} {g : Option (Nat × Bool)} {t e k : Nat} {x hi mx : Operand} {ad : Option Addr} {len cap h m : Nat} {q1 q2 : IntKind} {m1 m2 : Int} (hf : slOf P t = some (e, k)) (hx : F.op x = some (.slice ad len cap)) (hhi : F.op hi = some (.int q1 m1)) (hmx : F.op mx = some (.int q2 m2)) (h1 : m1 = (h : Int)) (h2 : m2 = (m : Int)) (hh : h ≤ m) (hm : m ≤ cap) :
    EV P F I B ⟨d, .slice t x none (some hi) (some mx), ty, pos, af, g⟩ (.slice (if m = 0 then ad else ad.map (·.add (0 * k))) h m) := fun ρ hρ w hw => by
  unfold slOf at hf
  split at hf
  · rename_i e' hu
    obtain ⟨k', hk, he⟩ := Option.map_eq_some_iff.1 hf
    cases he
    have b1 : ∀ w, (Instr.sliceBound (.int q1 m1) m .slice3B).run P w = .ok h w := fun w => run_bound rfl h1 hh
    have b2 : ∀ w, (Instr.sliceBound (.int q2 m2) cap .slice3Acap).run P w = .ok m w := fun w => run_bound rfl h2 hm
    simp [execOp, hρ _ _ hx, hρ _ _ hhi, hρ _ _ hmx, Instr.sliceAt, Instr.slice, run_underlying hu, Instr.sliceBounds, b1, b2, run_sizeOf hk]
  · cases hf
theorem addr_none_zero (ad : Option Addr) (k : Nat) : ad.map (·.add (0 * k)) = ad := by
  cases ad with
  | none => rfl
  | some a => simp [Addr.add]
theorem SlR.take3 {ad : Option Addr} {len cap h m : Nat} {xs : List α} {q : Nat} (hs : SlR R k I (.slice ad len cap) xs) (hh : h ≤ xs.length) (hm : h ≤ m) (hc : m ≤ cap) :
    SlR R k I (.slice (if m = 0 then ad else ad.map (·.add (0 * q))) h m) (xs.take h) := by
  obtain ⟨ad', cap', h1, h2, h3, h4⟩ := hs
  cases h1
  have e : (xs.take h).length = h := by simp; omega
  rw [addr_none_zero, ite_self]
  refine ⟨_, m, by rw [e], by omega, by omega, ?_⟩
  rcases h4 with rfl | ⟨b, off, rfl, h6⟩
  · left; simp
  · right
    refine ⟨b, off, rfl, fun i x hx => ?_⟩
    rw [List.getElem?_take] at hx
    split at hx
    · exact h6 _ _ hx
    · cases hx
theorem SlR.from {ad : Option Addr} {len cap l : Nat} {xs : List α} (hs : SlR R k I (.slice ad len cap) xs) (hl : l ≤ xs.length) :
    SlR R k I (.slice (if cap = l then ad else ad.map (·.add (l * k))) (xs.length - l) (cap - l)) (xs.drop l) := by
  have := SlR.cut hs hl (Nat.le_refl _)
  rwa [List.take_length] at this
/-- The first elements of a row of the call's own. -/
theorem OwnS.take {ad : Option Addr} {len cap h m q : Nat} {ws : List Value} {ob : Own} (hs : OwnS k (.slice ad len cap) m ws ob) (hh : h ≤ m) :
    OwnS k (.slice (if cap = 0 then ad else ad.map (·.add (0 * q))) h cap) h (ws.take (h * k)) ob := by
  rw [addr_none_zero, ite_self]
  rcases hs with ⟨e, rfl, rfl, rfl⟩ | ⟨b, c, cs, T, e, rfl, h1, h2, h3, h4, h5⟩
  · cases e
    have : h = 0 := by omega
    subst this
    exact .inl ⟨rfl, rfl, by simp, rfl⟩
  · cases e
    refine .inr ⟨b, cap, cs, T, rfl, rfl, by omega, h2, ?_, ?_, h5⟩
    · rw [← h3, List.take_take]
      congr 1
      have := Nat.mul_le_mul_right k hh
      omega
    · rw [List.length_take, h4]
      have := Nat.mul_le_mul_right k hh
      omega
theorem DR.take {ws : List Value} {xs : List α} {h : Nat} (hd : DR R k I ws xs) (hh : h ≤ xs.length) : DR R k I (ws.take (h * k)) (xs.take h) := by
  have hle := Nat.mul_le_mul_right k hh
  refine ⟨by rw [List.length_take, hd.1, List.length_take]; rw [Nat.min_eq_left hle, Nat.min_eq_left hh], fun i x hx => ?_⟩
  rw [List.getElem?_take] at hx
  split at hx
  · rename_i hi
    have h1 := hd.2 i x hx
    have : ((ws.take (h * k)).drop (i * k)).take k = (ws.drop (i * k)).take k := by
      rw [List.drop_take, List.take_take]
      congr 1
      have := Nat.mul_le_mul_right k (show i + 1 ≤ h by omega)
      rw [Nat.add_mul] at this
      omega
    rw [this]; exact h1
  · cases hx
theorem EV.sliceLs {P : Program} {F : Fr} {I : Imm} {B : Own} {d : Option Tmp} {ty : TypeId} {pos : String} {af : Array Edge} {g : Option (Nat × Bool)} {t e k : Nat} {x lo : Operand} {b off len cap l : Nat} {q1 : IntKind} {m1 : Int} (hf : slOf P t = some (e, k)) (hx : F.op x = some (.slice (some ⟨b, off, none⟩) len cap)) (hlo : F.op lo = some (.int q1 m1)) (h1 : m1 = (l : Int)) (hl : l ≤ len) (hc : l < cap) :
    EV P F I B ⟨d, .slice t x (some lo) none none, ty, pos, af, g⟩ (.slice (some ⟨b, off + l * k, none⟩) (len - l) (cap - l)) := by
  have h := EV.sliceL (P := P) (F := F) (I := I) (B := B) (d := d) (ty := ty) (pos := pos) (af := af) (g := g) hf hx hlo h1 hl
  rw [if_neg (by omega)] at h
  simpa [addr_add] using h
theorem SlR.fromS {b off len cap l : Nat} {xs : List α} (hs : SlR R k I (.slice (some ⟨b, off, none⟩) len cap) xs) (hl : l < xs.length) :
    SlR R k I (.slice (some ⟨b, off + l * k, none⟩) (xs.length - l) (cap - l)) (xs.drop l) := by
  have h := SlR.from hs (Nat.le_of_lt hl)
  obtain ⟨_, cap', e, h2, _, _⟩ := hs
  cases e
  rw [if_neg (by omega)] at h
  simpa [addr_add] using h
theorem OwnS.capLe {ad : Option Addr} {n cap m : Nat} {ws : List Value} {ob : Own} (h : OwnS k (.slice ad n cap) m ws ob) : m ≤ cap := by
  rcases h with ⟨e, rfl, _, _⟩ | ⟨b, c, cs, T, e, _, h1, _⟩
  · omega
  · cases e; exact h1
end Go.Sy
