/- slices.SortFunc over a row of the call's own, elements of k cells, by the kit's contract. Nothing of the program stands here. -/
import Derived.Test.YtajpakifkinadaaGreatDoorSyJ
import Derived.Shelf.SlSortCmp.NoneTotal
namespace Go.Sy
open Go Go.Shelf Go.Lib Go.Sort Go.Proofs
set_option linter.unusedSimpArgs false
set_option linter.unusedVariables false
set_option linter.unusedSectionVars false
section
variable {α : Type} [Inhabited α] {enc : α → List Value} {k : Nat}
theorem flat_get (hk : ∀ x, (enc x).length = k) : ∀ (l : List α) (i j : Nat) (hi : i < l.length), j < k → (l.flatMap enc)[i * k + j]? = (enc l[i])[j]?
  | [], i, j, hi, _ => by simp at hi
  | x :: r, 0, j, _, hj => by
    rw [List.flatMap_cons, List.getElem?_append_left (by rw [hk]; omega)]; simp
  | x :: r, i + 1, j, hi, hj => by
    rw [List.flatMap_cons, List.getElem?_append_right (by rw [hk, Nat.add_mul]; omega), hk]
    rw [show (i + 1) * k + j - k = i * k + j by rw [Nat.add_mul]; omega]
    simpa using flat_get hk r i j (by simpa using hi) hj
theorem flat_len (hk : ∀ x, (enc x).length = k) (l : List α) : (l.flatMap enc).length = l.length * k := by
  induction l with
  | nil => simp
  | cons x r ih => rw [List.flatMap_cons, List.length_append, hk, ih, List.length_cons, Nat.add_mul]; omega
theorem flatK_eq (hk : ∀ x, (enc x).length = k) (d : Array α) : flatK enc k d = ⟨d.toList.flatMap enc⟩ := by
  have hs : (flatK enc k d).size = (⟨d.toList.flatMap enc⟩ : Array Value).size := by
    rw [size_flatK]; show _ = (d.toList.flatMap enc).length; rw [flat_len hk]; simp
  refine ext_get! hs fun t ht => ?_
  rw [size_flatK] at ht
  rw [get_flatK _ _ _ t ht]
  have k0 : 0 < k := by
    rcases Nat.eq_zero_or_pos k with h | h
    · subst h; simp at ht
    · exact h
  have h1 : t / k < d.toList.length := by simpa using (Nat.div_lt_iff_lt_mul k0).2 ht
  have h2 : t % k < k := Nat.mod_lt _ k0
  have h3 := flat_get hk d.toList (t / k) (t % k) h1 h2
  rw [Nat.div_add_mod' t k] at h3
  have e1 : d[t / k]! = d.toList[t / k] := by rw [getElem!_pos d (t / k) (by simpa using h1)]; simp
  rw [e1, List.getElem!_eq_getElem?_getD, ← h3]
  simp [List.getElem!_eq_getElem?_getD]
theorem put_eq {cs vs : List Value} (h : vs.length ≤ cs.length) : putCells id 0 ⟨vs⟩ ⟨cs⟩ = ⟨setL cs 0 vs⟩ := by
  have hl : (setL cs 0 vs).length = cs.length := by unfold setL; simp; omega
  refine Array.ext (by simp [putCells, hl]) fun i h1 h2 => ?_
  have hi : i < cs.length := by simpa [putCells] using h1
  simp only [putCells, Array.getElem_mapIdx, id]
  unfold setL
  simp only [List.take_zero, List.nil_append, Nat.zero_add, Nat.zero_le, true_and, Nat.sub_zero, List.getElem_toArray]
  by_cases hv : i < vs.length
  · rw [if_pos (by simpa using hv), List.getElem_append_left hv]
    simp [hv]
  · rw [if_neg (by simpa using hv), List.getElem_append_right (by omega), List.getElem_drop]
    congr 1; omega
theorem holdsK_of (hk : ∀ x, (enc x).length = k) {w : World} {b : Nat} {cs : List Value} {T : TypeId} {d : Array α} (hd : cs.take (d.size * k) = d.toList.flatMap enc) (hb : w.heap[b]? = some (.cells ⟨cs⟩ T (0, 0))) : HoldsK enc k w b 0 d := by
  unfold HoldsK Holds
  rw [flatK_eq hk]
  intro j hj
  have hj : j < (d.toList.flatMap enc).length := hj
  have hj2 : j < d.size * k := by rw [flat_len hk] at hj; simpa using hj
  have e : cs[j]? = some ((d.toList.flatMap enc)[j]) := by
    rw [← List.getElem?_eq_getElem hj, ← hd, List.getElem?_take_of_lt hj2]
  refine ⟨?_, by simp [World.frozen?, hb]⟩
  simp [World.cell?, hb, e]
  rw [List.getElem?_eq_getElem hj]; rfl
theorem Sat.grown {w : World} {I : Imm} {O : Own} (h : Sat w I O) (os : Array Obj) : Sat (grow w os) I O := by
  have hlt : ∀ b o, w.heap[b]? = some o → (w.heap ++ os)[b]? = some o := fun b o ho => by
    rw [Array.getElem?_append_left (Array.getElem?_eq_some_iff.1 ho).1]; exact ho
  exact ⟨fun b o e => hlt b o (h.imm b o e), fun b o hm => hlt b o (h.own b o hm), h.nodup, h.apart, h.env⟩
theorem Does.sortFunc {P : Program} {ρ : Ren} (L : SlLaysF0.n6 P ρ) (aE : ∀ w, (isAgg (ρ.t 24)).run P w = .ok true w) (zE : ∀ w, (Go.sizeOf (ρ.t 24)).run P w = .ok k w) (hk : ∀ x, (enc x).length = k) (h1 : ∀ x, ∀ v ∈ enc x, v.oneCell' = true) (cf : α → α → Int) (hO : SWO (ltOf cf)) {g : Nat} {cb : List Value} {b cap : Nat} {cs : List Value} {T : TypeId} {d : Array α} {I : Imm} {O : Own}
    (eg : ∀ args w, (callFunc g args).run P w = .ok (.enter g args) w) (hcmp : ∀ x y w, Calls P g (#[.agg (enc x).toArray, .agg (enc y).toArray] ++ ⟨cb⟩) w fun e w' => e = .returned (.int .i64 (cf x y)) ∧ ∃ q os', w' = grow (w.drewN q) os')
    (hd : cs.take (d.size * k) = d.toList.flatMap enc) (hc : d.size * k ≤ cs.length) (hsz : d.size < 4611686018427387904) :
    Does P (ρ.f 6) [.slice (some ⟨b, 0, none⟩) d.size cap, .func (.func g) #[] ⟨cb⟩] I ((b, .cells ⟨cs⟩ T (0, 0)) :: O) fun u I' O' => I' = I ∧ u = .tuple #[] ∧ ∃ d' : Array α, d'.toList.Perm d.toList ∧ (∀ i j, i < j → j < d.size → ltOf cf d'[j]! d'[i]! = false) ∧ O' = (b, .cells ⟨setL cs 0 (d'.toList.flatMap enc)⟩ T (0, 0)) :: O := fun w hw => by
  have hb := hw.own b _ List.mem_cons_self
  have hlt := (Array.getElem?_eq_some_iff.1 hb).1
  refine (AnyQ.slices_SortFunc L k aE zE enc hk h1 cf hO g ⟨cb⟩ b 0 cap d w eg (fun m os dk _ x y => hcmp x y _) (holdsK_of hk hd hb) hlt hsz).mono ?_
  rintro e w' ⟨rfl, d', n, os, ⟨p1, p2, p3⟩, hs, rfl⟩
  have e1 : d'.toList.Perm d.toList := by
    have h2 : d.extract 0 d.size = d := by simp
    have h3 : d'.extract 0 d.size = d' := by rw [← p1]; simp
    rwa [h2, h3] at p3
  have hF : (d'.toList.flatMap enc).length ≤ cs.length := by
    rw [flat_len hk, Array.length_toList, p1]; exact hc
  have hb2 : (Go.Sort.ahead w n).heap[b]? = some (.cells ⟨cs⟩ T (0, 0)) := hb
  have hrow : (putRowK enc k (Go.Sort.ahead w n) b 0 d').heap[b]? = some (.cells ⟨setL cs 0 (d'.toList.flatMap enc)⟩ T (0, 0)) := by
    unfold putRowK putRow mapBlock
    rw [flatK_eq hk]
    simp only [Array.getElem?_modify, if_true, hb2, Option.map_some, onCells]
    rw [put_eq hF]
  have hoth : ∀ c, c ≠ b → (putRowK enc k (Go.Sort.ahead w n) b 0 d').heap[c]? = w.heap[c]? := fun c hc => by
    unfold putRowK putRow mapBlock
    simp only [Array.getElem?_modify, if_neg (Ne.symm hc)]
    rfl
  have s1 : Sat (putRowK enc k (Go.Sort.ahead w n) b 0 d') I ((b, .cells ⟨setL cs 0 (d'.toList.flatMap enc)⟩ T (0, 0)) :: O) := hw.upd Upd.here hrow hoth rfl
  exact ⟨_, I, _, rfl, Imm.le_refl I, s1.grown os, rfl, rfl, d', e1, fun i j hij hj => hs i j (Nat.zero_le _) hij hj, rfl⟩
end
theorem Pure.sortNone {P : Program} {ρ : Ren} (L : SlLaysF0.n6 P ρ) {p : Option Addr} {cap : Nat} {fv : Value} {I : Imm} {O : Own} : Pure P (ρ.f 6) [.slice p 0 cap, fv] I O (.tuple #[]) := fun w hw => by
  refine (AnyF.slices_SortFunc_none (P := P) (ρ := ρ) L p cap fv w).mono ?_
  rintro e w' ⟨rfl, rfl⟩
  exact ⟨_, I, O, rfl, Imm.le_refl I, hw, rfl, rfl, rfl⟩
end Go.Sy
