/- Packets, as they lie in memory; clear of a row's rest; an own row's rest as a source. Nothing of the program stands here. -/
import Derived.Test.YtjoaccnfnniahaaSyV
namespace Go.Sy
open Go
set_option linter.unusedVariables false
set_option linter.unusedSimpArgs false
structure Pkt where
  from_ : Int
  to : Int
  data : ByteArray
  deriving DecidableEq
def Pkt.cells (p : Pkt) : List Value := [.int .i64 p.from_, .int .i64 p.to, .string p.data]
abbrev pv (p : Pkt) : Value := .agg ⟨p.cells⟩
def PktR (_ : Imm) (cs : List Value) (p : Pkt) : Prop := cs = p.cells ∧ I64 p.from_ ∧ I64 p.to ∧ StrOk p.data
theorem PktR.len {I : Imm} {cs : List Value} {p : Pkt} (h : PktR I cs p) : cs.length = 3 := by rw [h.1]; rfl
theorem PktR.ones {I : Imm} {cs : List Value} {p : Pkt} (h : PktR I cs p) : Go.Sy.ones cs = true := by rw [h.1]; rfl
abbrev PktsR (I : Imm) (v : Value) (l : List Pkt) : Prop := SlR PktR 3 I v l
theorem PktsR.mono {I J : Imm} {v : Value} {l : List Pkt} (hI : I.le J) (h : PktsR I v l) : PktsR J v l := SlR.mono (I := I) (J := J) (fun _ _ h => h) hI h
structure PktZ (L : Nat → Nat → Prop) (S : Nat → Prop) (p : Pkt) : Prop where
  data : S p.data.size
def NetR (I : Imm) (cs : List Value) (l : List Pkt) : Prop := ∃ v, cs = [v] ∧ PktsR I v l
structure NetZ (L : Nat → Nat → Prop) (S : Nat → Prop) (l : List Pkt) : Prop where
  pkts : SlZ L (PktZ L S) 32 l
theorem NetR.mono {I J : Imm} {cs : List Value} {l : List Pkt} (hI : I.le J) (h : NetR I cs l) : NetR J cs l := by
  obtain ⟨v, e, h⟩ := h; exact ⟨v, e, h.mono hI⟩
theorem push_map {xs : List Pkt} {p : Pkt} : (⟨xs.map pv⟩ : Array Value).push (pv p) = ⟨(xs ++ [p]).map pv⟩ := by simp
theorem tail_drop {xs : List Pkt} {k : Nat} : ((xs.drop k).map pv).tail = (xs.drop (k + 1)).map pv := by rw [← List.map_tail, List.tail_drop]
theorem drop_cons {xs : List Pkt} {k : Nat} {v : Value} {l : List Value} (h : (xs.drop k).map pv = v :: l) : ∃ hk : k < xs.length, v = pv xs[k] := by
  by_cases hk : k < xs.length
  · rw [List.drop_eq_getElem_cons hk, List.map_cons] at h
    exact ⟨hk, (List.cons.inj h).1.symm⟩
  · rw [List.drop_of_length_le (by omega)] at h; cases h
theorem drop_nil {xs : List Pkt} {k : Nat} (h : (xs.drop k).map pv = []) : xs.length ≤ k := by
  have := congrArg List.length h
  simp at this; omega
variable {P : Program} {n : Nat} {Q : Exit → Act → World → Prop} {F : Fr} {I : Imm} {O : Own} {k : Nat}
/-- An own row's rest, as a source. -/
theorem OwnS.srcFrom {ad : Option Addr} {len cap m l : Nat} {ws : List Value} {ob O' : Own} (h : OwnS k (.slice ad len cap) m ws ob) (hr : Rem O ob O') (hl : l ≤ m) : Src I O (.slice (if cap = l then ad else ad.map (·.add (l * k))) (m - l) (cap - l)) (m - l) (ws.drop (l * k)) := by
  rcases h with ⟨e, rfl, rfl, rfl⟩ | ⟨b, c, cs, T, e, rfl, h1, h2, h3, h4, _⟩
  · exact ⟨_, _, rfl, .inl (by simp)⟩
  · cases e
    by_cases hc : cap = l
    · refine ⟨_, _, rfl, .inl ?_⟩
      rw [List.drop_eq_nil_iff, h4]
      exact Nat.mul_le_mul_right k (by omega)
    · rw [if_neg hc]
      refine ⟨_, _, rfl, .inr ⟨b, l * k, by simp [addr_add], .inr ⟨⟨cs⟩, T, (0, 0), hr.sub.2 _ (by simp), fun j u hu => ?_⟩⟩⟩
      rw [List.getElem?_drop, ← h3, List.getElem?_take] at hu
      split at hu
      · simpa using hu
      · cases hu
theorem DR.drop {α : Type} {R : Imm → List Value → α → Prop} {ws : List Value} {xs : List α} {l : Nat} (hd : DR R k I ws xs) (hl : l ≤ xs.length) : DR R k I (ws.drop (l * k)) (xs.drop l) := by
  refine ⟨by rw [List.length_drop, hd.1, List.length_drop, Nat.sub_mul], fun i x hx => ?_⟩
  rw [List.getElem?_drop] at hx
  have := hd.2 _ x hx
  rw [List.drop_drop]
  rw [show l * k + i * k = (l + i) * k by rw [Nat.add_mul]]
  exact this
theorem zero_ones {z : Array Value} {m : Nat} (h : Go.Sy.ones z.toList = true) : Go.Sy.ones (Builtin.zeroCells z m).toList = true := by
  have back : ∀ (l : List Value), Go.Sy.ones l = true → ∀ v ∈ l, one v := by
    intro l
    induction l with
    | nil => intro _ v hv; cases hv
    | cons u r ih =>
      intro ho v hv
      have h2 : Go.Sy.ones r = true := by unfold Go.Sy.ones at ho; cases hr : Go.Sy.ones r <;> simp_all
      rcases List.mem_cons.1 hv with rfl | hv
      · cases v <;> first | trivial | (unfold Go.Sy.ones at ho; simp at ho)
      · exact ih h2 v hv
  have key : ∀ (l : List Value), (∀ v ∈ l, one v) → Go.Sy.ones l = true := by
    intro l
    induction l with
    | nil => intro _; rfl
    | cons v r ih => exact fun hv => ones_cons (hv v List.mem_cons_self) (ih fun u hu => hv u (List.mem_cons_of_mem _ hu))
  refine key _ fun v hv => ?_
  simp only [Builtin.zeroCells, Array.toList_map, List.mem_map] at hv
  obtain ⟨i, hi, rfl⟩ := hv
  have hi2 : i < m * z.size := by simpa using hi
  have hz : 0 < z.size := by
    rcases Nat.eq_zero_or_pos z.size with h0 | h0
    · rw [h0] at hi2; omega
    · exact h0
  have : i % z.size < z.size := Nat.mod_lt _ hz
  exact back _ h _ (by simp [this])
/-- append into the room that an own row has. -/
theorem SR.appendIn {t t2 e e2 : TypeId} {k m m2 len cap : Nat} {ad : Option Addr} {x : Value} {ws ws2 : List Value} {ob O0 : Own} {ty : TypeId} (hu : P.underlying t = some (.slice e)) (hu2 : P.underlying t2 = some (.slice e2)) (hk : szOf P e = some k)
    (hr : Rem O ob O0) (hv : OwnS k (.slice ad len cap) m ws ob) (hx : Src I O x m2 ws2) (hl2 : ws2.length = m2 * k) (ho : Go.Sy.ones ws2 = true) (hin : m + m2 ≤ cap) :
    SR P (Builtin.append_ #[t, t2] ty #[.slice ad len cap, x]) I O (fun u O' => u = .slice ad (m + m2) cap ∧ ∃ ob', OwnS k u (m + m2) (ws ++ ws2) ob' ∧ O' = ob' ++ O0) := fun w hw => by
  have hxl : ∀ w, (Builtin.lenOf x).run P w = .ok m2 w := fun w => by obtain ⟨ad, cap, rfl, _⟩ := hx; rfl
  have hxc : (Builtin.firstCells k m2 x).run P w = .ok ws2.toArray w := hx.cells hw.knows hl2
  have hS : ∀ w, (sizeOf e).run P w = .ok k w := fun w => run_sizeOf hk
  rcases hv with ⟨e1, rfl, rfl, rfl⟩ | ⟨b, cap', cs, T, e1, rfl, hmc, hcl, htk, hwl, h63⟩
  · cases e1
    have hm2 : m2 = 0 := by omega
    subst hm2
    have hw2 : ws2 = [] := by simpa using hl2
    subst hw2
    refine ⟨.slice none 0 0, w, O0, ?_, hw.sub (Imm.le_refl I) hr.sub.1 (by
      have := hr.perm.map Prod.fst |>.nodup_iff.1 hw.nodup
      rw [List.map_append, List.nodup_append] at this
      exact this.2.1), rfl, [], .inl ⟨rfl, rfl, rfl, rfl⟩, rfl⟩
    unfold Builtin.append_
    simp [run_underlying hu, run_underlying hu2, hS, hxl, hxc]
  · cases e1
    have hsat := hw.rem hr
    have hbk := hsat.own b (.cells ⟨cs⟩ T (0, 0)) (by simp)
    have hlen : m * k + ws2.length ≤ cs.length := by
      rw [hl2, hcl, ← Nat.add_mul]
      exact Nat.mul_le_mul_right k hin
    obtain ⟨w', g1, g0, g2, g3⟩ := run_storeCells P (off := m * k) (i := 0) ho (by simpa using hlen) hbk
    have hu' : Upd ((b, .cells ⟨cs⟩ T (0, 0)) :: O0) b (.cells ⟨cs⟩ T (0, 0)) (.cells ⟨setL cs (m * k) ws2⟩ T (0, 0)) ((b, .cells ⟨setL cs (m * k) ws2⟩ T (0, 0)) :: O0) := .here
    have hsat' := Sat.upd hsat hu' (by simpa using g2) g3 g0
    refine ⟨_, w', _, ?_, hsat', rfl, _, .inr ⟨b, cap, setL cs (m * k) ws2, T, rfl, rfl, hin, ?_, ?_, ?_, h63⟩, rfl⟩
    · unfold Builtin.append_
      simp [run_underlying hu, run_underlying hu2, hS, hxl, hxc, hin, addr_add, g1]
    · rw [setL_length hlen, hcl]
    · rw [Nat.add_mul, ← hl2, take_setL hlen, htk]
    · simp only [List.length_append, hwl, hl2, Nat.add_mul]
section
variable {d : Option Tmp} {ty : TypeId} {pos : String} {af : Array Edge} {g : Option (Nat × Bool)} {K : Fr → Imm → Own → Prop}
theorem WOp.appendIn {t t2 e e2 : TypeId} {xo yo : Operand} {k m m2 len cap : Nat} {ad : Option Addr} {x : Value} {ws ws2 : List Value} {ob O0 : Own} (hu : P.underlying t = some (.slice e)) (hu2 : P.underlying t2 = some (.slice e2)) (hk : szOf P e = some k)
    (hxo : F.op xo = some (.slice ad len cap)) (hyo : F.op yo = some x) (hr : Rem O ob O0) (hv : OwnS k (.slice ad len cap) m ws ob) (hx : Src I O x m2 ws2) (hl2 : ws2.length = m2 * k) (ho : Go.Sy.ones ws2 = true) (hin : m + m2 ≤ cap)
    (hd : dstOk n d = true) (kk : ∀ ob', OwnS k (.slice ad (m + m2) cap) (m + m2) (ws ++ ws2) ob' → K (F.put d (.slice ad (m + m2) cap)) I (ob' ++ O0)) : WOp P n Q ⟨d, .call ⟨.builtin .append, #[xo, yo], #[t, t2]⟩, ty, pos, af, g⟩ F I O K :=
  .sr hd fun ρ hρ => by
    simp only [execOp, resolve, pure_bind, invoke, builtin]
    have e1 : (#[xo, yo] : Array Operand).map ρ = #[.slice ad len cap, x] := by simp [hρ _ _ hxo, hρ _ _ hyo]
    rw [e1]
    refine .value ?_
    refine (SR.appendIn (ty := ty) hu hu2 hk hr hv hx hl2 ho hin).mono ?_
    rintro u O' ⟨rfl, ob', h1, rfl⟩
    exact ⟨_, rfl, kk ob' h1⟩
/-- What lies behind an own row's elements is cleared. -/
theorem WOp.clear {t e : TypeId} {xo : Operand} {k m len cap lo hi : Nat} {ad : Option Addr} {ws z : List Value} {ob O0 : Own} {zv : Value} (hu : P.underlying t = some (.slice e)) (hz : zvOf P e = some zv) (hzz : zv.cells = ⟨z⟩) (hzk : z.length = k) (hz1 : Go.Sy.ones z = true)
    (hxo : F.op xo = some (.slice (if cap = lo then ad else ad.map (·.add (lo * k))) (hi - lo) (cap - lo))) (hr : Rem O ob O0) (hv : OwnS k (.slice ad len cap) m ws ob) (hm : m ≤ lo) (hlo : lo ≤ hi) (hhi : hi ≤ cap)
    (hd : dstOk n d = true) (kk : ∀ ob', OwnS k (.slice ad len cap) m ws ob' → K (F.put d (.tuple #[])) I (ob' ++ O0)) : WOp P n Q ⟨d, .call ⟨.builtin .clear, #[xo], #[t]⟩, ty, pos, af, g⟩ F I O K :=
  .sr hd fun ρ hρ => by
    simp only [execOp, resolve, pure_bind, invoke, builtin]
    have e1 : (#[xo] : Array Operand).map ρ = #[.slice (if cap = lo then ad else ad.map (·.add (lo * k))) (hi - lo) (cap - lo)] := by simp [hρ _ _ hxo]
    rw [e1]
    refine .value ?_
    rcases hv with ⟨e2, rfl, rfl, rfl⟩ | ⟨b, cap', cs, T, e2, rfl, hmc, hcl, htk, hwl, h63⟩
    · cases e2
      have : (if (0 : Nat) = lo then (none : Option Addr) else (none : Option Addr).map (·.add (lo * k))) = none := by split <;> rfl
      rw [this]
      exact fun w hw => ⟨.tuple #[], w, [] ++ O0, by unfold Builtin.clear_; simp [run_underlying hu], hw.rem hr, _, rfl, kk [] OwnS.nil⟩
    · cases e2
      have hv : OwnS k (.slice (some ⟨b, 0, none⟩) m cap) m ws [(b, .cells ⟨cs⟩ T (0, 0))] := .inr ⟨b, cap, cs, T, rfl, rfl, hmc, hcl, htk, hwl, h63⟩
      by_cases h0 : hi - lo = 0
      · rw [h0]
        refine fun w hw => ⟨.tuple #[], w, _, ?_, hw.rem hr, _, rfl, kk _ hv⟩
        generalize (if cap = lo then some (⟨b, 0, none⟩ : Addr) else Option.map (fun x : Addr => x.add (lo * k)) (some ⟨b, 0, none⟩)) = ad'
        unfold Builtin.clear_
        cases ad' <;> simp [run_underlying hu]
      · obtain ⟨q, hq⟩ : ∃ q, hi - lo = q + 1 := ⟨hi - lo - 1, by omega⟩
        rw [if_neg (show ¬cap = lo by omega)]
        have hsz : (Builtin.zeroCells ⟨z⟩ (q + 1)).toList.length = (q + 1) * k := by simp [Builtin.zeroCells, hzk]
        have hle : lo * k + (q + 1) * k ≤ cs.length := by
          rw [hcl, ← Nat.add_mul]; exact Nat.mul_le_mul_right k (by omega)
        intro w hw
        have hsat := hw.rem hr
        have hbk := hsat.own b (.cells ⟨cs⟩ T (0, 0)) (by simp)
        obtain ⟨w', g1, g0, g2, g3⟩ := run_storeCells P (off := lo * k) (i := 0) (zero_ones (z := ⟨z⟩) (m := q + 1) hz1) (by rw [hsz]; omega) hbk
        have hu' : Upd ((b, .cells ⟨cs⟩ T (0, 0)) :: O0) b (.cells ⟨cs⟩ T (0, 0)) (.cells ⟨setL cs (lo * k) (Builtin.zeroCells ⟨z⟩ (q + 1)).toList⟩ T (0, 0)) _ := .here
        have hsat' := Sat.upd hsat hu' (by simpa using g2) g3 g0
        have hmk : m * k ≤ lo * k := Nat.mul_le_mul_right k hm
        refine ⟨.tuple #[], w', _, ?_, hsat', _, rfl, kk [(b, .cells ⟨setL cs (lo * k) (Builtin.zeroCells ⟨z⟩ (q + 1)).toList⟩ T (0, 0))] (.inr ⟨b, cap, _, T, rfl, rfl, hmc, ?_, ?_, hwl, h63⟩)⟩
        · rw [hq]
          have e3 : (some (⟨b, 0, none⟩ : Addr)).map (·.add (lo * k)) = some ⟨b, lo * k, none⟩ := by simp [addr_add]
          rw [e3]
          unfold Builtin.clear_
          simp [run_underlying hu, run_zeroValue hz, hzz, g1]
        · rw [setL_length (by rw [hsz]; exact hle), hcl]
        · rw [← htk]
          unfold setL
          rw [List.take_append_of_le_length (by rw [List.length_take]; omega), List.take_take]
          congr 1
          omega
end
theorem ite_min (a b : Int) : (if b < a then b else a) = min a b := by split <;> omega
theorem ite_max (a b : Int) : (if a < b then b else a) = max a b := by split <;> omega
section
variable {B : Own} {d : Option Tmp} {ty : TypeId} {pos : String} {af : Array Edge} {g : Option (Nat × Bool)}
/-- s[lo:hi:max], s a slice. -/
theorem EV.slice3L {t e k : Nat} {x lo hi mx : Operand} {ad : Option Addr} {len cap l h m : Nat} {q0 q1 q2 : IntKind} {m0 m1 m2 : Int} (hf : slOf P t = some (e, k)) (hx : F.op x = some (.slice ad len cap)) (hlo : F.op lo = some (.int q0 m0)) (hhi : F.op hi = some (.int q1 m1)) (hmx : F.op mx = some (.int q2 m2)) (h0 : m0 = (l : Int)) (h1 : m1 = (h : Int)) (h2 : m2 = (m : Int)) (hl : l ≤ h) (hh : h ≤ m) (hm : m ≤ cap) :
    EV P F I B ⟨d, .slice t x (some lo) (some hi) (some mx), ty, pos, af, g⟩ (.slice (if m = l then ad else ad.map (·.add (l * k))) (h - l) (m - l)) := fun ρ hρ w hw => by
  unfold slOf at hf
  split at hf
  · rename_i e' hu
    obtain ⟨k', hk, he⟩ := Option.map_eq_some_iff.1 hf
    cases he
    have b0 : ∀ w, (Instr.sliceBound (.int q0 m0) h .slice3C).run P w = .ok l w := fun w => run_bound rfl h0 hl
    have b1 : ∀ w, (Instr.sliceBound (.int q1 m1) m .slice3B).run P w = .ok h w := fun w => run_bound rfl h1 hh
    have b2 : ∀ w, (Instr.sliceBound (.int q2 m2) cap .slice3Acap).run P w = .ok m w := fun w => run_bound rfl h2 hm
    simp [execOp, hρ _ _ hx, hρ _ _ hlo, hρ _ _ hhi, hρ _ _ hmx, Instr.sliceAt, Instr.slice, run_underlying hu, Instr.sliceBounds, b0, b1, b2, run_sizeOf hk]
  · cases hf
theorem EV.sliceHn {t e k : Nat} {x hi : Operand} {ad : Option Addr} {len cap h : Nat} {q2 : IntKind} {m2 : Int} (hf : slOf P t = some (e, k)) (hx : F.op x = some (.slice ad len cap)) (hhi : F.op hi = some (.int q2 m2)) (h2 : m2 = (h : Int)) (hh : h ≤ cap) :
    EV P F I B ⟨d, .slice t x none (some hi) none, ty, pos, af, g⟩ (.slice ad h cap) := by
  have := EV.sliceH (P := P) (F := F) (I := I) (B := B) (d := d) (ty := ty) (pos := pos) (af := af) (g := g) hf hx hhi h2 hh
  rwa [addr_none_zero, ite_self] at this
end
theorem OwnS.takeN {ad : Option Addr} {len cap h m : Nat} {ws : List Value} {ob : Own} (hs : OwnS k (.slice ad len cap) m ws ob) (hh : h ≤ m) : OwnS k (.slice ad h cap) h (ws.take (h * k)) ob := by
  have := OwnS.take (q := 1) hs hh
  rwa [addr_none_zero, ite_self] at this
theorem SlR.takeN {α : Type} {R : Imm → List Value → α → Prop} {ad : Option Addr} {len cap h : Nat} {xs : List α} (hs : SlR R k I (.slice ad len cap) xs) (hh : h ≤ xs.length) : SlR R k I (.slice ad h cap) (xs.take h) := by
  obtain ⟨_, cap', e, h2, _, _⟩ := id hs
  cases e
  have := SlR.take3 (m := cap) (q := 1) hs hh (by omega) (Nat.le_refl _)
  rwa [addr_none_zero, ite_self] at this
theorem OwnS.lenLe {v : Value} {m : Nat} {ws : List Value} {ob : Own} (h : OwnS k v m ws ob) : m ≤ 9223372036854775807 := by
  rcases h with ⟨_, rfl, _, _⟩ | ⟨b, c, cs, T, _, _, h1, _, _, _, h5⟩ <;> omega
end Go.Sy
