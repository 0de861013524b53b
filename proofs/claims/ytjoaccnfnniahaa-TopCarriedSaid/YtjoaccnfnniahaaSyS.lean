/- Texts and bytes: slices of a text, bits, make of bytes, an own row of bytes as a text. Nothing of the program stands here. -/
import Derived.Test.YtjoaccnfnniahaaSyJ
namespace Go.Sy
open Go
set_option linter.unusedVariables false
set_option linter.unusedSimpArgs false
variable {P : Program} {n : Nat} {Q : Exit → Act → World → Prop} {F : Fr} {I : Imm} {O : Own}
section
variable {B : Own} {d : Option Tmp} {ty : TypeId} {pos : String} {af : Array Edge} {g : Option (Nat × Bool)}
theorem EV.shlC {t t2 : TypeId} {x y : Operand} {q r : IntKind} {a b c : Int} (hx : F.op x = some (.int q a)) (hy : F.op y = some (.int r b)) (hb : ¬b < 0) (hc : q.wrap (a * 2 ^ (min b.toNat q.bits)) = c) :
    EV P F I B ⟨d, .binOp .shl t x y t2, ty, pos, af, g⟩ (.int q c) := .int hx hy fun w => by
  subst hc; simp [binOp, Op.shift, hb]
theorem EV.shrC {t t2 : TypeId} {x y : Operand} {q r : IntKind} {a b c : Int} (hx : F.op x = some (.int q a)) (hy : F.op y = some (.int r b)) (hb : ¬b < 0) (hc : a.fdiv (2 ^ (min b.toNat q.bits)) = c) :
    EV P F I B ⟨d, .binOp .shr t x y t2, ty, pos, af, g⟩ (.int q c) := .int hx hy fun w => by
  subst hc; simp [binOp, Op.shift, hb]
theorem EV.xorC {t t2 : TypeId} {x y : Operand} {q : IntKind} {a b c : Int} (hx : F.op x = some (.int q a)) (hy : F.op y = some (.int q b)) (hc : q.wrap ((BitVec.ofInt q.bits a ^^^ BitVec.ofInt q.bits b).toNat : Nat) = c) :
    EV P F I B ⟨d, .binOp .xor t x y t2, ty, pos, af, g⟩ (.int q c) := .int hx hy fun w => by
  subst hc; simp [binOp, Op.intArith, Op.intBits]
theorem EV.orC {t t2 : TypeId} {x y : Operand} {q : IntKind} {a b c : Int} (hx : F.op x = some (.int q a)) (hy : F.op y = some (.int q b)) (hc : q.wrap ((BitVec.ofInt q.bits a ||| BitVec.ofInt q.bits b).toNat : Nat) = c) :
    EV P F I B ⟨d, .binOp .or t x y t2, ty, pos, af, g⟩ (.int q c) := .int hx hy fun w => by
  subst hc; simp [binOp, Op.intArith, Op.intBits]
theorem EV.strH {t : TypeId} {x hi : Operand} {s : ByteArray} {h : Nat} {q2 : IntKind} {m2 : Int} (hf : P.underlying t = some .string) (hx : F.op x = some (.string s)) (hhi : F.op hi = some (.int q2 m2)) (h2 : m2 = (h : Int)) (hh : h ≤ s.size) :
    EV P F I B ⟨d, .slice t x none (some hi) none, ty, pos, af, g⟩ (.string (s.extract 0 h)) := fun ρ hρ w hw => by
  have b1 : ∀ w, (Instr.sliceBound (.int q2 m2) s.size .sliceAlen).run P w = .ok h w := fun w => run_bound rfl h2 hh
  simp [execOp, hρ _ _ hx, hρ _ _ hhi, Instr.sliceAt, Instr.slice, run_underlying hf, Instr.sliceBounds, b1]
theorem EV.strL {t : TypeId} {x lo : Operand} {s : ByteArray} {l : Nat} {q1 : IntKind} {m1 : Int} (hf : P.underlying t = some .string) (hx : F.op x = some (.string s)) (hlo : F.op lo = some (.int q1 m1)) (h1 : m1 = (l : Int)) (hl : l ≤ s.size) :
    EV P F I B ⟨d, .slice t x (some lo) none none, ty, pos, af, g⟩ (.string (s.extract l s.size)) := fun ρ hρ w hw => by
  have b1 : ∀ w, (Instr.sliceBound (.int q1 m1) s.size .sliceB).run P w = .ok l w := fun w => run_bound rfl h1 hl
  simp [execOp, hρ _ _ hx, hρ _ _ hlo, Instr.sliceAt, Instr.slice, run_underlying hf, Instr.sliceBounds, b1]
theorem EV.strLH {t : TypeId} {x lo hi : Operand} {s : ByteArray} {l h : Nat} {q1 q2 : IntKind} {m1 m2 : Int} (hf : P.underlying t = some .string) (hx : F.op x = some (.string s)) (hlo : F.op lo = some (.int q1 m1)) (hhi : F.op hi = some (.int q2 m2)) (h1 : m1 = (l : Int)) (h2 : m2 = (h : Int)) (hl : l ≤ h) (hh : h ≤ s.size) :
    EV P F I B ⟨d, .slice t x (some lo) (some hi) none, ty, pos, af, g⟩ (.string (s.extract l h)) := fun ρ hρ w hw => by
  have b1 : ∀ w, (Instr.sliceBound (.int q1 m1) h .sliceB).run P w = .ok l w := fun w => run_bound rfl h1 hl
  have b2 : ∀ w, (Instr.sliceBound (.int q2 m2) s.size .sliceAlen).run P w = .ok h w := fun w => run_bound rfl h2 hh
  simp [execOp, hρ _ _ hx, hρ _ _ hlo, hρ _ _ hhi, Instr.sliceAt, Instr.slice, run_underlying hf, Instr.sliceBounds, b1, b2]
/-- What bytes' numbers are. -/
def bytesOf (zs : List Int) : ByteArray := ⟨(zs.map fun z => UInt8.ofNat z.toNat).toArray⟩
def u8s (zs : List Int) : List Value := zs.map fun z => .int .u8 z
theorem run_u8s (P : Program) (f : Value → ByteArray → Sem (ForInStep ByteArray)) (hf : ∀ n r, f (.int .u8 n) r = Pure.pure (ForInStep.yield (r.push (UInt8.ofNat n.toNat)))) : ∀ (zs : List Int) (s : ByteArray) (w : World), (forIn (u8s zs) s f).run P w = .ok ⟨s.data ++ (zs.map fun z => UInt8.ofNat z.toNat).toArray⟩ w
  | [], s, w => by simp [u8s]
  | z :: zs, s, w => by
    have ih := run_u8s P f hf zs (s.push (UInt8.ofNat z.toNat)) w
    simp only [u8s, List.map_cons, List.forIn_cons] at ih ⊢
    rw [hf]
    simp only [Sem.run_bind, Sem.run_pure, Result.andThen_ok]
    rw [ih]
    simp [ByteArray.push]
theorem EV.bytesStr {s t e : TypeId} {x : Operand} {b off len cap : Nat} {zs : List Int} {cs : Array Value} {T : TypeId} {fz : Nat × Nat} (hs : P.underlying s = some (.slice e)) (ht : P.underlying t = some .string) (he : P.underlying e = some (.int .u8))
    (hx : F.op x = some (.slice (some ⟨b, off, none⟩) len cap)) (hb : Has B b (.cells cs T fz)) (hl : zs.length = len) (hc : ∀ (j : Nat) (u : Value), (u8s zs)[j]? = some u → cs[off + j]? = some u) :
    EV P F I B ⟨d, .convert s t x, ty, pos, af, g⟩ (.string (bytesOf zs)) := fun ρ hρ w hw => by
  have h1 : (loadCells ⟨b, off, none⟩ len).run P w = .ok (u8s zs).toArray w := run_loadCells (by simp [u8s, hl]) fun j v hv => hw.own hb (hc j v hv)
  simp only [execOp, hρ _ _ hx, convert]
  simp only [Sem.run_bind, run_underlying hs, run_underlying ht, run_underlying he, Result.andThen_ok]
  unfold Conv.bytesToString
  simp only [Sem.run_bind, h1, Result.andThen_ok]
  simp only [List.forIn_toArray]
  rw [run_u8s P _ (fun n r => rfl)]
  simp [bytesOf]
end
section
variable {d : Option Tmp} {ty : TypeId} {pos : String} {af : Array Edge} {g : Option (Nat × Bool)} {K : Fr → Imm → Own → Prop}
/-- make([]E, m), E of one cell. -/
theorem WOp.makeSlice {t e : TypeId} {xl xc : Operand} {q1 q2 : IntKind} {m : Nat} {z : Value} {by_ : Nat} (hu : P.underlying t = some (.slice e)) (hk : szOf P e = some 1) (hby : byOf P e = some by_) (hz : zvOf P e = some z) (hz1 : z.cells = #[z])
    (hl : F.op xl = some (.int q1 (m : Int))) (hc : F.op xc = some (.int q2 (m : Int))) (hm : by_ * m ≤ 281474976710656) (hm2 : m ≤ 9223372036854775807) (hd : dstOk n d = true)
    (k : ∀ b, I b = none → b ∉ O.map Prod.fst → K (F.put d (.slice (some ⟨b, 0, none⟩) m m)) I ((b, .cells ⟨List.replicate m z⟩ e (0, 0)) :: O)) : WOp P n Q ⟨d, .makeSlice t xl xc, ty, pos, af, g⟩ F I O K :=
  .sr hd fun ρ hρ => by
    intro w hw
    have hS : ∀ w, (sizeOf e).run P w = .ok 1 w := fun w => run_sizeOf hk
    unfold byOf at hby
    obtain ⟨inf, hinf, hby⟩ := Option.map_eq_some_iff.1 hby
    have hI : ∀ w, (typeInfo e).run P w = .ok inf w := fun w => run_typeInfo hinf
    have hZ : ∀ w, (zeroValue e).run P w = .ok z w := fun w => run_zeroValue hz
    have hask : ∀ b w, (askRoom b).run P w = .ok () w := fun b w => by unfold askRoom; split <;> rfl
    have hwr : IntKind.i64.wrap (m : Int) = (m : Int) := IntWalk.i64_in _ (by omega)
    have hneg : ¬((m : Int) < 0) := by omega
    have hbig : ¬(281474976710656 < (inf.bytes : Int) * (m : Int)) := by
      rw [hby]
      have : (by_ : Int) * (m : Int) = ((by_ * m : Nat) : Int) := by simp
      omega
    obtain ⟨row, hrow⟩ : ∃ row : Array Value, row = ⟨List.replicate m z⟩ := ⟨_, rfl⟩
    obtain ⟨g1, g2, g3⟩ := hw.new (.cells row e)
    refine ⟨.value (.slice (some ⟨w.heap.size, 0, none⟩) m m), { w with heap := w.heap.push (.cells row e) }, _, ?_, g1, _, rfl, ?_⟩
    · simp only [execOp, hρ _ _ hl, hρ _ _ hc]
      unfold Instr.makeSlice
      simp [run_underlying hu, asInt, asIntOf, hI, hwr, hneg, hbig, hask, hS, newRow, newObj, Sem.run]
      have hmap : Array.map (fun x => z.cells[x % z.cells.size]!) (Array.range m) = row := by
        subst hrow
        apply Array.ext'
        rw [Array.toList_map, Array.toList_range]
        refine List.ext_getElem (by simp) fun i h1 h2 => ?_
        simp [hz1, Nat.mod_one]
      by_cases h0 : m = 0
      · rw [if_pos h0]
        subst h0
        have e0 : row = #[] := by rw [hrow]; rfl
        have e1 : Array.map (fun _ => (default : Value)) (Array.range 0) = #[] := by
          apply Array.ext'
          rw [Array.toList_map, Array.toList_range]; rfl
        rw [e0, e1]
      · rw [if_neg h0, hZ]
        simp only [Result.andThen_ok]
        rw [hmap]
    · subst hrow
      exact k _ g2 g3
end
theorem u8s_set {zs : List Int} {j : Nat} {z : Int} (h : j < zs.length) : setL (u8s zs) (0 + j * 1) [.int .u8 z] = u8s (zs.set j z) := by
  rw [setL_one (by simp [u8s]; omega), Nat.zero_add, Nat.mul_one]
  simp [u8s]
theorem bytesOf_size (zs : List Int) : (bytesOf zs).size = zs.length := by simp [bytesOf, ByteArray.size]
end Go.Sy
