/- Contracts of Go's library, as what a pure call gives; names. -/
import Derived.Test.YtjoaccnfnniahaaSyG
import Derived.Below
import Derived.Lib.SlTrimSet
namespace Go.Sy
open Go Go.RowKit
theorem Pure.ofCalls {P : Program} {f : FuncId} {vs : List Value} {I : Imm} {O : Own} {v : Value} (h : ∀ w, Calls P f ⟨vs⟩ w fun e w' => e = .returned v ∧ Below w.heap.size w w') : Pure P f vs I O v := fun w hw =>
  (h w).mono fun e w' ⟨he, hb⟩ => by
    have hlt : ∀ b o, w.heap[b]? = some o → w'.heap[b]? = some o := fun b o ho => by
      rw [hb.block b (Array.getElem?_eq_some_iff.1 ho).1]; exact ho
    refine ⟨v, I, O, he, Imm.le_refl I, ⟨fun b o h => hlt b o (hw.imm b o h), fun b o h => hlt b o (hw.own b o h), hw.nodup, hw.apart, ?_⟩, rfl, rfl, rfl⟩
    rw [← hw.env]
    unfold World.env
    rw [hb.os, hb.tape, hb.output]
theorem EV.indexS {P : Program} {F : Fr} {I : Imm} {B : Own} {d : Option Tmp} {ty : TypeId} {pos : String} {af : Array Edge} {g : Option (Nat × Bool)} {t : Nat} {x i : Operand} {q : IntKind} {m : Int} {j : Nat} {s : ByteArray} (ht : P.underlying t = some .string) (hx : F.op x = some (.string s)) (hi : F.op i = some (.int q m)) (hm : m = (j : Int)) (hj : j < s.data.toList.length) :
    EV P F I B ⟨d, .index t x i, ty, pos, af, g⟩ (.int .u8 (s.data.toList[j].toNat : Nat)) := fun ρ hρ w hw => by
  subst hm
  have hj' : j < s.size := by simpa using hj
  have e : s[j]? = some (s.data.toList[j]) := by
    rw [getElem?_pos s j hj']
    congr 1
  simp [execOp, hρ _ _ hx, hρ _ _ hi, Instr.index, asIntOf, run_underlying ht, e]
/-! what a name is -/
def letters : List UInt8 := [97, 98, 99, 100, 101, 102, 103, 104, 105, 106, 107, 108, 109, 110, 111, 112, 113, 114, 115, 116, 117, 118, 119, 120, 121, 122, 48, 49, 50, 51, 52, 53, 54, 55, 56, 57, 45]
def nameB (b : UInt8) : Bool := letters.contains b
def isName (s : ByteArray) : Bool := s.data.toList.all nameB && !decide (s = ⟨#[]⟩) && decide (s.size ≤ 32)
theorem nameB_iff (b : UInt8) : nameB b = ((decide (97 ≤ (b.toNat : Int)) && decide ((b.toNat : Int) ≤ 122)) || ((decide (48 ≤ (b.toNat : Int)) && decide ((b.toNat : Int) ≤ 57)) || decide ((b.toNat : Int) = 45))) := by
  have key : ∀ n : Fin 256, nameB (UInt8.ofNat n.1) = ((decide (97 ≤ (((UInt8.ofNat n.1).toNat : Nat) : Int)) && decide ((((UInt8.ofNat n.1).toNat : Nat) : Int) ≤ 122)) || ((decide (48 ≤ (((UInt8.ofNat n.1).toNat : Nat) : Int)) && decide ((((UInt8.ofNat n.1).toNat : Nat) : Int) ≤ 57)) || decide ((((UInt8.ofNat n.1).toNat : Nat) : Int) = 45))) := by decide +kernel
  have := key ⟨b.toNat, b.toNat_lt⟩
  simpa using this
theorem dropWhile_nil {p : UInt8 → Bool} : ∀ l : List UInt8, l.dropWhile p = [] ↔ l.all p = true
  | [] => by simp
  | a :: r => by
    rw [List.dropWhile_cons, List.all_cons]
    split
    · rename_i h; rw [dropWhile_nil r, h]; simp
    · rename_i h; simp [h]
theorem trimS_nil {l cs : List UInt8} : Lib.trimS l cs = [] ↔ l.all (cs.contains ·) = true := by
  unfold Lib.trimS Lib.trimLeftS Lib.trimRightS
  rw [dropWhile_nil, List.all_reverse]
  constructor
  · intro h
    have h1 : ∀ m : List UInt8, (m.dropWhile (cs.contains ·)).all (cs.contains ·) = true → m.all (cs.contains ·) = true := by
      intro m
      induction m with
      | nil => simp
      | cons a r ih =>
        rw [List.dropWhile_cons]
        split
        · rename_i ha; intro h; rw [List.all_cons, ha, ih h]; rfl
        · exact id
    have := h1 _ h
    rwa [List.all_reverse] at this
  · intro h
    have h2 : l.reverse.dropWhile (cs.contains ·) = [] := (dropWhile_nil _).2 (by rwa [List.all_reverse])
    rw [h2]; rfl
theorem trim_eq {s : ByteArray} : decide ((⟨(Lib.trimS s.data.toList letters).toArray⟩ : ByteArray) = ⟨#[]⟩) = s.data.toList.all nameB := by
  rw [Bool.eq_iff_iff, decide_eq_true_eq]
  have e : ((⟨(Lib.trimS s.data.toList letters).toArray⟩ : ByteArray) = ⟨#[]⟩) ↔ Lib.trimS s.data.toList letters = [] := by
    constructor
    · intro h
      have := congrArg (fun x : ByteArray => x.data.toList) h
      simpa using this
    · intro h; rw [h]
  rw [e, trimS_nil]
  rfl
end Go.Sy
