/- The program's data as plain Lean structures, and how they lie in memory that never turns. Nothing of the program's code stands here. -/
import Derived.Test.YtjoaccnfnniahaaSyE
namespace Go.Sy

def StrOk (s : ByteArray) : Prop := s.size ≤ 9223372036854775807
def I64 (x : Int) : Prop := -9223372036854775808 ≤ x ∧ x ≤ 9223372036854775807
def U64 (x : Int) : Prop := 0 ≤ x ∧ x ≤ 18446744073709551615
def U8 (x : Int) : Prop := 0 ≤ x ∧ x ≤ 255

structure A3 where
  a : Int
  b : Int
  c : Int
  deriving DecidableEq
def A3.cells (x : A3) : List Value := [.int .i64 x.a, .int .i64 x.b, .int .i64 x.c]
def A3.ok (x : A3) : Prop := I64 x.a ∧ I64 x.b ∧ I64 x.c
def A3.zero : A3 := ⟨0, 0, 0⟩

structure Pr where
  key : ByteArray
  value : ByteArray
  deriving DecidableEq
def PrR (_ : Imm) (cs : List Value) (p : Pr) : Prop := cs = [.string p.key, .string p.value] ∧ StrOk p.key ∧ StrOk p.value
theorem PrR.mono {I J : Imm} {cs : List Value} {p : Pr} (h : PrR I cs p) : PrR J cs p := h
abbrev PrsR (I : Imm) (v : Value) (l : List Pr) : Prop := SlR PrR 2 I v l
theorem PrsR.mono {I J : Imm} {v : Value} {l : List Pr} (hI : I.le J) (h : PrsR I v l) : PrsR J v l := SlR.mono (I := I) (J := J) (fun _ _ h => h) hI h

structure Tsk where
  name : ByteArray
  needs : A3
  wants : List Pr
  bears : List Pr
  group : ByteArray
  apart : ByteArray
  rank : Int
  deriving DecidableEq
def Tsk.cells (t : Tsk) (wv bv : Value) : List Value := [.string t.name, .int .i64 t.needs.a, .int .i64 t.needs.b, .int .i64 t.needs.c, wv, bv, .string t.group, .string t.apart, .int .i64 t.rank]
structure TskR (I : Imm) (cs : List Value) (t : Tsk) : Prop where
  ex : ∃ wv bv, cs = t.cells wv bv ∧ PrsR I wv t.wants ∧ PrsR I bv t.bears
  name : StrOk t.name
  needs : t.needs.ok
  group : StrOk t.group
  apart : StrOk t.apart
  rank : I64 t.rank
theorem TskR.len {I : Imm} {cs : List Value} {t : Tsk} (h : TskR I cs t) : cs.length = 9 := by
  obtain ⟨wv, bv, rfl, _⟩ := h.ex
  rfl
theorem TskR.mono {I J : Imm} {cs : List Value} {t : Tsk} (hI : I.le J) (h : TskR I cs t) : TskR J cs t := by
  obtain ⟨wv, bv, h1, h2, h3⟩ := h.ex
  exact ⟨⟨wv, bv, h1, h2.mono hI, h3.mono hI⟩, h.name, h.needs, h.group, h.apart, h.rank⟩
abbrev TsksR (I : Imm) (v : Value) (l : List Tsk) : Prop := SlR TskR 9 I v l
theorem TsksR.mono {I J : Imm} {v : Value} {l : List Tsk} (hI : I.le J) (h : TsksR I v l) : TsksR J v l := SlR.mono (fun _ _ h => h.mono hI) hI h

structure Nod where
  name : ByteArray
  has : A3
  labels : List Pr
  taints : List Pr
  deriving DecidableEq
def Nod.cells (t : Nod) (lv tv : Value) : List Value := [.string t.name, .int .i64 t.has.a, .int .i64 t.has.b, .int .i64 t.has.c, lv, tv]
structure NodR (I : Imm) (cs : List Value) (t : Nod) : Prop where
  ex : ∃ lv tv, cs = t.cells lv tv ∧ PrsR I lv t.labels ∧ PrsR I tv t.taints
  name : StrOk t.name
  has : t.has.ok
theorem NodR.len {I : Imm} {cs : List Value} {t : Nod} (h : NodR I cs t) : cs.length = 6 := by
  obtain ⟨wv, bv, rfl, _⟩ := h.ex
  rfl
theorem NodR.mono {I J : Imm} {cs : List Value} {t : Nod} (hI : I.le J) (h : NodR I cs t) : NodR J cs t := by
  obtain ⟨wv, bv, h1, h2, h3⟩ := h.ex
  exact ⟨⟨wv, bv, h1, h2.mono hI, h3.mono hI⟩, h.name, h.has⟩
abbrev NodsR (I : Imm) (v : Value) (l : List Nod) : Prop := SlR NodR 6 I v l
theorem NodsR.mono {I J : Imm} {v : Value} {l : List Nod} (hI : I.le J) (h : NodsR I v l) : NodsR J v l := SlR.mono (fun _ _ h => h.mono hI) hI h
theorem TskR.withApart {I : Imm} {t : Tsk} {wv bv : Value} (h : TskR I (t.cells wv bv) t) (h1 : PrsR I wv t.wants) (h2 : PrsR I bv t.bears) (s : ByteArray) (hs : StrOk s) : TskR I ({ t with apart := s }.cells wv bv) { t with apart := s } := ⟨⟨_, _, rfl, h1, h2⟩, h.name, h.needs, h.group, hs, h.rank⟩
theorem TskR.withGroup {I : Imm} {t : Tsk} {wv bv : Value} (h : TskR I (t.cells wv bv) t) (h1 : PrsR I wv t.wants) (h2 : PrsR I bv t.bears) (s : ByteArray) (hs : StrOk s) : TskR I ({ t with group := s }.cells wv bv) { t with group := s } := ⟨⟨_, _, rfl, h1, h2⟩, h.name, h.needs, hs, h.apart, h.rank⟩
/-! what is known of the sizes in data: L of the bytes of an element and how many there are, S of a string's length -/
def SlZ {α : Type} (L : Nat → Nat → Prop) (Z : α → Prop) (b : Nat) (l : List α) : Prop := L b l.length ∧ ∀ x ∈ l, Z x
def PrZ (_L : Nat → Nat → Prop) (S : Nat → Prop) (p : Pr) : Prop := S p.key.size ∧ S p.value.size
structure TskZ (L : Nat → Nat → Prop) (S : Nat → Prop) (t : Tsk) : Prop where
  name : S t.name.size
  wants : SlZ L (PrZ L S) 32 t.wants
  bears : SlZ L (PrZ L S) 32 t.bears
  group : S t.group.size
  apart : S t.apart.size
structure NodZ (L : Nat → Nat → Prop) (S : Nat → Prop) (t : Nod) : Prop where
  name : S t.name.size
  labels : SlZ L (PrZ L S) 32 t.labels
  taints : SlZ L (PrZ L S) 32 t.taints

structure Lod where
  node : Nod
  used : A3
  deriving DecidableEq
def Lod.cells (l : Lod) (lv tv : Value) : List Value := [.string l.node.name, .int .i64 l.node.has.a, .int .i64 l.node.has.b, .int .i64 l.node.has.c, lv, tv, .int .i64 l.used.a, .int .i64 l.used.b, .int .i64 l.used.c]
structure LodR (I : Imm) (cs : List Value) (l : Lod) : Prop where
  ex : ∃ lv tv, cs = l.cells lv tv ∧ PrsR I lv l.node.labels ∧ PrsR I tv l.node.taints
  name : StrOk l.node.name
  has : l.node.has.ok
  used : l.used.ok
theorem LodR.len {I : Imm} {cs : List Value} {l : Lod} (h : LodR I cs l) : cs.length = 9 := by
  obtain ⟨wv, bv, rfl, _⟩ := h.ex
  rfl
theorem LodR.mono {I J : Imm} {cs : List Value} {l : Lod} (hI : I.le J) (h : LodR I cs l) : LodR J cs l := by
  obtain ⟨wv, bv, h1, h2, h3⟩ := h.ex
  exact ⟨⟨wv, bv, h1, h2.mono hI, h3.mono hI⟩, h.name, h.has, h.used⟩
abbrev LodsR (I : Imm) (v : Value) (l : List Lod) : Prop := SlR LodR 9 I v l
theorem LodsR.mono {I J : Imm} {v : Value} {l : List Lod} (hI : I.le J) (h : LodsR I v l) : LodsR J v l := SlR.mono (fun _ _ h => h.mono hI) hI h
structure LodZ (L : Nat → Nat → Prop) (S : Nat → Prop) (l : Lod) : Prop where
  node : NodZ L S l.node

def I64R (_ : Imm) (cs : List Value) (z : Int) : Prop := cs = [.int .i64 z] ∧ I64 z
abbrev IntsR (I : Imm) (v : Value) (l : List Int) : Prop := SlR I64R 1 I v l
theorem IntsR.mono {I J : Imm} {v : Value} {l : List Int} (hI : I.le J) (h : IntsR I v l) : IntsR J v l := SlR.mono (I := I) (J := J) (fun _ _ h => h) hI h
structure Ent where
  index : Int
  term : Int
  kind : Int
  data : ByteArray
  members : List Int
  deriving DecidableEq
def Ent.cells (e : Ent) (mv : Value) : List Value := [.int .u64 e.index, .int .u64 e.term, .int .u8 e.kind, .string e.data, mv]
structure EntR (I : Imm) (cs : List Value) (e : Ent) : Prop where
  ex : ∃ mv, cs = e.cells mv ∧ IntsR I mv e.members
  index : U64 e.index
  term : U64 e.term
  kind : U8 e.kind
  data : StrOk e.data
theorem EntR.len {I : Imm} {cs : List Value} {e : Ent} (h : EntR I cs e) : cs.length = 5 := by
  obtain ⟨mv, rfl, _⟩ := h.ex
  rfl
theorem EntR.mono {I J : Imm} {cs : List Value} {e : Ent} (hI : I.le J) (h : EntR I cs e) : EntR J cs e := by
  obtain ⟨mv, h1, h2⟩ := h.ex
  exact ⟨⟨mv, h1, h2.mono hI⟩, h.index, h.term, h.kind, h.data⟩
abbrev EntsR (I : Imm) (v : Value) (l : List Ent) : Prop := SlR EntR 5 I v l
theorem EntsR.mono {I J : Imm} {v : Value} {l : List Ent} (hI : I.le J) (h : EntsR I v l) : EntsR J v l := SlR.mono (fun _ _ h => h.mono hI) hI h
structure Lg where
  base : Int
  term : Int
  ents : List Ent
  deriving DecidableEq
def Lg.cells (l : Lg) (ev : Value) : List Value := [.int .u64 l.base, .int .u64 l.term, ev]
structure LgR (I : Imm) (cs : List Value) (l : Lg) : Prop where
  ex : ∃ ev, cs = l.cells ev ∧ EntsR I ev l.ents
  base : U64 l.base
  term : U64 l.term
theorem LgR.len {I : Imm} {cs : List Value} {l : Lg} (h : LgR I cs l) : cs.length = 3 := by
  obtain ⟨ev, rfl, _⟩ := h.ex
  rfl
theorem LgR.mono {I J : Imm} {cs : List Value} {l : Lg} (hI : I.le J) (h : LgR I cs l) : LgR J cs l := by
  obtain ⟨ev, h1, h2⟩ := h.ex
  exact ⟨⟨ev, h1, h2.mono hI⟩, h.base, h.term⟩
def I64Z (_L : Nat → Nat → Prop) (_S : Nat → Prop) (_z : Int) : Prop := True
structure EntZ (L : Nat → Nat → Prop) (S : Nat → Prop) (e : Ent) : Prop where
  data : S e.data.size
  members : SlZ L (I64Z L S) 8 e.members
structure LgZ (L : Nat → Nat → Prop) (S : Nat → Prop) (l : Lg) : Prop where
  ents : SlZ L (EntZ L S) 64 l.ents
end Go.Sy
