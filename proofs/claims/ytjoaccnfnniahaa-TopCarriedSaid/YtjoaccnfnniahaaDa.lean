/- Walks of functions over a symbolic memory, printed by a program of the session. -/
import Derived.Test.YtjoaccnfnniahaaSyK
import Derived.Test.YtjoaccnfnniahaaSyS
import Derived.Test.YtjoaccnfnniahaaPa
import Derived.Test.YtjoaccnfnniahaaFacts
namespace Go.Proofs.Ytjoaccnfnniahaa
open Go.Sy
set_option linter.unusedSimpArgs false
set_option linter.unusedVariables false

theorem part_of {cs ws vs : List Value} {n k m : Nat} (hw : cs.take (n * m) = ws) (hk : k < n) (h : (ws.drop (k * m)).take m = vs) : (cs.drop (0 + k * m)).take m = vs := by
  subst hw
  rw [Nat.zero_add, ← h, List.drop_take, List.take_take]
  have h1 : k * m + m ≤ n * m := by rw [← Nat.succ_mul]; exact Nat.mul_le_mul_right m hk
  rw [Nat.min_eq_left (by omega)]
theorem own_setE {cs ws vs : List Value} {n k m cap b : Nat} {T : TypeId} (hw : cs.take (n * m) = ws) (hk : k < n) (hn : n ≤ cap) (hc : cs.length = cap * m) (hl : ws.length = n * m) (hv : vs.length = m) (hm : cap ≤ 9223372036854775807) :
    OwnS m (.slice (some ⟨b, 0, none⟩) n cap) n (setL ws (k * m) vs) [(b, .cells ⟨setL cs (0 + k * m) vs⟩ T (0, 0))] := by
  have h1 : k * m + m ≤ n * m := by rw [← Nat.succ_mul]; exact Nat.mul_le_mul_right m hk
  have h2 : n * m ≤ cap * m := Nat.mul_le_mul_right m hn
  refine .inr ⟨b, cap, _, T, rfl, rfl, hn, ?_, ?_, ?_, hm⟩
  · rw [setL_length (by omega), hc]
  · rw [Nat.zero_add, setL_take (by omega) (by omega), hw]
  · rw [setL_length (by omega), hl]
theorem dr_setE {α : Type} {R : Imm → List Value → α → Prop} {ws vs : List Value} {l : List α} {k m : Nat} {I J : Imm} (h : DR R m I ws l) (hk : k < l.length) (hJ : ∀ cs x, R I cs x → R J cs x) (hv : vs.length = m) (hx : R J vs l[k]) : DR R m J (setL ws (k * m) vs) l := by
  have h1 : k * m + m ≤ l.length * m := by rw [← Nat.succ_mul]; exact Nat.mul_le_mul_right m hk
  have hwl := h.1
  have e : l = l.take k ++ ([l[k]] ++ l.drop (k + 1)) := by rw [List.singleton_append, ← List.drop_eq_getElem_cons hk, List.take_append_drop]
  have e2 : setL ws (k * m) vs = ws.take (k * m) ++ (vs ++ ws.drop ((k + 1) * m)) := by unfold setL; rw [hv, Nat.succ_mul]
  rw [e2]
  have := ((h.take (Nat.le_of_lt hk)).mono hJ).append ((DR.single hv hx).append ((h.drop (l := k + 1) hk).mono hJ))
  rwa [← e] at this
theorem _root_.Go.Sy.OwnS.extend {k n cap : Nat} {ad : Option Addr} {ws : List Value} {ob : Own} (h : OwnS k (.slice ad n cap) n ws ob) (hc : n < cap) (hk : 0 < k) :
    ∃ b cs T z, ad = some ⟨b, 0, none⟩ ∧ ob = [(b, .cells ⟨cs⟩ T (0, 0))] ∧ cs.length ≠ 0 ∧ z.length = k ∧ OwnS k (.slice ad (n + 1) cap) (n + 1) (ws ++ z) ob := by
  rcases h with ⟨e, rfl, rfl, rfl⟩ | ⟨b, cap', cs, T, e, rfl, h1, h2, h3, h4, h5⟩
  · cases e; omega
  · cases e
    have hck : (n + 1) * k ≤ cap * k := Nat.mul_le_mul_right k hc
    refine ⟨b, cs, T, (cs.drop (n * k)).take k, rfl, rfl, ?_, ?_, .inr ⟨b, cap, cs, T, rfl, rfl, hc, h2, ?_, ?_, h5⟩⟩
    · rw [h2]; exact Nat.ne_of_gt (Nat.mul_pos (by omega) hk)
    · rw [List.length_take, List.length_drop, h2]; rw [Nat.succ_mul] at hck; omega
    · subst h3
      rw [Nat.succ_mul, List.take_add]
    · rw [List.length_append, h4, List.length_take, List.length_drop, h2]; rw [Nat.succ_mul] at hck ⊢; omega
theorem ins_cells1 {w a cs bs : List Value} {n i k : Nat} (hi : i ≤ n) (hw : w.length = (n + 1) * k) (ha : w.take (i * k) = a) (hc : cs.length = k) (hb : bs.length = (n - i) * k) : setL (setL w (i * k) cs) ((i + 1) * k) bs = a ++ (cs ++ bs) := by
  have e1 : (i + 1) * k = i * k + k := Nat.succ_mul i k
  have e2 : (n + 1) * k = i * k + k + (n - i) * k := by rw [← Nat.succ_mul, ← Nat.add_mul]; congr 1; omega
  have hal : a.length = i * k := by rw [← ha, List.length_take]; omega
  unfold setL
  rw [ha, e1, hb, hc]
  have e3 : (a ++ (cs ++ w.drop (i * k + k))).take (i * k + k) = a ++ cs := by
    rw [← List.append_assoc, List.take_append_of_le_length (by simp; omega), List.take_of_length_le (by simp; omega)]
  have e4 : (a ++ (cs ++ w.drop (i * k + k))).drop (i * k + k + (n - i) * k) = [] := by
    rw [List.drop_eq_nil_iff]; simp; omega
  rw [e3, e4]; simp
theorem ins_cells2 {w a cs bs : List Value} {n i k : Nat} (hi : i ≤ n) (hw : w.length = (n + 1) * k) (ha : w.take (i * k) = a) (hc : cs.length = k) (hb : bs.length = (n - i) * k) : setL (setL w ((i + 1) * k) bs) (i * k) cs = a ++ (cs ++ bs) := by
  have e1 : (i + 1) * k = i * k + k := Nat.succ_mul i k
  have e2 : (n + 1) * k = i * k + k + (n - i) * k := by rw [← Nat.succ_mul, ← Nat.add_mul]; congr 1; omega
  have hal : a.length = i * k := by rw [← ha, List.length_take]; omega
  unfold setL
  rw [e1, hb, hc]
  have e0 : w.drop (i * k + k + (n - i) * k) = [] := by rw [List.drop_eq_nil_iff]; omega
  have ht : (w.take (i * k + k)).length = i * k + k := by rw [List.length_take]; omega
  rw [e0, List.append_nil]
  have e3 : (w.take (i * k + k) ++ bs).take (i * k) = a := by
    rw [List.take_append_of_le_length (by omega), List.take_take, Nat.min_eq_left (by omega), ha]
  have e4 : (w.take (i * k + k) ++ bs).drop (i * k + k) = bs := by
    rw [List.drop_append_of_le_length (by omega), List.drop_of_length_le (by omega), List.nil_append]
  rw [e3, e4]

def cmpS (a b : ByteArray) : Int := if slt a b = true then -1 else if a = b then 0 else 1

theorem slt_irr (a : ByteArray) : slt a a = false := by
  unfold slt
  have : ∀ l : List UInt8, Op.bytesLess l l = false := by
    intro l
    induction l with
    | nil => rfl
    | cons x r ih => simp [Op.bytesLess, ih]
  exact this _
theorem cmpS_ge {a b : ByteArray} : decide (0 ≤ cmpS a b) = !slt a b := by
  unfold cmpS
  split
  · rename_i h; simp [h]
  · rename_i h; split <;> simp [h]
theorem cmpS_zero {a b : ByteArray} : cmpS a b = 0 ↔ a = b := by
  unfold cmpS
  split
  · rename_i h
    constructor
    · intro h2; omega
    · intro h2; subst h2; rw [slt_irr] at h; cases h
  · split
    · rename_i h; simp [h]
    · rename_i h; simp [h]

theorem size_len (s : ByteArray) : s.size = s.data.toList.length := rfl

set_option maxHeartbeats 1000000 in
set_option maxRecDepth 20000 in
theorem isNaN_ok {I : Imm} {O : Own} {s : ByteArray} :
    Pure Try.prog 64 [.string s] I O (.bool false) := by
  refine Go.Sy.Does.enter Try.func64 rfl Try.ntmps64 rfl ?_
  refine .seq <| .region <| .e (.assign rfl) rfl rfl <| .nil <| .go <| .seq ?_
  refine .region <| .e (.move rfl) rfl rfl <| .e (.move rfl) rfl rfl <| .e (.strne rfl rfl) rfl rfl <| .e (.assign rfl) rfl rfl <| .nil ?_
  refine .go <| .ret ?_
  refine Post.retE rfl rfl ?_
  simp

set_option maxHeartbeats 1000000 in
set_option maxRecDepth 20000 in
theorem cmpS_ok {I : Imm} {O : Own} {a b : ByteArray} :
    Pure Try.prog 42 [.string a, .string b] I O (.int .i64 (cmpS a b)) := by
  refine Go.Sy.Does.enter Try.func42 rfl Try.ntmps42 rfl ?_
  refine .seq <| .region <| .e (.assign rfl) rfl rfl <| .nil <| .go <| .seq ?_
  refine .region <| .e (.move rfl) rfl rfl <| .on rfl <| .callP cal64 rfl rfl rfl (isNaN_ok) <| .e (.assign rfl) rfl rfl <| .nil <| .go ?_
  refine .seq <| .region <| .e (.move rfl) rfl rfl <| .on rfl <| .callP cal64 rfl rfl rfl (isNaN_ok) <| .e (.assign rfl) rfl rfl <| .nil ?_
  refine .go <| .seq <| .seq <| .region <| .e (.move rfl) rfl rfl <| .nil ?_
  refine .go <| .cond_false rfl <| .skip <| .go <| .seq <| .seq ?_
  refine .region <| .e (.move rfl) rfl rfl <| .nil <| .go <| .cond_false rfl <| .skip ?_
  refine .go <| .seq <| .seq <| .region <| .e (.move rfl) rfl rfl <| .e (.move rfl) rfl rfl ?_
  refine .e (.strlt rfl rfl) rfl rfl <| .nil <| .go ?_
  refine .split 16 rfl (fun h16 => ?_) (fun h16 => ?_)
  · skip
    refine .cond_true rfl <| .seq <| .region <| .e (.assign rfl) rfl rfl <| .nil <| .go ?_
    refine .ret <| .ret ?_
    refine Post.retE rfl rfl ?_
    unfold cmpS
    simp_all
  · skip
    refine .cond_false rfl <| .skip <| .go <| .seq <| .seq <| .region ?_
    refine .e (.move rfl) rfl rfl <| .e (.move rfl) rfl rfl <| .e (.strgt rfl rfl) rfl rfl <| .nil <| .go ?_
    refine .split 19 rfl (fun h19 => ?_) (fun h19 => ?_)
    · skip
      refine .cond_true rfl <| .seq <| .region <| .e (.assign rfl) rfl rfl <| .nil <| .go ?_
      refine .ret <| .ret ?_
      refine Post.retE rfl rfl ?_
      unfold cmpS
      simp_all
    · skip
      refine .cond_false rfl <| .skip <| .go <| .seq <| .region <| .e (.assign rfl) rfl rfl ?_
      refine .nil <| .go <| .ret ?_
      refine Post.retE rfl rfl ?_
      unfold cmpS
      simp_all

theorem shr_half {a b : Nat} (h : a ≤ b) (hb : b ≤ 4611686018427387903) : IntKind.i64.wrap ((IntKind.u64.wrap (IntKind.i64.wrap ((a : Int) + (b : Int)))).fdiv 2) = (((a + b) / 2 : Nat) : Int) := by
  have e1 : IntKind.i64.wrap ((a : Int) + (b : Int)) = ((a + b : Nat) : Int) := (IntWalk.i64_in _ (by omega)).trans (by omega)
  have e2 : IntKind.u64.wrap ((a + b : Nat) : Int) = ((a + b : Nat) : Int) := IntWalk.u64_in _ (by omega)
  rw [e1, e2]
  have e3 : ((a + b : Nat) : Int).fdiv 2 = (((a + b) / 2 : Nat) : Int) := by
    rw [Int.fdiv_eq_ediv_of_nonneg _ (by omega)]
    omega
  rw [e3]
  exact IntWalk.i64_in _ (by omega)

theorem cmpS_lt {a b : ByteArray} : decide (cmpS a b < 0) = slt a b := by
  have h := @cmpS_ge a b
  rw [Bool.eq_iff_iff] at h ⊢
  simp only [decide_eq_true_eq, Bool.not_eq_true'] at h ⊢
  constructor
  · intro h1
    cases h2 : slt a b
    · have := h.2 h2; omega
    · rfl
  · intro h1
    apply Int.not_le.1
    intro h2
    have := h.1 h2
    rw [h1] at this; cases this
theorem cmpS_eq {a b : ByteArray} : decide (cmpS a b = 0) = decide (a = b) := decide_eq_decide.2 cmpS_zero

section
variable {α : Type} {nm : α → ByteArray}
theorem has_get {l : List α} {s : ByteArray} (hr : Rising nm l) (h : hasBy nm l s = true) : ∃ hk : posBy nm l s < l.length, nm l[posBy nm l s] = s := by
  unfold hasBy at h
  obtain ⟨x, hx, hs⟩ := List.any_eq_true.1 h
  rw [decide_eq_true_eq] at hs
  obtain ⟨j, hj, rfl⟩ := List.mem_iff_getElem.1 hx
  have e : posBy nm l s = j := pos_of (Nat.le_of_lt hj) (fun i hi hij => by rw [← hs]; exact hr i j hi hj hij) (fun _ => by rw [hs]; exact lt_irr s)
  exact ⟨by rw [e]; exact hj, by simp only [e]; exact hs⟩
theorem lt_upto {l : List α} {s : ByteArray} (hr : Rising nm l) {k : Nat} (hk : k < l.length) (h : slt (nm l[k]) s = true) (j : Nat) (hj : j < l.length) (hjk : j ≤ k) : slt (nm l[j]) s = true := by
  rcases Nat.eq_or_lt_of_le hjk with e | h1
  · subst e; exact h
  · exact lt_tr (hr j k hj hk h1) h
theorem lt_from {l : List α} {s : ByteArray} (hr : Rising nm l) {k : Nat} (hk : k < l.length) (h : slt (nm l[k]) s = false) (j : Nat) (hj : j < l.length) (hjk : k ≤ j) : slt (nm l[j]) s = false := by
  rcases Nat.eq_or_lt_of_le hjk with e | h1
  · subst e; exact h
  · rw [Bool.eq_false_iff]; intro h2
    have := lt_tr (hr k j hk hj h1) h2
    rw [h] at this; cases this
theorem rising_of {l : List α} (h : risingB nm l = true) : Rising nm l := by
  intro i j hi hj hij
  have one : ∀ q (hq : q + 1 < l.length), slt (nm (l[q]'(by omega))) (nm l[q + 1]) = true := fun q hq => by
    unfold risingB at h
    have h3 := List.all_eq_true.1 h q (List.mem_range.2 (by omega))
    simp only [risAt, List.getElem?_eq_getElem (show q < l.length by omega), List.getElem?_eq_getElem hq] at h3
    exact h3
  have key : ∀ d (hd : i + 1 + d < l.length), slt (nm l[i]) (nm l[i + 1 + d]) = true := by
    intro d
    induction d with
    | zero => exact fun hd => one i hd
    | succ d ih => exact fun hd => lt_tr (ih (by omega)) (one (i + 1 + d) hd)
  obtain ⟨d, rfl⟩ : ∃ d, j = i + 1 + d := ⟨j - i - 1, by omega⟩
  exact key d hj
end

structure Fil where
  name : ByteArray
  data : ByteArray
  sync : Int
  deriving DecidableEq
def Fil.cells (x : Fil) : List Value := [.string x.name, .string x.data, .int .i64 x.sync]
def FilR (_ : Imm) (cs : List Value) (x : Fil) : Prop := cs = x.cells ∧ StrOk x.name ∧ StrOk x.data ∧ I64 x.sync
theorem FilR.len {I : Imm} {cs : List Value} {x : Fil} (h : FilR I cs x) : cs.length = 3 := by rw [h.1]; rfl
theorem FilR.ones {I : Imm} {cs : List Value} {x : Fil} (h : FilR I cs x) : Go.Sy.ones cs = true := by rw [h.1]; rfl
abbrev FilsR (I : Imm) (v : Value) (l : List Fil) : Prop := SlR FilR 3 I v l
theorem FilsR.mono {I J : Imm} {v : Value} {l : List Fil} (hI : I.le J) (h : FilsR I v l) : FilsR J v l := SlR.mono (I := I) (J := J) (fun _ _ h => h) hI h
structure Dsk where
  files : List Fil
  down : Bool
  fuse : Int
def Dsk.cells (d : Dsk) (v : Value) : List Value := [v, .bool d.down, .int .i64 d.fuse]
structure DskR (I : Imm) (cs : List Value) (d : Dsk) : Prop where
  ex : ∃ v, cs = d.cells v ∧ FilsR I v d.files
  fuse : I64 d.fuse
theorem DskR.mono {I J : Imm} {cs : List Value} {d : Dsk} (hI : I.le J) (h : DskR I cs d) : DskR J cs d := by
  obtain ⟨v, e, h1⟩ := h.ex
  exact ⟨⟨v, e, h1.mono hI⟩, h.fuse⟩
def fil0 : Fil := ⟨⟨#[]⟩, ⟨#[]⟩, 0⟩
theorem filD {l : List Fil} {k : Nat} (hk : k < l.length) : l.getD k fil0 = l[k] := by simp [hk]
def fAt (l : List Fil) (k : Nat) : Bool := (decide (k = 0) || slt (l.getD (k - 1) fil0).name (l.getD k fil0).name) && (decide (0 ≤ (l.getD k fil0).sync) && decide ((l.getD k fil0).sync ≤ ((l.getD k fil0).data.size : Int)))
def filesTo (l : List Fil) (k : Nat) : Bool := (List.range k).all (fAt l)
theorem filesTo_succ (l : List Fil) (k : Nat) : filesTo l (k + 1) = (filesTo l k && fAt l k) := by unfold filesTo; rw [List.range_succ, List.all_append]; simp
theorem fAt_eq {l : List Fil} {k : Nat} (hk : k < l.length) : fAt l k = ((decide (k = 0) || slt (l[k - 1]'(by omega)).name l[k].name) && (decide (0 ≤ l[k].sync) && decide (l[k].sync ≤ (l[k].data.size : Int)))) := by
  unfold fAt; rw [filD hk, filD (show k - 1 < l.length by omega)]
def diskOk (d : Dsk) : Bool := filesTo d.files d.files.length && decide (d.files.length ≤ 4096)
def diskWhy (d : Dsk) : Int := if diskOk d = true then 0 else 10
theorem diskWhy_ok {d : Dsk} (h : diskWhy d = 0) : diskOk d = true := by
  unfold diskWhy at h
  cases h2 : diskOk d
  · rw [h2] at h; cases h
  · rfl
theorem diskWhy_no {d : Dsk} (h : ¬diskWhy d = 0) : diskOk d = false ∧ diskWhy d = 10 := by
  unfold diskWhy at *
  cases h2 : diskOk d
  · exact ⟨rfl, rfl⟩
  · rw [h2] at h; exact absurd rfl h
theorem disk_rising {l : List Fil} (h : filesTo l l.length = true) : Rising (fun x : Fil => x.name) l := by
  refine rising_of ?_
  unfold risingB
  refine List.all_eq_true.2 fun i hi => ?_
  have hi := List.mem_range.1 hi
  have h2 := List.all_eq_true.1 h (i + 1) (List.mem_range.2 (by omega))
  rw [fAt_eq (show i + 1 < l.length by omega)] at h2
  simp only [risAt, List.getElem?_eq_getElem (show i < l.length by omega), List.getElem?_eq_getElem (show i + 1 < l.length by omega)]
  rw [Bool.and_eq_true, Bool.or_eq_true] at h2
  rcases h2.1 with h3 | h3
  · rw [decide_eq_true_eq] at h3; omega
  · exact h3
theorem disk_ok {d : Dsk} (h : diskOk d = true) : filesTo d.files d.files.length = true ∧ d.files.length ≤ 4096 := by
  unfold diskOk at h
  rw [Bool.and_eq_true, decide_eq_true_eq] at h; exact h
theorem disk_file {d : Dsk} (h : diskOk d = true) {k : Nat} (hk : k < d.files.length) : 0 ≤ d.files[k].sync ∧ d.files[k].sync ≤ (d.files[k].data.size : Int) := by
  have h2 := List.all_eq_true.1 (disk_ok h).1 k (List.mem_range.2 hk)
  rw [fAt_eq hk, Bool.and_eq_true, Bool.and_eq_true, decide_eq_true_eq, decide_eq_true_eq] at h2
  exact h2.2
def posF (d : Dsk) (s : ByteArray) : Nat := posBy (fun x : Fil => x.name) d.files s
def hasF (d : Dsk) (s : ByteArray) : Bool := hasBy (fun x : Fil => x.name) d.files s
def namedB (s : ByteArray) : Bool := !decide (s = ⟨#[]⟩) && decide ((s.size : Int) ≤ 32)

set_option maxHeartbeats 1000000 in
set_option maxRecDepth 20000 in
theorem cloneFil_ok {I : Imm} {O : Own} {v : Value} {l : List Fil} (hl : SlR FilR 3 I v l) (hL : l.length * 40 ≤ 140737488351232) :
    Go.Sy.Does Try.prog 22 [v] I O (fun u I' O' => I' = I ∧ ∃ ws ob, OwnS 3 u l.length ws ob ∧ DR FilR 3 I ws l ∧ O' = ob ++ O) := by
  have hl0 := hl
  obtain ⟨la, lcap, rfl, hl1, hl2, -⟩ := hl
  obtain ⟨ws, hs, hd⟩ := SlR.src (B := []) (fun _ _ h => FilR.len h) hl0
  refine Go.Sy.Does.enter Try.func22 rfl Try.ntmps22 rfl ?_
  refine .seq <| .region <| .e (.assign rfl) rfl rfl <| .nil <| .go <| .seq ?_
  refine .seq <| .region <| .e (.move rfl) rfl rfl <| .e (.eqv (.nilSlice Try.underlying26) rfl rfl) rfl rfl <| .nil <| .go ?_
  refine .split 4 rfl (fun h4 => ?_) (fun h4 => ?_)
  · skip
    obtain rfl : la = none := by cases la <;> first | rfl | cases h4
    obtain rfl := hl0.ofNil
    refine .cond_true rfl <| .seq <| .region <| .e (.assign rfl) rfl rfl <| .nil <| .go ?_
    refine .ret <| .ret ?_
    refine Post.ret1 rfl rfl (Imm.le_refl _) ⟨rfl, [], [], OwnS.nil, DR.nil, rfl⟩
  · skip
    refine .cond_false rfl <| .skip <| .go <| .seq <| .region <| .on rfl <| .buildSlice Try.underlying26 sz70 (by decide) (by decide) zv70 rfl rfl rfl rfl rfl fun c1 _ _ => ?_
    refine .e (.move rfl) rfl rfl <| .on rfl <| .append Try.underlying26 Try.underlying26 sz70 by70 zv70 rfl rfl rfl .here (OwnS.made rfl (by decide)) hs.any hd.1 (hd.ones (by decide) (fun _ _ h => FilR.ones h)) (by omega) (by omega) rfl fun v7 ob7 ho7 => .e (.assign rfl) rfl rfl <| .nil <| .go <| .ret ?_
    refine Post.ret1 rfl rfl (Imm.le_refl _) ⟨rfl, ws, ob7, ?_, hd, rfl⟩
    rw [Nat.zero_add] at ho7
    exact ho7

set_option maxHeartbeats 1000000 in
set_option maxRecDepth 20000 in
theorem insFil_ok {I : Imm} {O : Own} {ad : Option Addr} {cap : Nat} {l : List Fil} {ws : List Value} {ob : Own} (ho : OwnS 3 (.slice ad l.length cap) l.length ws ob) (hd : DR FilR 3 I ws l) {i c : Nat} {cs : List Value} {tx : TypeId} {x : Fil} (hx : FilR I cs x) (hi : i ≤ l.length) (hL : l.length ≤ 1024) :
    Go.Sy.Does Try.prog 38 [.slice ad l.length cap, .int .i64 (i : Nat), .slice (some ⟨c, 0, none⟩) 1 1] I (ob ++ ((c, .cells ⟨cs⟩ tx (0, 0)) :: O)) (fun u I' O' => I' = I ∧ ∃ ws' ob', OwnS 3 u (l.length + 1) ws' ob' ∧ DR FilR 3 I ws' (l.take i ++ (x :: l.drop i)) ∧ O' = ob' ++ O) := by
  have hx0 := hx
  have hcl : cs.length = 3 := (fun h => FilR.len h) hx
  have hco := (fun h => FilR.ones h) hx
  have hcap := ho.capLe
  refine Go.Sy.Does.enter Try.func38 rfl Try.ntmps38 rfl ?_
  refine .seq <| .region <| .e (.assign rfl) rfl rfl <| .nil <| .go <| .seq ?_
  refine .region <| .e (.move rfl) rfl rfl <| .e (.move rfl) rfl rfl <| .e (.sliceL sl26 rfl rfl rfl hi) rfl rfl <| .nil <| .go ?_
  refine .seq <| .region <| .e (.move rfl) rfl rfl <| .e (.len sl26 rfl rfl) rfl rfl <| .e (.assign rfl) rfl rfl <| .nil ?_
  refine .go <| .seq <| .seq <| .region <| .e (.move rfl) rfl rfl <| .e (.eql rfl rfl) rfl rfl ?_
  refine .nil <| .go <| .cond_false rfl <| .skip <| .go <| .seq ?_
  refine .region <| .e (.move rfl) rfl rfl <| .e (.len sl26 rfl rfl) rfl rfl <| .e (.assign rfl) rfl rfl <| .nil <| .go ?_
  refine .seq <| .seq <| .region <| .e (.move rfl) rfl rfl <| .e (.move rfl) rfl rfl <| .e (.eql rfl rfl) rfl rfl ?_
  refine .nil <| .go ?_
  refine .split 22 rfl (fun h22 => ?_) (fun h22 => ?_)
  · skip
    replace h22 := of_decide_eq_true h22
    refine .cond_true rfl <| .seq <| .region <| .e (.move rfl) rfl rfl <| .e (.move rfl) rfl rfl <| .on rfl <| .append Try.underlying26 Try.underlying26 sz70 by70 zv70 rfl rfl rfl .front ho ((OwnS.made (k := 3) (len := 1) (b := c) (T := tx) (by rw [hcl]) (by decide)).src (I := _) (.app <| .here)) (by rw [hcl, Nat.one_mul]) hco (by omega) (by omega) rfl fun v25 ob25 ho25 => ?_
    refine .e (.assign rfl) rfl rfl <| .nil <| .go <| .ret <| .ret ?_
    refine Post.rets rfl (.tmp rfl .nil) rfl (Imm.le_refl _) (fun w h => (Sat.tail (Sat.rem h (Rem.app <| Rem.here)))) ?_
    have hwl := hd.1
    have hal : (ws.take (i * 3)).length = i * 3 := by rw [List.length_take, hwl]; have := Nat.mul_le_mul_right 3 hi; omega
    have hbl : (ws.drop (i * 3)).length = (l.length - i) * 3 := by rw [List.length_drop, hwl, Nat.sub_mul]
    have hdr : DR FilR 3 I (ws.take (i * 3) ++ (cs ++ ws.drop (i * 3))) (l.take i ++ (x :: l.drop i)) := (hd.take hi).append ((DR.single hcl hx0).append (hd.drop hi))
    have en : i = l.length := by omega
    subst en
    rw [List.take_length, List.drop_length]
    exact ⟨rfl, _, ob25, ho25, hd.append (DR.single hcl hx0), rfl⟩
  · skip
    replace h22 := of_decide_eq_false h22
    refine .cond_false rfl <| .skip <| .go <| .seq <| .seq <| .region ?_
    refine .e (.move rfl) rfl rfl <| .e (.move rfl) rfl rfl <| .e (.add rfl rfl (wrap_succ (by omega))) rfl rfl <| .e (.move rfl) rfl rfl <| .e (.cap sl26 rfl rfl) rfl rfl <| .e (.gtr rfl rfl) rfl rfl ?_
    refine .nil <| .go ?_
    refine .split 31 rfl (fun h31 => ?_) (fun h31 => ?_)
    · skip
      replace h31 := of_decide_eq_true h31
      refine .cond_true rfl <| .seq <| .region <| .e (.move rfl) rfl rfl <| .e (.move rfl) rfl rfl <| .e (.sliceHn sl26 rfl rfl rfl (by omega)) rfl rfl ?_
      refine .e (.move rfl) rfl rfl <| .e (.move rfl) rfl rfl <| .e (.add rfl rfl (wrap_succ (by omega))) rfl rfl <| .e (.move rfl) rfl rfl <| .e (.sub rfl rfl (IntWalk.i64_in _ (by omega))) rfl rfl <| .on rfl <| .appendMake (q := l.length + 1 - i) Try.underlying26 Try.underlying3 sz70 by70 zv70 rfl (by decide) rfl rfl (by omega) (by omega) .front (ho.takeN (h := i) (by omega)) (by omega) (by omega) (by omega) rfl fun v40 ob40 ho40 => ?_
      obtain ⟨ad40, cap40, rfl⟩ := ho40.form
      have eq40 : i + (l.length + 1 - i) = l.length + 1 := by omega
      rw [eq40] at ho40
      rw [eq40]
      refine .e (.assign rfl) rfl rfl <| .nil <| .go <| .seq <| .region <| .e (.move rfl) rfl rfl ?_
      refine .e (.move rfl) rfl rfl <| .e (.sliceL sl26 rfl rfl rfl (by omega)) rfl rfl <| .e (.move rfl) rfl rfl <| .on rfl <| .copyAt (lo := i) Try.underlying26 sz70 rfl rfl .front ho40 ((OwnS.made (k := 3) (len := 1) (b := c) (T := tx) (by rw [hcl]) (by decide)).src (I := _) (.app <| .app <| .here)) (by rw [hcl, Nat.one_mul]) (ones_take _ _ hco) (by omega) rfl fun ob45 ho45 => .nil <| .go ?_
      refine .seq ?_
      refine .draw [] mixed .nil ?_
      refine .t 0 rfl (.move rfl) rfl rfl (by kernel_rfl) <| .t 1 rfl (.move rfl) rfl rfl (by kernel_rfl) <| .t 2 rfl (.move rfl) rfl rfl (by kernel_rfl) <| .t 3 rfl (.add rfl rfl (wrap_succ (by omega))) rfl rfl (by kernel_rfl) <| .t 4 rfl (.sliceL (l := i + 1) sl26 rfl rfl rfl (by omega)) rfl rfl (by kernel_rfl) <| .t 5 rfl (.move rfl) rfl rfl (by kernel_rfl) ?_
      refine .t 6 rfl (.move rfl) rfl rfl (by kernel_rfl) <| .t 7 rfl (.sliceL sl26 rfl rfl rfl (by omega)) rfl rfl (by kernel_rfl) <| .one (i := 8) (by kernel_rfl) rfl rfl <| .copyAt (lo := i + 1) Try.underlying26 sz70 rfl rfl .front ho45 (ho.srcFrom (l := i) (.app <| .front) (by omega)) (by rw [List.length_drop, hd.1, Nat.sub_mul]) (ones_take _ _ ((hd.drop (l := i) (by omega)).ones (by decide) (fun _ _ h => FilR.ones h))) (by omega) rfl fun ob54 ho54 => ?_
      refine ⟨.nil, Imm.le_refl _, ?_⟩
      refine .done (by kernel_rfl) <| .go <| .seq <| .region <| .e (.move rfl) rfl rfl <| .e (.assign rfl) rfl rfl ?_
      refine .nil <| .go <| .ret <| .ret ?_
      refine Post.rets rfl (.tmp rfl .nil) rfl (Imm.le_refl _) (fun w h => (Sat.tail (Sat.rem (Sat.drop (Sat.rem h (Rem.app <| Rem.front))) (Rem.app <| Rem.here)))) ?_
      have hwl := hd.1
      have hal : (ws.take (i * 3)).length = i * 3 := by rw [List.length_take, hwl]; have := Nat.mul_le_mul_right 3 hi; omega
      have hbl : (ws.drop (i * 3)).length = (l.length - i) * 3 := by rw [List.length_drop, hwl, Nat.sub_mul]
      have hdr : DR FilR 3 I (ws.take (i * 3) ++ (cs ++ ws.drop (i * 3))) (l.take i ++ (x :: l.drop i)) := (hd.take hi).append ((DR.single hcl hx0).append (hd.drop hi))
      have e1 : min 1 (l.length + 1 - i) * 3 = cs.length := by rw [hcl, Nat.min_eq_left (by omega), Nat.one_mul]
      have e2 : min (l.length - i) (l.length + 1 - (i + 1)) * 3 = (ws.drop (i * 3)).length := by rw [hbl, Nat.min_eq_left (by omega)]
      rw [e1, List.take_length, e2, List.take_length, ins_cells1 (n := l.length) (a := ws.take (i * 3)) hi ho40.wsLen (by rw [List.take_append_of_le_length (by omega), List.take_of_length_le (by omega)]) hcl hbl] at ho54
      exact ⟨rfl, _, ob54, ho54, hdr, rfl⟩
    · skip
      replace h31 := of_decide_eq_false h31
      obtain ⟨b, csb, Tb, z, rfl, rfl, hcs0, hzl, hox⟩ := ho.extend (by omega) (by decide)
      have hwl := hd.1
      refine .cond_false rfl <| .skip <| .go <| .seq <| .region <| .e (.move rfl) rfl rfl ?_
      refine .e (.move rfl) rfl rfl <| .e (.move rfl) rfl rfl <| .e (.add rfl rfl (wrap_succ (by omega))) rfl rfl <| .e (.sliceHn sl26 rfl rfl rfl (by omega)) rfl rfl <| .e (.assign rfl) rfl rfl <| .nil ?_
      refine .go <| .seq <| .seq <| .region <| .e (.move rfl) rfl rfl <| .e (.move rfl) rfl rfl ?_
      refine .e (.move rfl) rfl rfl <| .e (.move rfl) rfl rfl <| .e (.add rfl rfl (wrap_succ (by omega))) rfl rfl <| .e (.sliceLs (l := i + 1) sl26 rfl rfl rfl (by omega) (by omega)) rfl rfl ?_
      refine .ne (ob := [(b, .cells ⟨csb⟩ Tb (0, 0))]) (b := b) List.mem_cons_self fun hbc => ?_
      refine .on rfl <| .overlapsNo (tS := 26) (tR := 4) Try.func62 (by kernel_rfl) (by kernel_rfl) (by kernel_rfl) (by kernel_rfl) Try.underlying26 sz70 rfl rfl rfl (.app <| .here) (List.mem_append_left _ (List.mem_singleton.2 rfl)) (Ne.symm hbc) (by simpa using hcs0) rfl <| .e (.not rfl) rfl rfl <| .nil <| .go <| .cond_true rfl <| .seq ?_
      refine .draw [] mixed .nil ?_
      refine .t 0 rfl (.move rfl) rfl rfl (by kernel_rfl) <| .t 1 rfl (.move rfl) rfl rfl (by kernel_rfl) <| .t 2 rfl (.move rfl) rfl rfl (by kernel_rfl) <| .t 3 rfl (.add rfl rfl (wrap_succ (by omega))) rfl rfl (by kernel_rfl) <| .t 4 rfl (.sliceL (l := i + 1) sl26 rfl rfl rfl (by omega)) rfl rfl (by kernel_rfl) <| .t 5 rfl (.move rfl) rfl rfl (by kernel_rfl) ?_
      refine .t 6 rfl (.move rfl) rfl rfl (by kernel_rfl) <| .t 7 rfl (.sliceL sl26 rfl rfl rfl (by omega)) rfl rfl (by kernel_rfl) <| .one (i := 8) (by kernel_rfl) rfl rfl <| .copyAt (lo := i + 1) Try.underlying26 sz70 rfl rfl .front hox (hox.srcFrom (l := i) .front (by omega)) (by rw [List.length_drop, hox.wsLen, Nat.sub_mul]) (by rw [Nat.min_eq_right (by omega), show l.length + 1 - (i + 1) = l.length - i by omega, List.drop_append_of_le_length (by have := Nat.mul_le_mul_right 3 hi; omega), List.take_append_of_le_length (by rw [List.length_drop, hwl, Nat.sub_mul]; exact Nat.le_refl _)]; exact ones_take _ _ ((hd.drop (l := i) (by omega)).ones (by decide) (fun _ _ h => FilR.ones h))) (by omega) rfl fun ob77 ho77 => ?_
      refine ⟨.nil, Imm.le_refl _, ?_⟩
      refine .done (by kernel_rfl) <| .go <| .seq <| .region <| .e (.move rfl) rfl rfl <| .e (.move rfl) rfl rfl ?_
      refine .e (.sliceL sl26 rfl rfl rfl (by omega)) rfl rfl <| .e (.move rfl) rfl rfl <| .on rfl <| .copyAt (lo := i) Try.underlying26 sz70 rfl rfl .front ho77 ((OwnS.made (k := 3) (len := 1) (b := c) (T := tx) (by rw [hcl]) (by decide)).src (I := _) (.app <| .here)) (by rw [hcl, Nat.one_mul]) (ones_take _ _ hco) (by omega) rfl fun ob82 ho82 => .nil <| .go <| .seq ?_
      refine .region <| .e (.move rfl) rfl rfl <| .e (.assign rfl) rfl rfl <| .nil <| .go <| .ret ?_
      refine .ret ?_
      refine Post.rets rfl (.tmp rfl .nil) rfl (Imm.le_refl _) (fun w h => (Sat.tail (Sat.rem h (Rem.app <| Rem.here)))) ?_
      have hwl := hd.1
      have hal : (ws.take (i * 3)).length = i * 3 := by rw [List.length_take, hwl]; have := Nat.mul_le_mul_right 3 hi; omega
      have hbl : (ws.drop (i * 3)).length = (l.length - i) * 3 := by rw [List.length_drop, hwl, Nat.sub_mul]
      have hdr : DR FilR 3 I (ws.take (i * 3) ++ (cs ++ ws.drop (i * 3))) (l.take i ++ (x :: l.drop i)) := (hd.take hi).append ((DR.single hcl hx0).append (hd.drop hi))
      have e1 : min 1 (l.length + 1 - i) * 3 = cs.length := by rw [hcl, Nat.min_eq_left (by omega), Nat.one_mul]
      have e2 : ((ws ++ z).drop (i * 3)).take (min (l.length + 1 - i) (l.length + 1 - (i + 1)) * 3) = ws.drop (i * 3) := by rw [Nat.min_eq_right (by omega), show l.length + 1 - (i + 1) = l.length - i by omega, List.drop_append_of_le_length (by have := Nat.mul_le_mul_right 3 hi; omega), List.take_append_of_le_length (by omega), List.take_of_length_le (by omega)]
      rw [e1, List.take_length, e2, ins_cells2 (n := l.length) (a := ws.take (i * 3)) hi hox.wsLen (by rw [List.take_append_of_le_length (by have := Nat.mul_le_mul_right 3 hi; omega)]) hcl hbl] at ho82
      exact ⟨rfl, _, ob82, ho82, hdr, rfl⟩

set_option maxHeartbeats 1000000 in
set_option maxRecDepth 20000 in
theorem delFil_ok {I : Imm} {O : Own} {ad : Option Addr} {cap : Nat} {l : List Fil} {ws : List Value} {ob : Own} (ho : OwnS 3 (.slice ad l.length cap) l.length ws ob) (hd : DR FilR 3 I ws l) {i j : Nat} (hij : i < j) (hj : j ≤ l.length) {a b : Int} (ha : a = (i : Int)) (hb : b = (j : Int)) :
    Go.Sy.Does Try.prog 39 [.slice ad l.length cap, .int .i64 a, .int .i64 b] I (ob ++ O) (fun u I' O' => I' = I ∧ ∃ ws' ob', OwnS 3 u (l.take i ++ l.drop j).length ws' ob' ∧ DR FilR 3 I ws' (l.take i ++ l.drop j) ∧ O' = ob' ++ O) := by
  have hcap := ho.capLe
  refine Go.Sy.Does.enter Try.func39 rfl Try.ntmps39 rfl ?_
  refine .seq <| .region <| .e (.assign rfl) rfl rfl <| .nil <| .go <| .seq ?_
  refine .region <| .e (.move rfl) rfl rfl <| .e (.move rfl) rfl rfl <| .e (.move rfl) rfl rfl <| .e (.move rfl) rfl rfl <| .e (.len sl26 rfl rfl) rfl rfl ?_
  refine .e (.slice3L sl26 rfl rfl rfl rfl ha hb rfl (by omega) hj hcap) rfl rfl <| .nil <| .go <| .seq <| .seq <| .region ?_
  refine .e (.move rfl) rfl rfl <| .e (.move rfl) rfl rfl <| .e (.eql rfl rfl) rfl rfl <| .nil <| .go ?_
  refine .split 16 rfl (fun h16 => ?_) (fun h16 => ?_)
  · skip
    replace h16 := of_decide_eq_true h16
    exact absurd h16 (by omega)
  · skip
    replace h16 := of_decide_eq_false h16
    refine .cond_false rfl <| .skip <| .go <| .seq <| .region <| .e (.move rfl) rfl rfl ?_
    refine .e (.len sl26 rfl rfl) rfl rfl <| .e (.assign rfl) rfl rfl <| .nil <| .go <| .seq ?_
    refine .draw [] mixed .nil ?_
    refine .t 0 rfl (.move rfl) rfl rfl (by kernel_rfl) <| .t 1 rfl (.move rfl) rfl rfl (by kernel_rfl) <| .t 2 rfl (.sliceHn sl26 rfl rfl ha (by omega)) rfl rfl (by kernel_rfl) <| .t 3 rfl (.move rfl) rfl rfl (by kernel_rfl) <| .t 4 rfl (.move rfl) rfl rfl (by kernel_rfl) <| .t 5 rfl (.sliceL sl26 rfl rfl hb hj) rfl rfl (by kernel_rfl) ?_
    refine .one (i := 6) (by kernel_rfl) rfl rfl ?_
    have hoT := ho.takeN (h := i) (by omega)
    refine .appendIn Try.underlying26 Try.underlying26 sz70 rfl rfl .front hoT (ho.srcFrom .front hj) (by rw [(hd.drop hj).1, List.length_drop]) ((hd.drop (l := j) (by omega)).ones (by decide) (fun _ _ h => FilR.ones h)) (by omega) rfl fun ob26 ho26 => ?_
    refine ⟨.nil, Imm.le_refl _, ?_⟩
    refine .t 7 rfl (.assign rfl) rfl rfl (by kernel_rfl) <| .done (by kernel_rfl) <| .go <| .seq <| .region <| .e (.move rfl) rfl rfl ?_
    refine .e (.move rfl) rfl rfl <| .e (.len sl26 rfl rfl) rfl rfl <| .e (.move rfl) rfl rfl <| .e (.sliceLH sl26 rfl rfl rfl rfl rfl (by omega) (by omega)) rfl rfl <| .on rfl <| .clear Try.underlying26 zv70 rfl rfl rfl rfl .front ho26 (Nat.le_refl _) (by omega) (by omega) rfl fun ob33 ho33 => .nil ?_
    refine .go <| .seq <| .region <| .e (.move rfl) rfl rfl <| .e (.assign rfl) rfl rfl <| .nil ?_
    refine .go <| .ret ?_
    refine Post.rets rfl (.tmp rfl .nil) rfl (Imm.le_refl _) (fun w h => h) ?_
    have hlen : (l.take i ++ l.drop j).length = i + (l.length - j) := by rw [List.length_append, List.length_take, List.length_drop]; omega
    exact ⟨rfl, _, ob33, by rw [hlen]; exact ho33, (hd.take (by omega)).append (hd.drop hj), rfl⟩

set_option maxHeartbeats 1000000 in
set_option maxRecDepth 20000 in
theorem cmpFil_ok {I : Imm} {O : Own} {cs : List Value} {x : Fil} (hx : FilR I cs x) {s : ByteArray} :
    Pure Try.prog 41 [.agg ⟨cs⟩, .string s] I O (.int .i64 (cmpS x.name s)) := by
  obtain ⟨rfl, hx1, hx2, hx3⟩ := hx
  refine Go.Sy.Does.enter Try.func41 rfl Try.ntmps41 rfl ?_
  refine .seq <| .region <| .on rfl <| .box rfl rfl rfl fun c1 _ _ => .e (.assign rfl) rfl rfl <| .nil <| .go ?_
  refine .seq <| .region <| .e (.fieldAddr fo70_0 rfl) rfl rfl <| .e (.load ag9 rfl .here rfl) rfl rfl <| .e (.move rfl) rfl rfl <| .on rfl <| .callP cal42 rfl rfl rfl (cmpS_ok) ?_
  refine .e (.assign rfl) rfl rfl <| .nil <| .go <| .ret ?_
  refine .tail ?_
  refine Post.retE rfl rfl ?_
  rfl

set_option maxHeartbeats 1000000 in
set_option maxRecDepth 20000 in
theorem findFil_ok {I : Imm} {O : Own} {v : Value} {l : List Fil} (hl : SlR FilR 3 I v l) (hr : Rising (fun x : Fil => x.name) l) (hsm : l.length ≤ 4611686018427387903) {s : ByteArray} :
    Pure Try.prog 40 [v, .string s, .func (.func 41) #[] #[]] I O (.tuple ⟨[.int .i64 (posBy (fun x : Fil => x.name) l s : Nat), .bool (hasBy (fun x : Fil => x.name) l s)]⟩) := by
  have hl0 := hl
  obtain ⟨la, lcap, rfl, hl1, hl2, -⟩ := hl
  refine Go.Sy.Does.enter Try.func40 rfl Try.ntmps40 rfl ?_
  refine .seq <| .region <| .e (.assign rfl) rfl rfl <| .e (.assign rfl) rfl rfl <| .nil <| .go ?_
  refine .seq <| .region <| .e (.move rfl) rfl rfl <| .e (.len sl26 rfl rfl) rfl rfl <| .e (.assign rfl) rfl rfl <| .nil ?_
  refine .go <| .seq <| .region <| .e (.move rfl) rfl rfl <| .e (.assign rfl) rfl rfl <| .e (.assign rfl) rfl rfl ?_
  refine .nil <| .go <| .seq <| .block ?_
  refine .loopM [9, 10, 11, 15, 16, 17, 18, 19, 20, 21, 22, 23, 24, 25, 26, 27, 28, 29, 30, 31, 32, 33, 34] (fun p => p.2 - p.1) (fun p => p.1 ≤ p.2 ∧ p.2 ≤ l.length ∧ (∀ j (hj : j < l.length), j < p.1 → slt l[j].name s = true) ∧ (∀ j (hj : j < l.length), p.2 ≤ j → slt l[j].name s = false)) (fun p => [(9, .int .i64 p.1), (10, .int .i64 p.2)]) (fun _ => _) (fun _ => _) (((0, l.length) : Nat × Nat)) ⟨Nat.zero_le _, Nat.le_refl _, fun j _ h => absurd h (by omega), fun j hj h => absurd h (by dsimp only; omega)⟩ ⟨rfl, rfl, trivial⟩ rfl rfl ?_
  intro ⟨lo, hi⟩ hk
  dsimp only at hk ⊢
  obtain ⟨hk1, hk2, hk3, hk4⟩ := hk
  have hsh := shr_half hk1 (by omega)
  refine .seq <| .seq <| .region <| .e (.move rfl) rfl rfl <| .e (.move rfl) rfl rfl <| .e (.lss rfl rfl) rfl rfl ?_
  refine .nil <| .go ?_
  refine .split 17 rfl (fun h17 => ?_) (fun h17 => ?_)
  · skip
    replace h17 := of_decide_eq_true h17
    refine .cond_true rfl <| .skip <| .go <| .block <| .seq <| .region ?_
    refine .e (.move rfl) rfl rfl <| .e (.move rfl) rfl rfl <| .e (.add rfl rfl rfl) rfl rfl <| .e (.conv Try.underlying3 Try.underlying91 rfl) rfl rfl <| .e (.shr1 rfl rfl (by decide) rfl) rfl rfl <| .e ((EV.cast (.conv Try.underlying91 Try.underlying3 rfl) (congrArg (Value.int .i64) hsh))) rfl rfl ?_
    refine .e (.assign rfl) rfl rfl <| .nil <| .go <| .seq <| .region <| .e (.move rfl) rfl rfl ?_
    refine .e (.move rfl) rfl rfl <| .e (.move rfl) rfl rfl ?_
    obtain ⟨eb27, eo27, cs27, hd27, hat27, hr27⟩ := SlR.at_ hl0 (k := (lo + hi) / 2) (by omega)
    cases hd27
    refine .e (.indexAddrL sl26 rfl rfl rfl (by omega)) rfl rfl <| .e (.loadIA ag70 sz70 rfl hat27 (FilR.len hr27)) rfl rfl <| .e (.move rfl) rfl rfl <| .on rfl <| .callP cal41 rfl rfl rfl (cmpFil_ok hr27) <| .e (.lss rfl rfl) rfl rfl <| .nil ?_
    refine .go ?_
    refine .split 31 rfl (fun h31 => ?_) (fun h31 => ?_)
    · skip
      replace h31 := of_decide_eq_true h31
      refine .cond_true rfl <| .region <| .e (.move rfl) rfl rfl <| .e (.add rfl rfl (wrap_succ (by omega))) rfl rfl <| .e (.assign rfl) rfl rfl <| .nil ?_
      refine .blk_normal ?_
      have hlt : slt l[(lo + hi) / 2].name s = true := by rw [← cmpS_lt]; exact decide_eq_true h31
      exact .mid (((lo + hi) / 2 + 1, hi)) ⟨by dsimp only; omega, by dsimp only; omega, hk2, fun j hj h => lt_upto hr (show (lo + hi) / 2 < l.length by omega) hlt j hj (by dsimp only at h; omega), hk4⟩ ⟨rfl, rfl, trivial⟩ rfl rfl (.pre 23 rfl (.app rfl .base))
    · skip
      replace h31 := of_decide_eq_false h31
      refine .cond_false rfl <| .region <| .e (.move rfl) rfl rfl <| .e (.assign rfl) rfl rfl <| .nil <| .blk_normal ?_
      have hlt : slt l[(lo + hi) / 2].name s = false := by rw [← cmpS_lt]; exact decide_eq_false h31
      exact .mid ((lo, (lo + hi) / 2)) ⟨by dsimp only; omega, by dsimp only; omega, by dsimp only; omega, hk3, fun j hj h => lt_from hr (show (lo + hi) / 2 < l.length by omega) hlt j hj (by dsimp only at h; omega)⟩ ⟨rfl, rfl, trivial⟩ rfl rfl (.pre 22 rfl (.app rfl .base))
  · skip
    replace h17 := of_decide_eq_false h17
    refine .cond_false rfl <| .exit <| .exit <| .exit <| .blk_exit <| .go ?_
    refine .seq <| .region <| .e (.move rfl) rfl rfl <| .e (.move rfl) rfl rfl <| .e (.move rfl) rfl rfl <| .e (.lss rfl rfl) rfl rfl ?_
    refine .e (.move rfl) rfl rfl ?_
    refine .split 39 rfl (fun h39 => ?_) (fun h39 => ?_)
    · skip
      replace h39 := of_decide_eq_true h39
      refine .e (.move rfl) rfl rfl <| .e (.move rfl) rfl rfl <| .e (.move rfl) rfl rfl ?_
      obtain ⟨eb43, eo43, cs43, hd43, hat43, hr43⟩ := SlR.at_ hl0 (k := lo) (by omega)
      cases hd43
      refine .e (.indexAddrL sl26 rfl rfl rfl (by omega)) rfl rfl <| .e (.loadIA ag70 sz70 rfl hat43 (FilR.len hr43)) rfl rfl <| .e (.move rfl) rfl rfl <| .on rfl <| .callP cal41 rfl rfl rfl (cmpFil_ok hr43) <| .e (.eql rfl rfl) rfl rfl <| .e (.pickT rfl rfl) rfl rfl ?_
      refine .e (.assign rfl) rfl rfl <| .e (.assign rfl) rfl rfl <| .nil <| .go <| .ret ?_
      refine Post.retsE rfl (.tmp rfl (.tmp rfl .nil)) rfl (fun w h => h) ?_
      have hlo : lo = hi := by omega
      subst hlo
      have hp := pos_of (nm := fun x : Fil => x.name) (s := s) hk2 (fun j hj h => hk3 j hj h) (fun h => hk4 lo h (Nat.le_refl _))
      have hh := has_at (nm := fun x : Fil => x.name) (s := s) hr (by rw [hp]; omega) (fun j hj h => hk3 j hj (by rw [hp] at h; exact h))
      simp only [hp] at hh
      rw [hp, hh, ← cmpS_eq]
      rfl
    · skip
      replace h39 := of_decide_eq_false h39
      refine .off rfl rfl <| .off rfl rfl <| .off rfl rfl <| .off rfl rfl <| .off rfl rfl <| .off rfl rfl ?_
      refine .off rfl rfl <| .off rfl rfl <| .e (.pickF rfl rfl) rfl rfl <| .e (.assign rfl) rfl rfl <| .e (.assign rfl) rfl rfl <| .nil ?_
      refine .go <| .ret ?_
      refine Post.retsE rfl (.tmp rfl (.tmp rfl .nil)) rfl (fun w h => h) ?_
      have hlo : lo = hi := by omega
      subst hlo
      have hp := pos_of (nm := fun x : Fil => x.name) (s := s) hk2 (fun j hj h => hk3 j hj h) (fun h => hk4 lo h (Nat.le_refl _))
      have hh := has_none (nm := fun x : Fil => x.name) (s := s) (l := l) (fun j hj => hk3 j hj (by omega))
      rw [hp, hh]
      rfl

end Go.Proofs.Ytjoaccnfnniahaa
