/- Walks of functions over a symbolic memory, printed by a program of the session. -/
import Derived.Test.YtajpakifkinadaaGreatDoorSyK
import Derived.Test.YtajpakifkinadaaGreatDoorFacts
import Derived.Test.YtajpakifkinadaaGreatDoorTrim
namespace Go.Proofs.YtajpakifkinadaaGreatDoor
open Go.Sy
set_option linter.unusedSimpArgs false
set_option linter.unusedVariables false

def _root_.Go.Sy.A3.amt (l : A3) (t : Int) : Bool := decide (0 ≤ l.a ∧ 0 ≤ l.b ∧ 0 ≤ l.c ∧ l.a ≤ 1099511627776 * t ∧ l.b ≤ 1099511627776 * t ∧ l.c ≤ 1099511627776 * t)
theorem _root_.Go.Sy.A3.amt_out {l : A3} {t : Int} (h : l.amt t = true) : 0 ≤ l.a ∧ 0 ≤ l.b ∧ 0 ≤ l.c ∧ l.a ≤ 1099511627776 * t ∧ l.b ≤ 1099511627776 * t ∧ l.c ≤ 1099511627776 * t := of_decide_eq_true h
def IntR (_ : Imm) (cs : List Value) (z : Int) : Prop := cs = [.int .i64 z]
theorem row3 {J : Imm} {b : Nat} {T : TypeId} {fz : Nat × Nat} {x y z : Int} (h : J b = some (.cells ⟨[.int .i64 x, .int .i64 y, .int .i64 z]⟩ T fz)) : SlR IntR 1 J (.slice (some ⟨b, 0, none⟩) 3 3) [x, y, z] :=
  SlR.ofRow h ⟨rfl, fun i u hu => by
    match i, hu with
    | 0, h => cases h; rfl
    | 1, h => cases h; rfl
    | 2, h => cases h; rfl⟩ rfl (Nat.le_refl 3) (by decide)

set_option maxHeartbeats 1000000 in
set_option maxRecDepth 20000 in
theorem min3_ok {I : Imm} {O : Own} {b : Nat} {T : TypeId} {fz : Nat × Nat} {x y z : Int} (hb : I b = some (.cells ⟨[.int .i64 x, .int .i64 y, .int .i64 z]⟩ T fz)) :
    Pure Tryz.prog 113 [.slice (some ⟨b, 0, none⟩) 3 3] I O (.int .i64 (if z < (if y < x then y else x) then z else (if y < x then y else x))) := by
  have hl0 := row3 hb
  refine Go.Sy.Does.enter Tryz.func113 rfl Tryz.ntmps113 rfl ?_
  refine .seq <| .region <| .e (.assign rfl) rfl rfl <| .nil <| .go <| .seq ?_
  refine .seq <| .region <| .e (.move rfl) rfl rfl <| .e (.len sl151 rfl rfl) rfl rfl <| .e (.lss rfl rfl) rfl rfl <| .nil ?_
  refine .go <| .cond_false rfl <| .skip <| .go <| .seq <| .region ?_
  refine .e (.move rfl) rfl rfl ?_
  obtain ⟨eb10, eo10, cs10, hd10, hat10, hr10⟩ := SlR.at_ hl0 (k := 0) (by simp)
  cases hd10
  cases hr10
  refine .e (.indexAddrL sl151 rfl rfl rfl (by simp)) rfl rfl <| .e (.loadI ag2 rfl (hat10.cell (j := 0) rfl)) rfl rfl <| .e (.assign rfl) rfl rfl <| .nil <| .go <| .seq ?_
  refine .seq <| .region <| .e (.assign rfl) rfl rfl <| .nil <| .go <| .block ?_
  refine .unroll 2 <| .seq <| .seq <| .region <| .e (.move rfl) rfl rfl <| .e (.move rfl) rfl rfl ?_
  refine .e (.len sl151 rfl rfl) rfl rfl <| .e (.lss rfl rfl) rfl rfl <| .nil <| .go <| .cond_true rfl <| .skip ?_
  refine .go <| .seq <| .block <| .region <| .e (.move rfl) rfl rfl <| .e (.move rfl) rfl rfl ?_
  refine .e (.move rfl) rfl rfl ?_
  obtain ⟨eb21, eo21, cs21, hd21, hat21, hr21⟩ := SlR.at_ hl0 (k := 1) (by simp)
  cases hd21
  cases hr21
  refine .e (.indexAddrL sl151 rfl rfl rfl (by simp)) rfl rfl <| .e (.loadI ag2 rfl (hat21.cell (j := 0) rfl)) rfl rfl <| .e (.min2 rfl rfl rfl) rfl rfl <| .e (.assign rfl) rfl rfl <| .nil <| .blk_normal ?_
  refine .go <| .region <| .e (.move rfl) rfl rfl <| .e (.add (c := 2) rfl rfl (by decide)) rfl rfl <| .e (.assign rfl) rfl rfl <| .nil ?_
  refine .again <| .seq <| .seq <| .region <| .e (.move rfl) rfl rfl <| .e (.move rfl) rfl rfl ?_
  refine .e (.len sl151 rfl rfl) rfl rfl <| .e (.lss rfl rfl) rfl rfl <| .nil <| .go <| .cond_true rfl <| .skip ?_
  refine .go <| .seq <| .block <| .region <| .e (.move rfl) rfl rfl <| .e (.move rfl) rfl rfl ?_
  refine .e (.move rfl) rfl rfl ?_
  obtain ⟨eb21, eo21, cs21, hd21, hat21, hr21⟩ := SlR.at_ hl0 (k := 2) (by simp)
  cases hd21
  cases hr21
  refine .e (.indexAddrL sl151 rfl rfl rfl (by simp)) rfl rfl <| .e (.loadI ag2 rfl (hat21.cell (j := 0) rfl)) rfl rfl <| .e (.min2 rfl rfl rfl) rfl rfl <| .e (.assign rfl) rfl rfl <| .nil <| .blk_normal ?_
  refine .go <| .region <| .e (.move rfl) rfl rfl <| .e (.add (c := 3) rfl rfl (by decide)) rfl rfl <| .e (.assign rfl) rfl rfl <| .nil ?_
  refine .again <| .seq <| .seq <| .region <| .e (.move rfl) rfl rfl <| .e (.move rfl) rfl rfl ?_
  refine .e (.len sl151 rfl rfl) rfl rfl <| .e (.lss rfl rfl) rfl rfl <| .nil <| .go <| .cond_false rfl <| .exit ?_
  refine .exit <| .exit <| .blk_exit <| .go <| .seq <| .region ?_
  refine .e (.move rfl) rfl rfl <| .e (.assign rfl) rfl rfl <| .nil <| .go <| .ret ?_
  refine Post.retE rfl rfl ?_
  rfl

set_option maxHeartbeats 1000000 in
set_option maxRecDepth 20000 in
theorem max3_ok {I : Imm} {O : Own} {b : Nat} {T : TypeId} {fz : Nat × Nat} {x y z : Int} (hb : I b = some (.cells ⟨[.int .i64 x, .int .i64 y, .int .i64 z]⟩ T fz)) :
    Pure Tryz.prog 114 [.slice (some ⟨b, 0, none⟩) 3 3] I O (.int .i64 (if (if x < y then y else x) < z then z else (if x < y then y else x))) := by
  have hl0 := row3 hb
  refine Go.Sy.Does.enter Tryz.func114 rfl Tryz.ntmps114 rfl ?_
  refine .seq <| .region <| .e (.assign rfl) rfl rfl <| .nil <| .go <| .seq ?_
  refine .seq <| .region <| .e (.move rfl) rfl rfl <| .e (.len sl151 rfl rfl) rfl rfl <| .e (.lss rfl rfl) rfl rfl <| .nil ?_
  refine .go <| .cond_false rfl <| .skip <| .go <| .seq <| .region ?_
  refine .e (.move rfl) rfl rfl ?_
  obtain ⟨eb10, eo10, cs10, hd10, hat10, hr10⟩ := SlR.at_ hl0 (k := 0) (by simp)
  cases hd10
  cases hr10
  refine .e (.indexAddrL sl151 rfl rfl rfl (by simp)) rfl rfl <| .e (.loadI ag2 rfl (hat10.cell (j := 0) rfl)) rfl rfl <| .e (.assign rfl) rfl rfl <| .nil <| .go <| .seq ?_
  refine .seq <| .region <| .e (.assign rfl) rfl rfl <| .nil <| .go <| .block ?_
  refine .unroll 2 <| .seq <| .seq <| .region <| .e (.move rfl) rfl rfl <| .e (.move rfl) rfl rfl ?_
  refine .e (.len sl151 rfl rfl) rfl rfl <| .e (.lss rfl rfl) rfl rfl <| .nil <| .go <| .cond_true rfl <| .skip ?_
  refine .go <| .seq <| .block <| .region <| .e (.move rfl) rfl rfl <| .e (.move rfl) rfl rfl ?_
  refine .e (.move rfl) rfl rfl ?_
  obtain ⟨eb21, eo21, cs21, hd21, hat21, hr21⟩ := SlR.at_ hl0 (k := 1) (by simp)
  cases hd21
  cases hr21
  refine .e (.indexAddrL sl151 rfl rfl rfl (by simp)) rfl rfl <| .e (.loadI ag2 rfl (hat21.cell (j := 0) rfl)) rfl rfl <| .e (.max2 rfl rfl rfl) rfl rfl <| .e (.assign rfl) rfl rfl <| .nil <| .blk_normal ?_
  refine .go <| .region <| .e (.move rfl) rfl rfl <| .e (.add (c := 2) rfl rfl (by decide)) rfl rfl <| .e (.assign rfl) rfl rfl <| .nil ?_
  refine .again <| .seq <| .seq <| .region <| .e (.move rfl) rfl rfl <| .e (.move rfl) rfl rfl ?_
  refine .e (.len sl151 rfl rfl) rfl rfl <| .e (.lss rfl rfl) rfl rfl <| .nil <| .go <| .cond_true rfl <| .skip ?_
  refine .go <| .seq <| .block <| .region <| .e (.move rfl) rfl rfl <| .e (.move rfl) rfl rfl ?_
  refine .e (.move rfl) rfl rfl ?_
  obtain ⟨eb21, eo21, cs21, hd21, hat21, hr21⟩ := SlR.at_ hl0 (k := 2) (by simp)
  cases hd21
  cases hr21
  refine .e (.indexAddrL sl151 rfl rfl rfl (by simp)) rfl rfl <| .e (.loadI ag2 rfl (hat21.cell (j := 0) rfl)) rfl rfl <| .e (.max2 rfl rfl rfl) rfl rfl <| .e (.assign rfl) rfl rfl <| .nil <| .blk_normal ?_
  refine .go <| .region <| .e (.move rfl) rfl rfl <| .e (.add (c := 3) rfl rfl (by decide)) rfl rfl <| .e (.assign rfl) rfl rfl <| .nil ?_
  refine .again <| .seq <| .seq <| .region <| .e (.move rfl) rfl rfl <| .e (.move rfl) rfl rfl ?_
  refine .e (.len sl151 rfl rfl) rfl rfl <| .e (.lss rfl rfl) rfl rfl <| .nil <| .go <| .cond_false rfl <| .exit ?_
  refine .exit <| .exit <| .blk_exit <| .go <| .seq <| .region ?_
  refine .e (.move rfl) rfl rfl <| .e (.assign rfl) rfl rfl <| .nil <| .go <| .ret ?_
  refine Post.retE rfl rfl ?_
  rfl

set_option maxHeartbeats 1000000 in
set_option maxRecDepth 20000 in
theorem amt_ok {I : Imm} {O : Own} {l : A3} {t : Int} (ht : 0 ≤ t ∧ t ≤ 32) :
    Pure Tryz.prog 78 [.agg ⟨[.int .i64 l.a, .int .i64 l.b, .int .i64 l.c]⟩, .int .i64 t] I O (.bool (l.amt t)) := by
  refine Go.Sy.Does.enter Tryz.func78 rfl Tryz.ntmps78 rfl ?_
  refine .seq <| .region <| .on rfl <| .box rfl rfl rfl fun c1 _ _ => .e (.assign rfl) rfl rfl <| .nil <| .go ?_
  refine .seq <| .region ?_
  refine .freeze fun J hJ hJb => ?_
  refine .e (.sliceArr ar29 rfl) rfl rfl <| .on rfl <| .callP cal113 rfl rfl rfl (min3_ok hJb) <| .e (.geq rfl rfl) rfl rfl <| .e (.move rfl) rfl rfl ?_
  refine .split 8 rfl (fun h8 => ?_) (fun h8 => ?_)
  · skip
    replace h8 := of_decide_eq_true h8
    refine .e (.sliceArr ar29 rfl) rfl rfl <| .on rfl <| .callP cal114 rfl rfl rfl (max3_ok hJb) <| .e (.move rfl) rfl rfl <| .e (.mul rfl rfl (IntWalk.i64_in _ (by omega))) rfl rfl <| .e (.leq rfl rfl) rfl rfl <| .e (.pickT rfl rfl) rfl rfl ?_
    refine .e (.assign rfl) rfl rfl <| .nil <| .go <| .ret ?_
    refine .back hJ ?_
    refine Post.retE rfl rfl ?_
    refine congrArg Value.bool ?_
    unfold A3.amt
    first | exact decide_eq_decide.2 (by omega) | exact (decide_eq_false (by omega)).symm
  · skip
    replace h8 := of_decide_eq_false h8
    refine .off rfl rfl <| .off rfl rfl <| .off rfl rfl <| .off rfl rfl <| .off rfl rfl <| .e (.pickF rfl rfl) rfl rfl ?_
    refine .e (.assign rfl) rfl rfl <| .nil <| .go <| .ret ?_
    refine .back hJ ?_
    refine Post.retE rfl rfl ?_
    refine congrArg Value.bool ?_
    unfold A3.amt
    first | exact decide_eq_decide.2 (by omega) | exact (decide_eq_false (by omega)).symm

theorem trim_ok {I : Imm} {O : Own} {s : ByteArray} (hs : StrOk s) : Pure Tryz.prog 112 [.string s, .string ⟨#[97, 98, 99, 100, 101, 102, 103, 104, 105, 106, 107, 108, 109, 110, 111, 112, 113, 114, 115, 116, 117, 118, 119, 120, 121, 122, 48, 49, 50, 51, 52, 53, 54, 55, 56, 57, 45]⟩] I O (.string ⟨(Lib.trimS s.data.toList letters).toArray⟩) := .ofCalls fun w =>
  Any.strings_Trim_laid Tryz.lays160 (by kernel_rfl) s ⟨#[97, 98, 99, 100, 101, 102, 103, 104, 105, 106, 107, 108, 109, 110, 111, 112, 113, 114, 115, 116, 117, 118, 119, 120, 121, 122, 48, 49, 50, 51, 52, 53, 54, 55, 56, 57, 45]⟩ w hs (by decide) (Go.Proofs.ascii_of_all (by decide))
theorem isName_eq {s : ByteArray} : isName s = ((!decide (s = ⟨#[]⟩) && decide ((s.size : Int) ≤ 32)) && s.data.toList.all nameB) := by
  unfold isName
  have e : decide ((s.size : Int) ≤ 32) = decide (s.size ≤ 32) := decide_eq_decide.2 (by omega)
  rw [e]
  cases s.data.toList.all nameB <;> cases decide (s = ⟨#[]⟩) <;> cases decide (s.size ≤ 32) <;> rfl
theorem isName_no {s : ByteArray} {k : Nat} (hk : k < s.data.toList.length) (h : nameB s.data.toList[k] = false) : isName s = false := by
  unfold isName
  have : s.data.toList.all nameB = false := by
    rw [Bool.eq_false_iff]; intro h2
    have := List.all_eq_true.1 h2 _ (List.getElem_mem hk)
    rw [h] at this; cases this
  rw [this]; rfl
theorem all_step {s : ByteArray} {k : Nat} (hk : k < s.data.toList.length) (h : (s.data.toList.take k).all nameB = true) (hb : nameB s.data.toList[k] = true) : (s.data.toList.take (k + 1)).all nameB = true := by
  rw [List.take_succ_eq_append_getElem hk, List.all_append, h, List.all_cons, hb]; rfl
theorem size_len (s : ByteArray) : s.size = s.data.toList.length := rfl
def cmpS (a b : ByteArray) : Int := if slt a b = true then -1 else if a = b then 0 else 1
def ordI (p q : Pr) : Int := if cmpS p.key q.key ≠ 0 then cmpS p.key q.key else cmpS p.value q.value
def wrongOrd (p q : Pr) : Bool := !(slt p.key q.key || decide (p.key = q.key)) || (decide (p.key = q.key) && !slt p.value q.value)
def okV (s : ByteArray) : Bool := decide (s = ⟨#[]⟩) || isName s
def pr0 : Pr := ⟨⟨#[]⟩, ⟨#[]⟩⟩
def badAt (l : List Pr) (k : Nat) : Bool := !isName (l.getD k pr0).key || !okV (l.getD k pr0).value || (decide (0 < k) && wrongOrd (l.getD (k - 1) pr0) (l.getD k pr0))
def goodTo (l : List Pr) (k : Nat) : Bool := (List.range k).all fun j => !badAt l j
def prsOk (l : List Pr) : Bool := goodTo l l.length && decide (l.length ≤ 4)
theorem goodTo_succ (l : List Pr) (k : Nat) : goodTo l (k + 1) = (goodTo l k && !badAt l k) := by
  unfold goodTo; rw [List.range_succ, List.all_append]; simp
theorem goodTo_le {l : List Pr} {k n : Nat} (hk : k < n) (h : badAt l k = true) : goodTo l n = false := by
  unfold goodTo
  rw [Bool.eq_false_iff]; intro h2
  have := List.all_eq_true.1 h2 k (List.mem_range.2 hk)
  rw [h] at this; cases this
theorem prsOk_bad {l : List Pr} {k : Nat} (hk : k < l.length) (h : badAt l k = true) : prsOk l = false := by unfold prsOk; rw [goodTo_le hk h]; rfl
theorem getD_at {l : List Pr} {k : Nat} (hk : k < l.length) : l.getD k pr0 = l[k] := by simp [hk]
theorem slt_irr (a : ByteArray) : slt a a = false := by
  unfold slt
  have : ∀ l : List UInt8, Op.bytesLess l l = false := by
    intro l
    induction l with
    | nil => rfl
    | cons x r ih => simp [Op.bytesLess, ih]
  exact this _
theorem cmpS_ge {a b : ByteArray} : decide (0 ≤ cmpS a b) = !slt a b := by
  unfold cmpS
  split
  · rename_i h; simp [h]
  · rename_i h; split <;> simp [h]
theorem cmpS_zero {a b : ByteArray} : cmpS a b = 0 ↔ a = b := by
  unfold cmpS
  split
  · rename_i h
    constructor
    · intro h2; omega
    · intro h2; subst h2; rw [slt_irr] at h; cases h
  · split
    · rename_i h; simp [h]
    · rename_i h; simp [h]
theorem ordI_ge {p q : Pr} : decide (0 ≤ ordI p q) = wrongOrd p q := by
  unfold ordI wrongOrd
  by_cases h : p.key = q.key
  · have h0 : cmpS p.key q.key = 0 := cmpS_zero.2 h
    rw [if_neg (by simp [h0]), cmpS_ge]
    simp [h]
  · have h0 : cmpS p.key q.key ≠ 0 := fun h2 => h (cmpS_zero.1 h2)
    rw [if_pos h0, cmpS_ge]
    simp [h]
def nodWhy (n : Nod) : Int := if isName n.name = false then 5 else if n.has.amt 1 = false then 1 else if (prsOk n.labels && prsOk n.taints) = false then 4 else 0
def tskWhy (t : Tsk) : Int := if isName t.name = false then 5 else if (t.needs.amt 1 && (decide (-1000 ≤ t.rank) && decide (t.rank ≤ 1000))) = false then 1 else if (prsOk t.wants && (prsOk t.bears && (okV t.group && okV t.apart))) = false then 4 else 0
theorem wrap_pred {k : Nat} (h0 : 0 < k) (h : k < 9223372036854775807) : IntKind.i64.wrap ((k : Int) - 1) = ((k - 1 : Nat) : Int) := by
  have e : (k : Int) - 1 = ((k - 1 : Nat) : Int) := by omega
  rw [e]; exact IntWalk.i64_in _ (by omega)

set_option maxHeartbeats 1000000 in
set_option maxRecDepth 20000 in
theorem Name_ok {I : Imm} {O : Own} {s : ByteArray} (hs : StrOk s) :
    Pure Tryz.prog 77 [.string s] I O (.bool (isName s)) := by
  refine Go.Sy.Does.enter Tryz.func77 rfl Tryz.ntmps77 rfl ?_
  refine .seq <| .region <| .e (.assign rfl) rfl rfl <| .nil <| .go <| .seq ?_
  refine .region <| .e (.move rfl) rfl rfl <| .e (.strne rfl rfl) rfl rfl <| .e (.move rfl) rfl rfl ?_
  refine .split 5 rfl (fun h5 => ?_) (fun h5 => ?_)
  · skip
    first | replace h5 := of_decide_eq_false ((Bool.not_eq_true' _).mp h5) | replace h5 := of_decide_eq_false (by simpa using h5)
    refine .e (.move rfl) rfl rfl <| .e (.lenS Tryz.underlying9 rfl rfl) rfl rfl <| .e (.leq rfl rfl) rfl rfl <| .e (.pickT rfl rfl) rfl rfl <| .e (.move rfl) rfl rfl ?_
    refine .split 10 rfl (fun h10 => ?_) (fun h10 => ?_)
    · skip
      replace h10 := of_decide_eq_true h10
      refine .e (.move rfl) rfl rfl <| .on rfl <| .callP cal112 rfl rfl rfl (trim_ok hs) <| .e ((EV.cast (u := .bool (s.data.toList.all nameB)) (.streq rfl rfl) (congrArg Value.bool trim_eq))) rfl rfl <| .e (.pickT rfl rfl) rfl rfl <| .e (.assign rfl) rfl rfl <| .nil ?_
      refine .go <| .ret ?_
      refine Post.retE rfl rfl ?_
      refine congrArg Value.bool ?_
      rw [isName_eq]
      generalize s.data.toList.all nameB = c
      simp [h5, h10]
    · skip
      replace h10 := of_decide_eq_false h10
      refine .off rfl rfl <| .off rfl rfl <| .off rfl rfl <| .e (.pickF rfl rfl) rfl rfl <| .e (.assign rfl) rfl rfl <| .nil ?_
      refine .go <| .ret ?_
      refine Post.retE rfl rfl ?_
      refine congrArg Value.bool ?_
      rw [isName_eq]
      generalize s.data.toList.all nameB = c
      simp [h5, h10]
  · skip
    first | replace h5 := of_decide_eq_true ((Bool.not_eq_false' _).mp h5) | replace h5 := of_decide_eq_true (by simpa using h5)
    refine .off rfl rfl <| .off rfl rfl <| .off rfl rfl <| .e (.pickF rfl rfl) rfl rfl <| .e (.move rfl) rfl rfl <| .off rfl rfl ?_
    refine .off rfl rfl <| .off rfl rfl <| .e (.pickF rfl rfl) rfl rfl <| .e (.assign rfl) rfl rfl <| .nil <| .go ?_
    refine .ret ?_
    refine Post.retE rfl rfl ?_
    refine congrArg Value.bool ?_
    rw [isName_eq]
    generalize s.data.toList.all nameB = c
    simp [h5]

set_option maxHeartbeats 1000000 in
set_option maxRecDepth 20000 in
theorem named_ok {I : Imm} {O : Own} {s : ByteArray} (hs : StrOk s) :
    Pure Tryz.prog 80 [.string s] I O (.bool (okV s)) := by
  refine Go.Sy.Does.enter Tryz.func80 rfl Tryz.ntmps80 rfl ?_
  refine .seq <| .region <| .e (.assign rfl) rfl rfl <| .nil <| .go <| .seq ?_
  refine .region <| .e (.move rfl) rfl rfl <| .e (.streq rfl rfl) rfl rfl <| .e (.move rfl) rfl rfl ?_
  refine .split 5 rfl (fun h5 => ?_) (fun h5 => ?_)
  · skip
    replace h5 := of_decide_eq_true h5
    refine .off rfl rfl <| .off rfl rfl <| .e (.pickT rfl rfl) rfl rfl <| .e (.assign rfl) rfl rfl <| .nil <| .go ?_
    refine .ret ?_
    refine Post.retE rfl rfl ?_
    simp_all [okV]
  · skip
    replace h5 := of_decide_eq_false h5
    refine .e (.move rfl) rfl rfl <| .on rfl <| .callP cal77 rfl rfl rfl (Name_ok hs) <| .e (.pickF rfl rfl) rfl rfl <| .e (.assign rfl) rfl rfl <| .nil <| .go ?_
    refine .ret ?_
    refine Post.retE rfl rfl ?_
    simp_all [okV]

theorem nameB_of {b : UInt8} {x : Bool} (h : x = nameB b) (hx : x = true) : nameB b = true := h ▸ hx

set_option maxHeartbeats 1000000 in
set_option maxRecDepth 20000 in
theorem isNaN_ok {I : Imm} {O : Own} {s : ByteArray} :
    Pure Tryz.prog 110 [.string s] I O (.bool false) := by
  refine Go.Sy.Does.enter Tryz.func110 rfl Tryz.ntmps110 rfl ?_
  refine .seq <| .region <| .e (.assign rfl) rfl rfl <| .nil <| .go <| .seq ?_
  refine .region <| .e (.move rfl) rfl rfl <| .e (.move rfl) rfl rfl <| .e (.strne rfl rfl) rfl rfl <| .e (.assign rfl) rfl rfl <| .nil ?_
  refine .go <| .ret ?_
  refine Post.retE rfl rfl ?_
  simp

set_option maxHeartbeats 1000000 in
set_option maxRecDepth 20000 in
theorem cmpS_ok {I : Imm} {O : Own} {a b : ByteArray} :
    Pure Tryz.prog 74 [.string a, .string b] I O (.int .i64 (cmpS a b)) := by
  refine Go.Sy.Does.enter Tryz.func74 rfl Tryz.ntmps74 rfl ?_
  refine .seq <| .region <| .e (.assign rfl) rfl rfl <| .nil <| .go <| .seq ?_
  refine .region <| .e (.move rfl) rfl rfl <| .on rfl <| .callP cal110 rfl rfl rfl (isNaN_ok) <| .e (.assign rfl) rfl rfl <| .nil <| .go ?_
  refine .seq <| .region <| .e (.move rfl) rfl rfl <| .on rfl <| .callP cal110 rfl rfl rfl (isNaN_ok) <| .e (.assign rfl) rfl rfl <| .nil ?_
  refine .go <| .seq <| .seq <| .region <| .e (.move rfl) rfl rfl <| .nil ?_
  refine .go <| .cond_false rfl <| .skip <| .go <| .seq <| .seq ?_
  refine .region <| .e (.move rfl) rfl rfl <| .nil <| .go <| .cond_false rfl <| .skip ?_
  refine .go <| .seq <| .seq <| .region <| .e (.move rfl) rfl rfl <| .e (.move rfl) rfl rfl ?_
  refine .e (.strlt rfl rfl) rfl rfl <| .nil <| .go ?_
  refine .split 16 rfl (fun h16 => ?_) (fun h16 => ?_)
  · skip
    refine .cond_true rfl <| .seq <| .region <| .e (.assign rfl) rfl rfl <| .nil <| .go ?_
    refine .ret <| .ret ?_
    refine Post.retE rfl rfl ?_
    unfold cmpS
    simp_all
  · skip
    refine .cond_false rfl <| .skip <| .go <| .seq <| .seq <| .region ?_
    refine .e (.move rfl) rfl rfl <| .e (.move rfl) rfl rfl <| .e (.strgt rfl rfl) rfl rfl <| .nil <| .go ?_
    refine .split 19 rfl (fun h19 => ?_) (fun h19 => ?_)
    · skip
      refine .cond_true rfl <| .seq <| .region <| .e (.assign rfl) rfl rfl <| .nil <| .go ?_
      refine .ret <| .ret ?_
      refine Post.retE rfl rfl ?_
      unfold cmpS
      simp_all
    · skip
      refine .cond_false rfl <| .skip <| .go <| .seq <| .region <| .e (.assign rfl) rfl rfl ?_
      refine .nil <| .go <| .ret ?_
      refine Post.retE rfl rfl ?_
      unfold cmpS
      simp_all

end Go.Proofs.YtajpakifkinadaaGreatDoor
