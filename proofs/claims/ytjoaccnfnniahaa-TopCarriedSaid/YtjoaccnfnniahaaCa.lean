/- Walks of functions over a symbolic memory, printed by a program of the session. -/
import Derived.Test.YtjoaccnfnniahaaSa
import Derived.Test.YtjoaccnfnniahaaBb
import Derived.Test.YtjoaccnfnniahaaLa
namespace Go.Proofs.Ytjoaccnfnniahaa
open Go.Sy
set_option linter.unusedSimpArgs false
set_option linter.unusedVariables false

def intsTo (l : List Int) : Nat → ByteArray
  | 0 => numB l.length
  | k + 1 => intsTo l k ++ numB (l.getD k 0).toNat
def intsB (l : List Int) : ByteArray := intsTo l l.length
theorem ints_size {l : List Int} (hm : ∀ m ∈ l, 0 ≤ m ∧ m ≤ 7) (hL : l.length ≤ 1000) : ∀ k, k ≤ l.length → (intsTo l k).size ≤ 9 * (k + 1) ∧ 0 < (intsTo l k).size
  | 0, _ => by
    have := kby_le (n := l.length) (by omega)
    unfold intsTo; rw [numB_size]; omega
  | k + 1, hk => by
    have ih := ints_size hm hL k (by omega)
    have h1 := hm l[k] (List.getElem_mem _)
    have h2 := kby_le (n := l[k].toNat) (by omega)
    unfold intsTo
    rw [ByteArray.size_append, numB_size, List.getD_eq_getElem?_getD, List.getElem?_eq_getElem (show k < l.length by omega)]
    show _ + (kby l[k].toNat + 1) ≤ _ ∧ _
    omega
theorem ints_step {l : List Int} {k : Nat} (hk : k < l.length) : intsTo l (k + 1) = intsTo l k ++ numB l[k].toNat := by
  rw [intsTo, List.getD_eq_getElem?_getD, List.getElem?_eq_getElem hk]; rfl

set_option maxHeartbeats 1000000 in
set_option maxRecDepth 20000 in
theorem wints_ok {I : Imm} {O : Own} {v : Value} {l : List Int} (hl : IntsR I v l) (hm : ∀ m ∈ l, 0 ≤ m ∧ m ≤ 7) (hL : l.length ≤ 1000) :
    Pure Try.prog 70 [v] I O (.string (intsB l)) := by
  have hl0 := hl
  obtain ⟨la, lcap, rfl, hl1, hl2, -⟩ := hl
  refine Go.Sy.Does.enter Try.func70 rfl Try.ntmps70 rfl ?_
  refine .seq <| .region <| .e (.assign rfl) rfl rfl <| .nil <| .go <| .seq ?_
  refine .region <| .on rfl <| .alloc zr105 rfl fun c1 _ _ => .nil <| .go <| .seq <| .region ?_
  refine .e (.move rfl) rfl rfl <| .e (.len sl24 rfl rfl) rfl rfl <| .e ((EV.cast (.conv Try.underlying3 Try.underlying40 rfl) (congrArg (Value.int .u64) (IntWalk.u64_in ((l.length : Nat) : Int) (by omega))))) rfl rfl <| .on rfl <| .callP cal68 rfl rfl rfl (number_ok (n := l.length) (by omega)) ?_
  refine .on rfl <| .call cal67 rfl rfl rfl (bwrite_ok Bld.new (by have := kby_le (n := l.length) (by omega); rw [numB_size]; show 0 + _ ≤ _; omega)) fun v10 I10 O10 hI10 hK10 => ?_
  obtain ⟨rfl, hq10, ob10, hB10, rfl⟩ := hK10
  replace hq10 := hq10.symm
  subst hq10
  have hB0 : Bld c1 (intsTo l 0) ob10 := by have e : (⟨#[]⟩ : ByteArray) ++ numB l.length = numB l.length := ByteArray.empty_append; rw [e] at hB10; exact hB10
  refine .nil <| .go <| .seq <| .seq <| .region <| .e (.move rfl) rfl rfl ?_
  refine .e (.len sl24 rfl rfl) rfl rfl <| .e (.move rfl) rfl rfl <| .nil <| .go <| .block ?_
  refine .loopM [5, 13, 14, 15, 16, 17, 18, 19, 20, 21] (fun s => l.length - s.1) (fun s => s.1 ≤ l.length ∧ Bld c1 (intsTo l s.1) s.2) (fun s => [(13, .int .i64 s.1)]) (fun _ => _) (fun s => s.2 ++ _) (((0, ob10) : Nat × Own)) ⟨Nat.zero_le _, hB0⟩ ⟨rfl, trivial⟩ rfl rfl ?_
  intro ⟨k, obW⟩ hk
  dsimp only at hk ⊢
  obtain ⟨hkl, hBW⟩ := hk
  have hsz := ints_size hm hL k hkl
  refine .seq <| .region <| .e (.lss rfl rfl) rfl rfl <| .nil <| .go <| .seq ?_
  refine .split 14 rfl (fun h14 => ?_) (fun h14 => ?_)
  · skip
    replace h14 := of_decide_eq_true h14
    refine .cond_true rfl <| .skip <| .go <| .seq <| .block <| .seq ?_
    refine .region ?_
    obtain ⟨eb15, eo15, cs15, hd15, hat15, hr15⟩ := SlR.at_ hl0 (k := k) (by omega)
    cases hd15
    obtain ⟨rfl, -⟩ := hr15
    refine .e (.indexAddrL sl24 rfl rfl rfl (by omega)) rfl rfl <| .e (.loadI ag3 rfl (hat15.cell (j := 0) rfl)) rfl rfl <| .e (.assign rfl) rfl rfl <| .nil <| .go <| .region ?_
    refine .e (.move rfl) rfl rfl ?_
    have hmk := hm l[k] (List.getElem_mem _)
    refine .e ((EV.cast (.conv Try.underlying3 Try.underlying40 rfl) (congrArg (Value.int .u64) ((IntWalk.u64_in _ (by omega)).trans (show l[k] = ((l[k].toNat : Nat) : Int) by omega))))) rfl rfl <| .on rfl <| .callP cal68 rfl rfl rfl (number_ok (n := l[k].toNat) (by omega)) ?_
    refine .on rfl <| .call cal67 rfl rfl rfl (bwrite_ok hBW (by have := kby_le (n := l[k].toNat) (by omega); rw [numB_size]; omega)) fun v20 I20 O20 hI20 hK20 => ?_
    obtain ⟨rfl, hq20, ob20, hB20, rfl⟩ := hK20
    replace hq20 := hq20.symm
    subst hq20
    refine .nil <| .blk_normal <| .go <| .region <| .e (.add rfl rfl (by first | exact wrap_succ (by omega) | exact IntWalk.i64_in _ (by omega) | exact rfl)) rfl rfl <| .e (.move rfl) rfl rfl ?_
    refine .nil ?_
    have hBN : Bld c1 (intsTo l (k + 1)) ob20 := by rw [ints_step (show k < l.length by omega)]; exact hB20
    exact .mid ((k + 1, _)) ⟨by dsimp only; omega, by dsimp only; omega, hBN⟩ ⟨rfl, trivial⟩ rfl rfl (.pre 11 rfl (.app rfl .base))
  · skip
    replace h14 := of_decide_eq_false h14
    refine .cond_false rfl <| .exit <| .exit <| .exit <| .blk_exit <| .go ?_
    refine .seq <| .region ?_
    refine .on rfl <| .call cal53 rfl rfl rfl (bstr_ok hBW (by omega)) fun v22 I22 O22 hI22 hK22 => ?_
    obtain ⟨rfl, hq22, rfl⟩ := hK22
    replace hq22 := hq22.symm
    subst hq22
    refine .e (.assign rfl) rfl rfl <| .nil <| .go <| .ret ?_
    refine Post.retE rfl rfl ?_
    have ek : k = l.length := by omega
    subst ek
    rfl

end Go.Proofs.Ytjoaccnfnniahaa

namespace Go.Proofs.Ytjoaccnfnniahaa
open Go.Sy
set_option linter.unusedSimpArgs false
set_option linter.unusedVariables false

theorem mOk_each {l : List Int} (h : mOk l = true) : ∀ k (hk : k < l.length), ((k : Nat) : Int) + 1 ≤ l[k] ∧ l[k] ≤ 7 := by
  unfold mOk at h
  rw [Bool.and_eq_true] at h
  have hb : ∀ k (hk : k < l.length), mBad l k = false := fun k hk => by
    have := List.all_eq_true.1 h.1 k (List.mem_range.2 hk)
    simpa using this
  intro k
  induction k with
  | zero =>
    intro hk
    have := hb 0 hk
    unfold mBad at this
    rw [intD hk, decide_eq_false_iff_not] at this
    omega
  | succ k ih =>
    intro hk
    have h1 := ih (by omega)
    have h2 := hb (k + 1) hk
    unfold mBad at h2
    rw [intD hk, decide_eq_false_iff_not, show k + 1 - 1 = k by omega, intD (show k < l.length by omega)] at h2
    omega
theorem mOk_few {l : List Int} (h : mOk l = true) : l.length ≤ 7 ∧ ∀ m ∈ l, 0 ≤ m ∧ m ≤ 7 := by
  refine ⟨?_, fun m hm => ?_⟩
  · rcases Nat.lt_or_ge 7 l.length with h1 | h1
    · have := mOk_each h 7 h1; omega
    · exact h1
  · obtain ⟨k, hk, rfl⟩ := List.mem_iff_getElem.1 hm
    have := mOk_each h k hk; omega
theorem ent_fit {e : Ent} (h : entOk e = true) : 0 < e.index ∧ e.data.size ≤ 4096 ∧ 1 ≤ e.kind ∧ e.kind ≤ 3 ∧ e.members.length ≤ 7 ∧ ∀ m ∈ e.members, 0 ≤ m ∧ m ≤ 7 := by
  unfold entOk at h
  rw [Bool.and_eq_true, Bool.and_eq_true, decide_eq_true_eq, decide_eq_true_eq] at h
  obtain ⟨⟨h1, h2⟩, h3⟩ := h
  have hnil : ((e.members.length : Int) = 0) → e.members.length ≤ 7 ∧ ∀ m ∈ e.members, 0 ≤ m ∧ m ≤ 7 := fun h => by
    have e0 : e.members = [] := List.length_eq_zero_iff.1 (by omega)
    rw [e0]; exact ⟨Nat.zero_le _, fun _ h => absurd h List.not_mem_nil⟩
  split at h3
  · rw [Bool.and_eq_true, decide_eq_true_eq, decide_eq_true_eq] at h3
    have := hnil h3.2; exact ⟨h1, by omega, by omega, by omega, this⟩
  · split at h3
    · rw [decide_eq_true_eq] at h3
      have := hnil h3; exact ⟨h1, by omega, by omega, by omega, this⟩
    · split at h3
      · rw [Bool.and_eq_true] at h3
        exact ⟨h1, by omega, by omega, by omega, mOk_few h3.2⟩
      · cases h3
def entB (e : Ent) : ByteArray := numB e.index.toNat ++ (numB e.term.toNat ++ (numB e.kind.toNat ++ (textB e.data ++ intsB e.members)))
theorem u64_nat {x : Int} (h : U64 x) : x = ((x.toNat : Nat) : Int) ∧ x.toNat < 18446744073709551616 := by unfold U64 at h; omega

end Go.Proofs.Ytjoaccnfnniahaa

namespace Go.Proofs.Ytjoaccnfnniahaa
open Go.Sy
set_option linter.unusedSimpArgs false
set_option linter.unusedVariables false

theorem numberI_ok {I : Imm} {O : Own} {x : Int} (h : U64 x) : Pure Try.prog 68 [.int .u64 x] I O (.string (numB x.toNat)) := by
  have h1 := number_ok (I := I) (O := O) (n := x.toNat) (u64_nat h).2
  rw [← (u64_nat h).1] at h1; exact h1
theorem textB_size (s : ByteArray) : (textB s).size = kby s.size + 1 + s.size := by unfold textB; rw [ByteArray.size_append, numB_size]
theorem empty_size : (⟨#[]⟩ : ByteArray).size = 0 := rfl

set_option maxHeartbeats 8000000 in
set_option maxRecDepth 20000 in
theorem eBytes_ok {I : Imm} {O : Own} {ec : List Value} {e : Ent} (he : EntR I ec e) (hok : entOk e = true) :
    Pure Try.prog 51 [.agg ⟨ec⟩] I O (.string (entB e)) := by
  have he0 := he
  obtain ⟨mv, rfl, hmv⟩ := he.ex
  have hmv0 := hmv
  obtain ⟨ma, mcap, rfl, hm1, hm2, -⟩ := hmv
  obtain ⟨hfi, hfd, hk1, hk3, hfl, hfm⟩ := ent_fit hok
  have hkU : U64 e.kind := by unfold U64; omega
  have hg1 := kby_le (u64_nat he0.index).2
  have hg2 := kby_le (u64_nat he0.term).2
  have hg3 := kby_le (u64_nat hkU).2
  have hg4 := kby_le (n := e.data.size) (by omega)
  have hg5 := ints_size hfm (by omega) e.members.length (Nat.le_refl _)
  replace hg5 : (intsB e.members).size ≤ 9 * (e.members.length + 1) ∧ 0 < (intsB e.members).size := hg5
  refine Go.Sy.Does.enter Try.func51 rfl Try.ntmps51 rfl ?_
  refine .seq <| .region <| .on rfl <| .box rfl rfl rfl fun c1 _ _ => .e (.assign rfl) rfl rfl <| .nil <| .go ?_
  refine .seq <| .region <| .on rfl <| .alloc zr105 rfl fun c2 _ _ => .nil <| .go <| .seq ?_
  refine .seq <| .region <| .e (.fieldAddr fo77_0 rfl) rfl rfl <| .e (.load ag40 rfl (.there <| .here) rfl) rfl rfl <| .e (.fieldAddr fo77_1 rfl) rfl rfl <| .e (.load ag40 rfl (.there <| .here) rfl) rfl rfl ?_
  refine .e (.fieldAddr fo77_2 rfl) rfl rfl <| .e (.load ag75 rfl (.there <| .here) rfl) rfl rfl <| .e ((EV.cast (.conv Try.underlying75 Try.underlying40 rfl) (congrArg (Value.int .u64) (IntWalk.u64_in _ (by unfold U64 at hkU; omega))))) rfl rfl <| .e (.buildA ar137 zv137 rfl rfl) rfl rfl <| .e (.move rfl) rfl rfl <| .nil ?_
  refine .go <| .block <| .unroll 3 <| .seq <| .region <| .e (.lss rfl rfl) rfl rfl ?_
  refine .nil <| .go <| .seq <| .cond_true rfl <| .skip <| .go ?_
  refine .seq <| .block <| .seq <| .region <| .e (.index (j := 0) ar137 ag40 rfl rfl rfl (by first | decide | omega) rfl) rfl rfl <| .e (.assign rfl) rfl rfl ?_
  refine .nil <| .go <| .region <| .e (.move rfl) rfl rfl <| .on rfl <| .callP cal68 rfl rfl rfl (numberI_ok he0.index) ?_
  refine .on rfl <| .call cal67 rfl rfl rfl (bwrite_ok Bld.new (by simp only [ByteArray.size_append, numB_size, textB_size, empty_size]; omega)) fun v191 I191 O191 hI191 hK191 => ?_
  obtain ⟨rfl, hq191, ob191, hB191, rfl⟩ := hK191
  replace hq191 := hq191.symm
  subst hq191
  refine .nil <| .blk_normal <| .go <| .region <| .e (.add (c := 1) rfl rfl (by decide)) rfl rfl <| .e (.move rfl) rfl rfl ?_
  refine .nil <| .again <| .seq <| .region <| .e (.lss rfl rfl) rfl rfl <| .nil ?_
  refine .go <| .seq <| .cond_true rfl <| .skip <| .go <| .seq ?_
  refine .block <| .seq <| .region <| .e (.index (j := 1) ar137 ag40 rfl rfl rfl (by first | decide | omega) rfl) rfl rfl <| .e (.assign rfl) rfl rfl <| .nil ?_
  refine .go <| .region <| .e (.move rfl) rfl rfl <| .on rfl <| .callP cal68 rfl rfl rfl (numberI_ok he0.term) ?_
  refine .on rfl <| .call cal67 rfl rfl rfl (bwrite_ok hB191 (by simp only [ByteArray.size_append, numB_size, textB_size, empty_size]; omega)) fun v192 I192 O192 hI192 hK192 => ?_
  obtain ⟨rfl, hq192, ob192, hB192, rfl⟩ := hK192
  replace hq192 := hq192.symm
  subst hq192
  refine .nil <| .blk_normal <| .go <| .region <| .e (.add (c := 2) rfl rfl (by decide)) rfl rfl <| .e (.move rfl) rfl rfl ?_
  refine .nil <| .again <| .seq <| .region <| .e (.lss rfl rfl) rfl rfl <| .nil ?_
  refine .go <| .seq <| .cond_true rfl <| .skip <| .go <| .seq ?_
  refine .block <| .seq <| .region <| .e (.index (j := 2) ar137 ag40 rfl rfl rfl (by first | decide | omega) rfl) rfl rfl <| .e (.assign rfl) rfl rfl <| .nil ?_
  refine .go <| .region <| .e (.move rfl) rfl rfl <| .on rfl <| .callP cal68 rfl rfl rfl (numberI_ok hkU) ?_
  refine .on rfl <| .call cal67 rfl rfl rfl (bwrite_ok hB192 (by simp only [ByteArray.size_append, numB_size, textB_size, empty_size]; omega)) fun v193 I193 O193 hI193 hK193 => ?_
  obtain ⟨rfl, hq193, ob193, hB193, rfl⟩ := hK193
  replace hq193 := hq193.symm
  subst hq193
  refine .nil <| .blk_normal <| .go <| .region <| .e (.add (c := 3) rfl rfl (by decide)) rfl rfl <| .e (.move rfl) rfl rfl ?_
  refine .nil <| .again <| .seq <| .region <| .e (.lss rfl rfl) rfl rfl <| .nil ?_
  refine .go <| .seq <| .cond_false rfl <| .exit <| .exit <| .exit ?_
  refine .blk_exit <| .go <| .seq <| .region <| .e (.fieldAddr fo77_3 rfl) rfl rfl <| .e (.load ag9 rfl (.app <| .here) rfl) rfl rfl ?_
  refine .on rfl <| .callP cal69 rfl rfl rfl (text_ok (s := e.data) (by omega)) ?_
  refine .on rfl <| .call cal67 rfl rfl rfl (bwrite_ok hB193 (by simp only [ByteArray.size_append, numB_size, textB_size, empty_size]; omega)) fun v24 I24 O24 hI24 hK24 => ?_
  obtain ⟨rfl, hq24, ob24, hB24, rfl⟩ := hK24
  replace hq24 := hq24.symm
  subst hq24
  refine .nil <| .go <| .seq <| .region <| .e (.fieldAddr fo77_4 rfl) rfl rfl <| .e (.load ag24 rfl (.app <| .here) rfl) rfl rfl ?_
  refine .on rfl <| .callP cal70 rfl rfl rfl (wints_ok hmv0 hfm (by omega)) ?_
  refine .on rfl <| .call cal67 rfl rfl rfl (bwrite_ok hB24 (by simp only [ByteArray.size_append, numB_size, textB_size, empty_size]; omega)) fun v28 I28 O28 hI28 hK28 => ?_
  obtain ⟨rfl, hq28, ob28, hB28, rfl⟩ := hK28
  replace hq28 := hq28.symm
  subst hq28
  refine .nil <| .go <| .seq <| .region ?_
  refine .on rfl <| .call cal53 rfl rfl rfl (bstr_ok hB28 (by simp only [ByteArray.size_append, numB_size, textB_size, empty_size]; omega)) fun v29 I29 O29 hI29 hK29 => ?_
  obtain ⟨rfl, hq29, rfl⟩ := hK29
  replace hq29 := hq29.symm
  subst hq29
  refine .e (.assign rfl) rfl rfl <| .nil <| .go <| .ret ?_
  refine .tail ?_
  refine Post.retE rfl rfl ?_
  exact congrArg Value.string (by unfold entB; simp only [ByteArray.append_assoc]; exact ByteArray.empty_append)

end Go.Proofs.Ytjoaccnfnniahaa

namespace Go.Proofs.Ytjoaccnfnniahaa
open Go.Sy
set_option linter.unusedSimpArgs false
set_option linter.unusedVariables false

def msgV (i t : Int) (ev : Value) : List Value := [.int .u8 3, .int .u64 1, .int .u64 i, .int .u64 t, .int .u64 0, .bool false, ev, .int .u64 0, .int .u64 0, .slice none 0 0, .string ⟨#[]⟩]
/-- Entries of a message: right ones, one after the other behind i. -/
def goodM (i : Int) (s : List Ent) : Prop := 0 ≤ i ∧ i + (s.length : Int) ≤ 18446744073709551615 ∧ s.length ≤ 8 ∧ ∀ k (hk : k < s.length), entOk s[k] = true ∧ s[k].index = i + (k : Int) + 1
theorem ent_why {e : Ent} (h : entOk e = true) : entWhy e = 0 := by unfold entWhy; rw [if_pos h]

set_option maxHeartbeats 1000000 in
set_option maxRecDepth 20000 in
theorem nothing_ok {I : Imm} {O : Own}  :
    Pure Try.prog 66 [.agg ⟨[.int .u64 0, .int .u64 0, .slice none 0 0, .string ⟨#[]⟩]⟩] I O (.bool true) := by
  refine Go.Sy.Does.enter Try.func66 rfl Try.ntmps66 rfl ?_
  refine .seq <| .region <| .on rfl <| .box rfl rfl rfl fun c1 _ _ => .e (.assign rfl) rfl rfl <| .nil <| .go ?_
  refine .seq <| .region <| .e (.fieldAddr fo52_0 rfl) rfl rfl <| .e (.load ag40 rfl .here rfl) rfl rfl <| .e (.eql rfl rfl) rfl rfl <| .e (.move rfl) rfl rfl ?_
  refine .e (.fieldAddr fo52_1 rfl) rfl rfl <| .e (.load ag40 rfl .here rfl) rfl rfl <| .e (.eql rfl rfl) rfl rfl <| .e (.pickT rfl rfl) rfl rfl <| .e (.move rfl) rfl rfl <| .e (.fieldAddr fo52_2 rfl) rfl rfl ?_
  refine .e (.load ag24 rfl .here rfl) rfl rfl <| .e (.len sl24 rfl rfl) rfl rfl <| .e (.eql rfl rfl) rfl rfl <| .e (.pickT rfl rfl) rfl rfl <| .e (.move rfl) rfl rfl <| .e (.fieldAddr fo52_3 rfl) rfl rfl ?_
  refine .e (.load ag9 rfl .here rfl) rfl rfl <| .e ((EV.cast (u := .bool true) (.streq rfl rfl) (congrArg Value.bool (by decide)))) rfl rfl <| .e (.pickT rfl rfl) rfl rfl <| .e (.assign rfl) rfl rfl <| .nil <| .go ?_
  refine .ret ?_
  refine .tail ?_
  refine Post.retE rfl rfl ?_
  rfl

set_option maxHeartbeats 4000000 in
set_option maxRecDepth 20000 in
theorem bare_ok {I : Imm} {O : Own} {i t : Int} {ea : Option Addr} {el ec : Nat} :
    Pure Try.prog 65 [.agg ⟨msgV i t (.slice ea el ec)⟩] I O (.agg ⟨msgV i t (.slice ea el ec)⟩) := by
  refine Go.Sy.Does.enter Try.func65 rfl Try.ntmps65 rfl ?_
  refine .seq <| .region <| .on rfl <| .box rfl rfl rfl fun c1 _ _ => .on rfl <| .alloc zr54 rfl fun c2 _ _ => .nil <| .go ?_
  refine .seq <| .region <| .e (.fieldAddr fo54_0 rfl) rfl rfl <| .e (.load ag50 rfl (.there <| .here) rfl) rfl rfl <| .e (.fieldAddr fo54_1 rfl) rfl rfl <| .e (.load ag40 rfl (.there <| .here) rfl) rfl rfl ?_
  refine .e (.build bs54 zv54 rfl rfl) rfl rfl <| .on rfl <| .alloc zr54 rfl fun c3 _ _ => .on rfl <| .storeW sz54 rfl rfl rfl rfl rfl rfl .here <| .nil <| .go <| .seq ?_
  refine .seq <| .region <| .e (.fieldAddr fo54_0 rfl) rfl rfl <| .e (.load ag50 rfl (.there <| .there <| .here) rfl) rfl rfl <| .nil <| .go ?_
  refine .block <| .seq <| .region <| .e (.eql rfl rfl) rfl rfl <| .e (.assign rfl) rfl rfl <| .nil ?_
  refine .go <| .cond_false rfl <| .seq <| .region <| .e (.eql rfl rfl) rfl rfl <| .e (.assign rfl) rfl rfl ?_
  refine .nil <| .go <| .cond_false rfl <| .seq <| .region <| .e (.eql rfl rfl) rfl rfl ?_
  refine .e (.assign rfl) rfl rfl <| .nil <| .go <| .cond_true rfl ?_
  refine .draw [(c1, _)] mixed (.cons (.there <| .there <| .here) .nil) ?_
  refine .t 0 rfl (.fieldAddr fo54_2 rfl) rfl rfl (by kernel_rfl) <| .t 1 rfl (.load ag40 rfl .here rfl) rfl rfl (by kernel_rfl) <| .t 2 rfl (.fieldAddr fo54_3 rfl) rfl rfl (by kernel_rfl) <| .t 3 rfl (.load ag40 rfl .here rfl) rfl rfl (by kernel_rfl) <| .t 4 rfl (.fieldAddr fo54_4 rfl) rfl rfl (by kernel_rfl) <| .t 5 rfl (.load ag40 rfl .here rfl) rfl rfl (by kernel_rfl) ?_
  refine .t 6 rfl (.fieldAddr fo54_6 rfl) rfl rfl (by kernel_rfl) <| .t 7 rfl (.load ag41 rfl .here rfl) rfl rfl (by kernel_rfl) <| .t 8 rfl (.fieldAddr fo54_2 rfl) rfl rfl (by kernel_rfl) <| .one (i := 9) (by kernel_rfl) rfl rfl <| .store sz40 rfl rfl rfl rfl rfl rfl .here ?_
  refine ⟨(.cons (.there <| .there <| .here) .nil), Imm.le_refl _, ?_⟩
  refine .t 10 rfl (.fieldAddr fo54_3 rfl) rfl rfl (by kernel_rfl) <| .one (i := 11) (by kernel_rfl) rfl rfl <| .store sz40 rfl rfl rfl rfl rfl rfl .here ?_
  refine ⟨(.cons (.there <| .there <| .here) .nil), Imm.le_refl _, ?_⟩
  refine .t 12 rfl (.fieldAddr fo54_4 rfl) rfl rfl (by kernel_rfl) <| .one (i := 13) (by kernel_rfl) rfl rfl <| .store sz40 rfl rfl rfl rfl rfl rfl .here ?_
  refine ⟨(.cons (.there <| .there <| .here) .nil), Imm.le_refl _, ?_⟩
  refine .t 14 rfl (.fieldAddr fo54_6 rfl) rfl rfl (by kernel_rfl) <| .late (i := 15) (by kernel_rfl) (by kernel_rfl) (by kernel_rfl) rfl rfl <| .store sz41 rfl rfl rfl rfl rfl rfl .here <| .blk_normal <| .go <| .seq <| .region ?_
  refine .e (.loadW ag54 sz54 rfl .here rfl) rfl rfl <| .on rfl <| .storeW sz54 rfl rfl rfl rfl rfl rfl (.there <| .here) <| .nil <| .go <| .ret ?_
  refine Post.retsE rfl (.agg rfl ag54 sz54 (.there <| .here) rfl .nil) rfl (fun w h => h.tail.tail.tail) ?_
  rfl

set_option maxHeartbeats 4000000 in
set_option maxRecDepth 20000 in
theorem whole_ok {I : Imm} {O : Own} {i t : Int} {ea : Option Addr} {el ec : Nat} :
    Pure Try.prog 46 [.agg ⟨msgV i t (.slice ea el ec)⟩] I O (.bool true) := by
  refine Go.Sy.Does.enter Try.func46 rfl Try.ntmps46 rfl ?_
  refine .seq <| .region <| .on rfl <| .box rfl rfl rfl fun c1 _ _ => .e (.assign rfl) rfl rfl <| .nil <| .go ?_
  refine .seq <| .region <| .e (.loadW ag54 sz54 rfl .here rfl) rfl rfl <| .on rfl <| .callP cal65 rfl rfl rfl (bare_ok) <| .on rfl <| .alloc zr54 rfl fun c2 _ _ => .on rfl <| .storeW sz54 rfl rfl rfl rfl rfl rfl .here ?_
  refine .nil <| .go <| .seq <| .region <| .e (.fieldAddr fo54_2 rfl) rfl rfl <| .e (.load ag40 rfl (.there <| .here) rfl) rfl rfl ?_
  refine .e (.fieldAddr fo54_2 rfl) rfl rfl <| .e (.load ag40 rfl .here rfl) rfl rfl <| .e ((EV.cast (u := .bool true) (.eql rfl rfl) (congrArg Value.bool (by simp)))) rfl rfl <| .e (.move rfl) rfl rfl <| .e (.fieldAddr fo54_3 rfl) rfl rfl <| .e (.load ag40 rfl (.there <| .here) rfl) rfl rfl ?_
  refine .e (.fieldAddr fo54_3 rfl) rfl rfl <| .e (.load ag40 rfl .here rfl) rfl rfl <| .e ((EV.cast (u := .bool true) (.eql rfl rfl) (congrArg Value.bool (by simp)))) rfl rfl <| .e (.pickT rfl rfl) rfl rfl <| .e (.move rfl) rfl rfl <| .e (.fieldAddr fo54_4 rfl) rfl rfl ?_
  refine .e (.load ag40 rfl (.there <| .here) rfl) rfl rfl <| .e (.fieldAddr fo54_4 rfl) rfl rfl <| .e (.load ag40 rfl .here rfl) rfl rfl <| .e ((EV.cast (u := .bool true) (.eql rfl rfl) (congrArg Value.bool (by simp)))) rfl rfl <| .e (.pickT rfl rfl) rfl rfl <| .e (.move rfl) rfl rfl ?_
  refine .e (.fieldAddr fo54_5 rfl) rfl rfl <| .e (.load ag4 rfl (.there <| .here) rfl) rfl rfl <| .e (.fieldAddr fo54_5 rfl) rfl rfl <| .e (.load ag4 rfl .here rfl) rfl rfl <| .e ((EV.cast (u := .bool true) (.eqv (EqOk.bool Try.underlying4) rfl rfl) (congrArg Value.bool (by decide)))) rfl rfl <| .e (.pickT rfl rfl) rfl rfl ?_
  refine .e (.move rfl) rfl rfl <| .e (.fieldAddr fo54_6 rfl) rfl rfl <| .e (.load ag41 rfl (.there <| .here) rfl) rfl rfl <| .e (.len sl41 rfl rfl) rfl rfl <| .e (.fieldAddr fo54_6 rfl) rfl rfl <| .e (.load ag41 rfl .here rfl) rfl rfl ?_
  refine .e (.len sl41 rfl rfl) rfl rfl <| .e ((EV.cast (u := .bool true) (.eql rfl rfl) (congrArg Value.bool (by simp)))) rfl rfl <| .e (.pickT rfl rfl) rfl rfl <| .e (.move rfl) rfl rfl <| .e (.fieldAddr fo54_0 rfl) rfl rfl <| .e (.load ag50 rfl (.there <| .here) rfl) rfl rfl ?_
  refine .e (.eql rfl rfl) rfl rfl <| .e (.move rfl) rfl rfl <| .e (.fieldAddr fo54_7 rfl) rfl rfl <| .e (.loadP ag52 sz52 rfl (.there <| .here) rfl) rfl rfl <| .on rfl <| .callP cal66 rfl rfl rfl (nothing_ok) <| .e (.pickF rfl rfl) rfl rfl ?_
  refine .e (.pickT rfl rfl) rfl rfl <| .e (.assign rfl) rfl rfl <| .nil <| .go <| .ret ?_
  refine .tail <| .tail ?_
  refine Post.retE rfl rfl ?_
  rfl

set_option maxHeartbeats 4000000 in
set_option maxRecDepth 20000 in
theorem mCheck_ok {I : Imm} {O : Own} {i t : Int} {v : Value} {s : List Ent} (hs : EntsR I v s) (hg : goodM i s) :
    Pure Try.prog 30 [.agg ⟨msgV i t v⟩] I O (.int .i64 0) := by
  have hs0 := hs
  obtain ⟨ea, ec, rfl, hs1, hs2, -⟩ := hs
  obtain ⟨hg0, hg1, hg2, hg3⟩ := hg
  refine Go.Sy.Does.enter Try.func30 rfl Try.ntmps30 rfl ?_
  refine .seq <| .region <| .on rfl <| .box rfl rfl rfl fun c1 _ _ => .e (.assign rfl) rfl rfl <| .nil <| .go ?_
  refine .scope <| .seq <| .region <| .e (.fieldAddr fo54_0 rfl) rfl rfl <| .e (.load ag50 rfl .here rfl) rfl rfl <| .e (.gtr rfl rfl) rfl rfl ?_
  refine .e (.move rfl) rfl rfl <| .e (.fieldAddr fo54_0 rfl) rfl rfl <| .e (.load ag50 rfl .here rfl) rfl rfl <| .e (.lss rfl rfl) rfl rfl <| .e (.pickT rfl rfl) rfl rfl <| .e (.move rfl) rfl rfl ?_
  refine .e (.fieldAddr fo54_1 rfl) rfl rfl <| .e (.load ag40 rfl .here rfl) rfl rfl <| .e (.gtr rfl rfl) rfl rfl <| .e (.pickT rfl rfl) rfl rfl <| .e (.move rfl) rfl rfl <| .e (.loadW ag54 sz54 rfl .here rfl) rfl rfl ?_
  refine .on rfl <| .callP cal46 rfl rfl rfl (whole_ok) <| .e (.pickT rfl rfl) rfl rfl <| .e (.move rfl) rfl rfl <| .e (.fieldAddr fo54_6 rfl) rfl rfl <| .e (.load ag41 rfl .here rfl) rfl rfl <| .e (.len sl41 rfl rfl) rfl rfl ?_
  refine .e ((EV.cast (u := .bool true) (.leq rfl rfl) (congrArg Value.bool (decide_eq_true (by omega))))) rfl rfl <| .e (.pickT rfl rfl) rfl rfl <| .e (.assign rfl) rfl rfl <| .nil <| .go <| .seq ?_
  refine .seq <| .region <| .e (.fieldAddr fo54_0 rfl) rfl rfl <| .e (.load ag50 rfl .here rfl) rfl rfl <| .e (.eql rfl rfl) rfl rfl <| .nil ?_
  refine .go <| .cond_false rfl <| .skip <| .go <| .seq <| .region ?_
  refine .e (.fieldAddr fo54_2 rfl) rfl rfl <| .e (.load ag40 rfl .here rfl) rfl rfl <| .e (.assign rfl) rfl rfl <| .nil <| .go <| .seq ?_
  refine .label <| .go <| .seq <| .seq <| .region <| .e (.fieldAddr fo54_6 rfl) rfl rfl ?_
  refine .e (.load ag41 rfl .here rfl) rfl rfl <| .e (.len sl41 rfl rfl) rfl rfl <| .e (.move rfl) rfl rfl <| .nil <| .go <| .block ?_
  refine .loopM [3, 4, 6, 51, 52, 53, 54, 55, 56, 57, 58, 59, 60, 61, 62, 63, 64, 65] (fun k => s.length - k) (fun k => k ≤ s.length) (fun k => [(51, .int .i64 k), (4, .int .u64 (i + (k : Nat))), (3, .bool true)]) (fun _ => _) (fun _ => _) (0) (Nat.zero_le _) ⟨rfl, congrArg (fun x => some (Value.int .u64 x)) (show i = i + ((0 : Nat) : Int) by omega), rfl, trivial⟩ rfl rfl ?_
  intro k hk
  refine .seq <| .region <| .e (.lss rfl rfl) rfl rfl <| .nil <| .go <| .seq ?_
  refine .split 52 rfl (fun h52 => ?_) (fun h52 => ?_)
  · skip
    replace h52 := of_decide_eq_true h52
    refine .cond_true rfl <| .skip <| .go <| .seq <| .block <| .seq ?_
    refine .region ?_
    obtain ⟨eb53, eo53, cs53, hd53, hat53, hr53⟩ := SlR.at_ hs0 (k := k) (by omega)
    cases hd53
    have he53 := hr53
    obtain ⟨mv53, rfl, hmv53⟩ := hr53.ex
    obtain ⟨_, _, rfl, -⟩ := hmv53
    refine .e (.indexAddrL sl41 rfl rfl rfl (by omega)) rfl rfl <| .e (.loadIA ag77 sz77 rfl hat53 rfl) rfl rfl <| .on rfl <| .alloc zr77 rfl fun c2 _ _ => .on rfl <| .storeW sz77 rfl rfl rfl rfl rfl rfl .here <| .nil <| .go ?_
    refine .seq <| .region <| .e (.move rfl) rfl rfl <| .e (.add rfl rfl (IntWalk.u64_in _ (by omega))) rfl rfl <| .e (.assign rfl) rfl rfl <| .nil ?_
    refine .go <| .block <| .seq <| .seq <| .region <| .e (.loadW ag77 sz77 rfl .here rfl) rfl rfl ?_
    refine .on rfl <| .callP cal26 rfl rfl rfl ((wCheck_ok he53).cast (congrArg (Value.int .i64) (ent_why (hg3 k (by omega)).1))) <| .e (.neq rfl rfl) rfl rfl <| .e (.assign rfl) rfl rfl <| .nil <| .go <| .cond_false rfl ?_
    refine .region <| .e (.fieldAddr fo77_0 rfl) rfl rfl <| .e (.load ag40 rfl .here rfl) rfl rfl <| .e (.move rfl) rfl rfl <| .e ((EV.cast (u := .bool false) (.neq rfl rfl) (congrArg Value.bool (by rw [(hg3 k (by omega)).2]; simp)))) rfl rfl <| .e (.assign rfl) rfl rfl ?_
    refine .nil <| .go <| .cond_false rfl <| .skip <| .blk_normal <| .blk_normal ?_
    refine .go <| .region <| .e (.add rfl rfl (by first | exact wrap_succ (by omega) | exact IntWalk.i64_in _ (by omega) | exact rfl)) rfl rfl <| .e (.move rfl) rfl rfl <| .nil ?_
    refine .tail ?_
    exact .mid (k + 1) ⟨by omega, by omega⟩ ⟨rfl, congrArg (fun x => some (Value.int .u64 x)) (show i + (k : Int) + 1 = i + ((k + 1 : Nat) : Int) by omega), rfl, trivial⟩ rfl rfl (.pre 19 rfl (.app rfl .base))
  · skip
    replace h52 := of_decide_eq_false h52
    refine .cond_false rfl <| .exit <| .exit <| .exit <| .blk_exit <| .go ?_
    refine .seq <| .seq <| .region <| .e (.move rfl) rfl rfl <| .e (.not rfl) rfl rfl <| .nil ?_
    refine .go ?_
    refine .split 67 rfl (fun h67 => ?_) (fun h67 => ?_)
    · skip
      cases h67
    · skip
      refine .cond_false rfl <| .skip <| .go <| .seq <| .region <| .e (.assign rfl) rfl rfl ?_
      refine .nil <| .go <| .ret <| .sc_ret ?_
      refine .tail ?_
      refine Post.retE rfl rfl ?_
      rfl

end Go.Proofs.Ytjoaccnfnniahaa
