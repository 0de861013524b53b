/- Walks of functions over a symbolic memory, printed by a program of the session. -/
import Derived.Test.YtjoaccnfnniahaaCa
import Derived.Test.YtjoaccnfnniahaaNa
import Derived.Test.YtjoaccnfnniahaaCe
namespace Go.Proofs.Ytjoaccnfnniahaa
open Go.Sy
set_option linter.unusedSimpArgs false
set_option linter.unusedVariables false

theorem tkNum_ok {I : Imm} {O : Own} {c n : Nat} {T : TypeId} {r : ByteArray} (hs : StrOk (numB n ++ r)) (hn : n < 18446744073709551616) :
    Go.Sy.Does Try.prog 54 [.pointer (some ⟨c, 0, none⟩)] I ((c, .cells ⟨[.string (numB n ++ r), .bool false]⟩ T (0, 0)) :: O) (fun u I' O' => u = .int .u64 (n : Nat) ∧ I' = I ∧ O' = (c, .cells ⟨[.string r, .bool false]⟩ T (0, 0)) :: O) := by
  have h := tkNumber_ok (I := I) (O := O) (c := c) (T := T) (b := false) hs
  rw [tkN_num hn] at h; exact h
def intsFrom : List Int → ByteArray
  | [] => ⟨#[]⟩
  | x :: xs => numB x.toNat ++ intsFrom xs
theorem intsFrom_app : ∀ xs ys : List Int, intsFrom (xs ++ ys) = intsFrom xs ++ intsFrom ys
  | [], ys => (ByteArray.empty_append).symm
  | x :: xs, ys => by
    show numB x.toNat ++ intsFrom (xs ++ ys) = numB x.toNat ++ intsFrom xs ++ intsFrom ys
    rw [intsFrom_app xs ys, ByteArray.append_assoc]
theorem intsTo_from (l : List Int) : ∀ k, k ≤ l.length → intsTo l k = numB l.length ++ intsFrom (l.take k)
  | 0, _ => by
    have e : numB l.length ++ (⟨#[]⟩ : ByteArray) = numB l.length := ByteArray.append_empty
    rw [List.take_zero]; exact e.symm
  | k + 1, hk => by
    have e : intsFrom [l[k]] = numB l[k].toNat := ByteArray.append_empty
    rw [ints_step (show k < l.length by omega), intsTo_from l k (by omega), List.take_succ_eq_append_getElem (show k < l.length by omega), intsFrom_app, e, ByteArray.append_assoc]
theorem intsB_from (l : List Int) : intsB l = numB l.length ++ intsFrom l := by unfold intsB; rw [intsTo_from l _ (Nat.le_refl _), List.take_length]

set_option maxHeartbeats 2000000 in
set_option maxRecDepth 20000 in
theorem tkInts_ok {I : Imm} {O : Own} {c : Nat} {T : TypeId} {l : List Int} {r : ByteArray} (hm : ∀ m ∈ l, 0 ≤ m ∧ m ≤ 7) (hL : l.length ≤ 7) (hs : StrOk (intsB l ++ r)) :
    Go.Sy.Does Try.prog 79 [.pointer (some ⟨c, 0, none⟩)] I ((c, .cells ⟨[.string (intsB l ++ r), .bool false]⟩ T (0, 0)) :: O) (fun u I' O' => O' = (c, .cells ⟨[.string r, .bool false]⟩ T (0, 0)) :: O ∧ IntsR I' u l) := by
  have hs1 : StrOk (numB l.length ++ (intsFrom l ++ r)) := by rw [intsB_from, ByteArray.append_assoc] at hs; exact hs
  rw [intsB_from, ByteArray.append_assoc]
  have hs2 : StrOk (intsFrom (l.drop 0) ++ r) := by unfold StrOk at hs1 ⊢; rw [ByteArray.size_append] at hs1; rw [List.drop_zero]; omega
  refine Go.Sy.Does.enter Try.func79 rfl Try.ntmps79 rfl ?_
  refine .seq <| .region <| .e (.assign rfl) rfl rfl <| .nil <| .go <| .seq ?_
  refine .region <| .e (.assign rfl) rfl rfl <| .nil <| .go <| .seq <| .region ?_
  refine .e (.move rfl) rfl rfl ?_
  refine .on rfl <| .call cal54 rfl rfl rfl (tkNum_ok hs1 (by omega)) fun v7 I7 O7 hI7 hK7 => ?_
  obtain ⟨rfl, hq7, rfl⟩ := hK7
  replace hq7 := hq7.symm
  subst hq7
  refine .e (.assign rfl) rfl rfl <| .nil <| .go <| .seq <| .region <| .e (.move rfl) rfl rfl ?_
  refine .e (.move rfl) rfl rfl <| .e (.nilCheck rfl) rfl rfl <| .e (.fieldAddr fo115_1 rfl) rfl rfl <| .e (.load ag4 rfl .here rfl) rfl rfl <| .e (.move rfl) rfl rfl <| .e (.move rfl) rfl rfl ?_
  refine .e ((EV.cast (u := .bool false) (.gtr rfl rfl) (congrArg Value.bool (decide_eq_false (by omega))))) rfl rfl <| .e (.pickF rfl rfl) rfl rfl <| .e (.nilCheck rfl) rfl rfl <| .e (.fieldAddr fo115_1 rfl) rfl rfl <| .on rfl <| .store sz4 rfl rfl rfl rfl rfl rfl .here <| .nil ?_
  refine .go <| .seq <| .block ?_
  refine .loopM [3, 4, 5, 19, 20, 21, 22, 23, 24, 25, 26, 27, 28, 29, 30, 31, 32, 33, 34, 35, 36, 37, 38, 39, 40, 41, 42, 43, 44, 45, 46, 47] (fun q => l.length - q.1) (fun q => q.1 ≤ l.length ∧ OwnS 1 q.2.1 q.1 q.2.2.1 q.2.2.2 ∧ DR I64R 1 I q.2.2.1 (l.take q.1) ∧ StrOk (intsFrom (l.drop q.1) ++ r)) (fun q => [(4, .int .u64 ((l.length - q.1 : Nat) : Int)), (3, q.2.1)]) (fun _ => _) (fun q => q.2.2.2 ++ ((c, .cells ⟨[.string (intsFrom (l.drop q.1) ++ r), .bool false]⟩ T (0, 0)) :: _)) (((0, .slice none 0 0, [], []) : Nat × Value × List Value × Own)) ⟨Nat.zero_le _, OwnS.nil, DR.nil, hs2⟩ ⟨rfl, rfl, trivial⟩ rfl rfl ?_
  intro ⟨k, vP, wsP, obP⟩ hk
  dsimp only at hk ⊢
  obtain ⟨hkl, hoP, hdP, hsk⟩ := hk
  obtain ⟨adP, capP, rfl⟩ := hoP.form
  refine .seq <| .seq <| .region <| .e (.move rfl) rfl rfl <| .e (.gtr rfl rfl) rfl rfl <| .e (.move rfl) rfl rfl ?_
  refine .split 21 rfl (fun h21 => ?_) (fun h21 => ?_)
  · skip
    replace h21 := of_decide_eq_true h21
    refine .e (.move rfl) rfl rfl <| .e (.nilCheck rfl) rfl rfl <| .e (.fieldAddr fo115_1 rfl) rfl rfl <| .e (.load ag4 rfl (.app <| .here) rfl) rfl rfl <| .e (.not rfl) rfl rfl <| .e (.pickT rfl rfl) rfl rfl ?_
    refine .nil <| .go <| .cond_true rfl <| .skip <| .go <| .seq ?_
    refine .block <| .seq <| .region ?_
    have hkn : k < l.length := by omega
    have hmk := hm l[k] (List.getElem_mem _)
    have ed : intsFrom (l.drop k) ++ r = numB l[k].toNat ++ (intsFrom (l.drop (k + 1)) ++ r) := by rw [List.drop_eq_getElem_cons hkn, intsFrom, ByteArray.append_assoc]
    rw [ed] at hsk ⊢
    have hsn : StrOk (intsFrom (l.drop (k + 1)) ++ r) := by unfold StrOk at hsk ⊢; rw [ByteArray.size_append] at hsk; omega
    refine .e (.move rfl) rfl rfl ?_
    refine .front1 (.app <| .here) ?_
    refine .on rfl <| .call cal54 rfl rfl rfl (tkNum_ok hsk (by omega)) fun v31 I31 O31 hI31 hK31 => ?_
    obtain ⟨rfl, hq31, rfl⟩ := hK31
    replace hq31 := hq31.symm
    subst hq31
    refine .e (.assign rfl) rfl rfl <| .nil <| .go <| .seq <| .region <| .e (.move rfl) rfl rfl ?_
    refine .e (.move rfl) rfl rfl <| .e (.nilCheck rfl) rfl rfl <| .e (.fieldAddr fo115_1 rfl) rfl rfl <| .e (.load ag4 rfl .here rfl) rfl rfl <| .e (.move rfl) rfl rfl <| .e (.move rfl) rfl rfl ?_
    refine .e ((EV.cast (u := .bool false) (.gtr rfl rfl) (congrArg Value.bool (decide_eq_false (by omega))))) rfl rfl <| .e (.pickF rfl rfl) rfl rfl <| .e (.nilCheck rfl) rfl rfl <| .e (.fieldAddr fo115_1 rfl) rfl rfl <| .on rfl <| .store sz4 rfl rfl rfl rfl rfl rfl .here <| .nil ?_
    refine .go <| .region <| .e (.move rfl) rfl rfl <| .e (.move rfl) rfl rfl <| .e ((EV.cast (.conv Try.underlying40 Try.underlying3 rfl) (congrArg (Value.int .i64) ((IntWalk.i64_in _ (by omega)).trans (show ((l[k].toNat : Nat) : Int) = l[k] by omega))))) rfl rfl <| .on rfl <| .buildSlice Try.underlying24 sz3 (by decide) (by decide) zv3 rfl rfl rfl rfl rfl fun c1 _ _ => ?_
    refine .on rfl <| .append Try.underlying24 Try.underlying24 sz3 by3 zv3 rfl rfl rfl (.there <| .there <| .front) hoP ((OwnS.made (k := 1) rfl (by decide)).src (I := _) .here) rfl rfl (by omega) (by omega) rfl fun v47 ob47 ho47 => .e (.assign rfl) rfl rfl <| .nil <| .blk_normal <| .go <| .region ?_
    refine .e (.move rfl) rfl rfl <| .e (.sub rfl rfl ((IntWalk.u64_in _ (by omega)).trans (show ((l.length - k : Nat) : Int) - 1 = ((l.length - (k + 1) : Nat) : Int) by omega))) rfl rfl <| .e (.assign rfl) rfl rfl <| .nil ?_
    refine .front1 (.app <| .here) ?_
    refine .tail ?_
    have hdN : DR I64R 1 I (wsP ++ [.int .i64 l[k]]) (l.take (k + 1)) := by rw [List.take_succ_eq_append_getElem hkn]; exact hdP.append (DR.single rfl ⟨rfl, by unfold I64; omega⟩)
    exact .mid ((k + 1, _, _, _)) ⟨by dsimp only; omega, by dsimp only; omega, ho47, hdN, hsn⟩ ⟨rfl, rfl, trivial⟩ rfl rfl (.pre 33 rfl (.app rfl .base))
  · skip
    replace h21 := of_decide_eq_false h21
    refine .off rfl rfl <| .off rfl rfl <| .off rfl rfl <| .off rfl rfl <| .off rfl rfl <| .e (.pickF rfl rfl) rfl rfl ?_
    refine .nil <| .go <| .cond_false rfl <| .exit <| .exit <| .exit ?_
    refine .blk_exit <| .go <| .seq <| .region <| .e (.move rfl) rfl rfl <| .e (.assign rfl) rfl rfl ?_
    refine .nil <| .go <| .ret ?_
    refine .freezeS hoP fun K hK hKs => ?_
    have ek : k = l.length := by omega
    subst ek
    have hdE := hdP
    rw [List.take_length] at hdE
    have hy : IntsR K _ l := hKs (R := I64R) (hdE.mono fun _ _ h => h) rfl
    have hr0 : intsFrom (l.drop l.length) ++ r = r := by rw [List.drop_length]; exact ByteArray.empty_append
    rw [hr0]
    refine Post.rets rfl (.tmp rfl .nil) rfl hK (fun w h => h) ?_
    exact ⟨rfl, hy⟩

end Go.Proofs.Ytjoaccnfnniahaa

namespace Go.Proofs.Ytjoaccnfnniahaa
open Go.Sy
set_option linter.unusedSimpArgs false
set_option linter.unusedVariables false

theorem tkNumI_ok {I : Imm} {O : Own} {c : Nat} {x : Int} {T : TypeId} {r : ByteArray} (hs : StrOk (numB x.toNat ++ r)) (hx : U64 x) :
    Go.Sy.Does Try.prog 54 [.pointer (some ⟨c, 0, none⟩)] I ((c, .cells ⟨[.string (numB x.toNat ++ r), .bool false]⟩ T (0, 0)) :: O) (fun u I' O' => u = .int .u64 x ∧ I' = I ∧ O' = (c, .cells ⟨[.string r, .bool false]⟩ T (0, 0)) :: O) := by
  have h := tkNum_ok (I := I) (O := O) (c := c) (T := T) hs (u64_nat hx).2
  rw [← (u64_nat hx).1] at h; exact h
theorem tkTxt_ok {I : Imm} {O : Own} {c : Nat} {T : TypeId} {s r : ByteArray} (hs : StrOk (textB s ++ r)) (hn : s.size ≤ 65536) :
    Go.Sy.Does Try.prog 60 [.pointer (some ⟨c, 0, none⟩)] I ((c, .cells ⟨[.string (textB s ++ r), .bool false]⟩ T (0, 0)) :: O) (fun u I' O' => u = .string s ∧ I' = I ∧ O' = (c, .cells ⟨[.string r, .bool false]⟩ T (0, 0)) :: O) := by
  have h := tkText_ok (I := I) (O := O) (c := c) (T := T) (b := false) hs
  rw [tkT_text hn] at h; exact h
theorem str_tail {a b : ByteArray} (h : StrOk (a ++ b)) : StrOk b := by unfold StrOk at *; rw [ByteArray.size_append] at h; omega

set_option maxHeartbeats 2000000 in
set_option maxRecDepth 20000 in
theorem tkEnt_ok {I : Imm} {O : Own} {c : Nat} {e : Ent} {r : ByteArray} (hok : entOk e = true) (hi : U64 e.index) (ht : U64 e.term) (hd : StrOk e.data) (hs : StrOk (numB e.index.toNat ++ (numB e.term.toNat ++ (numB e.kind.toNat ++ (textB e.data ++ (intsB e.members ++ r)))))) :
    Go.Sy.Does Try.prog 78 [.pointer (some ⟨c, 0, none⟩)] I ((c, .cells ⟨[.string (numB e.index.toNat ++ (numB e.term.toNat ++ (numB e.kind.toNat ++ (textB e.data ++ (intsB e.members ++ r))))), .bool false]⟩ 115 (0, 0)) :: O) (fun u I' O' => ∃ mv, u = .agg ⟨e.cells mv⟩ ∧ EntR I' (e.cells mv) e ∧ O' = (c, .cells ⟨[.string r, .bool false]⟩ 115 (0, 0)) :: O) := by
  obtain ⟨hfi, hfd, hk1, hk3, hfl, hfm⟩ := ent_fit hok
  have hkU : U64 e.kind := by unfold U64; omega
  have hkk : U8 e.kind := by unfold U8; omega
  have hs2 := str_tail hs
  have hs3 := str_tail hs2
  have hs4 := str_tail hs3
  have hs5 := str_tail hs4
  refine Go.Sy.Does.enter Try.func78 rfl Try.ntmps78 rfl ?_
  refine .seq <| .region <| .on rfl <| .alloc zr77 rfl fun c1 _ _ => .nil <| .go <| .seq ?_
  refine .region <| .e (.move rfl) rfl rfl ?_
  refine .front1 (.there <| .here) ?_
  refine .on rfl <| .call cal54 rfl rfl rfl (tkNumI_ok hs hi) fun v6 I6 O6 hI6 hK6 => ?_
  obtain ⟨rfl, hq6, rfl⟩ := hK6
  replace hq6 := hq6.symm
  subst hq6
  refine .e (.move rfl) rfl rfl ?_
  refine .on rfl <| .call cal54 rfl rfl rfl (tkNumI_ok hs2 ht) fun v8 I8 O8 hI8 hK8 => ?_
  obtain ⟨rfl, hq8, rfl⟩ := hK8
  replace hq8 := hq8.symm
  subst hq8
  refine .e (.build bs77 zv77 rfl rfl) rfl rfl <| .on rfl <| .alloc zr77 rfl fun c2 _ _ => .on rfl <| .storeW sz77 rfl rfl rfl rfl rfl rfl .here <| .nil <| .go <| .seq ?_
  refine .region <| .e (.move rfl) rfl rfl ?_
  refine .front1 (.there <| .here) ?_
  refine .on rfl <| .call cal54 rfl rfl rfl (tkNumI_ok hs3 hkU) fun v11 I11 O11 hI11 hK11 => ?_
  obtain ⟨rfl, hq11, rfl⟩ := hK11
  replace hq11 := hq11.symm
  subst hq11
  refine .e (.assign rfl) rfl rfl <| .nil <| .go <| .seq <| .region <| .e (.move rfl) rfl rfl ?_
  refine .e (.move rfl) rfl rfl <| .e (.nilCheck rfl) rfl rfl <| .e (.fieldAddr fo115_1 rfl) rfl rfl <| .e (.load ag4 rfl .here rfl) rfl rfl <| .e (.move rfl) rfl rfl <| .e (.move rfl) rfl rfl ?_
  refine .e ((EV.cast (u := .bool false) (.geq rfl rfl) (congrArg Value.bool (decide_eq_false (by omega))))) rfl rfl <| .e (.pickF rfl rfl) rfl rfl <| .e (.nilCheck rfl) rfl rfl <| .e (.fieldAddr fo115_1 rfl) rfl rfl <| .on rfl <| .store sz4 rfl rfl rfl rfl rfl rfl .here <| .nil ?_
  refine .go <| .seq <| .region <| .e (.move rfl) rfl rfl <| .e ((EV.cast (.conv Try.underlying40 Try.underlying75 rfl) (congrArg (Value.int .u8) (IntWalk.u8_in _ (by omega))))) rfl rfl <| .e (.move rfl) rfl rfl ?_
  refine .on rfl <| .call cal60 rfl rfl rfl (tkTxt_ok hs4 (by omega)) fun v26 I26 O26 hI26 hK26 => ?_
  obtain ⟨rfl, hq26, rfl⟩ := hK26
  replace hq26 := hq26.symm
  subst hq26
  refine .e (.move rfl) rfl rfl ?_
  refine .on rfl <| .call cal79 rfl rfl rfl (tkInts_ok hfm hfl hs5) fun v28 I28 O28 hI28 hK28 => ?_
  obtain ⟨rfl, hm28⟩ := hK28
  have hmm := hm28
  obtain ⟨ma28, mc28, rfl, -, -, -⟩ := hm28
  have heR : EntR I28 (e.cells (.slice ma28 e.members.length mc28)) e := ⟨⟨_, rfl, hmm⟩, hi, ht, hkk, hd⟩
  refine .e (.fieldAddr fo77_2 rfl) rfl rfl <| .on rfl <| .store sz75 rfl rfl rfl rfl rfl rfl (.there <| .here) <| .e (.fieldAddr fo77_3 rfl) rfl rfl <| .on rfl <| .store sz9 rfl rfl rfl rfl rfl rfl (.there <| .here) <| .e (.fieldAddr fo77_4 rfl) rfl rfl <| .on rfl <| .store sz24 rfl rfl rfl rfl rfl rfl (.there <| .here) ?_
  refine .nil <| .go <| .seq <| .region <| .e (.move rfl) rfl rfl <| .e (.move rfl) rfl rfl ?_
  refine .e (.nilCheck rfl) rfl rfl <| .e (.fieldAddr fo115_1 rfl) rfl rfl <| .e (.load ag4 rfl .here rfl) rfl rfl <| .e (.move rfl) rfl rfl <| .e (.loadW ag77 sz77 rfl (.there <| .here) rfl) rfl rfl <| .on rfl <| .callP cal26 rfl rfl rfl ((wCheck_ok heR).cast (congrArg (Value.int .i64) (ent_why hok))) ?_
  refine .e (.neq rfl rfl) rfl rfl <| .e (.pickF rfl rfl) rfl rfl <| .e (.nilCheck rfl) rfl rfl <| .e (.fieldAddr fo115_1 rfl) rfl rfl <| .on rfl <| .store sz4 rfl rfl rfl rfl rfl rfl .here <| .nil ?_
  refine .go <| .seq <| .region <| .e (.loadW ag77 sz77 rfl (.there <| .here) rfl) rfl rfl <| .on rfl <| .storeW sz77 rfl rfl rfl rfl rfl rfl (.there <| .there <| .here) <| .nil ?_
  refine .go <| .ret ?_
  refine Post.rets rfl (.agg rfl ag77 sz77 (.there <| .there <| .here) rfl .nil) rfl hI28 (fun w h => (Sat.tail (Sat.rem (Sat.tail (Sat.rem h (Rem.there <| Rem.here))) (Rem.there <| Rem.here)))) ?_
  exact ⟨_, rfl, heR, rfl⟩

end Go.Proofs.Ytjoaccnfnniahaa

namespace Go.Proofs.Ytjoaccnfnniahaa
open Go.Sy
set_option linter.unusedSimpArgs false
set_option linter.unusedVariables false

theorem entB_nil (e : Ent) : entB e = numB e.index.toNat ++ (numB e.term.toNat ++ (numB e.kind.toNat ++ (textB e.data ++ (intsB e.members ++ ⟨#[]⟩)))) := by
  have h : intsB e.members ++ (⟨#[]⟩ : ByteArray) = intsB e.members := ByteArray.append_empty
  rw [h]; rfl

set_option maxHeartbeats 1000000 in
set_option maxRecDepth 20000 in
theorem wDecode_ok {I : Imm} {O : Own} {e : Ent} (hok : entOk e = true) (hi : U64 e.index) (ht : U64 e.term) (hd : StrOk e.data) :
    Go.Sy.Does Try.prog 72 [.string (entB e)] I O (fun u I' O' => ∃ mv, u = .tuple ⟨[.agg ⟨e.cells mv⟩, .int .i64 0]⟩ ∧ EntR I' (e.cells mv) e ∧ O' = O) := by
  have hs : StrOk (entB e) := by have := entB_size hok hi ht; unfold StrOk; omega
  rw [entB_nil] at hs ⊢
  refine Go.Sy.Does.enter Try.func72 rfl Try.ntmps72 rfl ?_
  refine .seq <| .region <| .on rfl <| .alloc zr77 rfl fun c1 _ _ => .e (.assign rfl) rfl rfl <| .nil <| .go ?_
  refine .seq <| .region <| .e (.move rfl) rfl rfl <| .e (.build bs115 zv115 rfl rfl) rfl rfl <| .on rfl <| .box rfl rfl rfl fun c2 _ _ => .e (.assign rfl) rfl rfl ?_
  refine .nil <| .go <| .seq <| .region <| .e (.move rfl) rfl rfl ?_
  refine .on rfl <| .call cal78 rfl rfl rfl (tkEnt_ok hok hi ht hd hs) fun v10 I10 O10 hI10 hK10 => ?_
  obtain ⟨mv, rfl, hm, rfl⟩ := hK10
  have hmm := hm
  obtain ⟨mw, ew, hw⟩ := hm.ex
  obtain ⟨ma, mc, rfl, -, -, -⟩ := hw
  cases ew
  refine .on rfl <| .alloc zr77 rfl fun c3 _ _ => .on rfl <| .storeW sz77 rfl rfl rfl rfl rfl rfl .here <| .nil <| .go <| .seq <| .seq ?_
  refine .region <| .e (.move rfl) rfl rfl <| .e (.nilCheck rfl) rfl rfl <| .e (.fieldAddr fo115_1 rfl) rfl rfl <| .e (.load ag4 rfl (.there <| .here) rfl) rfl rfl <| .e (.move rfl) rfl rfl ?_
  refine .e (.move rfl) rfl rfl <| .e (.nilCheck rfl) rfl rfl <| .e (.fieldAddr fo115_0 rfl) rfl rfl <| .e (.load ag9 rfl (.there <| .here) rfl) rfl rfl <| .e ((EV.cast (u := .bool false) (.strne rfl rfl) (congrArg Value.bool (by simp)))) rfl rfl <| .e (.pickF rfl rfl) rfl rfl ?_
  refine .nil <| .go <| .cond_false rfl <| .skip <| .go <| .seq ?_
  refine .region <| .e (.loadW ag77 sz77 rfl .here rfl) rfl rfl <| .on rfl <| .storeW sz77 rfl rfl rfl rfl rfl rfl (.there <| .there <| .here) <| .e (.assign rfl) rfl rfl <| .nil <| .go ?_
  refine .ret ?_
  refine Post.rets rfl (.agg rfl ag77 sz77 (.there <| .there <| .here) rfl (.tmp rfl .nil)) rfl hI10 (fun w h => (Sat.tail (Sat.tail (Sat.tail h)))) ?_
  exact ⟨_, rfl, hmm, rfl⟩

end Go.Proofs.Ytjoaccnfnniahaa

namespace Go.Proofs.Ytjoaccnfnniahaa
open Go.Sy
set_option linter.unusedSimpArgs false
set_option linter.unusedVariables false

set_option maxHeartbeats 1000000 in
set_option maxRecDepth 20000 in
theorem oFrom_ok {I : Imm} {O : Own} {s : ByteArray} :
    Go.Sy.Does Try.prog 32 [.string s] I O (fun u I' O' => ∃ c, u = .pointer (some ⟨c, 0, none⟩) ∧ I' = I ∧ O' = (c, .cells ⟨[.string s, .bool false]⟩ 119 (0, 0)) :: O) := by
  refine Go.Sy.Does.enter Try.func32 rfl Try.ntmps32 rfl ?_
  refine .seq <| .region <| .e (.assign rfl) rfl rfl <| .nil <| .go <| .seq ?_
  refine .region <| .e (.move rfl) rfl rfl <| .e (.build bs115 zv115 rfl rfl) rfl rfl <| .e (.build bs117 zv117 rfl rfl) rfl rfl <| .e (.build bs119 zv119 rfl rfl) rfl rfl <| .on rfl <| .box rfl rfl rfl fun c1 _ _ => ?_
  refine .e (.assign rfl) rfl rfl <| .nil <| .go <| .ret ?_
  refine Post.rets rfl (.tmp rfl .nil) rfl (Imm.le_refl _) (fun w h => h) ?_
  exact ⟨_, rfl, rfl, rfl⟩

set_option maxHeartbeats 1000000 in
set_option maxRecDepth 20000 in
theorem oOver_ok {I : Imm} {O : Own} {c : Nat} (hc : Has O c (.cells ⟨[.string ⟨#[]⟩, .bool false]⟩ 119 (0, 0))) :
    Pure Try.prog 34 [.pointer (some ⟨c, 0, none⟩)] I O (.bool true) := by
  refine Go.Sy.Does.enter Try.func34 rfl Try.ntmps34 rfl ?_
  refine .seq <| .region <| .e (.assign rfl) rfl rfl <| .nil <| .go <| .seq ?_
  refine .region <| .e (.move rfl) rfl rfl <| .e (.nilCheck rfl) rfl rfl <| .e (.fieldAddr fo119_0 rfl) rfl rfl <| .e (.fieldAddr fo117_0 rfl) rfl rfl <| .e (.fieldAddr fo115_1 rfl) rfl rfl ?_
  refine .e (.load ag4 rfl (hc) rfl) rfl rfl <| .e (.not rfl) rfl rfl <| .e (.move rfl) rfl rfl <| .e (.move rfl) rfl rfl <| .e (.nilCheck rfl) rfl rfl <| .e (.fieldAddr fo119_0 rfl) rfl rfl ?_
  refine .e (.fieldAddr fo117_0 rfl) rfl rfl <| .e (.fieldAddr fo115_0 rfl) rfl rfl <| .e (.load ag9 rfl (hc) rfl) rfl rfl <| .e ((EV.cast (u := .bool true) (.streq rfl rfl) (congrArg Value.bool (by decide)))) rfl rfl <| .e (.pickT rfl rfl) rfl rfl <| .e (.assign rfl) rfl rfl ?_
  refine .nil <| .go <| .ret ?_
  refine Post.retE rfl rfl ?_
  rfl

end Go.Proofs.Ytjoaccnfnniahaa

namespace Go.Proofs.Ytjoaccnfnniahaa
open Go.Sy
set_option linter.unusedSimpArgs false
set_option linter.unusedVariables false

set_option maxHeartbeats 2000000 in
set_option maxRecDepth 20000 in
theorem mEntry_ok {I : Imm} {O : Own} {c : Nat} {e : Ent} {r : ByteArray} (hok : entOk e = true) (hi : U64 e.index) (ht : U64 e.term) (hd : StrOk e.data) (hs : StrOk (textB (entB e) ++ r)) :
    Go.Sy.Does Try.prog 58 [.agg ⟨[.pointer (some ⟨c, 0, none⟩)]⟩] I ((c, .cells ⟨[.string (textB (entB e) ++ r), .bool false]⟩ 119 (0, 0)) :: O) (fun u I' O' => ∃ mv, u = .agg ⟨e.cells mv⟩ ∧ EntR I' (e.cells mv) e ∧ O' = (c, .cells ⟨[.string r, .bool false]⟩ 119 (0, 0)) :: O) := by
  have hez := entB_size hok hi ht
  refine Go.Sy.Does.enter Try.func58 rfl Try.ntmps58 rfl ?_
  refine .seq <| .region <| .on rfl <| .box rfl rfl rfl fun c1 _ _ => .on rfl <| .alloc zr77 rfl fun c2 _ _ => .nil <| .go ?_
  refine .seq <| .region <| .e (.fieldAddr fo87_0 rfl) rfl rfl <| .e (.load ag84 rfl (.there <| .here) rfl) rfl rfl <| .e (.nilCheck rfl) rfl rfl <| .e (.fieldAddr fo119_0 rfl) rfl rfl ?_
  refine .e (.fieldAddr fo117_0 rfl) rfl rfl ?_
  refine .front1 (.there <| .there <| .here) ?_
  refine .on rfl <| .call cal60 rfl rfl rfl (tkTxt_ok hs (by omega)) fun v11 I11 O11 hI11 hK11 => ?_
  obtain ⟨rfl, hq11, rfl⟩ := hK11
  replace hq11 := hq11.symm
  subst hq11
  refine .on rfl <| .call cal72 rfl rfl rfl (wDecode_ok hok hi ht hd) fun v12 I12 O12 hI12 hK12 => ?_
  obtain ⟨mv, rfl, hm, rfl⟩ := hK12
  have hmm := hm
  obtain ⟨mw, ew, hw⟩ := hm.ex
  obtain ⟨ma, mc, rfl, -, -, -⟩ := hw
  cases ew
  refine .e (.move rfl) rfl rfl <| .e (.extract rfl rfl) rfl rfl <| .e (.extract rfl rfl) rfl rfl <| .on rfl <| .alloc zr77 rfl fun c3 _ _ => .on rfl <| .storeW sz77 rfl rfl rfl rfl rfl rfl .here <| .e (.assign rfl) rfl rfl ?_
  refine .nil <| .go <| .seq ?_
  refine .draw [(c1, _)] mixed (.cons (.there <| .there <| .there <| .here) .nil) ?_
  refine .t 0 rfl (.fieldAddr fo87_0 rfl) rfl rfl (by kernel_rfl) <| .t 1 rfl (.load ag84 rfl .here rfl) rfl rfl (by kernel_rfl) <| .t 2 rfl (.fieldAddr fo87_0 rfl) rfl rfl (by kernel_rfl) <| .t 3 rfl (.load ag84 rfl .here rfl) rfl rfl (by kernel_rfl) <| .t 4 rfl (.nilCheck rfl) rfl rfl (by kernel_rfl) <| .t 5 rfl (.fieldAddr fo119_0 rfl) rfl rfl (by kernel_rfl) ?_
  refine .t 6 rfl (.fieldAddr fo117_0 rfl) rfl rfl (by kernel_rfl) <| .t 7 rfl (.fieldAddr fo115_1 rfl) rfl rfl (by kernel_rfl) <| .one (i := 8) (by kernel_rfl) rfl rfl ?_
  refine .ev (.load ag4 rfl (.there <| .here) rfl) rfl ⟨(.cons (.there <| .there <| .there <| .here) .nil), Imm.le_refl _, ?_⟩
  refine .t 9 rfl (.move rfl) rfl rfl (by kernel_rfl) <| .t 10 rfl (.move rfl) rfl rfl (by kernel_rfl) <| .t 11 rfl (.neq rfl rfl) rfl rfl (by kernel_rfl) <| .t 12 rfl (.pickF rfl rfl) rfl rfl (by kernel_rfl) <| .t 13 rfl (.nilCheck rfl) rfl rfl (by kernel_rfl) <| .t 14 rfl (.fieldAddr fo119_0 rfl) rfl rfl (by kernel_rfl) ?_
  refine .t 15 rfl (.fieldAddr fo117_0 rfl) rfl rfl (by kernel_rfl) <| .t 16 rfl (.fieldAddr fo115_1 rfl) rfl rfl (by kernel_rfl) <| .one (i := 17) (by kernel_rfl) rfl rfl <| .store sz4 rfl rfl rfl rfl rfl rfl (.there <| .here) ?_
  refine ⟨(.cons (.there <| .there <| .there <| .here) .nil), Imm.le_refl _, ?_⟩
  refine .done (by kernel_rfl) <| .go <| .seq <| .region <| .e (.loadW ag77 sz77 rfl .here rfl) rfl rfl <| .on rfl <| .storeW sz77 rfl rfl rfl rfl rfl rfl (.there <| .there <| .here) ?_
  refine .nil <| .go <| .ret ?_
  refine .front1 (.there <| .here) ?_
  refine Post.rets rfl (.agg rfl ag77 sz77 (.there <| .there <| .here) rfl .nil) rfl hI12 (fun w h => (Sat.tail (Sat.rem (Sat.tail (Sat.rem (Sat.tail (Sat.rem h (Rem.there <| Rem.here))) (Rem.there <| Rem.here))) (Rem.there <| Rem.here)))) ?_
  exact ⟨_, rfl, hmm, rfl⟩

end Go.Proofs.Ytjoaccnfnniahaa

namespace Go.Proofs.Ytjoaccnfnniahaa
open Go.Sy
set_option linter.unusedSimpArgs false
set_option linter.unusedVariables false

set_option maxHeartbeats 2000000 in
set_option maxRecDepth 20000 in
theorem mClo_ok {I : Imm} {O : Own} {cm ct c cap : Nat} {ad : Option Addr} {i t : Int} {l : List Ent} {ws : List Value} {obE : Own} {e : Ent} {r : ByteArray} (hoE : OwnS 5 (.slice ad l.length cap) l.length ws obE) (hdE : DR EntR 5 I ws l) (hL : l.length ≤ 8) (hok : entOk e = true) (hi : U64 e.index) (ht : U64 e.term) (hd : StrOk e.data) (hs : StrOk (textB (entB e) ++ r)) :
    Go.Sy.Does Try.prog 57 [.pointer (some ⟨cm, 0, none⟩), .pointer (some ⟨ct, 0, none⟩)] I ((cm, .cells ⟨msgV i t (.slice ad l.length cap)⟩ 54 (0, 0)) :: (ct, .cells ⟨[.pointer (some ⟨c, 0, none⟩)]⟩ 87 (0, 0)) :: (c, .cells ⟨[.string (textB (entB e) ++ r), .bool false]⟩ 119 (0, 0)) :: (obE ++ O)) (fun u I' O' => u = .tuple ⟨[]⟩ ∧ ∃ v' ws' ob', OwnS 5 v' (l.length + 1) ws' ob' ∧ DR EntR 5 I' ws' (l ++ [e]) ∧ O' = (cm, .cells ⟨msgV i t v'⟩ 54 (0, 0)) :: (ct, .cells ⟨[.pointer (some ⟨c, 0, none⟩)]⟩ 87 (0, 0)) :: (c, .cells ⟨[.string r, .bool false]⟩ 119 (0, 0)) :: (ob' ++ O)) := by
  refine Go.Sy.Does.enter Try.func57 rfl Try.ntmps57 rfl ?_
  refine .draw [(cm, _), (ct, _)] mixed (.cons .here (.cons (.there <| .here) .nil)) ?_
  refine .t 0 rfl (.fieldAddr fo54_6 rfl) rfl rfl (by kernel_rfl) <| .t 1 rfl (.load ag41 rfl .here rfl) rfl rfl (by kernel_rfl) <| .t 2 rfl (.loadW ag87 sz87 rfl (.there <| .here) rfl) rfl rfl (by kernel_rfl) <| .one (i := 3) (by kernel_rfl) rfl rfl ?_
  refine .front1 (.there <| .there <| .here) ?_
  refine .call cal58 rfl rfl rfl (mEntry_ok hok hi ht hd hs) fun v5 I5 O5 hI5 hK5 => ?_
  obtain ⟨mv, rfl, hm, rfl⟩ := hK5
  have hmm := hm
  obtain ⟨mw, ew, hw⟩ := hm.ex
  obtain ⟨ma, mc, rfl, -, -, -⟩ := hw
  cases ew
  refine ⟨(.cons (.there <| .here) (.cons (.there <| .there <| .here) .nil)), hI5, ?_⟩
  refine .one (i := 4) (by kernel_rfl) rfl rfl <| .buildSlice Try.underlying41 sz77 (by decide) (by decide) zv77 rfl rfl rfl rfl rfl fun c1 _ _ => ?_
  refine ⟨(.cons (.there <| .there <| .here) (.cons (.there <| .there <| .there <| .here) .nil)), hI5, ?_⟩
  refine .one (i := 5) (by kernel_rfl) rfl rfl <| .append Try.underlying41 Try.underlying41 sz77 by77 zv77 rfl rfl rfl (.there <| .there <| .there <| .there <| .front) hoE ((OwnS.made (k := 5) rfl (by decide)).src (I := _) .here) rfl rfl (by omega) (by omega) rfl fun v7 ob7 ho7 => ?_
  refine ⟨(.cons (.app <| .there <| .there <| .here) (.cons (.app <| .there <| .there <| .there <| .here) .nil)), hI5, ?_⟩
  obtain ⟨ad7, cap7, rfl⟩ := ho7.form
  refine .t 6 rfl (.fieldAddr fo54_6 rfl) rfl rfl (by kernel_rfl) <| .late (i := 7) (by kernel_rfl) (by kernel_rfl) (by kernel_rfl) rfl rfl <| .store sz41 rfl rfl rfl rfl rfl rfl (.app <| .there <| .there <| .here) <| .normal ?_
  refine .front1 (.app <| .here) ?_
  refine .front (.there <| .front) ?_
  refine .front1 (.app <| .there <| .here) ?_
  refine .front1 (.there <| .app <| .there <| .there <| .here) ?_
  refine .front1 (.there <| .there <| .app <| .there <| .here) ?_
  refine Post.rets rfl .nil rfl hI5 (fun w h => (Sat.tail (Sat.rem h (Rem.there <| Rem.there <| Rem.there <| Rem.app <| Rem.here)))) ?_
  exact ⟨rfl, _, _, _, ho7, ((hdE.mono fun _ _ h => h.mono hI5).append (DR.single hmm.len hmm)), rfl⟩

end Go.Proofs.Ytjoaccnfnniahaa

namespace Go.Proofs.Ytjoaccnfnniahaa
open Go.Sy
set_option linter.unusedSimpArgs false
set_option linter.unusedVariables false

def entsFrom : List Ent → ByteArray
  | [] => ⟨#[]⟩
  | e :: l => textB (entB e) ++ entsFrom l

set_option maxHeartbeats 2000000 in
set_option maxRecDepth 20000 in
theorem mMany_ok {I : Imm} {O : Own} {cm ct c : Nat} {i t : Int} {s : List Ent} {r : ByteArray} (hg : ∀ e ∈ s, entOk e = true ∧ U64 e.index ∧ U64 e.term ∧ StrOk e.data) (hL : s.length ≤ 8) (hs1 : StrOk (numB s.length ++ (entsFrom s ++ r))) :
    Go.Sy.Does Try.prog 56 [.pointer (some ⟨c, 0, none⟩), .int .u64 8, .func (.func 57) #[] ⟨[.pointer (some ⟨cm, 0, none⟩), .pointer (some ⟨ct, 0, none⟩)]⟩] I ((cm, .cells ⟨msgV i t (.slice none 0 0)⟩ 54 (0, 0)) :: (ct, .cells ⟨[.pointer (some ⟨c, 0, none⟩)]⟩ 87 (0, 0)) :: (c, .cells ⟨[.string (numB s.length ++ (entsFrom s ++ r)), .bool false]⟩ 119 (0, 0)) :: O) (fun u I' O' => u = .tuple ⟨[]⟩ ∧ ∃ v' ws' ob', OwnS 5 v' s.length ws' ob' ∧ DR EntR 5 I' ws' s ∧ O' = (cm, .cells ⟨msgV i t v'⟩ 54 (0, 0)) :: (ct, .cells ⟨[.pointer (some ⟨c, 0, none⟩)]⟩ 87 (0, 0)) :: (c, .cells ⟨[.string r, .bool false]⟩ 119 (0, 0)) :: (ob' ++ O)) := by
  have hs2 : StrOk (entsFrom (s.drop 0) ++ r) := str_tail hs1
  refine Go.Sy.Does.enter Try.func56 rfl Try.ntmps56 rfl ?_
  refine .seq <| .region <| .e (.move rfl) rfl rfl <| .e (.nilCheck rfl) rfl rfl <| .e (.fieldAddr fo119_0 rfl) rfl rfl <| .e (.fieldAddr fo117_0 rfl) rfl rfl ?_
  refine .front1 (.there <| .there <| .here) ?_
  refine .on rfl <| .call cal54 rfl rfl rfl (tkNum_ok hs1 (by omega)) fun v11 I11 O11 hI11 hK11 => ?_
  obtain ⟨rfl, hq11, rfl⟩ := hK11
  replace hq11 := hq11.symm
  subst hq11
  refine .e (.assign rfl) rfl rfl <| .nil <| .go <| .seq <| .region <| .e (.move rfl) rfl rfl ?_
  refine .e (.move rfl) rfl rfl <| .e (.nilCheck rfl) rfl rfl <| .e (.fieldAddr fo119_0 rfl) rfl rfl <| .e (.fieldAddr fo117_0 rfl) rfl rfl <| .e (.fieldAddr fo115_1 rfl) rfl rfl <| .e (.load ag4 rfl .here rfl) rfl rfl ?_
  refine .e (.move rfl) rfl rfl <| .e (.move rfl) rfl rfl <| .e (.move rfl) rfl rfl <| .e ((EV.cast (u := .bool false) (.gtr rfl rfl) (congrArg Value.bool (decide_eq_false (by omega))))) rfl rfl <| .e (.pickF rfl rfl) rfl rfl <| .e (.nilCheck rfl) rfl rfl ?_
  refine .e (.fieldAddr fo119_0 rfl) rfl rfl <| .e (.fieldAddr fo117_0 rfl) rfl rfl <| .e (.fieldAddr fo115_1 rfl) rfl rfl <| .on rfl <| .store sz4 rfl rfl rfl rfl rfl rfl .here <| .nil <| .go ?_
  refine .block ?_
  refine .front1 (.there <| .there <| .here) ?_
  refine .front1 (.there <| .there <| .here) ?_
  refine .loopM [6, 28, 29, 30, 31, 32, 33, 34, 35, 36, 37, 38, 39, 40, 41, 42] (fun q => s.length - q.1) (fun q => q.1 ≤ s.length ∧ OwnS 5 q.2.1 (s.take q.1).length q.2.2.1 q.2.2.2.1 ∧ DR EntR 5 q.2.2.2.2 q.2.2.1 (s.take q.1) ∧ I.le q.2.2.2.2 ∧ StrOk (entsFrom (s.drop q.1) ++ r)) (fun q => [(6, .int .u64 ((s.length - q.1 : Nat) : Int))]) (fun q => q.2.2.2.2) (fun q => (cm, .cells ⟨msgV i t q.2.1⟩ 54 (0, 0)) :: (ct, .cells ⟨[.pointer (some ⟨c, 0, none⟩)]⟩ 87 (0, 0)) :: (c, .cells ⟨[.string (entsFrom (s.drop q.1) ++ r), .bool false]⟩ 119 (0, 0)) :: (q.2.2.2.1 ++ _)) (((0, .slice none 0 0, [], [], I) : Nat × Value × List Value × Own × Imm)) ⟨Nat.zero_le _, OwnS.nil, DR.nil, Imm.le_refl _, hs2⟩ ⟨rfl, trivial⟩ rfl rfl ?_
  intro ⟨k, vP, wsP, obP, J⟩ hk
  dsimp only at hk ⊢
  obtain ⟨hkl, hoP, hdP, hJ, hsk⟩ := hk
  obtain ⟨adP, capP, rfl⟩ := hoP.form
  refine .seq <| .seq <| .region <| .e (.move rfl) rfl rfl <| .e (.gtr rfl rfl) rfl rfl <| .e (.move rfl) rfl rfl ?_
  refine .split 30 rfl (fun h30 => ?_) (fun h30 => ?_)
  · skip
    replace h30 := of_decide_eq_true h30
    refine .e (.move rfl) rfl rfl <| .e (.nilCheck rfl) rfl rfl <| .e (.fieldAddr fo119_0 rfl) rfl rfl <| .e (.fieldAddr fo117_0 rfl) rfl rfl <| .e (.fieldAddr fo115_1 rfl) rfl rfl <| .e (.load ag4 rfl (.there <| .there <| .here) rfl) rfl rfl ?_
    refine .e (.not rfl) rfl rfl <| .e (.pickT rfl rfl) rfl rfl <| .nil <| .go <| .cond_true rfl <| .skip ?_
    refine .go <| .seq <| .block <| .region ?_
    have hkn : k < s.length := by omega
    obtain ⟨hok, hgi, hgt, hgd⟩ := hg s[k] (List.getElem_mem _)
    have ed : entsFrom (s.drop k) ++ r = textB (entB s[k]) ++ (entsFrom (s.drop (k + 1)) ++ r) := by rw [List.drop_eq_getElem_cons hkn, entsFrom, ByteArray.append_assoc]
    rw [ed] at hsk ⊢
    have hsn := str_tail hsk
    refine .e (.move rfl) rfl rfl ?_
    refine .on rfl <| .call cal57 rfl rfl rfl (mClo_ok hoP hdP (by rw [List.length_take]; omega) hok hgi hgt hgd hsk) fun v42 I42 O42 hI42 hK42 => ?_
    obtain ⟨rfl, v', ws42, ob42, ho42, hd42, rfl⟩ := hK42
    refine .nil <| .blk_normal <| .go <| .region <| .e (.move rfl) rfl rfl <| .e (.sub rfl rfl ((IntWalk.u64_in _ (by omega)).trans (show ((s.length - k : Nat) : Int) - 1 = ((s.length - (k + 1) : Nat) : Int) by omega))) rfl rfl ?_
    refine .e (.assign rfl) rfl rfl <| .nil ?_
    have hlN : (s.take k).length + 1 = (s.take (k + 1)).length := by rw [List.length_take, List.length_take]; omega
    rw [(List.take_succ_eq_append_getElem hkn).symm] at hd42
    rw [hlN] at ho42
    exact .mid ((k + 1, _, _, _, I42)) ⟨by dsimp only; omega, by dsimp only; omega, ho42, hd42, Imm.le_trans hJ hI42, hsn⟩ ⟨rfl, trivial⟩ rfl rfl (.pre 17 rfl (.app rfl .base))
  · skip
    replace h30 := of_decide_eq_false h30
    refine .off rfl rfl <| .off rfl rfl <| .off rfl rfl <| .off rfl rfl <| .off rfl rfl <| .off rfl rfl ?_
    refine .off rfl rfl <| .e (.pickF rfl rfl) rfl rfl <| .nil <| .go <| .cond_false rfl <| .exit ?_
    refine .exit <| .exit <| .blk_exit <| .normal ?_
    have ek : k = s.length := by omega
    subst ek
    have hr0 : entsFrom (s.drop s.length) ++ r = r := by rw [List.drop_length]; exact ByteArray.empty_append
    rw [hr0]
    have hdE := hdP
    rw [List.take_length] at hdE
    have hoE := hoP
    rw [show (s.take s.length).length = s.length by rw [List.take_length]] at hoE ⊢
    refine Post.rets rfl .nil rfl hJ (fun w h => h) ?_
    exact ⟨rfl, _, _, _, hoE, hdE, rfl⟩

end Go.Proofs.Ytjoaccnfnniahaa

namespace Go.Proofs.Ytjoaccnfnniahaa
open Go.Sy
set_option linter.unusedSimpArgs false
set_option linter.unusedVariables false

/-- What a message's bytes are, one behind the other. -/
def msgL (i t : Int) (s : List Ent) (r : ByteArray) : ByteArray := numB (3 : Int).toNat ++ (numB (1 : Int).toNat ++ (numB i.toNat ++ (numB t.toNat ++ (numB (0 : Int).toNat ++ (numB s.length ++ (entsFrom s ++ r))))))
theorem entsFrom_app : ∀ xs ys : List Ent, entsFrom (xs ++ ys) = entsFrom xs ++ entsFrom ys
  | [], ys => (ByteArray.empty_append).symm
  | x :: xs, ys => by
    show textB (entB x) ++ entsFrom (xs ++ ys) = textB (entB x) ++ entsFrom xs ++ entsFrom ys
    rw [entsFrom_app xs ys, ByteArray.append_assoc]
theorem msgTo_from (i t : Int) (s : List Ent) : ∀ k, k ≤ s.length → msgTo i t s k = mHead i t s.length ++ entsFrom (s.take k)
  | 0, _ => by
    have e : mHead i t s.length ++ (⟨#[]⟩ : ByteArray) = mHead i t s.length := ByteArray.append_empty
    rw [List.take_zero]; exact e.symm
  | k + 1, hk => by
    have e : entsFrom [s[k]] = textB (entB s[k]) := ByteArray.append_empty
    rw [msg_step (show k < s.length by omega), msgTo_from i t s k (by omega), List.take_succ_eq_append_getElem (show k < s.length by omega), entsFrom_app, e, ByteArray.append_assoc]
theorem msgB_L (i t : Int) (s : List Ent) : msgB i t s = msgL i t s ⟨#[]⟩ := by
  have e : entsFrom s ++ (⟨#[]⟩ : ByteArray) = entsFrom s := ByteArray.append_empty
  unfold msgB msgL
  rw [msgTo_from i t s _ (Nat.le_refl _), List.take_length, e]
  unfold mHead
  simp only [ByteArray.append_assoc, Int.toNat_natCast]
  exact ByteArray.empty_append

set_option maxHeartbeats 4000000 in
set_option maxRecDepth 20000 in
theorem tkMsg_ok {I : Imm} {O : Own} {c : Nat} {i t : Int} {s : List Ent} {r : ByteArray} (hi : U64 i) (ht : U64 t) (hg : ∀ e ∈ s, entOk e = true ∧ U64 e.index ∧ U64 e.term ∧ StrOk e.data) (hL : s.length ≤ 8) (hs0 : StrOk (msgL i t s r)) :
    Go.Sy.Does Try.prog 33 [.agg ⟨[.pointer (some ⟨c, 0, none⟩)]⟩] I ((c, .cells ⟨[.string (msgL i t s r), .bool false]⟩ 119 (0, 0)) :: O) (fun u I' O' => ∃ v', u = .agg ⟨msgV i t v'⟩ ∧ EntsR I' v' s ∧ O' = (c, .cells ⟨[.string r, .bool false]⟩ 119 (0, 0)) :: O) := by
  unfold msgL at hs0 ⊢
  have hs1 := str_tail hs0
  have hs2 := str_tail hs1
  have hs3 := str_tail hs2
  have hs4 := str_tail hs3
  have hs5 := str_tail hs4
  have hs6 := hs5
  refine Go.Sy.Does.enter Try.func33 rfl Try.ntmps33 rfl ?_
  refine .seq <| .region <| .on rfl <| .box rfl rfl rfl fun c1 _ _ => .on rfl <| .alloc zr54 rfl fun c2 _ _ => .nil <| .go ?_
  refine .seq <| .region <| .e (.fieldAddr fo87_0 rfl) rfl rfl <| .e (.load ag84 rfl (.there <| .here) rfl) rfl rfl <| .e (.nilCheck rfl) rfl rfl <| .e (.fieldAddr fo119_0 rfl) rfl rfl ?_
  refine .e (.fieldAddr fo117_0 rfl) rfl rfl ?_
  refine .front1 (.there <| .there <| .here) ?_
  refine .on rfl <| .call cal54 rfl rfl rfl (tkNumI_ok (x := 3) hs0 (by unfold U64; omega)) fun v12 I12 O12 hI12 hK12 => ?_
  obtain ⟨rfl, hq12, rfl⟩ := hK12
  replace hq12 := hq12.symm
  subst hq12
  refine .e (.assign rfl) rfl rfl <| .nil <| .go <| .seq <| .region <| .e (.move rfl) rfl rfl ?_
  refine .e ((EV.cast (u := .int .u64 3) (.min2 rfl rfl rfl) rfl)) rfl rfl <| .e ((EV.cast (u := .int .u8 3) (.conv Try.underlying40 Try.underlying50 rfl) rfl)) rfl rfl <| .e (.fieldAddr fo87_0 rfl) rfl rfl <| .e (.load ag84 rfl (.there <| .there <| .here) rfl) rfl rfl <| .e (.nilCheck rfl) rfl rfl <| .e (.fieldAddr fo119_0 rfl) rfl rfl ?_
  refine .e (.fieldAddr fo117_0 rfl) rfl rfl ?_
  refine .on rfl <| .call cal54 rfl rfl rfl (tkNumI_ok (x := 1) hs1 (by unfold U64; omega)) fun v21 I21 O21 hI21 hK21 => ?_
  obtain ⟨rfl, hq21, rfl⟩ := hK21
  replace hq21 := hq21.symm
  subst hq21
  refine .e (.build bs54 zv54 rfl rfl) rfl rfl <| .on rfl <| .alloc zr54 rfl fun c3 _ _ => .on rfl <| .storeW sz54 rfl rfl rfl rfl rfl rfl .here <| .nil <| .go <| .seq ?_
  refine .seq <| .region <| .e (.fieldAddr fo54_0 rfl) rfl rfl <| .e (.load ag50 rfl .here rfl) rfl rfl <| .nil <| .go ?_
  refine .block <| .seq <| .region <| .e (.eql rfl rfl) rfl rfl <| .e (.assign rfl) rfl rfl <| .nil ?_
  refine .go <| .cond_false rfl <| .seq <| .region <| .e (.eql rfl rfl) rfl rfl <| .e (.assign rfl) rfl rfl ?_
  refine .nil <| .go <| .cond_false rfl <| .seq <| .region <| .e (.eql rfl rfl) rfl rfl ?_
  refine .e (.assign rfl) rfl rfl <| .nil <| .go <| .cond_true rfl <| .seq ?_
  refine .draw [(c1, _)] mixed (.cons (.there <| .there <| .there <| .here) .nil) ?_
  refine .t 0 rfl (.fieldAddr fo87_0 rfl) rfl rfl (by kernel_rfl) <| .t 1 rfl (.load ag84 rfl .here rfl) rfl rfl (by kernel_rfl) <| .t 2 rfl (.nilCheck rfl) rfl rfl (by kernel_rfl) <| .t 3 rfl (.fieldAddr fo119_0 rfl) rfl rfl (by kernel_rfl) <| .t 4 rfl (.fieldAddr fo117_0 rfl) rfl rfl (by kernel_rfl) <| .t 6 rfl (.fieldAddr fo87_0 rfl) rfl rfl (by kernel_rfl) ?_
  refine .t 7 rfl (.load ag84 rfl .here rfl) rfl rfl (by kernel_rfl) <| .t 8 rfl (.nilCheck rfl) rfl rfl (by kernel_rfl) <| .t 9 rfl (.fieldAddr fo119_0 rfl) rfl rfl (by kernel_rfl) <| .t 10 rfl (.fieldAddr fo117_0 rfl) rfl rfl (by kernel_rfl) <| .t 12 rfl (.fieldAddr fo87_0 rfl) rfl rfl (by kernel_rfl) <| .t 13 rfl (.load ag84 rfl .here rfl) rfl rfl (by kernel_rfl) ?_
  refine .t 14 rfl (.nilCheck rfl) rfl rfl (by kernel_rfl) <| .t 15 rfl (.fieldAddr fo119_0 rfl) rfl rfl (by kernel_rfl) <| .t 16 rfl (.fieldAddr fo117_0 rfl) rfl rfl (by kernel_rfl) <| .one (i := 5) (by kernel_rfl) rfl rfl ?_
  refine .front1 (.there <| .here) ?_
  refine .call cal54 rfl rfl rfl (tkNumI_ok hs2 hi) fun v53 I53 O53 hI53 hK53 => ?_
  obtain ⟨rfl, hq53, rfl⟩ := hK53
  replace hq53 := hq53.symm
  subst hq53
  refine ⟨(.cons (.there <| .there <| .there <| .here) .nil), Imm.le_refl _, ?_⟩
  refine .t 18 rfl (.fieldAddr fo54_2 rfl) rfl rfl (by kernel_rfl) <| .one (i := 11) (by kernel_rfl) rfl rfl ?_
  refine .call cal54 rfl rfl rfl (tkNumI_ok hs3 ht) fun v59 I59 O59 hI59 hK59 => ?_
  obtain ⟨rfl, hq59, rfl⟩ := hK59
  replace hq59 := hq59.symm
  subst hq59
  refine ⟨(.cons (.there <| .there <| .there <| .here) .nil), Imm.le_refl _, ?_⟩
  refine .one (i := 17) (by kernel_rfl) rfl rfl ?_
  refine .call cal54 rfl rfl rfl (tkNumI_ok (x := 0) hs4 (by unfold U64; omega)) fun v65 I65 O65 hI65 hK65 => ?_
  obtain ⟨rfl, hq65, rfl⟩ := hK65
  replace hq65 := hq65.symm
  subst hq65
  refine ⟨(.cons (.there <| .there <| .there <| .here) .nil), Imm.le_refl _, ?_⟩
  refine .one (i := 19) (by kernel_rfl) rfl rfl <| .store sz40 rfl rfl rfl rfl rfl rfl (.there <| .here) ?_
  refine ⟨(.cons (.there <| .there <| .there <| .here) .nil), Imm.le_refl _, ?_⟩
  refine .t 20 rfl (.fieldAddr fo54_3 rfl) rfl rfl (by kernel_rfl) <| .one (i := 21) (by kernel_rfl) rfl rfl <| .store sz40 rfl rfl rfl rfl rfl rfl (.there <| .here) ?_
  refine ⟨(.cons (.there <| .there <| .there <| .here) .nil), Imm.le_refl _, ?_⟩
  refine .t 22 rfl (.fieldAddr fo54_4 rfl) rfl rfl (by kernel_rfl) <| .late (i := 23) (by kernel_rfl) (by kernel_rfl) (by kernel_rfl) rfl rfl <| .store sz40 rfl rfl rfl rfl rfl rfl (.there <| .here) <| .go <| .region <| .e (.fieldAddr fo87_0 rfl) rfl rfl <| .e (.load ag84 rfl (.there <| .there <| .there <| .here) rfl) rfl rfl ?_
  refine .e (.makeFunc rfl rfl) rfl rfl ?_
  refine .front1 (.there <| .there <| .here) ?_
  refine .front1 (.there <| .here) ?_
  refine .front1 (.there <| .there <| .there <| .here) ?_
  refine .front1 (.there <| .there <| .there <| .here) ?_
  refine .on rfl <| .call cal56 rfl rfl rfl (mMany_ok (i := i) (t := t) (s := s) (r := r) hg hL hs6) fun v72 I72 O72 hI72 hK72 => ?_
  obtain ⟨rfl, v', ws72, ob72, ho72, hd72, rfl⟩ := hK72
  obtain ⟨ad72, cap72, rfl⟩ := ho72.form
  refine .nil <| .blk_normal <| .go <| .seq <| .region <| .e (.loadW ag54 sz54 rfl .here rfl) rfl rfl ?_
  refine .on rfl <| .storeW sz54 rfl rfl rfl rfl rfl rfl (.there <| .there <| .there <| .app <| .here) <| .nil <| .go <| .ret ?_
  refine .front (.there <| .there <| .there <| .front) ?_
  refine .freezeS ho72 fun K hK hKs => ?_
  have hy : EntsR K _ s := hKs (R := EntR) (hd72.mono fun _ _ h => h.mono hK) rfl
  refine .front1 (.there <| .here) ?_
  refine .front1 (.there <| .here) ?_
  refine .front1 (.there <| .there <| .here) ?_
  refine Post.rets rfl (.agg rfl ag54 sz54 (.there <| .there <| .there <| .here) rfl .nil) rfl (Imm.le_trans hI72 hK) (fun w h => (Sat.tail (Sat.rem (Sat.tail (Sat.rem (Sat.tail (Sat.rem h (Rem.there <| Rem.here))) (Rem.there <| Rem.here))) (Rem.there <| Rem.here)))) ?_
  exact ⟨_, rfl, hy, rfl⟩

end Go.Proofs.Ytjoaccnfnniahaa

namespace Go.Proofs.Ytjoaccnfnniahaa
open Go.Sy
set_option linter.unusedSimpArgs false
set_option linter.unusedVariables false

theorem goodM.all {i : Int} {s : List Ent} (hg : goodM i s) (hu : ∀ e ∈ s, U64 e.term) : ∀ e ∈ s, entOk e = true ∧ U64 e.index ∧ U64 e.term ∧ StrOk e.data := by
  intro e he
  obtain ⟨h1, h2, h3⟩ := hg.each hu e he
  have := (ent_fit h1).2.1
  exact ⟨h1, h2, h3, by unfold StrOk; omega⟩
theorem take_msg {i t : Int} {s : List Ent} (h : (msgB i t s).size ≤ 65536) : takeR (frameB (msgB i t s)) = (msgL i t s ⟨#[]⟩, ⟨#[]⟩, 0) := by
  have e := take_frame (p := msgB i t s) (r := ⟨#[]⟩) h
  have e2 : frameB (msgB i t s) ++ (⟨#[]⟩ : ByteArray) = frameB (msgB i t s) := ByteArray.append_empty
  rw [e2] at e
  rw [← msgB_L]; exact e

set_option maxHeartbeats 2000000 in
set_option maxRecDepth 20000 in
theorem mDecode_ok {I : Imm} {O : Own} {i t : Int} {s : List Ent} (hg : goodM i s) (ht : U64 t) (hu : ∀ e ∈ s, U64 e.term) :
    Go.Sy.Does Try.prog 16 [.string (frameB (msgB i t s))] I O (fun u I' O' => ∃ v', u = .tuple ⟨[.agg ⟨msgV i t v'⟩, .int .i64 0]⟩ ∧ EntsR I' v' s ∧ O' = O) := by
  have hl8 := hg.2.2.1
  have hz := msg_size hg.at_ ht (hg.each hu) hl8 s.length (Nat.le_refl _)
  replace hz : (msgB i t s).size ≤ 100 + 4400 * s.length ∧ 0 < (msgB i t s).size := hz
  have hsl : StrOk (msgL i t s ⟨#[]⟩) := by rw [← msgB_L]; unfold StrOk; omega
  refine Go.Sy.Does.enter Try.func16 rfl Try.ntmps16 rfl ?_
  refine .seq <| .region <| .on rfl <| .alloc zr54 rfl fun c1 _ _ => .e (.assign rfl) rfl rfl <| .nil <| .go ?_
  refine .seq <| .region <| .e (.move rfl) rfl rfl <| .on rfl <| .callP cal11 rfl rfl rfl ((TakeFrame_ok (s := frameB (msgB i t s)) (by unfold StrOk; rw [frameB_size]; omega)).cast (congrArg trio (take_msg (by omega)))) <| .e (.move rfl) rfl rfl <| .e (.extract rfl rfl) rfl rfl ?_
  refine .e (.extract rfl rfl) rfl rfl <| .e (.extract rfl rfl) rfl rfl <| .e (.assign rfl) rfl rfl <| .e (.assign rfl) rfl rfl <| .e (.assign rfl) rfl rfl <| .nil ?_
  refine .go <| .seq <| .region <| .e (.move rfl) rfl rfl <| .on rfl <| .call cal32 rfl rfl rfl (oFrom_ok) fun v16 I16 O16 hI16 hK16 => ?_
  obtain ⟨c16, rfl, hq16, rfl⟩ := hK16
  replace hq16 := hq16.symm
  subst hq16
  refine .e (.build bs87 zv87 rfl rfl) rfl rfl <| .on rfl <| .alloc zr87 rfl fun c2 _ _ => .on rfl <| .storeW sz87 rfl rfl rfl rfl rfl rfl .here <| .nil <| .go <| .seq ?_
  refine .region <| .e (.loadW ag87 sz87 rfl .here rfl) rfl rfl ?_
  refine .front1 (.there <| .here) ?_
  refine .on rfl <| .call cal33 rfl rfl rfl (tkMsg_ok hg.at_ ht (hg.all hu) hl8 hsl) fun v19 I19 O19 hI19 hK19 => ?_
  obtain ⟨v', rfl, hy, rfl⟩ := hK19
  have hy0 := hy
  obtain ⟨ya, yc, rfl, -, -, -⟩ := hy0
  refine .on rfl <| .alloc zr54 rfl fun c3 _ _ => .on rfl <| .storeW sz54 rfl rfl rfl rfl rfl rfl .here <| .nil <| .go <| .seq <| .seq ?_
  refine .region <| .e (.move rfl) rfl rfl <| .e (.neq rfl rfl) rfl rfl <| .e (.move rfl) rfl rfl <| .e (.move rfl) rfl rfl <| .e ((EV.cast (u := .bool false) (.strne rfl rfl) (congrArg Value.bool (by simp)))) rfl rfl ?_
  refine .e (.pickF rfl rfl) rfl rfl <| .e (.move rfl) rfl rfl <| .e (.fieldAddr fo87_0 rfl) rfl rfl <| .e (.load ag84 rfl (.there <| .there <| .here) rfl) rfl rfl <| .on rfl <| .callP cal34 rfl rfl rfl (oOver_ok (.there <| .here)) <| .e (.not rfl) rfl rfl ?_
  refine .e (.pickF rfl rfl) rfl rfl <| .e (.move rfl) rfl rfl <| .e (.loadW ag54 sz54 rfl .here rfl) rfl rfl <| .on rfl <| .callP cal30 rfl rfl rfl (mCheck_ok hy hg) <| .e (.neq rfl rfl) rfl rfl <| .e (.pickF rfl rfl) rfl rfl ?_
  refine .nil <| .go <| .cond_false rfl <| .skip <| .go <| .seq ?_
  refine .region <| .e (.loadW ag54 sz54 rfl .here rfl) rfl rfl <| .on rfl <| .storeW sz54 rfl rfl rfl rfl rfl rfl (.there <| .there <| .there <| .here) <| .e (.assign rfl) rfl rfl <| .nil <| .go ?_
  refine .ret ?_
  refine Post.rets rfl (.agg rfl ag54 sz54 (.there <| .there <| .there <| .here) rfl (.tmp rfl .nil)) rfl hI19 (fun w h => (Sat.tail (Sat.tail (Sat.tail (Sat.tail h))))) ?_
  exact ⟨_, rfl, hy, rfl⟩

end Go.Proofs.Ytjoaccnfnniahaa
