/- Walks of functions over a symbolic memory, printed by a program of the session. -/
import Derived.Test.YtjoaccnfnniahaaDi
namespace Go.Proofs.Ytjoaccnfnniahaa
open Go.Sy
set_option linter.unusedSimpArgs false
set_option linter.unusedVariables false

def StrR (_ : Imm) (cs : List Value) (s : ByteArray) : Prop := cs = [.string s] ∧ StrOk s
abbrev StrsR (I : Imm) (v : Value) (l : List ByteArray) : Prop := SlR StrR 1 I v l
def BolR (_ : Imm) (cs : List Value) (b : Bool) : Prop := cs = [.bool b]
abbrev BolsR (I : Imm) (v : Value) (l : List Bool) : Prop := SlR BolR 1 I v l
theorem StrsR.mono {I J : Imm} {v : Value} {l : List ByteArray} (hI : I.le J) (h : StrsR I v l) : StrsR J v l := SlR.mono (R := StrR) (I := I) (J := J) (fun _ _ h => h) hI h
theorem BolsR.mono {I J : Imm} {v : Value} {l : List Bool} (hI : I.le J) (h : BolsR I v l) : BolsR J v l := SlR.mono (R := BolR) (I := I) (J := J) (fun _ _ h => h) hI h
theorem disk_few {l : List ByteArray} {bs : List Bool} {k : Nat} : (diskAt l bs k).files.length ≤ 1000 := by
  unfold diskAt; dsimp only; split <;> simp
theorem mid_few {l : List ByteArray} {bs : List Bool} {k : Nat} : (midAt l bs k).files.length ≤ 1000 := by
  unfold midAt; simp
theorem disk_room {l : List ByteArray} {bs : List Bool} {k : Nat} (hk : k < l.length) (h40 : k ≤ 40) (hs : ∀ j (hj : j < l.length), j < k → l[j].size ≤ 65536) (hx : l[k].size ≤ 65536) : ∀ f ∈ (diskAt l bs k).files, StrOk (f.data ++ frameB l[k]) := by
  intro f hf
  have h := cat_size hs (Nat.le_of_lt hk)
  have e : f.data = catTo l k := by
    unfold diskAt at hf; dsimp only at hf
    split at hf
    · cases hf
    · rw [List.mem_singleton] at hf; rw [hf]
  unfold StrOk
  rw [ByteArray.size_append, e, frameB_size]; omega
theorem bolD {bs : List Bool} {k : Nat} (h : k < bs.length) : bs.getD k false = bs[k] := by simp [h]
theorem bolN {bs : List Bool} {k : Nat} (h : bs.length ≤ k) : bs.getD k false = false := by rw [List.getD_eq_getElem?_getD, List.getElem?_eq_none h]; rfl
theorem sure_skip {bs : List Bool} {k : Nat} (h : bs.getD k false = false) : sureTo bs (k + 1) = sureTo bs k := by rw [sureTo, if_neg (by rw [h]; simp)]
theorem sure_sync {bs : List Bool} {k : Nat} (h : bs.getD k false = true) : sureTo bs (k + 1) = k + 1 := by rw [sureTo, if_pos h]
theorem cut_str {l : List ByteArray} {bs : List Bool} {ks : List Int} {k a : Nat} (hk : k ≤ l.length) (h40 : k ≤ 40) (hs : ∀ j (hj : j < l.length), j < k → l[j].size ≤ 65536) : StrOk ((catTo l k).extract a (cutN l bs ks k)) := by
  have h := cat_size hs hk
  unfold StrOk; rw [ByteArray.size_extract]; omega

set_option maxHeartbeats 16000000 in
set_option maxRecDepth 20000 in
theorem TopFrames_ok {I : Imm} {O : Own} {lv bv kv : Value} {l : List ByteArray} {bs : List Bool} {ks : List Int} (hl : StrsR I lv l) (hb : BolsR I bv bs) (hks : IntsR I kv ks) :
    Pure Try.prog 3 [lv, bv, kv] I O (.bool true) := by
  have hl0 := hl
  obtain ⟨la, lcap, rfl, hl1, hl2, -⟩ := hl
  have hb0 := hb
  obtain ⟨ba, bcap, rfl, hb1, hb2, -⟩ := hb
  have hks0 := hks
  obtain ⟨ka, kcap, rfl, hks1, hks2, -⟩ := hks
  refine Go.Sy.Does.enter Try.func3 rfl Try.ntmps3 rfl ?_
  refine .seq <| .region <| .e (.assign rfl) rfl rfl <| .nil <| .go <| .seq ?_
  refine .seq <| .region <| .on rfl <| .callP cal5 rfl rfl rfl (begins_ok) <| .e (.not rfl) rfl rfl <| .nil <| .go ?_
  refine .cond_false rfl <| .skip <| .go <| .seq <| .region <| .e (.build bs28 zv28 rfl rfl) rfl rfl ?_
  refine .on rfl <| .alloc zr28 rfl fun c1 _ _ => .on rfl <| .storeW sz28 rfl rfl rfl rfl rfl rfl .here <| .nil <| .go <| .seq <| .region ?_
  refine .e (.assign rfl) rfl rfl <| .nil <| .go <| .seq <| .region <| .e (.assign rfl) rfl rfl ?_
  refine .nil <| .go <| .seq <| .seq <| .region <| .e (.move rfl) rfl rfl ?_
  refine .e (.len sl22 rfl rfl) rfl rfl <| .e (.move rfl) rfl rfl <| .nil <| .go <| .block ?_
  refine .loopM [8, 9, 10, 11, 12, 13, 25, 26, 27, 28, 29, 30, 31, 32, 33, 34, 35, 36, 37, 38, 39, 40, 41, 42, 43, 44, 45, 46, 47, 48, 49, 50, 51, 52, 53, 54, 55, 56, 57, 58, 59, 60, 61, 62, 63, 64, 65, 66, 67, 68] (fun s => l.length - s.1) (fun s => s.1 ≤ l.length ∧ s.1 ≤ 40 ∧ (∀ j (hj : j < l.length), j < s.1 → l[j].size ≤ 65536) ∧ OwnS 1 s.2.2.1 s.1 s.2.2.2.1 s.2.2.2.2.1 ∧ DR StrR 1 s.2.2.2.2.2 s.2.2.2.1 (l.take s.1) ∧ I.le s.2.2.2.2.2 ∧ DskR s.2.2.2.2.2 ((diskAt l bs s.1).cells s.2.1) (diskAt l bs s.1)) (fun s => [(25, .int .i64 s.1), (8, s.2.2.1), (9, .int .i64 (sureTo bs s.1 : Nat))]) (fun s => s.2.2.2.2.2) (fun s => s.2.2.2.2.1 ++ ((c1, .cells ⟨(diskAt l bs s.1).cells s.2.1⟩ 28 (0, 0)) :: _)) (((0, .slice none 0 0, .slice none 0 0, [], [], I) : Nat × Value × Value × List Value × Own × Imm)) ⟨Nat.zero_le _, Nat.zero_le _, fun j _ h => absurd h (Nat.not_lt_zero _), OwnS.nil, DR.nil, Imm.le_refl _, dn0⟩ ⟨rfl, rfl, rfl, trivial⟩ rfl rfl ?_
  intro ⟨k, vD, vP, wsP, obP, J⟩ hk
  dsimp only at hk ⊢
  obtain ⟨hkl0, hk40, hsz, hoP, hdP, hJ, hD⟩ := hk
  have hD0 := hD
  obtain ⟨fwD, ewD, hwD⟩ := hD.ex
  obtain ⟨faD, fcD, rfl, -, -, -⟩ := hwD
  cases ewD
  obtain ⟨adP, capP, rfl⟩ := hoP.form
  refine .seq <| .region <| .e (.lss rfl rfl) rfl rfl <| .nil <| .go <| .seq ?_
  refine .split 26 rfl (fun h26 => ?_) (fun h26 => ?_)
  · skip
    replace h26 := of_decide_eq_true h26
    refine .cond_true rfl <| .skip <| .go <| .seq <| .block <| .seq ?_
    refine .region <| .e (.move rfl) rfl rfl ?_
    obtain ⟨eb28, eo28, cs28, hd28, hat28, hr28⟩ := SlR.at_ (StrsR.mono hJ hl0) (k := k) (by omega)
    cases hd28
    obtain ⟨rfl, hs28⟩ := hr28
    refine .e (.indexAddrL sl22 rfl rfl rfl (by omega)) rfl rfl <| .e (.loadI ag9 rfl (hat28.cell (j := 0) rfl)) rfl rfl <| .e (.assign rfl) rfl rfl <| .e (.assign rfl) rfl rfl <| .nil <| .go ?_
    refine .seq <| .region <| .e (.move rfl) rfl rfl ?_
    obtain ⟨fa, fe, hfr⟩ : ∃ a e, frameR l[k] = (a, e) := ⟨_, _, rfl⟩
    have hkl : k < l.length := by omega
    refine .on rfl <| .callP cal6 rfl rfl rfl ((Frame_ok hs28).cast (congrArg (fun p : ByteArray × Int => Value.tuple ⟨[.string p.1, .int .i64 p.2]⟩) hfr)) <| .e (.move rfl) rfl rfl <| .e (.extract rfl rfl) rfl rfl <| .e (.extract rfl rfl) rfl rfl <| .e (.assign rfl) rfl rfl <| .e (.assign rfl) rfl rfl ?_
    refine .nil <| .go <| .seq <| .seq <| .region <| .e (.move rfl) rfl rfl ?_
    refine .e (.eql rfl rfl) rfl rfl <| .e (.move rfl) rfl rfl ?_
    refine .split 37 rfl (fun h37 => ?_) (fun h37 => ?_)
    · skip
      replace h37 := of_decide_eq_true h37
      refine .off rfl rfl <| .off rfl rfl <| .e (.pickT rfl rfl) rfl rfl <| .nil <| .go <| .cond_true rfl ?_
      refine .exit <| .exit <| .blk_other rfl <| .exit <| .exit <| .blk_exit ?_
      refine .go <| .seq <| .region <| .e (.loadW ag28 sz28 rfl (.app <| .here) rfl) rfl rfl <| .e (.move rfl) rfl rfl <| .on rfl <| .call cal9 rfl rfl rfl (dCrashF hD0 disk_few (IntsR.mono hJ hks0) crash_at) fun v72 I72 O72 hI72 hK72 => ?_
      obtain ⟨rfl, fv72, rfl, hf72⟩ := hK72
      obtain ⟨fw72, ew72, hw72⟩ := hf72.ex
      obtain ⟨fa72, fc72, rfl, -, -, -⟩ := hw72
      cases ew72
      have hf := hf72
      refine .e (.move rfl) rfl rfl <| .e (.extract rfl rfl) rfl rfl <| .e (.extract rfl rfl) rfl rfl <| .on rfl <| .storeW sz28 rfl rfl rfl rfl rfl rfl (.app <| .here) <| .nil <| .go ?_
      refine .seq <| .region <| .e (.loadW ag28 sz28 rfl (.app <| .here) rfl) rfl rfl ?_
      obtain ⟨p1, p2, hrd⟩ : ∃ p1 p2, readR (afterD l bs ks k) fN = (p1, p2) := ⟨_, _, rfl⟩
      refine .on rfl <| .callP cal10 rfl rfl rfl ((dRead_ok hf72 (s := fN)).cast (congrArg rdV hrd)) <| .e (.move rfl) rfl rfl <| .e (.extract rfl rfl) rfl rfl <| .e (.extract rfl rfl) rfl rfl <| .e (.assign rfl) rfl rfl <| .e (.assign rfl) rfl rfl ?_
      refine .nil <| .go <| .seq <| .seq <| .region <| .e (.move rfl) rfl rfl ?_
      refine .e (.len sl22 rfl rfl) rfl rfl <| .e (.eql rfl rfl) rfl rfl <| .nil <| .go ?_
      refine .split 82 rfl (fun h82 => ?_) (fun h82 => ?_)
      · skip
        replace h82 := of_decide_eq_true h82
        obtain rfl : k = 0 := by omega
        rw [read_none] at hrd
        cases hrd
        refine .cond_true rfl <| .seq <| .region <| .e (.move rfl) rfl rfl <| .e ((EV.cast (u := .bool true) (.eql rfl rfl) (congrArg Value.bool (by decide)))) rfl rfl <| .e (.assign rfl) rfl rfl ?_
        refine .nil <| .go <| .ret <| .ret ?_
        refine .drop <| .tail ?_
        refine .back (Imm.le_trans hJ hI72) ?_
        refine Post.retE rfl rfl ?_
        rfl
      · skip
        replace h82 := of_decide_eq_false h82
        have hk0 : k ≠ 0 := by omega
        rw [read_at hk0] at hrd
        cases hrd
        refine .cond_false rfl <| .skip <| .go <| .seq <| .region ?_
        obtain ⟨_, h0, _, _⟩ | ⟨bP, cpP, csP, TP, hv5, rfl, hc1P, hc2P, hc3P, hc4P, hc5P⟩ := hoP
        · omega
        cases hv5
        simp only [@List.singleton_append (Nat × Obj)]
        refine .e (.assign rfl) rfl rfl <| .nil <| .go <| .seq <| .block ?_
        refine .loopM [6, 14, 16, 17, 18, 19, 85, 86, 87, 88, 89, 90, 91, 92, 93, 94, 95, 96, 97, 98, 99, 100, 101, 102, 103, 104, 105, 106, 107, 108, 109, 110, 111, 112, 113, 114, 115, 116, 117, 118, 119, 120, 121, 122] (fun n => k + 1 - n) (fun n => n ≤ k ∧ (catTo l n).size ≤ cutN l bs ks k) (fun n => [(16, .int .i64 n), (14, .string ((catTo l k).extract (catTo l n).size (cutN l bs ks k)))]) (fun _ => _) (fun _ => _) (0) ⟨Nat.zero_le _, Nat.zero_le _⟩ ⟨rfl, rfl, trivial⟩ rfl rfl ?_
        intro n hn
        obtain ⟨hn, hcn⟩ := hn
        refine .seq <| .seq <| .region <| .e (.move rfl) rfl rfl <| .e ((EV.cast (u := .bool true) (.eql rfl rfl) (congrArg Value.bool (by decide)))) rfl rfl <| .e (.move rfl) rfl rfl ?_
        refine .e (.move rfl) rfl rfl <| .e (.move rfl) rfl rfl <| .e (.len sl22 rfl rfl) rfl rfl <| .e ((EV.cast (u := .bool true) (.leq rfl rfl) (congrArg Value.bool (decide_eq_true (by omega))))) rfl rfl <| .e (.pickT rfl rfl) rfl rfl <| .nil ?_
        refine .go <| .cond_true rfl <| .skip <| .go <| .block <| .seq ?_
        refine .region <| .e (.move rfl) rfl rfl ?_
        have hts := take_step (bs := bs) (ks := ks) hkl0 hsz hn hcn
        obtain ⟨a, b, c, htk⟩ : ∃ a b c, takeR ((catTo l k).extract (catTo l n).size (cutN l bs ks k)) = (a, b, c) := ⟨_, _, _, rfl⟩
        rw [htk] at hts
        refine .on rfl <| .callP cal11 rfl rfl rfl ((TakeFrame_ok (cut_str (a := (catTo l n).size) (bs := bs) (ks := ks) hkl0 hk40 hsz)).cast (congrArg trio htk)) <| .e (.move rfl) rfl rfl <| .e (.extract rfl rfl) rfl rfl <| .e (.extract rfl rfl) rfl rfl <| .e (.extract rfl rfl) rfl rfl <| .e (.assign rfl) rfl rfl ?_
        refine .e (.assign rfl) rfl rfl <| .e (.assign rfl) rfl rfl <| .nil <| .go <| .seq <| .seq ?_
        refine .region <| .e (.move rfl) rfl rfl <| .e (.neq rfl rfl) rfl rfl <| .nil <| .go ?_
        refine .split 100 rfl (fun h100 => ?_) (fun h100 => ?_)
        · skip
          first | replace h100 := of_decide_eq_false ((Bool.not_eq_true' _).mp h100) | replace h100 := of_decide_eq_false (by simpa using h100)
          obtain ⟨_, _, e⟩ | ⟨e, hsn⟩ := hts
          · cases e; exact absurd rfl h100
          cases e
          refine .cond_true rfl <| .seq <| .region <| .e (.move rfl) rfl rfl <| .e ((EV.cast (u := .bool true) (.eql rfl rfl) (congrArg Value.bool (by decide)))) rfl rfl <| .e (.move rfl) rfl rfl ?_
          refine .e (.move rfl) rfl rfl <| .e (.move rfl) rfl rfl <| .e ((EV.cast (u := .bool true) (.geq rfl rfl) (congrArg Value.bool (decide_eq_true (by omega))))) rfl rfl <| .e (.pickT rfl rfl) rfl rfl <| .e (.assign rfl) rfl rfl <| .nil ?_
          refine .go <| .ret <| .ret <| .blk_ret <| .ret <| .blk_ret ?_
          refine .ret ?_
          refine .tail <| .tail ?_
          refine .back (Imm.le_trans hJ hI72) ?_
          refine Post.retE rfl rfl ?_
          rfl
        · skip
          first | replace h100 := of_decide_eq_true ((Bool.not_eq_false' _).mp h100) | replace h100 := of_decide_eq_true (by simpa using h100)
          obtain ⟨hnk, hc1, e⟩ | ⟨e, -⟩ := hts
          rotate_left
          · cases e; exact absurd h100 (by decide)
          cases e
          have hcell : csP[0 + n * 1]? = some (.string l[n]) := by
            have h9 := (hdP.2 n l[n] (by rw [List.getElem?_take_of_lt hnk, List.getElem?_eq_getElem (by omega)])).1
            have h8 : wsP[n * 1 + 0]? = some (.string l[n]) := by
              have h7 := congrArg (fun x : List Value => x[0]?) h9
              simp only [List.getElem?_take, List.getElem?_drop] at h7
              simpa using h7
            exact cellY (p := 0) hc3P h8
          refine .cond_false rfl <| .skip <| .go <| .seq <| .seq <| .region ?_
          refine .e (.move rfl) rfl rfl <| .e (.move rfl) rfl rfl <| .e (.len sl22 rfl rfl) rfl rfl <| .e ((EV.cast (u := .bool false) (.eql rfl rfl) (congrArg Value.bool (decide_eq_false (by omega))))) rfl rfl <| .e (.move rfl) rfl rfl <| .e (.move rfl) rfl rfl ?_
          refine .e (.move rfl) rfl rfl <| .e (.move rfl) rfl rfl <| .e (.indexAddrL sl22 rfl rfl rfl (by omega)) rfl rfl <| .e (.load (v := .string l[n]) ag9 rfl .here ((List.getElem?_toArray).trans hcell)) rfl rfl <| .e ((EV.cast (u := .bool false) (.strne rfl rfl) (congrArg Value.bool (by simp)))) rfl rfl <| .e (.pickF rfl rfl) rfl rfl ?_
          refine .nil <| .go <| .cond_false rfl <| .skip <| .go <| .seq ?_
          refine .region <| .e (.move rfl) rfl rfl <| .e (.assign rfl) rfl rfl <| .nil <| .go <| .region ?_
          refine .e (.move rfl) rfl rfl <| .e (.add rfl rfl (by first | exact wrap_succ (by omega) | exact IntWalk.i64_in _ (by omega) | exact rfl)) rfl rfl <| .e (.assign rfl) rfl rfl <| .nil <| .blk_normal ?_
          exact .mid (n + 1) ⟨by omega, by omega, hc1⟩ ⟨rfl, rfl, trivial⟩ rfl rfl (.pre 37 rfl (.app rfl .base))
    · skip
      replace h37 := of_decide_eq_false h37
      refine .e (.move rfl) rfl rfl <| .e (.neq rfl rfl) rfl rfl <| .e (.pickF rfl rfl) rfl rfl <| .nil <| .go ?_
      refine .split 40 rfl (fun h40 => ?_) (fun h40 => ?_)
      · skip
        first | replace h40 := of_decide_eq_false ((Bool.not_eq_true' _).mp h40) | replace h40 := of_decide_eq_false (by simpa using h40)
        refine .cond_true rfl <| .exit <| .exit <| .blk_other rfl <| .exit <| .exit ?_
        refine .blk_exit <| .go <| .seq <| .region <| .e (.loadW ag28 sz28 rfl (.app <| .here) rfl) rfl rfl <| .e (.move rfl) rfl rfl ?_
        refine .on rfl <| .call cal9 rfl rfl rfl (dCrashF hD0 disk_few (IntsR.mono hJ hks0) crash_at) fun v72 I72 O72 hI72 hK72 => ?_
        obtain ⟨rfl, fv72, rfl, hf72⟩ := hK72
        obtain ⟨fw72, ew72, hw72⟩ := hf72.ex
        obtain ⟨fa72, fc72, rfl, -, -, -⟩ := hw72
        cases ew72
        have hf := hf72
        refine .e (.move rfl) rfl rfl <| .e (.extract rfl rfl) rfl rfl <| .e (.extract rfl rfl) rfl rfl <| .on rfl <| .storeW sz28 rfl rfl rfl rfl rfl rfl (.app <| .here) <| .nil <| .go ?_
        refine .seq <| .region <| .e (.loadW ag28 sz28 rfl (.app <| .here) rfl) rfl rfl ?_
        obtain ⟨p1, p2, hrd⟩ : ∃ p1 p2, readR (afterD l bs ks k) fN = (p1, p2) := ⟨_, _, rfl⟩
        refine .on rfl <| .callP cal10 rfl rfl rfl ((dRead_ok hf72 (s := fN)).cast (congrArg rdV hrd)) <| .e (.move rfl) rfl rfl <| .e (.extract rfl rfl) rfl rfl <| .e (.extract rfl rfl) rfl rfl <| .e (.assign rfl) rfl rfl <| .e (.assign rfl) rfl rfl ?_
        refine .nil <| .go <| .seq <| .seq <| .region <| .e (.move rfl) rfl rfl ?_
        refine .e (.len sl22 rfl rfl) rfl rfl <| .e (.eql rfl rfl) rfl rfl <| .nil <| .go ?_
        refine .split 82 rfl (fun h82 => ?_) (fun h82 => ?_)
        · skip
          replace h82 := of_decide_eq_true h82
          obtain rfl : k = 0 := by omega
          rw [read_none] at hrd
          cases hrd
          refine .cond_true rfl <| .seq <| .region <| .e (.move rfl) rfl rfl <| .e ((EV.cast (u := .bool true) (.eql rfl rfl) (congrArg Value.bool (by decide)))) rfl rfl <| .e (.assign rfl) rfl rfl ?_
          refine .nil <| .go <| .ret <| .ret ?_
          refine .drop <| .tail ?_
          refine .back (Imm.le_trans hJ hI72) ?_
          refine Post.retE rfl rfl ?_
          rfl
        · skip
          replace h82 := of_decide_eq_false h82
          have hk0 : k ≠ 0 := by omega
          rw [read_at hk0] at hrd
          cases hrd
          refine .cond_false rfl <| .skip <| .go <| .seq <| .region ?_
          obtain ⟨_, h0, _, _⟩ | ⟨bP, cpP, csP, TP, hv5, rfl, hc1P, hc2P, hc3P, hc4P, hc5P⟩ := hoP
          · omega
          cases hv5
          simp only [@List.singleton_append (Nat × Obj)]
          refine .e (.assign rfl) rfl rfl <| .nil <| .go <| .seq <| .block ?_
          refine .loopM [6, 14, 16, 17, 18, 19, 85, 86, 87, 88, 89, 90, 91, 92, 93, 94, 95, 96, 97, 98, 99, 100, 101, 102, 103, 104, 105, 106, 107, 108, 109, 110, 111, 112, 113, 114, 115, 116, 117, 118, 119, 120, 121, 122] (fun n => k + 1 - n) (fun n => n ≤ k ∧ (catTo l n).size ≤ cutN l bs ks k) (fun n => [(16, .int .i64 n), (14, .string ((catTo l k).extract (catTo l n).size (cutN l bs ks k)))]) (fun _ => _) (fun _ => _) (0) ⟨Nat.zero_le _, Nat.zero_le _⟩ ⟨rfl, rfl, trivial⟩ rfl rfl ?_
          intro n hn
          obtain ⟨hn, hcn⟩ := hn
          refine .seq <| .seq <| .region <| .e (.move rfl) rfl rfl <| .e ((EV.cast (u := .bool true) (.eql rfl rfl) (congrArg Value.bool (by decide)))) rfl rfl <| .e (.move rfl) rfl rfl ?_
          refine .e (.move rfl) rfl rfl <| .e (.move rfl) rfl rfl <| .e (.len sl22 rfl rfl) rfl rfl <| .e ((EV.cast (u := .bool true) (.leq rfl rfl) (congrArg Value.bool (decide_eq_true (by omega))))) rfl rfl <| .e (.pickT rfl rfl) rfl rfl <| .nil ?_
          refine .go <| .cond_true rfl <| .skip <| .go <| .block <| .seq ?_
          refine .region <| .e (.move rfl) rfl rfl ?_
          have hts := take_step (bs := bs) (ks := ks) hkl0 hsz hn hcn
          obtain ⟨a, b, c, htk⟩ : ∃ a b c, takeR ((catTo l k).extract (catTo l n).size (cutN l bs ks k)) = (a, b, c) := ⟨_, _, _, rfl⟩
          rw [htk] at hts
          refine .on rfl <| .callP cal11 rfl rfl rfl ((TakeFrame_ok (cut_str (a := (catTo l n).size) (bs := bs) (ks := ks) hkl0 hk40 hsz)).cast (congrArg trio htk)) <| .e (.move rfl) rfl rfl <| .e (.extract rfl rfl) rfl rfl <| .e (.extract rfl rfl) rfl rfl <| .e (.extract rfl rfl) rfl rfl <| .e (.assign rfl) rfl rfl ?_
          refine .e (.assign rfl) rfl rfl <| .e (.assign rfl) rfl rfl <| .nil <| .go <| .seq <| .seq ?_
          refine .region <| .e (.move rfl) rfl rfl <| .e (.neq rfl rfl) rfl rfl <| .nil <| .go ?_
          refine .split 100 rfl (fun h100 => ?_) (fun h100 => ?_)
          · skip
            first | replace h100 := of_decide_eq_false ((Bool.not_eq_true' _).mp h100) | replace h100 := of_decide_eq_false (by simpa using h100)
            obtain ⟨_, _, e⟩ | ⟨e, hsn⟩ := hts
            · cases e; exact absurd rfl h100
            cases e
            refine .cond_true rfl <| .seq <| .region <| .e (.move rfl) rfl rfl <| .e ((EV.cast (u := .bool true) (.eql rfl rfl) (congrArg Value.bool (by decide)))) rfl rfl <| .e (.move rfl) rfl rfl ?_
            refine .e (.move rfl) rfl rfl <| .e (.move rfl) rfl rfl <| .e ((EV.cast (u := .bool true) (.geq rfl rfl) (congrArg Value.bool (decide_eq_true (by omega))))) rfl rfl <| .e (.pickT rfl rfl) rfl rfl <| .e (.assign rfl) rfl rfl <| .nil ?_
            refine .go <| .ret <| .ret <| .blk_ret <| .ret <| .blk_ret ?_
            refine .ret ?_
            refine .tail <| .tail ?_
            refine .back (Imm.le_trans hJ hI72) ?_
            refine Post.retE rfl rfl ?_
            rfl
          · skip
            first | replace h100 := of_decide_eq_true ((Bool.not_eq_false' _).mp h100) | replace h100 := of_decide_eq_true (by simpa using h100)
            obtain ⟨hnk, hc1, e⟩ | ⟨e, -⟩ := hts
            rotate_left
            · cases e; exact absurd h100 (by decide)
            cases e
            have hcell : csP[0 + n * 1]? = some (.string l[n]) := by
              have h9 := (hdP.2 n l[n] (by rw [List.getElem?_take_of_lt hnk, List.getElem?_eq_getElem (by omega)])).1
              have h8 : wsP[n * 1 + 0]? = some (.string l[n]) := by
                have h7 := congrArg (fun x : List Value => x[0]?) h9
                simp only [List.getElem?_take, List.getElem?_drop] at h7
                simpa using h7
              exact cellY (p := 0) hc3P h8
            refine .cond_false rfl <| .skip <| .go <| .seq <| .seq <| .region ?_
            refine .e (.move rfl) rfl rfl <| .e (.move rfl) rfl rfl <| .e (.len sl22 rfl rfl) rfl rfl <| .e ((EV.cast (u := .bool false) (.eql rfl rfl) (congrArg Value.bool (decide_eq_false (by omega))))) rfl rfl <| .e (.move rfl) rfl rfl <| .e (.move rfl) rfl rfl ?_
            refine .e (.move rfl) rfl rfl <| .e (.move rfl) rfl rfl <| .e (.indexAddrL sl22 rfl rfl rfl (by omega)) rfl rfl <| .e (.load (v := .string l[n]) ag9 rfl .here ((List.getElem?_toArray).trans hcell)) rfl rfl <| .e ((EV.cast (u := .bool false) (.strne rfl rfl) (congrArg Value.bool (by simp)))) rfl rfl <| .e (.pickF rfl rfl) rfl rfl ?_
            refine .nil <| .go <| .cond_false rfl <| .skip <| .go <| .seq ?_
            refine .region <| .e (.move rfl) rfl rfl <| .e (.assign rfl) rfl rfl <| .nil <| .go <| .region ?_
            refine .e (.move rfl) rfl rfl <| .e (.add rfl rfl (by first | exact wrap_succ (by omega) | exact IntWalk.i64_in _ (by omega) | exact rfl)) rfl rfl <| .e (.assign rfl) rfl rfl <| .nil <| .blk_normal ?_
            exact .mid (n + 1) ⟨by omega, by omega, hc1⟩ ⟨rfl, rfl, trivial⟩ rfl rfl (.pre 37 rfl (.app rfl .base))
      · skip
        first | replace h40 := of_decide_eq_true ((Bool.not_eq_false' _).mp h40) | replace h40 := of_decide_eq_true (by simpa using h40)
        subst h40
        obtain ⟨hfz1, rfl⟩ := frame_in hfr
        refine .cond_false rfl <| .skip <| .go <| .seq <| .region <| .e (.loadW ag28 sz28 rfl (.app <| .here) rfl) rfl rfl ?_
        refine .e (.move rfl) rfl rfl <| .on rfl <| .call cal7 rfl rfl rfl (dAdd_ok hD0 disk_few (show (1 : Nat) ≤ _ by decide) (by unfold StrOk; rw [frameB_size]; omega) (disk_room hkl hk40 hsz hfz1) (add_mid hkl)) fun v44 I44 O44 hI44 hK44 => ?_
        obtain ⟨rfl, fv44, rfl, hf44⟩ := hK44
        obtain ⟨fw44, ew44, hw44⟩ := hf44.ex
        obtain ⟨fa44, fc44, rfl, -, -, -⟩ := hw44
        cases ew44
        have hf := hf44
        refine .e (.move rfl) rfl rfl <| .e (.extract rfl rfl) rfl rfl <| .e (.extract rfl rfl) rfl rfl <| .on rfl <| .storeW sz28 rfl rfl rfl rfl rfl rfl (.app <| .here) <| .nil <| .go ?_
        refine .seq <| .region ?_
        have hsz' : ∀ j (hj : j < l.length), j < k + 1 → l[j].size ≤ 65536 := fun j hj h => by
          rcases Nat.lt_or_ge j k with h9 | h9
          · exact hsz j hj h9
          · obtain rfl : j = k := by omega
            exact hfz1
        refine .e (.move rfl) rfl rfl <| .e (.move rfl) rfl rfl <| .on rfl <| .buildSlice Try.underlying22 sz9 (by decide) (by decide) zv9 rfl rfl rfl rfl rfl fun c2 _ _ => .on rfl <| .append Try.underlying22 Try.underlying22 sz9 by9 zv9 rfl rfl rfl (.there <| .front) hoP ((OwnS.made (k := 1) rfl (by decide)).src (I := _) .here) rfl rfl (by omega) (by omega) rfl fun v50 ob50 ho50 => .e (.assign rfl) rfl rfl <| .nil ?_
        refine .go <| .seq <| .region <| .e (.move rfl) rfl rfl <| .e (.move rfl) rfl rfl <| .e (.len sl23 rfl rfl) rfl rfl ?_
        refine .e (.lss rfl rfl) rfl rfl <| .e (.move rfl) rfl rfl ?_
        refine .split 55 rfl (fun h55 => ?_) (fun h55 => ?_)
        · skip
          replace h55 := of_decide_eq_true h55
          refine .e (.move rfl) rfl rfl <| .e (.move rfl) rfl rfl ?_
          obtain ⟨eb58, eo58, cs58, hd58, hat58, hr58⟩ := SlR.at_ (BolsR.mono (Imm.le_trans hJ hI44) hb0) (k := k) (by omega)
          cases hd58
          obtain rfl := hr58
          refine .e (.indexAddrL sl23 rfl rfl rfl (by omega)) rfl rfl <| .e (.loadI ag4 rfl (hat58.cell (j := 0) rfl)) rfl rfl <| .e (.pickT rfl rfl) rfl rfl <| .nil <| .go ?_
          refine .split 60 rfl (fun h60 => ?_) (fun h60 => ?_)
          · skip
            refine .cond_true rfl <| .seq <| .region <| .e (.loadW ag28 sz28 rfl (.app <| .there <| .here) rfl) rfl rfl <| .on rfl <| .call cal8 rfl rfl rfl (dSync_ok hf44 mid_few (show (1 : Nat) ≤ _ by decide) (mid_sync (by rw [bolD (by omega)]; exact h60))) fun v63 I63 O63 hI63 hK63 => ?_
            obtain ⟨rfl, fv63, rfl, hf63⟩ := hK63
            obtain ⟨fw63, ew63, hw63⟩ := hf63.ex
            obtain ⟨fa63, fc63, rfl, -, -, -⟩ := hw63
            cases ew63
            have hf := hf63
            refine .e (.move rfl) rfl rfl <| .e (.extract rfl rfl) rfl rfl <| .e (.extract rfl rfl) rfl rfl <| .on rfl <| .storeW sz28 rfl rfl rfl rfl rfl rfl (.app <| .there <| .here) <| .nil <| .go ?_
            refine .region ?_
            obtain ⟨ad50, cap50, rfl⟩ := ho50.form
            refine .e (.move rfl) rfl rfl <| .e (.len sl22 rfl rfl) rfl rfl <| .e (.assign rfl) rfl rfl <| .nil <| .blk_normal <| .go ?_
            refine .region <| .e (.add rfl rfl (by first | exact wrap_succ (by omega) | exact IntWalk.i64_in _ (by omega) | exact rfl)) rfl rfl <| .e (.move rfl) rfl rfl <| .nil ?_
            refine .front1 (.app <| .here) ?_
            refine .tail ?_
            have hbt : bs.getD k false = true := by rw [bolD (by omega)]; exact h60
            have e9 := sure_sync hbt
            have hdN : DR StrR 1 I63 (wsP ++ [.string l[k]]) (l.take (k + 1)) := by rw [List.take_succ_eq_append_getElem hkl]; exact (hdP.append (DR.single rfl ⟨rfl, hs28⟩)).mono fun _ _ h => h
            exact .mid ((k + 1, _, _, _, _, I63)) ⟨by dsimp only; omega, by dsimp only; omega, by dsimp only; omega, hsz', ho50, hdN, (Imm.le_trans (Imm.le_trans hJ hI44) hI63), hf⟩ ⟨rfl, rfl, (by show some _ = some _; rw [e9]), trivial⟩ rfl rfl (.pre 55 rfl (.app rfl .base))
          · skip
            refine .cond_false rfl <| .skip <| .blk_normal <| .go <| .region <| .e (.add rfl rfl (by first | exact wrap_succ (by omega) | exact IntWalk.i64_in _ (by omega) | exact rfl)) rfl rfl ?_
            refine .e (.move rfl) rfl rfl <| .nil ?_
            refine .front1 (.app <| .here) ?_
            refine .tail ?_
            have hbt : bs.getD k false = false := by rw [bolD (by omega)]; exact h60
            have e9 := sure_skip hbt
            have hmk := mid_skip (l := l) hbt
            rw [hmk] at hf ⊢
            have hdN : DR StrR 1 I44 (wsP ++ [.string l[k]]) (l.take (k + 1)) := by rw [List.take_succ_eq_append_getElem hkl]; exact (hdP.append (DR.single rfl ⟨rfl, hs28⟩)).mono fun _ _ h => h
            exact .mid ((k + 1, _, _, _, _, I44)) ⟨by dsimp only; omega, by dsimp only; omega, by dsimp only; omega, hsz', ho50, hdN, (Imm.le_trans hJ hI44), hf⟩ ⟨rfl, rfl, (by show some _ = some _; rw [e9]), trivial⟩ rfl rfl (.pre 47 rfl (.app rfl .base))
        · skip
          replace h55 := of_decide_eq_false h55
          refine .off rfl rfl <| .off rfl rfl <| .off rfl rfl <| .off rfl rfl <| .e (.pickF rfl rfl) rfl rfl <| .nil ?_
          refine .go <| .cond_false rfl <| .skip <| .blk_normal <| .go <| .region ?_
          refine .e (.add rfl rfl (by first | exact wrap_succ (by omega) | exact IntWalk.i64_in _ (by omega) | exact rfl)) rfl rfl <| .e (.move rfl) rfl rfl <| .nil ?_
          refine .front1 (.app <| .here) ?_
          refine .tail ?_
          have hbt : bs.getD k false = false := bolN (by omega)
          have e9 := sure_skip hbt
          have hmk := mid_skip (l := l) hbt
          rw [hmk] at hf ⊢
          have hdN : DR StrR 1 I44 (wsP ++ [.string l[k]]) (l.take (k + 1)) := by rw [List.take_succ_eq_append_getElem hkl]; exact (hdP.append (DR.single rfl ⟨rfl, hs28⟩)).mono fun _ _ h => h
          exact .mid ((k + 1, _, _, _, _, I44)) ⟨by dsimp only; omega, by dsimp only; omega, by dsimp only; omega, hsz', ho50, hdN, (Imm.le_trans hJ hI44), hf⟩ ⟨rfl, rfl, (by show some _ = some _; rw [e9]), trivial⟩ rfl rfl (.pre 46 rfl (.app rfl .base))
  · skip
    replace h26 := of_decide_eq_false h26
    refine .cond_false rfl <| .exit <| .exit <| .exit <| .blk_exit <| .go ?_
    refine .seq <| .region <| .e (.loadW ag28 sz28 rfl (.app <| .here) rfl) rfl rfl <| .e (.move rfl) rfl rfl <| .on rfl <| .call cal9 rfl rfl rfl (dCrashF hD0 disk_few (IntsR.mono hJ hks0) crash_at) fun v72 I72 O72 hI72 hK72 => ?_
    obtain ⟨rfl, fv72, rfl, hf72⟩ := hK72
    obtain ⟨fw72, ew72, hw72⟩ := hf72.ex
    obtain ⟨fa72, fc72, rfl, -, -, -⟩ := hw72
    cases ew72
    have hf := hf72
    refine .e (.move rfl) rfl rfl <| .e (.extract rfl rfl) rfl rfl <| .e (.extract rfl rfl) rfl rfl <| .on rfl <| .storeW sz28 rfl rfl rfl rfl rfl rfl (.app <| .here) <| .nil <| .go ?_
    refine .seq <| .region <| .e (.loadW ag28 sz28 rfl (.app <| .here) rfl) rfl rfl ?_
    obtain ⟨p1, p2, hrd⟩ : ∃ p1 p2, readR (afterD l bs ks k) fN = (p1, p2) := ⟨_, _, rfl⟩
    refine .on rfl <| .callP cal10 rfl rfl rfl ((dRead_ok hf72 (s := fN)).cast (congrArg rdV hrd)) <| .e (.move rfl) rfl rfl <| .e (.extract rfl rfl) rfl rfl <| .e (.extract rfl rfl) rfl rfl <| .e (.assign rfl) rfl rfl <| .e (.assign rfl) rfl rfl ?_
    refine .nil <| .go <| .seq <| .seq <| .region <| .e (.move rfl) rfl rfl ?_
    refine .e (.len sl22 rfl rfl) rfl rfl <| .e (.eql rfl rfl) rfl rfl <| .nil <| .go ?_
    refine .split 82 rfl (fun h82 => ?_) (fun h82 => ?_)
    · skip
      replace h82 := of_decide_eq_true h82
      obtain rfl : k = 0 := by omega
      rw [read_none] at hrd
      cases hrd
      refine .cond_true rfl <| .seq <| .region <| .e (.move rfl) rfl rfl <| .e ((EV.cast (u := .bool true) (.eql rfl rfl) (congrArg Value.bool (by decide)))) rfl rfl <| .e (.assign rfl) rfl rfl ?_
      refine .nil <| .go <| .ret <| .ret ?_
      refine .drop <| .tail ?_
      refine .back (Imm.le_trans hJ hI72) ?_
      refine Post.retE rfl rfl ?_
      rfl
    · skip
      replace h82 := of_decide_eq_false h82
      have hk0 : k ≠ 0 := by omega
      rw [read_at hk0] at hrd
      cases hrd
      refine .cond_false rfl <| .skip <| .go <| .seq <| .region ?_
      obtain ⟨_, h0, _, _⟩ | ⟨bP, cpP, csP, TP, hv5, rfl, hc1P, hc2P, hc3P, hc4P, hc5P⟩ := hoP
      · omega
      cases hv5
      simp only [@List.singleton_append (Nat × Obj)]
      refine .e (.assign rfl) rfl rfl <| .nil <| .go <| .seq <| .block ?_
      refine .loopM [6, 14, 16, 17, 18, 19, 85, 86, 87, 88, 89, 90, 91, 92, 93, 94, 95, 96, 97, 98, 99, 100, 101, 102, 103, 104, 105, 106, 107, 108, 109, 110, 111, 112, 113, 114, 115, 116, 117, 118, 119, 120, 121, 122] (fun n => k + 1 - n) (fun n => n ≤ k ∧ (catTo l n).size ≤ cutN l bs ks k) (fun n => [(16, .int .i64 n), (14, .string ((catTo l k).extract (catTo l n).size (cutN l bs ks k)))]) (fun _ => _) (fun _ => _) (0) ⟨Nat.zero_le _, Nat.zero_le _⟩ ⟨rfl, rfl, trivial⟩ rfl rfl ?_
      intro n hn
      obtain ⟨hn, hcn⟩ := hn
      refine .seq <| .seq <| .region <| .e (.move rfl) rfl rfl <| .e ((EV.cast (u := .bool true) (.eql rfl rfl) (congrArg Value.bool (by decide)))) rfl rfl <| .e (.move rfl) rfl rfl ?_
      refine .e (.move rfl) rfl rfl <| .e (.move rfl) rfl rfl <| .e (.len sl22 rfl rfl) rfl rfl <| .e ((EV.cast (u := .bool true) (.leq rfl rfl) (congrArg Value.bool (decide_eq_true (by omega))))) rfl rfl <| .e (.pickT rfl rfl) rfl rfl <| .nil ?_
      refine .go <| .cond_true rfl <| .skip <| .go <| .block <| .seq ?_
      refine .region <| .e (.move rfl) rfl rfl ?_
      have hts := take_step (bs := bs) (ks := ks) hkl0 hsz hn hcn
      obtain ⟨a, b, c, htk⟩ : ∃ a b c, takeR ((catTo l k).extract (catTo l n).size (cutN l bs ks k)) = (a, b, c) := ⟨_, _, _, rfl⟩
      rw [htk] at hts
      refine .on rfl <| .callP cal11 rfl rfl rfl ((TakeFrame_ok (cut_str (a := (catTo l n).size) (bs := bs) (ks := ks) hkl0 hk40 hsz)).cast (congrArg trio htk)) <| .e (.move rfl) rfl rfl <| .e (.extract rfl rfl) rfl rfl <| .e (.extract rfl rfl) rfl rfl <| .e (.extract rfl rfl) rfl rfl <| .e (.assign rfl) rfl rfl ?_
      refine .e (.assign rfl) rfl rfl <| .e (.assign rfl) rfl rfl <| .nil <| .go <| .seq <| .seq ?_
      refine .region <| .e (.move rfl) rfl rfl <| .e (.neq rfl rfl) rfl rfl <| .nil <| .go ?_
      refine .split 100 rfl (fun h100 => ?_) (fun h100 => ?_)
      · skip
        first | replace h100 := of_decide_eq_false ((Bool.not_eq_true' _).mp h100) | replace h100 := of_decide_eq_false (by simpa using h100)
        obtain ⟨_, _, e⟩ | ⟨e, hsn⟩ := hts
        · cases e; exact absurd rfl h100
        cases e
        refine .cond_true rfl <| .seq <| .region <| .e (.move rfl) rfl rfl <| .e ((EV.cast (u := .bool true) (.eql rfl rfl) (congrArg Value.bool (by decide)))) rfl rfl <| .e (.move rfl) rfl rfl ?_
        refine .e (.move rfl) rfl rfl <| .e (.move rfl) rfl rfl <| .e ((EV.cast (u := .bool true) (.geq rfl rfl) (congrArg Value.bool (decide_eq_true (by omega))))) rfl rfl <| .e (.pickT rfl rfl) rfl rfl <| .e (.assign rfl) rfl rfl <| .nil ?_
        refine .go <| .ret <| .ret <| .blk_ret <| .ret <| .blk_ret ?_
        refine .ret ?_
        refine .tail <| .tail ?_
        refine .back (Imm.le_trans hJ hI72) ?_
        refine Post.retE rfl rfl ?_
        rfl
      · skip
        first | replace h100 := of_decide_eq_true ((Bool.not_eq_false' _).mp h100) | replace h100 := of_decide_eq_true (by simpa using h100)
        obtain ⟨hnk, hc1, e⟩ | ⟨e, -⟩ := hts
        rotate_left
        · cases e; exact absurd h100 (by decide)
        cases e
        have hcell : csP[0 + n * 1]? = some (.string l[n]) := by
          have h9 := (hdP.2 n l[n] (by rw [List.getElem?_take_of_lt hnk, List.getElem?_eq_getElem (by omega)])).1
          have h8 : wsP[n * 1 + 0]? = some (.string l[n]) := by
            have h7 := congrArg (fun x : List Value => x[0]?) h9
            simp only [List.getElem?_take, List.getElem?_drop] at h7
            simpa using h7
          exact cellY (p := 0) hc3P h8
        refine .cond_false rfl <| .skip <| .go <| .seq <| .seq <| .region ?_
        refine .e (.move rfl) rfl rfl <| .e (.move rfl) rfl rfl <| .e (.len sl22 rfl rfl) rfl rfl <| .e ((EV.cast (u := .bool false) (.eql rfl rfl) (congrArg Value.bool (decide_eq_false (by omega))))) rfl rfl <| .e (.move rfl) rfl rfl <| .e (.move rfl) rfl rfl ?_
        refine .e (.move rfl) rfl rfl <| .e (.move rfl) rfl rfl <| .e (.indexAddrL sl22 rfl rfl rfl (by omega)) rfl rfl <| .e (.load (v := .string l[n]) ag9 rfl .here ((List.getElem?_toArray).trans hcell)) rfl rfl <| .e ((EV.cast (u := .bool false) (.strne rfl rfl) (congrArg Value.bool (by simp)))) rfl rfl <| .e (.pickF rfl rfl) rfl rfl ?_
        refine .nil <| .go <| .cond_false rfl <| .skip <| .go <| .seq ?_
        refine .region <| .e (.move rfl) rfl rfl <| .e (.assign rfl) rfl rfl <| .nil <| .go <| .region ?_
        refine .e (.move rfl) rfl rfl <| .e (.add rfl rfl (by first | exact wrap_succ (by omega) | exact IntWalk.i64_in _ (by omega) | exact rfl)) rfl rfl <| .e (.assign rfl) rfl rfl <| .nil <| .blk_normal ?_
        exact .mid (n + 1) ⟨by omega, by omega, hc1⟩ ⟨rfl, rfl, trivial⟩ rfl rfl (.pre 37 rfl (.app rfl .base))

end Go.Proofs.Ytjoaccnfnniahaa
