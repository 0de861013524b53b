/- Walks of functions over a symbolic memory, printed by a program of the session. -/
import Derived.Test.YtjoaccnfnniahaaDoorSb
namespace Go.Proofs.YtjoaccnfnniahaaDoor
open Go.Sy
set_option linter.unusedSimpArgs false
set_option linter.unusedVariables false

theorem tkNum_ok {I : Imm} {O : Own} {c n : Nat} {T : TypeId} {r : ByteArray} (hs : StrOk (numB n ++ r)) (hn : n < 18446744073709551616) :
    Go.Sy.Does Tryd.prog 58 [.pointer (some ⟨c, 0, none⟩)] I ((c, .cells ⟨[.string (numB n ++ r), .bool false]⟩ T (0, 0)) :: O) (fun u I' O' => u = .int .u64 (n : Nat) ∧ I' = I ∧ O' = (c, .cells ⟨[.string r, .bool false]⟩ T (0, 0)) :: O) := by
  have h := tkNumber_ok (I := I) (O := O) (c := c) (T := T) (b := false) hs
  rw [tkN_num hn] at h; exact h
theorem tkTxt_ok {I : Imm} {O : Own} {c : Nat} {T : TypeId} {s r : ByteArray} (hs : StrOk (textB s ++ r)) (hn : s.size ≤ 65536) :
    Go.Sy.Does Tryd.prog 60 [.pointer (some ⟨c, 0, none⟩)] I ((c, .cells ⟨[.string (textB s ++ r), .bool false]⟩ T (0, 0)) :: O) (fun u I' O' => u = .string s ∧ I' = I ∧ O' = (c, .cells ⟨[.string r, .bool false]⟩ T (0, 0)) :: O) := by
  have h := tkText_ok (I := I) (O := O) (c := c) (T := T) (b := false) hs
  rw [tkT_text hn] at h; exact h
def snL (i : Nat) (n : ByteArray) : ByteArray := numB i ++ (numB 0 ++ (numB 1 ++ (numB 1 ++ (textB n ++ ⟨#[]⟩))))
theorem snL_eq (i : Nat) (n : ByteArray) : snB i n = snL i n := by
  have e : textB n ++ ⟨#[]⟩ = textB n := ByteArray.append_empty
  unfold snB snL
  rw [e]
  simp only [ByteArray.append_assoc]
theorem snL_str {i : Nat} {n : ByteArray} (hi : i ≤ 1000) (hn : n.size ≤ 1000) : StrOk (textB n ++ ⟨#[]⟩) ∧ StrOk (numB 1 ++ (numB 1 ++ (textB n ++ ⟨#[]⟩))) ∧ StrOk (numB 0 ++ (numB 1 ++ (numB 1 ++ (textB n ++ ⟨#[]⟩)))) ∧ StrOk (numB i ++ (numB 0 ++ (numB 1 ++ (numB 1 ++ (textB n ++ ⟨#[]⟩))))) := by
  have hk1 := kby_le (n := i) (by omega)
  have hk2 := kby_le (n := 0) (by decide)
  have hk3 := kby_le (n := 1) (by decide)
  have hk4 := kby_le (n := n.size) (by omega)
  have e : (⟨#[]⟩ : ByteArray).size = 0 := rfl
  unfold StrOk textB
  simp only [ByteArray.size_append, numB_size, e]
  omega
theorem snB_size {i : Nat} {n : ByteArray} (hi : i ≤ 1000) (hn : n.size ≤ 1000) : (snB i n).size ≤ 2000 := by
  have hk1 := kby_le (n := i) (by omega)
  have hk2 := kby_le (n := 0) (by decide)
  have hk3 := kby_le (n := 1) (by decide)
  have hk4 := kby_le (n := n.size) (by omega)
  unfold snB textB
  simp only [ByteArray.size_append, numB_size]
  omega

set_option maxHeartbeats 1000000 in
set_option maxRecDepth 20000 in
theorem tkInts1_ok {I : Imm} {O : Own} {c : Nat} {T : TypeId} {r : ByteArray} (hs : StrOk (numB 1 ++ (numB 1 ++ r))) :
    Go.Sy.Does Tryd.prog 59 [.pointer (some ⟨c, 0, none⟩)] I ((c, .cells ⟨[.string (numB 1 ++ (numB 1 ++ r)), .bool false]⟩ T (0, 0)) :: O) (fun u I' O' => O' = (c, .cells ⟨[.string r, .bool false]⟩ T (0, 0)) :: O ∧ IntsR I' u [1]) := by
  have hs2 : StrOk (numB 1 ++ r) := by unfold StrOk at *; rw [ByteArray.size_append] at hs; omega
  refine Go.Sy.Does.enter Tryd.func59 rfl Tryd.ntmps59 rfl ?_
  refine .seq <| .region <| .e (.assign rfl) rfl rfl <| .nil <| .go <| .seq ?_
  refine .region <| .e (.assign rfl) rfl rfl <| .nil <| .go <| .seq <| .region ?_
  refine .e (.move rfl) rfl rfl ?_
  refine .on rfl <| .call cal58 rfl rfl rfl (tkNum_ok hs (by decide)) fun v7 I7 O7 hI7 hK7 => ?_
  obtain ⟨rfl, hq7, rfl⟩ := hK7
  replace hq7 := hq7.symm
  subst hq7
  refine .e (.assign rfl) rfl rfl <| .nil <| .go <| .seq <| .region <| .e (.move rfl) rfl rfl ?_
  refine .e (.move rfl) rfl rfl <| .e (.nilCheck rfl) rfl rfl <| .e (.fieldAddr fo81_1 rfl) rfl rfl <| .e (.load ag4 rfl .here rfl) rfl rfl <| .e (.move rfl) rfl rfl <| .e (.move rfl) rfl rfl ?_
  refine .e (.gtr rfl rfl) rfl rfl <| .e (.pickF rfl rfl) rfl rfl <| .e (.nilCheck rfl) rfl rfl <| .e (.fieldAddr fo81_1 rfl) rfl rfl <| .on rfl <| .store sz4 rfl rfl rfl rfl rfl rfl .here <| .nil ?_
  refine .go <| .seq <| .block <| .unroll 1 <| .seq <| .seq ?_
  refine .region <| .e (.move rfl) rfl rfl <| .e (.gtr rfl rfl) rfl rfl <| .e (.move rfl) rfl rfl <| .e (.move rfl) rfl rfl <| .e (.nilCheck rfl) rfl rfl ?_
  refine .e (.fieldAddr fo81_1 rfl) rfl rfl <| .e (.load ag4 rfl .here rfl) rfl rfl <| .e (.not rfl) rfl rfl <| .e (.pickT rfl rfl) rfl rfl <| .nil <| .go ?_
  refine .cond_true rfl <| .skip <| .go <| .seq <| .block <| .seq ?_
  refine .region <| .e (.move rfl) rfl rfl ?_
  refine .on rfl <| .call cal58 rfl rfl rfl (tkNum_ok hs2 (by decide)) fun v31 I31 O31 hI31 hK31 => ?_
  obtain ⟨rfl, hq31, rfl⟩ := hK31
  replace hq31 := hq31.symm
  subst hq31
  refine .e (.assign rfl) rfl rfl <| .nil <| .go <| .seq <| .region <| .e (.move rfl) rfl rfl ?_
  refine .e (.move rfl) rfl rfl <| .e (.nilCheck rfl) rfl rfl <| .e (.fieldAddr fo81_1 rfl) rfl rfl <| .e (.load ag4 rfl .here rfl) rfl rfl <| .e (.move rfl) rfl rfl <| .e (.move rfl) rfl rfl ?_
  refine .e (.gtr rfl rfl) rfl rfl <| .e (.pickF rfl rfl) rfl rfl <| .e (.nilCheck rfl) rfl rfl <| .e (.fieldAddr fo81_1 rfl) rfl rfl <| .on rfl <| .store sz4 rfl rfl rfl rfl rfl rfl .here <| .nil ?_
  refine .go <| .region <| .e (.move rfl) rfl rfl <| .e (.move rfl) rfl rfl <| .e ((EV.cast (u := .int .i64 1) (.conv Tryd.underlying28 Tryd.underlying3 rfl) rfl)) rfl rfl <| .on rfl <| .buildSlice Tryd.underlying23 sz3 (by decide) (by decide) zv3 rfl rfl rfl rfl rfl fun c1 _ _ => ?_
  refine .on rfl <| .append Tryd.underlying23 Tryd.underlying23 sz3 by3 zv3 rfl rfl rfl .nil OwnS.nil ((OwnS.made (k := 1) rfl (by decide)).src (I := _) .here) rfl rfl (by omega) (by omega) rfl fun v47 ob47 ho47 => .e (.assign rfl) rfl rfl <| .nil <| .blk_normal <| .go <| .region ?_
  refine .e (.move rfl) rfl rfl <| .e (.sub (c := 0) rfl rfl (by decide)) rfl rfl <| .e (.assign rfl) rfl rfl <| .nil <| .again <| .seq ?_
  refine .seq <| .region <| .e (.move rfl) rfl rfl <| .e (.gtr rfl rfl) rfl rfl <| .e (.move rfl) rfl rfl <| .off rfl rfl ?_
  refine .off rfl rfl <| .off rfl rfl <| .off rfl rfl <| .off rfl rfl <| .e (.pickF rfl rfl) rfl rfl <| .nil ?_
  refine .go <| .cond_false rfl <| .exit <| .exit <| .exit <| .blk_exit ?_
  refine .go <| .seq <| .region <| .e (.move rfl) rfl rfl <| .e (.assign rfl) rfl rfl <| .nil ?_
  refine .go <| .ret ?_
  refine .freezeS ho47 fun K hK hKs => ?_
  have hy : IntsR K _ [1] := hKs (R := I64R) (DR.single rfl ⟨rfl, (show -9223372036854775808 ≤ (1 : Int) ∧ (1 : Int) ≤ 9223372036854775807 by decide)⟩) rfl
  refine .front1 (.there <| .here) ?_
  refine Post.rets rfl (.tmp rfl .nil) rfl hK (fun w h => (Sat.tail (Sat.rem h (Rem.there <| Rem.here)))) ?_
  exact ⟨rfl, hy⟩

set_option maxHeartbeats 8000000 in
set_option maxRecDepth 20000 in
theorem tkSnap_ok {I : Imm} {O : Own} {c i : Nat} {n : ByteArray} (hi0 : 0 < i) (hi : i ≤ 1000) (hn : n.size ≤ 1000) :
    Go.Sy.Does Tryd.prog 44 [.pointer (some ⟨c, 0, none⟩)] I ((c, .cells ⟨[.string (snL i n), .bool false]⟩ 83 (0, 0)) :: O) (fun u I' O' => ∃ mv, u = .agg ⟨snV mv i n⟩ ∧ IntsR I' mv [1] ∧ O' = (c, .cells ⟨[.string ⟨#[]⟩, .bool false]⟩ 83 (0, 0)) :: O) := by
  obtain ⟨hz1, hz2, hz3, hz4⟩ := snL_str hi hn
  unfold snL
  refine Go.Sy.Does.enter Tryd.func44 rfl Tryd.ntmps44 rfl ?_
  refine .seq <| .region <| .on rfl <| .alloc zr30 rfl fun c1 _ _ => .nil <| .go <| .seq ?_
  refine .draw [] mixed .nil ?_
  refine .t 0 rfl (.move rfl) rfl rfl (by kernel_rfl) <| .t 1 rfl (.nilCheck rfl) rfl rfl (by kernel_rfl) <| .t 2 rfl (.fieldAddr fo83_0 rfl) rfl rfl (by kernel_rfl) <| .t 4 rfl (.move rfl) rfl rfl (by kernel_rfl) <| .t 5 rfl (.nilCheck rfl) rfl rfl (by kernel_rfl) <| .t 6 rfl (.fieldAddr fo83_0 rfl) rfl rfl (by kernel_rfl) ?_
  refine .t 8 rfl (.move rfl) rfl rfl (by kernel_rfl) <| .t 9 rfl (.nilCheck rfl) rfl rfl (by kernel_rfl) <| .t 10 rfl (.fieldAddr fo83_0 rfl) rfl rfl (by kernel_rfl) <| .t 12 rfl (.move rfl) rfl rfl (by kernel_rfl) <| .t 13 rfl (.nilCheck rfl) rfl rfl (by kernel_rfl) <| .t 14 rfl (.fieldAddr fo83_0 rfl) rfl rfl (by kernel_rfl) ?_
  refine .all (rs := [3, 17]) (by kernel_rfl) (by simp) ⟨⟨_, rfl, .inl ⟨rfl, ?_⟩⟩, ⟨⟨_, rfl, .inl ⟨rfl, ?_⟩⟩, trivial⟩⟩
  · skip
    refine .front1 (.there <| .here) ?_
    refine .call cal58 rfl rfl rfl (tkNum_ok hz4 (by omega)) fun v7 I7 O7 hI7 hK7 => ?_
    obtain ⟨rfl, hq7, rfl⟩ := hK7
    replace hq7 := hq7.symm
    subst hq7
    refine ⟨.nil, Imm.le_refl _, ?_⟩
    refine .all (rs := [7, 17]) (by kernel_rfl) (by simp) ⟨⟨_, rfl, .inl ⟨rfl, ?_⟩⟩, ⟨⟨_, rfl, .inl ⟨rfl, ?_⟩⟩, trivial⟩⟩
    · skip
      refine .call cal58 rfl rfl rfl (tkNum_ok hz3 (by decide)) fun v11 I11 O11 hI11 hK11 => ?_
      obtain ⟨rfl, hq11, rfl⟩ := hK11
      replace hq11 := hq11.symm
      subst hq11
      refine ⟨.nil, Imm.le_refl _, ?_⟩
      refine .all (rs := [11, 17]) (by kernel_rfl) (by simp) ⟨⟨_, rfl, .inl ⟨rfl, ?_⟩⟩, ⟨⟨_, rfl, .inl ⟨rfl, ?_⟩⟩, trivial⟩⟩
      · skip
        refine .call cal59 rfl rfl rfl (tkInts1_ok hz2) fun v15 I15 O15 hI15 hK15 => ?_
        obtain ⟨rfl, hm15⟩ := hK15
        have hmm := hm15
        obtain ⟨ma15, mc15, rfl, -, -, -⟩ := hm15
        refine ⟨.nil, hI15, ?_⟩
        refine .all (rs := [15, 17]) (by kernel_rfl) (by simp) ⟨⟨_, rfl, .inl ⟨rfl, ?_⟩⟩, ⟨⟨_, rfl, .inl ⟨rfl, ?_⟩⟩, trivial⟩⟩
        · skip
          refine .call cal60 rfl rfl rfl (tkTxt_ok hz1 (by omega)) fun v19 I19 O19 hI19 hK19 => ?_
          obtain ⟨rfl, hq19, rfl⟩ := hK19
          replace hq19 := hq19.symm
          subst hq19
          refine ⟨.nil, hI15, ?_⟩
          refine .t 16 rfl (.build bs30 zv30 rfl rfl) rfl rfl (by kernel_rfl) <| .one (i := 17) (by kernel_rfl) rfl rfl <| .alloc zr30 rfl fun c2 _ _ => ?_
          refine ⟨.nil, hI15, ?_⟩
          refine .late (i := 18) (by kernel_rfl) (by kernel_rfl) (by kernel_rfl) rfl rfl <| .storeW sz30 rfl rfl rfl rfl rfl rfl .here <| .go <| .seq <| .region <| .e (.move rfl) rfl rfl <| .e (.move rfl) rfl rfl ?_
          refine .e (.nilCheck rfl) rfl rfl <| .e (.fieldAddr fo83_0 rfl) rfl rfl <| .e (.fieldAddr fo81_1 rfl) rfl rfl <| .e (.load ag4 rfl (.there <| .here) rfl) rfl rfl <| .e (.move rfl) rfl rfl <| .e (.loadW ag30 sz30 rfl .here rfl) rfl rfl ?_
          refine .on rfl <| .callP cal13 rfl rfl rfl (snCheck_ok hmm hi0 hn) <| .e (.neq rfl rfl) rfl rfl <| .e (.pickF rfl rfl) rfl rfl <| .e (.nilCheck rfl) rfl rfl <| .e (.fieldAddr fo83_0 rfl) rfl rfl <| .e (.fieldAddr fo81_1 rfl) rfl rfl ?_
          refine .on rfl <| .store sz4 rfl rfl rfl rfl rfl rfl (.there <| .here) <| .nil <| .go <| .seq <| .region <| .e (.loadW ag30 sz30 rfl .here rfl) rfl rfl ?_
          refine .on rfl <| .storeW sz30 rfl rfl rfl rfl rfl rfl (.there <| .there <| .here) <| .nil <| .go <| .ret ?_
          refine .front1 (.there <| .here) ?_
          refine Post.rets rfl (.agg rfl ag30 sz30 (.there <| .there <| .here) rfl .nil) rfl hI15 (fun w h => (Sat.tail (Sat.rem (Sat.tail (Sat.rem h (Rem.there <| Rem.here))) (Rem.there <| Rem.here)))) ?_
          exact ⟨_, rfl, hmm, rfl⟩
        · skip
          refine .alloc zr30 rfl fun c3 _ _ => ?_
          refine ⟨.nil, hI15, ?_⟩
          refine .one (i := 15) (by kernel_rfl) rfl rfl ?_
          refine .front1 (.there <| .here) ?_
          refine .call cal60 rfl rfl rfl (tkTxt_ok hz1 (by omega)) fun v19 I19 O19 hI19 hK19 => ?_
          obtain ⟨rfl, hq19, rfl⟩ := hK19
          replace hq19 := hq19.symm
          subst hq19
          refine ⟨.nil, hI15, ?_⟩
          refine .t 16 rfl (.build bs30 zv30 rfl rfl) rfl rfl (by kernel_rfl) <| .late (i := 18) (by kernel_rfl) (by kernel_rfl) (by kernel_rfl) rfl rfl <| .storeW sz30 rfl rfl rfl rfl rfl rfl (.there <| .here) <| .go <| .seq <| .region <| .e (.move rfl) rfl rfl ?_
          refine .e (.move rfl) rfl rfl <| .e (.nilCheck rfl) rfl rfl <| .e (.fieldAddr fo83_0 rfl) rfl rfl <| .e (.fieldAddr fo81_1 rfl) rfl rfl <| .e (.load ag4 rfl .here rfl) rfl rfl <| .e (.move rfl) rfl rfl ?_
          refine .e (.loadW ag30 sz30 rfl (.there <| .here) rfl) rfl rfl <| .on rfl <| .callP cal13 rfl rfl rfl (snCheck_ok hmm hi0 hn) <| .e (.neq rfl rfl) rfl rfl <| .e (.pickF rfl rfl) rfl rfl <| .e (.nilCheck rfl) rfl rfl <| .e (.fieldAddr fo83_0 rfl) rfl rfl ?_
          refine .e (.fieldAddr fo81_1 rfl) rfl rfl <| .on rfl <| .store sz4 rfl rfl rfl rfl rfl rfl .here <| .nil <| .go <| .seq <| .region ?_
          refine .e (.loadW ag30 sz30 rfl (.there <| .here) rfl) rfl rfl <| .on rfl <| .storeW sz30 rfl rfl rfl rfl rfl rfl (.there <| .there <| .here) <| .nil <| .go <| .ret ?_
          refine Post.rets rfl (.agg rfl ag30 sz30 (.there <| .there <| .here) rfl .nil) rfl hI15 (fun w h => (Sat.tail (Sat.rem (Sat.tail (Sat.rem h (Rem.there <| Rem.here))) (Rem.there <| Rem.here)))) ?_
          exact ⟨_, rfl, hmm, rfl⟩
      · skip
        refine .alloc zr30 rfl fun c4 _ _ => ?_
        refine ⟨.nil, Imm.le_refl _, ?_⟩
        refine .one (i := 11) (by kernel_rfl) rfl rfl ?_
        refine .front1 (.there <| .here) ?_
        refine .call cal59 rfl rfl rfl (tkInts1_ok hz2) fun v15 I15 O15 hI15 hK15 => ?_
        obtain ⟨rfl, hm15⟩ := hK15
        have hmm := hm15
        obtain ⟨ma15, mc15, rfl, -, -, -⟩ := hm15
        refine ⟨.nil, hI15, ?_⟩
        refine .one (i := 15) (by kernel_rfl) rfl rfl ?_
        refine .call cal60 rfl rfl rfl (tkTxt_ok hz1 (by omega)) fun v19 I19 O19 hI19 hK19 => ?_
        obtain ⟨rfl, hq19, rfl⟩ := hK19
        replace hq19 := hq19.symm
        subst hq19
        refine ⟨.nil, hI15, ?_⟩
        refine .t 16 rfl (.build bs30 zv30 rfl rfl) rfl rfl (by kernel_rfl) <| .late (i := 18) (by kernel_rfl) (by kernel_rfl) (by kernel_rfl) rfl rfl <| .storeW sz30 rfl rfl rfl rfl rfl rfl (.there <| .here) <| .go <| .seq <| .region <| .e (.move rfl) rfl rfl ?_
        refine .e (.move rfl) rfl rfl <| .e (.nilCheck rfl) rfl rfl <| .e (.fieldAddr fo83_0 rfl) rfl rfl <| .e (.fieldAddr fo81_1 rfl) rfl rfl <| .e (.load ag4 rfl .here rfl) rfl rfl <| .e (.move rfl) rfl rfl ?_
        refine .e (.loadW ag30 sz30 rfl (.there <| .here) rfl) rfl rfl <| .on rfl <| .callP cal13 rfl rfl rfl (snCheck_ok hmm hi0 hn) <| .e (.neq rfl rfl) rfl rfl <| .e (.pickF rfl rfl) rfl rfl <| .e (.nilCheck rfl) rfl rfl <| .e (.fieldAddr fo83_0 rfl) rfl rfl ?_
        refine .e (.fieldAddr fo81_1 rfl) rfl rfl <| .on rfl <| .store sz4 rfl rfl rfl rfl rfl rfl .here <| .nil <| .go <| .seq <| .region ?_
        refine .e (.loadW ag30 sz30 rfl (.there <| .here) rfl) rfl rfl <| .on rfl <| .storeW sz30 rfl rfl rfl rfl rfl rfl (.there <| .there <| .here) <| .nil <| .go <| .ret ?_
        refine Post.rets rfl (.agg rfl ag30 sz30 (.there <| .there <| .here) rfl .nil) rfl hI15 (fun w h => (Sat.tail (Sat.rem (Sat.tail (Sat.rem h (Rem.there <| Rem.here))) (Rem.there <| Rem.here)))) ?_
        exact ⟨_, rfl, hmm, rfl⟩
    · skip
      refine .alloc zr30 rfl fun c5 _ _ => ?_
      refine ⟨.nil, Imm.le_refl _, ?_⟩
      refine .one (i := 7) (by kernel_rfl) rfl rfl ?_
      refine .front1 (.there <| .here) ?_
      refine .call cal58 rfl rfl rfl (tkNum_ok hz3 (by decide)) fun v11 I11 O11 hI11 hK11 => ?_
      obtain ⟨rfl, hq11, rfl⟩ := hK11
      replace hq11 := hq11.symm
      subst hq11
      refine ⟨.nil, Imm.le_refl _, ?_⟩
      refine .one (i := 11) (by kernel_rfl) rfl rfl ?_
      refine .call cal59 rfl rfl rfl (tkInts1_ok hz2) fun v15 I15 O15 hI15 hK15 => ?_
      obtain ⟨rfl, hm15⟩ := hK15
      have hmm := hm15
      obtain ⟨ma15, mc15, rfl, -, -, -⟩ := hm15
      refine ⟨.nil, hI15, ?_⟩
      refine .one (i := 15) (by kernel_rfl) rfl rfl ?_
      refine .call cal60 rfl rfl rfl (tkTxt_ok hz1 (by omega)) fun v19 I19 O19 hI19 hK19 => ?_
      obtain ⟨rfl, hq19, rfl⟩ := hK19
      replace hq19 := hq19.symm
      subst hq19
      refine ⟨.nil, hI15, ?_⟩
      refine .t 16 rfl (.build bs30 zv30 rfl rfl) rfl rfl (by kernel_rfl) <| .late (i := 18) (by kernel_rfl) (by kernel_rfl) (by kernel_rfl) rfl rfl <| .storeW sz30 rfl rfl rfl rfl rfl rfl (.there <| .here) <| .go <| .seq <| .region <| .e (.move rfl) rfl rfl ?_
      refine .e (.move rfl) rfl rfl <| .e (.nilCheck rfl) rfl rfl <| .e (.fieldAddr fo83_0 rfl) rfl rfl <| .e (.fieldAddr fo81_1 rfl) rfl rfl <| .e (.load ag4 rfl .here rfl) rfl rfl <| .e (.move rfl) rfl rfl ?_
      refine .e (.loadW ag30 sz30 rfl (.there <| .here) rfl) rfl rfl <| .on rfl <| .callP cal13 rfl rfl rfl (snCheck_ok hmm hi0 hn) <| .e (.neq rfl rfl) rfl rfl <| .e (.pickF rfl rfl) rfl rfl <| .e (.nilCheck rfl) rfl rfl <| .e (.fieldAddr fo83_0 rfl) rfl rfl ?_
      refine .e (.fieldAddr fo81_1 rfl) rfl rfl <| .on rfl <| .store sz4 rfl rfl rfl rfl rfl rfl .here <| .nil <| .go <| .seq <| .region ?_
      refine .e (.loadW ag30 sz30 rfl (.there <| .here) rfl) rfl rfl <| .on rfl <| .storeW sz30 rfl rfl rfl rfl rfl rfl (.there <| .there <| .here) <| .nil <| .go <| .ret ?_
      refine Post.rets rfl (.agg rfl ag30 sz30 (.there <| .there <| .here) rfl .nil) rfl hI15 (fun w h => (Sat.tail (Sat.rem (Sat.tail (Sat.rem h (Rem.there <| Rem.here))) (Rem.there <| Rem.here)))) ?_
      exact ⟨_, rfl, hmm, rfl⟩
  · skip
    refine .alloc zr30 rfl fun c6 _ _ => ?_
    refine ⟨.nil, Imm.le_refl _, ?_⟩
    refine .one (i := 3) (by kernel_rfl) rfl rfl ?_
    refine .front1 (.there <| .there <| .here) ?_
    refine .call cal58 rfl rfl rfl (tkNum_ok hz4 (by omega)) fun v7 I7 O7 hI7 hK7 => ?_
    obtain ⟨rfl, hq7, rfl⟩ := hK7
    replace hq7 := hq7.symm
    subst hq7
    refine ⟨.nil, Imm.le_refl _, ?_⟩
    refine .one (i := 7) (by kernel_rfl) rfl rfl ?_
    refine .call cal58 rfl rfl rfl (tkNum_ok hz3 (by decide)) fun v11 I11 O11 hI11 hK11 => ?_
    obtain ⟨rfl, hq11, rfl⟩ := hK11
    replace hq11 := hq11.symm
    subst hq11
    refine ⟨.nil, Imm.le_refl _, ?_⟩
    refine .one (i := 11) (by kernel_rfl) rfl rfl ?_
    refine .call cal59 rfl rfl rfl (tkInts1_ok hz2) fun v15 I15 O15 hI15 hK15 => ?_
    obtain ⟨rfl, hm15⟩ := hK15
    have hmm := hm15
    obtain ⟨ma15, mc15, rfl, -, -, -⟩ := hm15
    refine ⟨.nil, hI15, ?_⟩
    refine .one (i := 15) (by kernel_rfl) rfl rfl ?_
    refine .call cal60 rfl rfl rfl (tkTxt_ok hz1 (by omega)) fun v19 I19 O19 hI19 hK19 => ?_
    obtain ⟨rfl, hq19, rfl⟩ := hK19
    replace hq19 := hq19.symm
    subst hq19
    refine ⟨.nil, hI15, ?_⟩
    refine .t 16 rfl (.build bs30 zv30 rfl rfl) rfl rfl (by kernel_rfl) <| .late (i := 18) (by kernel_rfl) (by kernel_rfl) (by kernel_rfl) rfl rfl <| .storeW sz30 rfl rfl rfl rfl rfl rfl (.there <| .here) <| .go <| .seq <| .region <| .e (.move rfl) rfl rfl ?_
    refine .e (.move rfl) rfl rfl <| .e (.nilCheck rfl) rfl rfl <| .e (.fieldAddr fo83_0 rfl) rfl rfl <| .e (.fieldAddr fo81_1 rfl) rfl rfl <| .e (.load ag4 rfl .here rfl) rfl rfl <| .e (.move rfl) rfl rfl ?_
    refine .e (.loadW ag30 sz30 rfl (.there <| .here) rfl) rfl rfl <| .on rfl <| .callP cal13 rfl rfl rfl (snCheck_ok hmm hi0 hn) <| .e (.neq rfl rfl) rfl rfl <| .e (.pickF rfl rfl) rfl rfl <| .e (.nilCheck rfl) rfl rfl <| .e (.fieldAddr fo83_0 rfl) rfl rfl ?_
    refine .e (.fieldAddr fo81_1 rfl) rfl rfl <| .on rfl <| .store sz4 rfl rfl rfl rfl rfl rfl .here <| .nil <| .go <| .seq <| .region ?_
    refine .e (.loadW ag30 sz30 rfl (.there <| .here) rfl) rfl rfl <| .on rfl <| .storeW sz30 rfl rfl rfl rfl rfl rfl (.there <| .there <| .here) <| .nil <| .go <| .ret ?_
    refine Post.rets rfl (.agg rfl ag30 sz30 (.there <| .there <| .here) rfl .nil) rfl hI15 (fun w h => (Sat.tail (Sat.rem (Sat.tail (Sat.rem h (Rem.there <| Rem.here))) (Rem.there <| Rem.here)))) ?_
    exact ⟨_, rfl, hmm, rfl⟩

end Go.Proofs.YtjoaccnfnniahaaDoor
