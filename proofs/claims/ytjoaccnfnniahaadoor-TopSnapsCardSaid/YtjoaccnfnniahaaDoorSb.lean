/- Walks of functions over a symbolic memory, printed by a program of the session. -/
import Derived.Test.YtjoaccnfnniahaaDoorSa
import Derived.Test.YtjoaccnfnniahaaDoorBs
namespace Go.Proofs.YtjoaccnfnniahaaDoor
open Go.Sy
set_option linter.unusedSimpArgs false
set_option linter.unusedVariables false

set_option maxHeartbeats 1000000 in
set_option maxRecDepth 20000 in
theorem members1_ok {I : Imm} {O : Own} {mv : Value} (hm : IntsR I mv [1]) :
    Pure Tryd.prog 31 [mv] I O (.bool true) := by
  have hm0 := hm
  obtain ⟨ma, mcap, rfl, hm1, hm2, -⟩ := hm
  refine Go.Sy.Does.enter Tryd.func31 rfl Tryd.ntmps31 rfl ?_
  refine .seq <| .region <| .e (.assign rfl) rfl rfl <| .nil <| .go <| .seq ?_
  refine .region <| .e (.assign rfl) rfl rfl <| .nil <| .go <| .seq <| .seq ?_
  refine .region <| .e (.move rfl) rfl rfl <| .e (.len sl23 rfl rfl) rfl rfl <| .e (.move rfl) rfl rfl <| .nil <| .go ?_
  refine .block <| .unroll 1 <| .seq <| .region <| .e (.lss rfl rfl) rfl rfl <| .nil ?_
  refine .go <| .seq <| .cond_true rfl <| .skip <| .go <| .seq ?_
  refine .block <| .seq <| .region ?_
  obtain ⟨eb10, eo10, cs10, hd10, hat10, hr10⟩ := SlR.at_ hm0 (k := 0) (by decide)
  cases hd10
  obtain ⟨hq10, -⟩ := hr10
  replace hq10 : cs10 = [.int .i64 1] := hq10
  subst hq10
  refine .e (.indexAddrL sl23 rfl rfl rfl (by decide)) rfl rfl <| .e (.loadI ag3 rfl (hat10.cell (j := 0) rfl)) rfl rfl <| .e (.assign rfl) rfl rfl <| .nil <| .go <| .seq ?_
  refine .seq <| .region <| .e (.move rfl) rfl rfl <| .e (.move rfl) rfl rfl <| .e ((EV.cast (u := .bool false) (.leq rfl rfl) (congrArg Value.bool (by decide)))) rfl rfl <| .e (.move rfl) rfl rfl ?_
  refine .e (.move rfl) rfl rfl <| .e ((EV.cast (u := .bool false) (.gtr rfl rfl) (congrArg Value.bool (by decide)))) rfl rfl <| .e (.pickF rfl rfl) rfl rfl <| .nil <| .go <| .cond_false rfl ?_
  refine .skip <| .go <| .region <| .e (.move rfl) rfl rfl <| .e (.assign rfl) rfl rfl <| .nil ?_
  refine .blk_normal <| .go <| .region <| .e (.add (c := 1) rfl rfl (by decide)) rfl rfl <| .e (.move rfl) rfl rfl <| .nil ?_
  refine .again <| .seq <| .region <| .e (.lss rfl rfl) rfl rfl <| .nil <| .go ?_
  refine .seq <| .cond_false rfl <| .exit <| .exit <| .exit <| .blk_exit ?_
  refine .go <| .seq <| .region <| .e (.move rfl) rfl rfl <| .e ((EV.cast (u := .bool true) (.gtr rfl rfl) (congrArg Value.bool (by decide)))) rfl rfl <| .e (.assign rfl) rfl rfl ?_
  refine .nil <| .go <| .ret ?_
  refine Post.retE rfl rfl ?_
  rfl

set_option maxHeartbeats 1000000 in
set_option maxRecDepth 20000 in
theorem snCheck_ok {I : Imm} {O : Own} {mv : Value} (hm : IntsR I mv [1]) {i : Nat} {n : ByteArray} (hi : 0 < i) (hn : n.size ≤ 1000) :
    Pure Tryd.prog 13 [.agg ⟨snV mv i n⟩] I O (.int .i64 0) := by
  have hm0 := hm
  obtain ⟨ma, mcap, rfl, hm1, hm2, -⟩ := hm
  refine Go.Sy.Does.enter Tryd.func13 rfl Tryd.ntmps13 rfl ?_
  refine .seq <| .region <| .on rfl <| .box rfl rfl rfl fun c1 _ _ => .e (.assign rfl) rfl rfl <| .nil <| .go ?_
  refine .seq <| .region <| .e (.fieldAddr fo30_0 rfl) rfl rfl <| .e (.load ag28 rfl .here rfl) rfl rfl <| .e ((EV.cast (u := .bool false) (.eql rfl rfl) (congrArg Value.bool (decide_eq_false (by omega))))) rfl rfl <| .e (.move rfl) rfl rfl ?_
  refine .off rfl rfl <| .off rfl rfl <| .off rfl rfl <| .e (.pickF rfl rfl) rfl rfl <| .e (.move rfl) rfl rfl <| .off rfl rfl ?_
  refine .off rfl rfl <| .off rfl rfl <| .off rfl rfl <| .e (.pickF rfl rfl) rfl rfl <| .e (.move rfl) rfl rfl <| .off rfl rfl ?_
  refine .off rfl rfl <| .off rfl rfl <| .e (.pickF rfl rfl) rfl rfl <| .e (.assign rfl) rfl rfl <| .nil <| .go ?_
  refine .seq <| .seq <| .region <| .e (.move rfl) rfl rfl <| .e (.not rfl) rfl rfl <| .e (.move rfl) rfl rfl ?_
  refine .e (.fieldAddr fo30_2 rfl) rfl rfl <| .e (.load ag23 rfl .here rfl) rfl rfl <| .on rfl <| .callP cal31 rfl rfl rfl (members1_ok hm0) <| .e (.not rfl) rfl rfl <| .e (.move rfl) rfl rfl <| .e (.fieldAddr fo30_3 rfl) rfl rfl ?_
  refine .e (.load ag9 rfl .here rfl) rfl rfl <| .e (.lenS Tryd.underlying9 rfl rfl) rfl rfl <| .e ((EV.cast (u := .bool false) (.gtr rfl rfl) (congrArg Value.bool (decide_eq_false (by omega))))) rfl rfl <| .e (.pickF rfl rfl) rfl rfl <| .e (.pickT rfl rfl) rfl rfl <| .nil ?_
  refine .go <| .cond_false rfl <| .skip <| .go <| .seq <| .region ?_
  refine .e (.assign rfl) rfl rfl <| .nil <| .go <| .ret ?_
  refine .tail ?_
  refine Post.retE rfl rfl ?_
  rfl

set_option maxHeartbeats 1000000 in
set_option maxRecDepth 20000 in
theorem wints1_ok {I : Imm} {O : Own} {mv : Value} (hm : IntsR I mv [1]) :
    Pure Tryd.prog 34 [mv] I O (.string (numB 1 ++ numB 1)) := by
  have hm0 := hm
  obtain ⟨ma, mcap, rfl, hm1, hm2, -⟩ := hm
  refine Go.Sy.Does.enter Tryd.func34 rfl Tryd.ntmps34 rfl ?_
  refine .seq <| .region <| .e (.assign rfl) rfl rfl <| .nil <| .go <| .seq ?_
  refine .region <| .on rfl <| .alloc zr98 rfl fun c1 _ _ => .nil <| .go <| .seq <| .region ?_
  refine .e (.move rfl) rfl rfl <| .e (.len sl23 rfl rfl) rfl rfl <| .e ((EV.cast (u := .int .u64 ((1 : Nat) : Int)) (.conv Tryd.underlying3 Tryd.underlying28 rfl) rfl)) rfl rfl <| .on rfl <| .callP cal33 rfl rfl rfl (number_ok (n := 1) (by decide)) ?_
  refine .on rfl <| .call cal56 rfl rfl rfl (bwrite_ok Bld.new (by have := kby_le (n := 1) (by decide); rw [numB_size]; show 0 + _ ≤ _; omega)) fun v10 I10 O10 hI10 hK10 => ?_
  obtain ⟨rfl, hq10, ob10, hB10, rfl⟩ := hK10
  replace hq10 := hq10.symm
  subst hq10
  refine .nil <| .go <| .seq <| .seq <| .region <| .e (.move rfl) rfl rfl ?_
  refine .e (.len sl23 rfl rfl) rfl rfl <| .e (.move rfl) rfl rfl <| .nil <| .go <| .block <| .unroll 1 ?_
  refine .seq <| .region <| .e (.lss rfl rfl) rfl rfl <| .nil <| .go <| .seq ?_
  refine .cond_true rfl <| .skip <| .go <| .seq <| .block <| .seq ?_
  refine .region ?_
  obtain ⟨eb15, eo15, cs15, hd15, hat15, hr15⟩ := SlR.at_ hm0 (k := 0) (by decide)
  cases hd15
  obtain ⟨hq15, -⟩ := hr15
  replace hq15 : cs15 = [.int .i64 1] := hq15
  subst hq15
  refine .e (.indexAddrL sl23 rfl rfl rfl (by decide)) rfl rfl <| .e (.loadI ag3 rfl (hat15.cell (j := 0) rfl)) rfl rfl <| .e (.assign rfl) rfl rfl <| .nil <| .go <| .region ?_
  refine .e (.move rfl) rfl rfl <| .e ((EV.cast (u := .int .u64 ((1 : Nat) : Int)) (.conv Tryd.underlying3 Tryd.underlying28 rfl) rfl)) rfl rfl <| .on rfl <| .callP cal33 rfl rfl rfl (number_ok (n := 1) (by decide)) ?_
  refine .on rfl <| .call cal56 rfl rfl rfl (bwrite_ok hB10 (by have := kby_le (n := 1) (by decide); rw [ByteArray.size_append, numB_size]; show 0 + _ + _ ≤ _; omega)) fun v20 I20 O20 hI20 hK20 => ?_
  obtain ⟨rfl, hq20, ob20, hB20, rfl⟩ := hK20
  replace hq20 := hq20.symm
  subst hq20
  refine .nil <| .blk_normal <| .go <| .region <| .e (.add (c := 1) rfl rfl (by decide)) rfl rfl <| .e (.move rfl) rfl rfl ?_
  refine .nil <| .again <| .seq <| .region <| .e (.lss rfl rfl) rfl rfl <| .nil ?_
  refine .go <| .seq <| .cond_false rfl <| .exit <| .exit <| .exit ?_
  refine .blk_exit <| .go <| .seq <| .region ?_
  refine .on rfl <| .call cal57 rfl rfl rfl (bstr_ok hB20 (by rw [ByteArray.size_append, ByteArray.size_append, numB_size]; omega)) fun v22 I22 O22 hI22 hK22 => ?_
  obtain ⟨rfl, hq22, rfl⟩ := hK22
  replace hq22 := hq22.symm
  subst hq22
  refine .e (.assign rfl) rfl rfl <| .nil <| .go <| .ret ?_
  refine Post.retE rfl rfl ?_
  exact congrArg Value.string (congrArg (· ++ numB 1) ByteArray.empty_append)

set_option maxHeartbeats 4000000 in
set_option maxRecDepth 20000 in
theorem snBytes_ok {I : Imm} {O : Own} {mv : Value} (hm : IntsR I mv [1]) {i : Nat} {n : ByteArray} (hi : i ≤ 1000) (hn : n.size ≤ 1000) :
    Pure Tryd.prog 15 [.agg ⟨snV mv i n⟩] I O (.string (snB i n)) := by
  have hm0 := hm
  obtain ⟨ma, mcap, rfl, hm1, hm2, -⟩ := hm
  have hk1 := kby_le (n := i) (by omega)
  have hk2 := kby_le (n := 0) (by decide)
  have hk3 := kby_le (n := 1) (by decide)
  have hk4 := kby_le (n := n.size) (by omega)
  refine Go.Sy.Does.enter Tryd.func15 rfl Tryd.ntmps15 rfl ?_
  refine .seq <| .region <| .on rfl <| .box rfl rfl rfl fun c1 _ _ => .e (.assign rfl) rfl rfl <| .nil <| .go ?_
  refine .seq ?_
  refine .draw [(c1, _)] mixed (.cons .here .nil) ?_
  refine .t 0 rfl (.fieldAddr fo30_0 rfl) rfl rfl (by kernel_rfl) <| .t 1 rfl (.load ag28 rfl .here rfl) rfl rfl (by kernel_rfl) <| .t 3 rfl (.fieldAddr fo30_1 rfl) rfl rfl (by kernel_rfl) <| .t 4 rfl (.load ag28 rfl .here rfl) rfl rfl (by kernel_rfl) <| .t 7 rfl (.fieldAddr fo30_2 rfl) rfl rfl (by kernel_rfl) <| .t 8 rfl (.load ag23 rfl .here rfl) rfl rfl (by kernel_rfl) ?_
  refine .t 11 rfl (.fieldAddr fo30_3 rfl) rfl rfl (by kernel_rfl) <| .t 12 rfl (.load ag9 rfl .here rfl) rfl rfl (by kernel_rfl) <| .one (i := 2) (by kernel_rfl) rfl rfl <| .callP cal33 rfl rfl rfl (number_ok (n := i) (by omega)) ?_
  refine ⟨(.cons .here .nil), Imm.le_refl _, ?_⟩
  refine .one (i := 5) (by kernel_rfl) rfl rfl <| .callP cal33 rfl rfl rfl (number_ok (n := 0) (by decide)) ?_
  refine ⟨(.cons .here .nil), Imm.le_refl _, ?_⟩
  refine .t 6 rfl (.strcat rfl rfl (by rw [numB_size, numB_size]; omega)) rfl rfl (by kernel_rfl) <| .one (i := 9) (by kernel_rfl) rfl rfl <| .callP cal34 rfl rfl rfl (wints1_ok hm0) ?_
  refine ⟨(.cons .here .nil), Imm.le_refl _, ?_⟩
  refine .t 10 rfl (.strcat rfl rfl (by simp only [ByteArray.size_append, numB_size]; omega)) rfl rfl (by kernel_rfl) <| .one (i := 13) (by kernel_rfl) rfl rfl <| .callP cal35 rfl rfl rfl (text_ok (s := n) (by omega)) ?_
  refine ⟨(.cons .here .nil), Imm.le_refl _, ?_⟩
  refine .t 14 rfl (.strcat rfl rfl (by unfold textB; simp only [ByteArray.size_append, numB_size]; omega)) rfl rfl (by kernel_rfl) <| .t 15 rfl (.assign rfl) rfl rfl (by kernel_rfl) <| .done (by kernel_rfl) <| .go <| .ret ?_
  refine .tail ?_
  refine Post.retE rfl rfl ?_
  rfl

end Go.Proofs.YtjoaccnfnniahaaDoor
