/- Walks of functions over a symbolic memory, printed by a program of the session. -/
import Derived.Test.YtjoaccnfnniahaaDoorSc
namespace Go.Proofs.YtjoaccnfnniahaaDoor
open Go.Sy
set_option linter.unusedSimpArgs false
set_option linter.unusedVariables false

def fS : ByteArray := ⟨#[115, 110, 97, 112]⟩
def readOk (d : Dsk) (i : Nat) (n : ByteArray) : Prop := (i = 0 ∧ n = ⟨#[]⟩ ∧ readR d fS = (⟨#[]⟩, 6)) ∨ (0 < i ∧ i ≤ 1000 ∧ n.size ≤ 1000 ∧ readR d fS = (frameB (snB i n), 0))
theorem take_snB {i : Nat} {n : ByteArray} (hi : i ≤ 1000) (hn : n.size ≤ 1000) : takeR (frameB (snB i n)) = (snL i n, ⟨#[]⟩, 0) := by
  have h := take_frame (p := snB i n) (r := ByteArray.empty) (by have := snB_size hi hn; omega)
  rw [ByteArray.append_empty, snL_eq] at h
  rw [snL_eq]; exact h

set_option maxHeartbeats 1000000 in
set_option maxRecDepth 20000 in
theorem snDecode_ok {I : Imm} {O : Own} {i : Nat} {n : ByteArray} (hi0 : 0 < i) (hi : i ≤ 1000) (hn : n.size ≤ 1000) :
    Go.Sy.Does Tryd.prog 20 [.string (snL i n)] I O (fun u I' O' => ∃ mv, u = .tuple ⟨[.agg ⟨snV mv i n⟩, .int .i64 0]⟩ ∧ IntsR I' mv [1] ∧ O' = O) := by
  refine Go.Sy.Does.enter Tryd.func20 rfl Tryd.ntmps20 rfl ?_
  refine .seq <| .region <| .on rfl <| .alloc zr30 rfl fun c1 _ _ => .e (.assign rfl) rfl rfl <| .nil <| .go ?_
  refine .seq <| .region <| .e (.move rfl) rfl rfl <| .e (.build bs81 zv81 rfl rfl) rfl rfl <| .e (.build bs83 zv83 rfl rfl) rfl rfl <| .on rfl <| .box rfl rfl rfl fun c2 _ _ => ?_
  refine .e (.assign rfl) rfl rfl <| .nil <| .go <| .seq <| .region <| .e (.move rfl) rfl rfl ?_
  refine .on rfl <| .call cal44 rfl rfl rfl (tkSnap_ok hi0 hi hn) fun v11 I11 O11 hI11 hK11 => ?_
  obtain ⟨mv, rfl, hm, rfl⟩ := hK11
  have hmm := hm
  obtain ⟨ma, mc, rfl, -, -, -⟩ := hm
  refine .on rfl <| .alloc zr30 rfl fun c3 _ _ => .on rfl <| .storeW sz30 rfl rfl rfl rfl rfl rfl .here <| .nil <| .go <| .seq <| .seq ?_
  refine .region <| .e (.move rfl) rfl rfl <| .e (.nilCheck rfl) rfl rfl <| .e (.fieldAddr fo83_0 rfl) rfl rfl <| .e (.fieldAddr fo81_1 rfl) rfl rfl <| .e (.load ag4 rfl (.there <| .here) rfl) rfl rfl ?_
  refine .e (.move rfl) rfl rfl <| .e (.move rfl) rfl rfl <| .e (.nilCheck rfl) rfl rfl <| .e (.fieldAddr fo83_0 rfl) rfl rfl <| .e (.fieldAddr fo81_0 rfl) rfl rfl <| .e (.load ag9 rfl (.there <| .here) rfl) rfl rfl ?_
  refine .e ((EV.cast (u := .bool false) (.strne rfl rfl) (congrArg Value.bool (by simp)))) rfl rfl <| .e (.pickF rfl rfl) rfl rfl <| .nil <| .go <| .cond_false rfl <| .skip ?_
  refine .go <| .seq <| .region <| .e (.loadW ag30 sz30 rfl .here rfl) rfl rfl <| .on rfl <| .storeW sz30 rfl rfl rfl rfl rfl rfl (.there <| .there <| .here) <| .e (.assign rfl) rfl rfl ?_
  refine .nil <| .go <| .ret ?_
  refine Post.rets rfl (.agg rfl ag30 sz30 (.there <| .there <| .here) rfl (.tmp rfl .nil)) rfl hI11 (fun w h => (Sat.tail (Sat.tail (Sat.tail h)))) ?_
  exact ⟨_, rfl, hmm, rfl⟩

set_option maxHeartbeats 1000000 in
set_option maxRecDepth 20000 in
theorem snLoad0_ok {I : Imm} {O : Own} {dc : List Value} {d : Dsk} (hd : DskR I dc d) {i : Nat} {n : ByteArray} (hi : i = 0) (hn : n = ⟨#[]⟩) (h : readR d fS = (⟨#[]⟩, 6)) :
    Go.Sy.Does Tryd.prog 8 [.agg ⟨dc⟩] I O (fun u I' O' => ∃ ad len cap, u = .tuple ⟨[.agg ⟨snV (.slice ad len cap) i n⟩, .int .i64 0]⟩ ∧ O' = O) := by
  have hd0 := hd
  obtain ⟨fv, rfl, hfv⟩ := hd.ex
  have hfv0 := hfv
  obtain ⟨fa, fcap, rfl, hf1, hf2, -⟩ := hfv
  have hfz := hd0.fuse
  subst hi hn
  refine Go.Sy.Does.enter Tryd.func8 rfl Tryd.ntmps8 rfl ?_
  refine .seq <| .region <| .on rfl <| .box rfl rfl rfl fun c1 _ _ => .on rfl <| .alloc zr30 rfl fun c2 _ _ => .e (.assign rfl) rfl rfl <| .nil ?_
  refine .go <| .seq <| .region <| .e (.loadW ag27 sz27 rfl (.there <| .here) rfl) rfl rfl <| .on rfl <| .callP cal10 rfl rfl rfl ((dRead_ok hd0 (s := fS)).cast (congrArg rdV h)) <| .e (.move rfl) rfl rfl ?_
  refine .e (.extract rfl rfl) rfl rfl <| .e (.extract rfl rfl) rfl rfl <| .e (.assign rfl) rfl rfl <| .e (.assign rfl) rfl rfl <| .nil <| .go ?_
  refine .seq <| .block <| .seq <| .region <| .e (.move rfl) rfl rfl <| .e (.eql rfl rfl) rfl rfl ?_
  refine .e (.assign rfl) rfl rfl <| .nil <| .go <| .cond_true rfl <| .seq <| .region ?_
  refine .e (.build bs30 zv30 rfl rfl) rfl rfl <| .on rfl <| .storeW sz30 rfl rfl rfl rfl rfl rfl .here <| .e (.assign rfl) rfl rfl <| .nil <| .go <| .ret ?_
  refine .blk_ret <| .ret ?_
  refine Post.rets rfl (.agg rfl ag30 sz30 .here rfl (.tmp rfl .nil)) rfl (Imm.le_refl _) (fun w h => (Sat.tail (Sat.tail h))) ?_
  exact ⟨_, _, _, rfl, rfl⟩

set_option maxHeartbeats 1000000 in
set_option maxRecDepth 20000 in
theorem snLoad1_ok {I : Imm} {O : Own} {dc : List Value} {d : Dsk} (hd : DskR I dc d) {i : Nat} {n : ByteArray} (hi0 : 0 < i) (hi : i ≤ 1000) (hn : n.size ≤ 1000) (h : readR d fS = (frameB (snB i n), 0)) :
    Go.Sy.Does Tryd.prog 8 [.agg ⟨dc⟩] I O (fun u I' O' => ∃ ad len cap, u = .tuple ⟨[.agg ⟨snV (.slice ad len cap) i n⟩, .int .i64 0]⟩ ∧ O' = O) := by
  have hd0 := hd
  obtain ⟨fv, rfl, hfv⟩ := hd.ex
  have hfv0 := hfv
  obtain ⟨fa, fcap, rfl, hf1, hf2, -⟩ := hfv
  have hfz := hd0.fuse
  refine Go.Sy.Does.enter Tryd.func8 rfl Tryd.ntmps8 rfl ?_
  refine .seq <| .region <| .on rfl <| .box rfl rfl rfl fun c1 _ _ => .on rfl <| .alloc zr30 rfl fun c2 _ _ => .e (.assign rfl) rfl rfl <| .nil ?_
  refine .go <| .seq <| .region <| .e (.loadW ag27 sz27 rfl (.there <| .here) rfl) rfl rfl <| .on rfl <| .callP cal10 rfl rfl rfl ((dRead_ok hd0 (s := fS)).cast (congrArg rdV h)) <| .e (.move rfl) rfl rfl ?_
  refine .e (.extract rfl rfl) rfl rfl <| .e (.extract rfl rfl) rfl rfl <| .e (.assign rfl) rfl rfl <| .e (.assign rfl) rfl rfl <| .nil <| .go ?_
  refine .seq <| .block <| .seq <| .region <| .e (.move rfl) rfl rfl <| .e (.eql rfl rfl) rfl rfl ?_
  refine .e (.assign rfl) rfl rfl <| .nil <| .go <| .cond_false rfl <| .seq <| .region ?_
  refine .e (.move rfl) rfl rfl <| .e (.neq rfl rfl) rfl rfl <| .e (.assign rfl) rfl rfl <| .nil <| .go <| .cond_false rfl ?_
  refine .skip <| .blk_normal <| .go <| .seq <| .region <| .e (.move rfl) rfl rfl ?_
  refine .on rfl <| .callP cal19 rfl rfl rfl ((TakeFrame_ok (s := frameB (snB i n)) (by unfold StrOk; rw [frameB_size]; have := snB_size hi hn; omega)).cast (congrArg trio (take_snB hi hn))) <| .e (.move rfl) rfl rfl <| .e (.extract rfl rfl) rfl rfl <| .e (.extract rfl rfl) rfl rfl <| .e (.extract rfl rfl) rfl rfl <| .e (.assign rfl) rfl rfl ?_
  refine .e (.assign rfl) rfl rfl <| .e (.assign rfl) rfl rfl <| .nil <| .go <| .seq <| .region ?_
  refine .e (.move rfl) rfl rfl <| .on rfl <| .call cal20 rfl rfl rfl (snDecode_ok hi0 hi hn) fun v32 I32 O32 hI32 hK32 => ?_
  obtain ⟨mv, rfl, hm, rfl⟩ := hK32
  obtain ⟨ma, mc, rfl, -, -, -⟩ := hm
  refine .e (.move rfl) rfl rfl <| .e (.extract rfl rfl) rfl rfl <| .e (.extract rfl rfl) rfl rfl <| .on rfl <| .alloc zr30 rfl fun c3 _ _ => .on rfl <| .storeW sz30 rfl rfl rfl rfl rfl rfl .here <| .e (.assign rfl) rfl rfl ?_
  refine .nil <| .go <| .seq <| .seq <| .region <| .e (.move rfl) rfl rfl ?_
  refine .e (.neq rfl rfl) rfl rfl <| .e (.move rfl) rfl rfl <| .e (.move rfl) rfl rfl <| .e (.neq rfl rfl) rfl rfl <| .e (.pickF rfl rfl) rfl rfl <| .e (.move rfl) rfl rfl ?_
  refine .e (.move rfl) rfl rfl <| .e ((EV.cast (u := .bool false) (.strne rfl rfl) (congrArg Value.bool (by simp)))) rfl rfl <| .e (.pickF rfl rfl) rfl rfl <| .nil <| .go <| .cond_false rfl ?_
  refine .skip <| .go <| .seq <| .region <| .e (.loadW ag30 sz30 rfl .here rfl) rfl rfl <| .on rfl <| .storeW sz30 rfl rfl rfl rfl rfl rfl (.there <| .here) ?_
  refine .e (.assign rfl) rfl rfl <| .nil <| .go <| .ret ?_
  refine Post.rets rfl (.agg rfl ag30 sz30 (.there <| .here) rfl (.tmp rfl .nil)) rfl hI32 (fun w h => (Sat.tail (Sat.tail (Sat.tail h)))) ?_
  exact ⟨_, _, _, rfl, rfl⟩

theorem snLoad_ok {I : Imm} {O : Own} {dc : List Value} {d : Dsk} (hd : DskR I dc d) {i : Nat} {n : ByteArray} (h : readOk d i n) : Go.Sy.Does Tryd.prog 8 [.agg ⟨dc⟩] I O (fun u I' O' => ∃ ad len cap, u = .tuple ⟨[.agg ⟨snV (.slice ad len cap) i n⟩, .int .i64 0]⟩ ∧ O' = O) := by
  rcases h with ⟨h1, h2, h3⟩ | ⟨h1, h2, h3, h4⟩
  · exact snLoad0_ok hd h1 h2 h3
  · exact snLoad1_ok hd h1 h2 h3 h4

end Go.Proofs.YtjoaccnfnniahaaDoor
