/- Walks of functions over a symbolic memory, printed by a program of the session. -/
import Derived.Test.YtgiddbcadhigcaaNa
namespace Go.Proofs.Ytgiddbcadhigcaa
open Go.Sy
set_option linter.unusedSimpArgs false
set_option linter.unusedVariables false

set_option maxHeartbeats 1000000 in
set_option maxRecDepth 20000 in
theorem clonePkt_ok {I : Imm} {O : Own} {v : Value} {l : List Pkt} (hl : PktsR I v l) (hL : l.length * 32 ≤ 140737488351232) :
    Go.Sy.Does Try.prog 22 [v] I O (fun u I' O' => I' = I ∧ ∃ ws ob, OwnS 3 u l.length ws ob ∧ DR PktR 3 I ws l ∧ O' = ob ++ O) := by
  have hl0 := hl
  obtain ⟨la, lcap, rfl, hl1, hl2, -⟩ := hl
  obtain ⟨ws, hs, hd⟩ := SlR.src (B := []) (fun _ _ h => PktR.len h) hl0
  refine Go.Sy.Does.enter Try.func22 rfl Try.ntmps22 rfl ?_
  refine .seq <| .region <| .e (.assign rfl) rfl rfl <| .nil <| .go <| .seq ?_
  refine .seq <| .region <| .e (.move rfl) rfl rfl <| .e (.eqv (.nilSlice Try.underlying22) rfl rfl) rfl rfl <| .nil <| .go ?_
  refine .split 4 rfl (fun h4 => ?_) (fun h4 => ?_)
  · skip
    obtain rfl : la = none := by cases la <;> first | rfl | cases h4
    obtain rfl := hl0.ofNil
    refine .cond_true rfl <| .seq <| .region <| .e (.assign rfl) rfl rfl <| .nil <| .go ?_
    refine .ret <| .ret ?_
    refine Post.ret1 rfl rfl (Imm.le_refl _) ⟨rfl, [], [], OwnS.nil, DR.nil, rfl⟩
  · skip
    refine .cond_false rfl <| .skip <| .go <| .seq <| .region <| .on rfl <| .buildSlice Try.underlying22 sz30 (by decide) (by decide) zv30 rfl rfl rfl rfl rfl fun c1 _ _ => ?_
    refine .e (.move rfl) rfl rfl <| .on rfl <| .append Try.underlying22 Try.underlying22 sz30 by30 zv30 rfl rfl rfl .here (OwnS.made rfl (by decide)) hs.any hd.1 (hd.ones (by decide) (fun _ _ h => PktR.ones h)) (by omega) (by omega) rfl fun v7 ob7 ho7 => .e (.assign rfl) rfl rfl <| .nil <| .go <| .ret ?_
    refine Post.ret1 rfl rfl (Imm.le_refl _) ⟨rfl, ws, ob7, ?_, hd, rfl⟩
    rw [Nat.zero_add] at ho7
    exact ho7

set_option maxHeartbeats 1000000 in
set_option maxRecDepth 20000 in
theorem copyNet_ok {I : Imm} {O : Own} {cs : List Value} {l : List Pkt} (hn : NetR I cs l) (hL : l.length * 32 ≤ 140737488351232) :
    Go.Sy.Does Try.prog 7 [.agg ⟨cs⟩] I O (fun u I' O' => I' = I ∧ ∃ v ws ob, u = .agg ⟨[v]⟩ ∧ OwnS 3 v l.length ws ob ∧ DR PktR 3 I ws l ∧ O' = ob ++ O) := by
  obtain ⟨nv, rfl, hnv⟩ := hn
  have hn0 := hnv
  obtain ⟨na, ncap, rfl, hn1, hn2, -⟩ := hnv
  obtain ⟨ws, hs, hd⟩ := SlR.src (B := []) (fun _ _ h => PktR.len h) hn0
  refine Go.Sy.Does.enter Try.func7 rfl Try.ntmps7 rfl ?_
  refine .seq <| .region <| .on rfl <| .box rfl rfl rfl fun c1 _ _ => .on rfl <| .alloc zr24 rfl fun c2 _ _ => .nil <| .go ?_
  refine .seq <| .region <| .on rfl <| .buildSlice Try.underlying22 sz30 (by decide) (by decide) zv30 rfl rfl rfl rfl rfl fun c3 _ _ => .e (.fieldAddr fo24_0 rfl) rfl rfl <| .e (.load ag22 rfl (.there <| .there <| .here) rfl) rfl rfl <| .on rfl <| .append Try.underlying22 Try.underlying22 sz30 by30 zv30 rfl rfl rfl .here (OwnS.made rfl (by decide)) hs.any hd.1 (hd.ones (by decide) (fun _ _ h => PktR.ones h)) (by omega) (by omega) rfl fun v6 ob6 ho6 => ?_
  rw [Nat.zero_add] at ho6
  obtain ⟨ad6, cap6, rfl⟩ := ho6.form
  refine .e (.build bs24 zv24 rfl rfl) rfl rfl <| .on rfl <| .storeW sz24 rfl rfl rfl rfl rfl rfl (.app <| .here) <| .nil <| .go <| .ret ?_
  refine Post.rets rfl (.agg rfl ag24 sz24 (.app <| .here) rfl .nil) rfl (Imm.le_refl _) (fun w h => (Sat.tail (Sat.rem (Sat.tail (Sat.rem h (Rem.app <| Rem.here))) (Rem.app <| Rem.here)))) ?_
  exact ⟨rfl, _, _, ob6, rfl, ho6, hd, rfl⟩

set_option maxHeartbeats 1000000 in
set_option maxRecDepth 20000 in
theorem del_ok {I : Imm} {O : Own} {ad : Option Addr} {cap : Nat} {l : List Pkt} {ws : List Value} {ob : Own} {i j : Nat} (ho : OwnS 3 (.slice ad l.length cap) l.length ws ob) (hd : DR PktR 3 I ws l) (hij : i < j) (hj : j ≤ l.length) {a b : Int} (ha : a = (i : Int)) (hb : b = (j : Int)) :
    Go.Sy.Does Try.prog 24 [.slice ad l.length cap, .int .i64 a, .int .i64 b] I (ob ++ O) (fun u I' O' => I' = I ∧ ∃ ws' ob', OwnS 3 u (l.take i ++ l.drop j).length ws' ob' ∧ DR PktR 3 I ws' (l.take i ++ l.drop j) ∧ O' = ob' ++ O) := by
  have hcap := ho.capLe
  refine Go.Sy.Does.enter Try.func24 rfl Try.ntmps24 rfl ?_
  refine .seq <| .region <| .e (.assign rfl) rfl rfl <| .nil <| .go <| .seq ?_
  refine .region <| .e (.move rfl) rfl rfl <| .e (.move rfl) rfl rfl <| .e (.move rfl) rfl rfl <| .e (.move rfl) rfl rfl <| .e (.len sl22 rfl rfl) rfl rfl ?_
  refine .e (.slice3L sl22 rfl rfl rfl rfl ha hb rfl (by omega) hj hcap) rfl rfl <| .nil <| .go <| .seq <| .seq <| .region ?_
  refine .e (.move rfl) rfl rfl <| .e (.move rfl) rfl rfl <| .e (.eql rfl rfl) rfl rfl <| .nil <| .go ?_
  refine .split 16 rfl (fun h16 => ?_) (fun h16 => ?_)
  · skip
    replace h16 := of_decide_eq_true h16
    exact absurd h16 (by omega)
  · skip
    replace h16 := of_decide_eq_false h16
    refine .cond_false rfl <| .skip <| .go <| .seq <| .region <| .e (.move rfl) rfl rfl ?_
    refine .e (.len sl22 rfl rfl) rfl rfl <| .e (.assign rfl) rfl rfl <| .nil <| .go <| .seq ?_
    refine .draw [] mixed .nil ?_
    refine .t 0 rfl (.move rfl) rfl rfl (by kernel_rfl) <| .t 1 rfl (.move rfl) rfl rfl (by kernel_rfl) <| .t 2 rfl (.sliceHn sl22 rfl rfl ha (by omega)) rfl rfl (by kernel_rfl) <| .t 3 rfl (.move rfl) rfl rfl (by kernel_rfl) <| .t 4 rfl (.move rfl) rfl rfl (by kernel_rfl) <| .t 5 rfl (.sliceL sl22 rfl rfl hb hj) rfl rfl (by kernel_rfl) ?_
    refine .one (i := 6) (by kernel_rfl) rfl rfl ?_
    have hoT := ho.takeN (h := i) (by omega)
    refine .appendIn Try.underlying22 Try.underlying22 sz30 rfl rfl .front hoT (ho.srcFrom .front hj) (by rw [(hd.drop hj).1, List.length_drop]) ((hd.drop (l := j) (by omega)).ones (by decide) fun _ _ h => PktR.ones h) (by omega) rfl fun ob26 ho26 => ?_
    refine ⟨.nil, Imm.le_refl _, ?_⟩
    refine .t 7 rfl (.assign rfl) rfl rfl (by kernel_rfl) <| .done (by kernel_rfl) <| .go <| .seq <| .region <| .e (.move rfl) rfl rfl ?_
    refine .e (.move rfl) rfl rfl <| .e (.len sl22 rfl rfl) rfl rfl <| .e (.move rfl) rfl rfl <| .e (.sliceLH sl22 rfl rfl rfl rfl rfl (by omega) (by omega)) rfl rfl <| .on rfl <| .clear Try.underlying22 zv30 rfl rfl rfl rfl .front ho26 (Nat.le_refl _) (by omega) (by omega) rfl fun ob33 ho33 => .nil ?_
    refine .go <| .seq <| .region <| .e (.move rfl) rfl rfl <| .e (.assign rfl) rfl rfl <| .nil ?_
    refine .go <| .ret ?_
    refine Post.rets rfl (.tmp rfl .nil) rfl (Imm.le_refl _) (fun w h => h) ?_
    have hlen : (l.take i ++ l.drop j).length = i + (l.length - j) := by rw [List.length_append, List.length_take, List.length_drop]; omega
    exact ⟨rfl, _, ob33, by rw [hlen]; exact ho33, (hd.take (by omega)).append (hd.drop hj), rfl⟩

end Go.Proofs.Ytgiddbcadhigcaa
