/- Walks of functions over a symbolic memory, printed by a program of the session. -/
import Derived.Test.YtgiddbcadhigcaaNd
namespace Go.Proofs.Ytgiddbcadhigcaa
open Go.Sy
set_option linter.unusedSimpArgs false
set_option linter.unusedVariables false

def FP (U : Value → Value) (xs : List Pkt) (O : Own) : Value → Imm → Own → Prop := fun u I' O' => O' = O ∧ ∃ v, u = U v ∧ PktsR I' v xs
def FPX (U : Value → Value) (xs : List Pkt) (X : Prop) (O : Own) : Value → Imm → Own → Prop := fun u I' O' => O' = O ∧ ∃ v, u = U v ∧ X ∧ PktsR I' v xs
theorem frzRes {P : Program} {f : FuncId} {vs : List Value} {I : Imm} {O : Own} {U : Value → Value} {xs : List Pkt} (h : Go.Sy.Does P f vs I O fun u I' O' => I' = I ∧ ∃ v ws ob, u = U v ∧ OwnS 3 v xs.length ws ob ∧ DR PktR 3 I ws xs ∧ O' = ob ++ O) :
    Go.Sy.Does P f vs I O (FP U xs O) := fun w hw => (h w hw).mono fun e w' ⟨u, I', O', he, hI, hs, hK⟩ => by
  obtain ⟨rfl, v, ws, ob, rfl, ho, hd, rfl⟩ := hK
  obtain ⟨J, hJ, hr, hs2⟩ := frzS ho hs
  exact ⟨_, J, O, he, hJ, hs2, rfl, v, rfl, hr (R := PktR) (hd.mono fun _ _ h => h) rfl⟩
theorem frzResX {P : Program} {f : FuncId} {vs : List Value} {I : Imm} {O : Own} {U : Value → Value} {xs : List Pkt} {X : Prop} (h : Go.Sy.Does P f vs I O fun u I' O' => I' = I ∧ ∃ v ws ob, u = U v ∧ X ∧ OwnS 3 v xs.length ws ob ∧ DR PktR 3 I ws xs ∧ O' = ob ++ O) :
    Go.Sy.Does P f vs I O (FPX U xs X O) := fun w hw => (h w hw).mono fun e w' ⟨u, I', O', he, hI, hs, hK⟩ => by
  obtain ⟨rfl, v, ws, ob, rfl, hX, ho, hd, rfl⟩ := hK
  obtain ⟨J, hJ, hr, hs2⟩ := frzS ho hs
  exact ⟨_, J, O, he, hJ, hs2, rfl, v, rfl, hX, hr (R := PktR) (hd.mono fun _ _ h => h) rfl⟩
theorem netMk {I : Imm} {v : Value} {l : List Pkt} (h : PktsR I v l) : NetR I [v] l := ⟨v, rfl, h⟩
theorem netNil {I : Imm} : NetR I [.slice none 0 0] [] := ⟨_, rfl, SlR.nil⟩
section
variable {I : Imm} {O : Own} {cs : List Value} {n : List Pkt} (hn : NetR I cs n)
include hn
theorem copyF (hL : n.length * 32 ≤ 140737488351232) : Go.Sy.Does Try.prog 7 [.agg ⟨cs⟩] I O (FP (fun v => .agg ⟨[v]⟩) n O) := frzRes (copyNet_ok hn hL)
theorem sendF {v : Value} {l : List Pkt} (hl : PktsR I v l) : Go.Sy.Does Try.prog 8 [.agg ⟨cs⟩, v] I O (FP (fun v => .tuple ⟨[.agg ⟨[v]⟩, .int .i64 (sendR n l).2.1, .int .i64 (sendR n l).2.2]⟩) (sendR n l).1 O) := frzRes (U := fun v => .tuple ⟨[.agg ⟨[v]⟩, .int .i64 (sendR n l).2.1, .int .i64 (sendR n l).2.2]⟩) (nSend_ok hn hl)
theorem rsendF {v : Value} {l : List Pkt} (hl : PktsR I v l) : Go.Sy.Does Try.prog 9 [.agg ⟨cs⟩, v] I O (FP (fun v => .tuple ⟨[.agg ⟨[v]⟩, .int .i64 (sendR n l).2.1, .int .i64 (sendR n l).2.2]⟩) (sendR n l).1 O) := frzRes (U := fun v => .tuple ⟨[.agg ⟨[v]⟩, .int .i64 (sendR n l).2.1, .int .i64 (sendR n l).2.2]⟩) (rnSend_ok hn hl)
theorem giveF {i : Int} (hi : I64 i) : Go.Sy.Does Try.prog 10 [.agg ⟨cs⟩, .int .i64 i] I O (FPX (fun v => .tuple ⟨[.agg ⟨[v]⟩, .agg ⟨(giveR n i).2.1.cells⟩, .int .i64 (giveR n i).2.2]⟩) (giveR n i).1 (PktR I (giveR n i).2.1.cells (giveR n i).2.1) O) := frzResX (U := fun v => .tuple ⟨[.agg ⟨[v]⟩, .agg ⟨(giveR n i).2.1.cells⟩, .int .i64 (giveR n i).2.2]⟩) (nGive_ok hn hi)
theorem rgiveF {i : Int} (hi : I64 i) : Go.Sy.Does Try.prog 11 [.agg ⟨cs⟩, .int .i64 i] I O (FPX (fun v => .tuple ⟨[.agg ⟨[v]⟩, .agg ⟨(giveR n i).2.1.cells⟩, .int .i64 (giveR n i).2.2]⟩) (giveR n i).1 (PktR I (giveR n i).2.1.cells (giveR n i).2.1) O) := frzResX (U := fun v => .tuple ⟨[.agg ⟨[v]⟩, .agg ⟨(giveR n i).2.1.cells⟩, .int .i64 (giveR n i).2.2]⟩) (rnGive_ok hn hi)
theorem twiceF {i : Int} (hi : I64 i) : Go.Sy.Does Try.prog 14 [.agg ⟨cs⟩, .int .i64 i] I O (FP (fun v => .tuple ⟨[.agg ⟨[v]⟩, .int .i64 (twiceR n i).2]⟩) (twiceR n i).1 O) := frzRes (U := fun v => .tuple ⟨[.agg ⟨[v]⟩, .int .i64 (twiceR n i).2]⟩) (nTwice_ok hn hi)
theorem rtwiceF {i : Int} (hi : I64 i) : Go.Sy.Does Try.prog 15 [.agg ⟨cs⟩, .int .i64 i] I O (FP (fun v => .tuple ⟨[.agg ⟨[v]⟩, .int .i64 (twiceR n i).2]⟩) (twiceR n i).1 O) := frzRes (U := fun v => .tuple ⟨[.agg ⟨[v]⟩, .int .i64 (twiceR n i).2]⟩) (rnTwice_ok hn hi)
theorem takeF  : Go.Sy.Does Try.prog 16 [.agg ⟨cs⟩] I O (FP (fun v => .tuple ⟨[v, .agg ⟨[.slice none 0 0]⟩, .int .i64 (takeR n).2]⟩) (takeR n).1 O) := frzRes (U := fun v => .tuple ⟨[v, .agg ⟨[.slice none 0 0]⟩, .int .i64 (takeR n).2]⟩) (nTake_ok hn)
theorem rtakeF  : Go.Sy.Does Try.prog 17 [.agg ⟨cs⟩] I O (FP (fun v => .tuple ⟨[v, .agg ⟨[.slice none 0 0]⟩, .int .i64 (takeR n).2]⟩) (takeR n).1 O) := frzRes (U := fun v => .tuple ⟨[v, .agg ⟨[.slice none 0 0]⟩, .int .i64 (takeR n).2]⟩) (rnTake_ok hn)
end
def pa : Pkt := ⟨1, 2, ⟨#[97]⟩⟩
def pb : Pkt := ⟨2, 1, ⟨#[98]⟩⟩
def pz : Pkt := ⟨1, 1, ⟨#[]⟩⟩
theorem paR {I : Imm} : PktR I pa.cells pa := ⟨rfl, by unfold I64 pa; decide, by unfold I64 pa; decide, by unfold StrOk pa; decide⟩
theorem pbR {I : Imm} : PktR I pb.cells pb := ⟨rfl, by unfold I64 pb; decide, by unfold I64 pb; decide, by unfold StrOk pb; decide⟩
theorem pzR {I : Imm} : PktR I pz.cells pz := ⟨rfl, by unfold I64 pz; decide, by unfold I64 pz; decide, by unfold StrOk pz; decide⟩
theorem nl1 : sendR [] [pa, pz, pb] = ([pa, pb], 2, 0) := by decide +kernel
theorem nl2 : twiceR [pa, pb] 0 = ([pa, pb, pa], 0) := by decide +kernel
theorem nl3 : giveR [pa, pb, pa] 1 = ([pa, pa], pb, 0) := by decide +kernel
theorem nl4 : takeR [pa, pa] = ([pa, pa], 0) := by decide +kernel
theorem nl5 : giveR [] 0 = ([], pkt0, 1) := by decide +kernel
theorem i64n (k : Nat) (h : k ≤ 100) : I64 (k : Int) := by unfold I64; omega

set_option maxHeartbeats 4000000 in
set_option maxRecDepth 20000 in
theorem lives_ok {I : Imm} {O : Own}  :
    Pure Try.prog 12 [] I O (.bool true) := by
  refine Go.Sy.Does.enter Try.func12 rfl Try.ntmps12 rfl ?_
  refine .seq <| .region <| .e (.assign rfl) rfl rfl <| .nil <| .go <| .seq ?_
  refine .region <| .e (.build bs30 zv30 rfl rfl) rfl rfl <| .e (.build bs30 zv30 rfl rfl) rfl rfl <| .on rfl <| .alloc zr30 rfl fun c1 _ _ => .on rfl <| .alloc zr30 rfl fun c2 _ _ => .on rfl <| .storeW sz30 rfl rfl rfl rfl rfl rfl (.there <| .here) ?_
  refine .on rfl <| .storeW sz30 rfl rfl rfl rfl rfl rfl .here <| .nil <| .go <| .seq <| .region <| .e (.build bs24 zv24 rfl rfl) rfl rfl ?_
  refine .e (.loadW ag30 sz30 rfl (.there <| .here) rfl) rfl rfl <| .e (.build bs30 zv30 rfl rfl) rfl rfl <| .e (.loadW ag30 sz30 rfl .here rfl) rfl rfl <| .on rfl <| .buildSlice Try.underlying22 sz30 (by decide) (by decide) zv30 rfl rfl rfl rfl rfl fun c3 _ _ => ?_
  refine .freeze fun J hJ hJb => ?_
  refine .on rfl <| .call cal8 rfl rfl rfl (sendF (n := []) (l := [pa, pz, pb]) netNil (SlR.ofRow hJb (show DR PktR 3 J _ ([pa] ++ ([pz] ++ [pb])) from (DR.single rfl paR).append ((DR.single rfl pzR).append (DR.single rfl pbR))) rfl (by decide) (by decide))) fun v23 I23 O23 hI23 hK23 => ?_
  rw [nl1] at hK23
  obtain ⟨rfl, v23, rfl, hp23⟩ := hK23
  have hp23' := hp23
  obtain ⟨a23, q23, rfl, -⟩ := hp23'
  refine .e (.move rfl) rfl rfl <| .e (.extract rfl rfl) rfl rfl <| .e (.extract rfl rfl) rfl rfl <| .e (.extract rfl rfl) rfl rfl <| .on rfl <| .alloc zr24 rfl fun c4 _ _ => .on rfl <| .storeW sz24 rfl rfl rfl rfl rfl rfl .here ?_
  refine .e (.assign rfl) rfl rfl <| .e (.assign rfl) rfl rfl <| .nil <| .go <| .seq <| .region ?_
  refine .e (.loadW ag24 sz24 rfl .here rfl) rfl rfl <| .on rfl <| .call cal14 rfl rfl rfl (twiceF (i := 0) (netMk hp23) (i64n 0 (by decide))) fun v29 I29 O29 hI29 hK29 => ?_
  rw [nl2] at hK29
  obtain ⟨rfl, v29, rfl, hp29⟩ := hK29
  have hp29' := hp29
  obtain ⟨a29, q29, rfl, -⟩ := hp29'
  refine .e (.move rfl) rfl rfl <| .e (.extract rfl rfl) rfl rfl <| .e (.extract rfl rfl) rfl rfl <| .on rfl <| .storeW sz24 rfl rfl rfl rfl rfl rfl .here <| .e (.assign rfl) rfl rfl <| .nil ?_
  refine .go <| .seq <| .region <| .e (.loadW ag24 sz24 rfl .here rfl) rfl rfl <| .on rfl <| .call cal10 rfl rfl rfl (giveF (i := 1) (netMk hp29) (i64n 1 (by decide))) fun v34 I34 O34 hI34 hK34 => ?_
  rw [nl3] at hK34
  obtain ⟨rfl, v34, rfl, hX34, hp34⟩ := hK34
  have hp34' := hp34
  obtain ⟨a34, q34, rfl, -⟩ := hp34'
  refine .e (.move rfl) rfl rfl <| .e (.extract rfl rfl) rfl rfl <| .e (.extract rfl rfl) rfl rfl <| .e (.extract rfl rfl) rfl rfl <| .on rfl <| .alloc zr30 rfl fun c5 _ _ => .on rfl <| .storeW sz24 rfl rfl rfl rfl rfl rfl (.there <| .here) ?_
  refine .on rfl <| .storeW sz30 rfl rfl rfl rfl rfl rfl .here <| .e (.assign rfl) rfl rfl <| .nil <| .go <| .seq <| .region ?_
  refine .e (.loadW ag24 sz24 rfl (.there <| .here) rfl) rfl rfl <| .on rfl <| .call cal16 rfl rfl rfl (takeF (netMk hp34)) fun v40 I40 O40 hI40 hK40 => ?_
  rw [nl4] at hK40
  obtain ⟨rfl, v40, rfl, hp40⟩ := hK40
  have hp40' := hp40
  obtain ⟨a40, q40, rfl, -⟩ := hp40'
  refine .e (.move rfl) rfl rfl <| .e (.extract rfl rfl) rfl rfl <| .e (.extract rfl rfl) rfl rfl <| .e (.extract rfl rfl) rfl rfl <| .on rfl <| .alloc zr24 rfl fun c6 _ _ => .e (.assign rfl) rfl rfl ?_
  refine .on rfl <| .storeW sz24 rfl rfl rfl rfl rfl rfl .here <| .e (.assign rfl) rfl rfl <| .nil <| .go <| .seq <| .region ?_
  refine .e (.loadW ag24 sz24 rfl .here rfl) rfl rfl <| .on rfl <| .call cal10 rfl rfl rfl (giveF (i := 0) netNil (i64n 0 (by decide))) fun v46 I46 O46 hI46 hK46 => ?_
  rw [nl5] at hK46
  obtain ⟨rfl, v46, rfl, hX46, hp46⟩ := hK46
  have hp46' := hp46
  obtain ⟨a46, q46, rfl, -⟩ := hp46'
  refine .e (.move rfl) rfl rfl <| .e (.extract rfl rfl) rfl rfl <| .e (.extract rfl rfl) rfl rfl <| .e (.extract rfl rfl) rfl rfl <| .on rfl <| .alloc zr24 rfl fun c7 _ _ => .on rfl <| .alloc zr30 rfl fun c8 _ _ => ?_
  refine .on rfl <| .storeW sz24 rfl rfl rfl rfl rfl rfl (.there <| .here) <| .on rfl <| .storeW sz30 rfl rfl rfl rfl rfl rfl .here <| .e (.assign rfl) rfl rfl <| .nil <| .go <| .seq ?_
  refine .draw [(c5, _), (c2, _), (c1, _)] mixed (.cons (.there <| .there <| .there <| .here) (.cons (.there <| .there <| .there <| .there <| .there <| .here) (.cons (.there <| .there <| .there <| .there <| .there <| .there <| .here) .nil))) ?_
  refine .t 0 rfl (.move rfl) rfl rfl (by kernel_rfl) <| .t 1 rfl (.eql rfl rfl) rfl rfl (by kernel_rfl) <| .t 2 rfl (.move rfl) rfl rfl (by kernel_rfl) <| .t 3 rfl (.move rfl) rfl rfl (by kernel_rfl) <| .t 4 rfl (.eql rfl rfl) rfl rfl (by kernel_rfl) <| .t 5 rfl (.pickT rfl rfl) rfl rfl (by kernel_rfl) ?_
  refine .t 6 rfl (.move rfl) rfl rfl (by kernel_rfl) <| .t 7 rfl (.move rfl) rfl rfl (by kernel_rfl) <| .t 8 rfl (.eql rfl rfl) rfl rfl (by kernel_rfl) <| .t 9 rfl (.pickT rfl rfl) rfl rfl (by kernel_rfl) <| .t 10 rfl (.move rfl) rfl rfl (by kernel_rfl) <| .t 11 rfl (.loadW ag30 sz30 rfl .here rfl) rfl rfl (by kernel_rfl) ?_
  refine .t 12 rfl (.loadW ag30 sz30 rfl (.there <| .here) rfl) rfl rfl (by kernel_rfl) <| .t 13 rfl ((EV.cast (u := .bool true) (.eqv (eqPkt (p := pb) (q := pb)) rfl rfl) (by simp))) rfl rfl (by kernel_rfl) <| .t 14 rfl (.pickT rfl rfl) rfl rfl (by kernel_rfl) <| .t 15 rfl (.move rfl) rfl rfl (by kernel_rfl) <| .t 16 rfl (.move rfl) rfl rfl (by kernel_rfl) <| .t 17 rfl (.eql rfl rfl) rfl rfl (by kernel_rfl) ?_
  refine .t 18 rfl (.pickT rfl rfl) rfl rfl (by kernel_rfl) <| .t 19 rfl (.move rfl) rfl rfl (by kernel_rfl) <| .t 20 rfl (.move rfl) rfl rfl (by kernel_rfl) <| .t 21 rfl (.len sl22 rfl rfl) rfl rfl (by kernel_rfl) <| .t 22 rfl ((EV.cast (u := .bool true) (.eql rfl rfl) (by simp))) rfl rfl (by kernel_rfl) <| .t 23 rfl (.pickT rfl rfl) rfl rfl (by kernel_rfl) ?_
  refine .t 24 rfl (.move rfl) rfl rfl (by kernel_rfl) <| .t 25 rfl (.move rfl) rfl rfl (by kernel_rfl) ?_
  obtain ⟨eb76, eo76, cs76, hd76, hat76, hr76⟩ := SlR.at_ (hp40.mono hI46) (k := 1) (by decide)
  cases hd76
  have hp76 := hr76
  obtain ⟨rfl, hx76, hy76, hz76⟩ := hr76
  refine .t 26 rfl (.indexAddrL sl22 rfl rfl (show (1 : Int) = ((1 : Nat) : Int) from rfl) (by decide)) rfl rfl (by kernel_rfl) <| .t 27 rfl (.loadIA ag30 sz30 rfl hat76 rfl) rfl rfl (by kernel_rfl) <| .t 28 rfl (.loadW ag30 sz30 rfl (.there <| .there <| .here) rfl) rfl rfl (by kernel_rfl) <| .t 29 rfl ((EV.cast (u := .bool true) (.eqv (eqPkt (p := pa) (q := pa)) rfl rfl) (by simp))) rfl rfl (by kernel_rfl) <| .t 30 rfl (.pickT rfl rfl) rfl rfl (by kernel_rfl) <| .t 31 rfl (.move rfl) rfl rfl (by kernel_rfl) ?_
  refine .t 32 rfl (.move rfl) rfl rfl (by kernel_rfl) <| .t 33 rfl (.eql rfl rfl) rfl rfl (by kernel_rfl) <| .t 34 rfl (.pickT rfl rfl) rfl rfl (by kernel_rfl) <| .t 35 rfl (.move rfl) rfl rfl (by kernel_rfl) <| .t 36 rfl (.move rfl) rfl rfl (by kernel_rfl) <| .t 37 rfl (.eql rfl rfl) rfl rfl (by kernel_rfl) ?_
  refine .t 38 rfl (.pickT rfl rfl) rfl rfl (by kernel_rfl) <| .t 39 rfl (.assign rfl) rfl rfl (by kernel_rfl) <| .done (by kernel_rfl) <| .go <| .ret ?_
  refine .tail <| .tail <| .tail <| .tail <| .tail <| .tail ?_
  refine .tail ?_
  refine .back (Imm.le_trans (Imm.le_trans (Imm.le_trans (Imm.le_trans (Imm.le_trans hJ hI23) hI29) hI34) hI40) hI46) ?_
  refine Post.retE rfl rfl ?_
  rfl

set_option maxHeartbeats 8000000 in
set_option maxRecDepth 20000 in
theorem NetDoes_ok {I : Imm} {O : Own} {cs : List Value} {n : List Pkt} (hn : NetR I cs n) {v : Value} {l : List Pkt} (hl : PktsR I v l) {i : Int} (hi : I64 i) (hL : n.length * 32 ≤ 140737488351232) :
    Pure Try.prog 3 [.agg ⟨cs⟩, v, .int .i64 i] I O (.bool true) := by
  have hn0' := hn
  obtain ⟨nv, rfl, hnv⟩ := hn
  have hn0 := hnv
  obtain ⟨na, ncap, rfl, hn1, hn2, -⟩ := hnv
  have hl0 := hl
  obtain ⟨la, lcap, rfl, hl1, hl2, -⟩ := hl
  refine Go.Sy.Does.enter Try.func3 rfl Try.ntmps3 rfl ?_
  refine .seq <| .region <| .on rfl <| .box rfl rfl rfl fun c1 _ _ => .e (.assign rfl) rfl rfl <| .nil <| .go ?_
  refine .seq <| .region <| .e (.loadW ag24 sz24 rfl .here rfl) rfl rfl <| .on rfl <| .call cal7 rfl rfl rfl (copyF hn0' hL) fun v31 I31 O31 hI31 hK31 => ?_
  obtain ⟨rfl, v31, rfl, hp31⟩ := hK31
  have hp31' := hp31
  obtain ⟨a31, q31, rfl, -⟩ := hp31'
  refine .on rfl <| .alloc zr24 rfl fun c2 _ _ => .on rfl <| .storeW sz24 rfl rfl rfl rfl rfl rfl .here <| .nil <| .go <| .seq <| .region ?_
  refine .e (.loadW ag24 sz24 rfl .here rfl) rfl rfl <| .e (.move rfl) rfl rfl <| .on rfl <| .call cal8 rfl rfl rfl (sendF (netMk hp31) (hl0.mono hI31)) fun v35 I35 O35 hI35 hK35 => ?_
  obtain ⟨rfl, v35, rfl, hp35⟩ := hK35
  have hp35' := hp35
  obtain ⟨a35, q35, rfl, -⟩ := hp35'
  refine .e (.move rfl) rfl rfl <| .e (.extract rfl rfl) rfl rfl <| .e (.extract rfl rfl) rfl rfl <| .e (.extract rfl rfl) rfl rfl <| .on rfl <| .alloc zr24 rfl fun c3 _ _ => .on rfl <| .storeW sz24 rfl rfl rfl rfl rfl rfl .here ?_
  refine .e (.assign rfl) rfl rfl <| .e (.assign rfl) rfl rfl <| .nil <| .go <| .seq <| .region ?_
  refine .e (.loadW ag24 sz24 rfl (.there <| .there <| .here) rfl) rfl rfl <| .e (.move rfl) rfl rfl <| .on rfl <| .call cal9 rfl rfl rfl (rsendF (hn0'.mono (Imm.le_trans hI31 hI35)) (hl0.mono (Imm.le_trans hI31 hI35))) fun v42 I42 O42 hI42 hK42 => ?_
  obtain ⟨rfl, v42, rfl, hp42⟩ := hK42
  have hp42' := hp42
  obtain ⟨a42, q42, rfl, -⟩ := hp42'
  refine .e (.move rfl) rfl rfl <| .e (.extract rfl rfl) rfl rfl <| .e (.extract rfl rfl) rfl rfl <| .e (.extract rfl rfl) rfl rfl <| .on rfl <| .alloc zr24 rfl fun c4 _ _ => .on rfl <| .storeW sz24 rfl rfl rfl rfl rfl rfl .here ?_
  refine .e (.assign rfl) rfl rfl <| .e (.assign rfl) rfl rfl <| .nil <| .go <| .seq <| .region ?_
  refine .e (.loadW ag24 sz24 rfl (.there <| .there <| .here) rfl) rfl rfl <| .e (.move rfl) rfl rfl <| .on rfl <| .call cal10 rfl rfl rfl (giveF (netMk (hp31.mono (Imm.le_trans hI35 hI42))) hi) fun v49 I49 O49 hI49 hK49 => ?_
  obtain ⟨rfl, v49, rfl, hX49, hp49⟩ := hK49
  have hp49' := hp49
  obtain ⟨a49, q49, rfl, -⟩ := hp49'
  refine .e (.move rfl) rfl rfl <| .e (.extract rfl rfl) rfl rfl <| .e (.extract rfl rfl) rfl rfl <| .e (.extract rfl rfl) rfl rfl <| .on rfl <| .alloc zr24 rfl fun c5 _ _ => .on rfl <| .alloc zr30 rfl fun c6 _ _ => ?_
  refine .on rfl <| .storeW sz24 rfl rfl rfl rfl rfl rfl (.there <| .here) <| .on rfl <| .storeW sz30 rfl rfl rfl rfl rfl rfl .here <| .e (.assign rfl) rfl rfl <| .nil <| .go <| .seq ?_
  refine .region <| .e (.loadW ag24 sz24 rfl (.there <| .there <| .there <| .there <| .there <| .here) rfl) rfl rfl <| .e (.move rfl) rfl rfl <| .on rfl <| .call cal11 rfl rfl rfl (rgiveF (hn0'.mono (Imm.le_trans (Imm.le_trans (Imm.le_trans hI31 hI35) hI42) hI49)) hi) fun v56 I56 O56 hI56 hK56 => ?_
  obtain ⟨rfl, v56, rfl, hX56, hp56⟩ := hK56
  have hp56' := hp56
  obtain ⟨a56, q56, rfl, -⟩ := hp56'
  refine .e (.move rfl) rfl rfl <| .e (.extract rfl rfl) rfl rfl <| .e (.extract rfl rfl) rfl rfl <| .e (.extract rfl rfl) rfl rfl <| .on rfl <| .alloc zr24 rfl fun c7 _ _ => .on rfl <| .alloc zr30 rfl fun c8 _ _ => ?_
  refine .on rfl <| .storeW sz24 rfl rfl rfl rfl rfl rfl (.there <| .here) <| .on rfl <| .storeW sz30 rfl rfl rfl rfl rfl rfl .here <| .e (.assign rfl) rfl rfl <| .nil <| .go <| .seq ?_
  refine .seq <| .region <| .on rfl <| .callP cal12 rfl rfl rfl (lives_ok) <| .e (.not rfl) rfl rfl <| .e (.move rfl) rfl rfl <| .e (.loadW ag24 sz24 rfl (.there <| .there <| .there <| .there <| .there <| .here) rfl) rfl rfl ?_
  refine .e (.loadW ag24 sz24 rfl (.there <| .there <| .there <| .there <| .here) rfl) rfl rfl <| .on rfl <| .callP cal13 rfl rfl rfl ((sameNet_ok (netMk (hp35.mono (Imm.le_trans (Imm.le_trans hI42 hI49) hI56))) (netMk (hp42.mono (Imm.le_trans hI49 hI56)))).cast (congrArg Value.bool (decide_eq_true rfl))) <| .e (.not rfl) rfl rfl <| .e (.pickF rfl rfl) rfl rfl <| .e (.move rfl) rfl rfl <| .e (.move rfl) rfl rfl ?_
  refine .e (.move rfl) rfl rfl <| .e ((EV.cast (u := .bool false) (.neq rfl rfl) (by simp))) rfl rfl <| .e (.pickF rfl rfl) rfl rfl <| .e (.move rfl) rfl rfl <| .e (.move rfl) rfl rfl <| .e (.move rfl) rfl rfl ?_
  refine .e ((EV.cast (u := .bool false) (.neq rfl rfl) (by simp))) rfl rfl <| .e (.pickF rfl rfl) rfl rfl <| .e (.move rfl) rfl rfl <| .e (.loadW ag24 sz24 rfl (.there <| .there <| .there <| .here) rfl) rfl rfl <| .e (.loadW ag24 sz24 rfl (.there <| .here) rfl) rfl rfl <| .on rfl <| .callP cal13 rfl rfl rfl ((sameNet_ok (netMk (hp49.mono hI56)) (netMk hp56)).cast (congrArg Value.bool (decide_eq_true rfl))) ?_
  refine .e (.not rfl) rfl rfl <| .e (.pickF rfl rfl) rfl rfl <| .e (.move rfl) rfl rfl <| .e (.loadW ag30 sz30 rfl (.there <| .there <| .here) rfl) rfl rfl <| .e (.loadW ag30 sz30 rfl .here rfl) rfl rfl <| .e ((EV.cast (u := .bool false) (.nev (eqPkt (p := (giveR n i).2.1) (q := (giveR n i).2.1)) rfl rfl) (by simp))) rfl rfl ?_
  refine .e (.pickF rfl rfl) rfl rfl <| .e (.move rfl) rfl rfl <| .e (.move rfl) rfl rfl <| .e (.move rfl) rfl rfl <| .e ((EV.cast (u := .bool false) (.neq rfl rfl) (by simp))) rfl rfl <| .e (.pickF rfl rfl) rfl rfl ?_
  refine .nil <| .go <| .cond_false rfl <| .skip <| .go <| .seq ?_
  refine .region <| .e (.loadW ag24 sz24 rfl (.there <| .there <| .there <| .there <| .there <| .there <| .here) rfl) rfl rfl <| .e (.move rfl) rfl rfl <| .on rfl <| .call cal14 rfl rfl rfl (twiceF (netMk (hp31.mono (Imm.le_trans (Imm.le_trans (Imm.le_trans hI35 hI42) hI49) hI56))) hi) fun v97 I97 O97 hI97 hK97 => ?_
  obtain ⟨rfl, v97, rfl, hp97⟩ := hK97
  have hp97' := hp97
  obtain ⟨a97, q97, rfl, -⟩ := hp97'
  refine .e (.move rfl) rfl rfl <| .e (.extract rfl rfl) rfl rfl <| .e (.extract rfl rfl) rfl rfl <| .on rfl <| .alloc zr24 rfl fun c9 _ _ => .on rfl <| .storeW sz24 rfl rfl rfl rfl rfl rfl .here <| .e (.assign rfl) rfl rfl ?_
  refine .nil <| .go <| .seq <| .region <| .e (.loadW ag24 sz24 rfl (.there <| .there <| .there <| .there <| .there <| .there <| .there <| .there <| .here) rfl) rfl rfl <| .e (.move rfl) rfl rfl ?_
  refine .on rfl <| .call cal15 rfl rfl rfl (rtwiceF (hn0'.mono (Imm.le_trans (Imm.le_trans (Imm.le_trans (Imm.le_trans (Imm.le_trans hI31 hI35) hI42) hI49) hI56) hI97)) hi) fun v103 I103 O103 hI103 hK103 => ?_
  obtain ⟨rfl, v103, rfl, hp103⟩ := hK103
  have hp103' := hp103
  obtain ⟨a103, q103, rfl, -⟩ := hp103'
  refine .e (.move rfl) rfl rfl <| .e (.extract rfl rfl) rfl rfl <| .e (.extract rfl rfl) rfl rfl <| .on rfl <| .alloc zr24 rfl fun c10 _ _ => .on rfl <| .storeW sz24 rfl rfl rfl rfl rfl rfl .here <| .e (.assign rfl) rfl rfl ?_
  refine .nil <| .go <| .seq <| .region <| .e (.loadW ag24 sz24 rfl (.there <| .there <| .there <| .there <| .there <| .there <| .there <| .there <| .here) rfl) rfl rfl <| .on rfl <| .call cal16 rfl rfl rfl (takeF (netMk (hp31.mono (Imm.le_trans (Imm.le_trans (Imm.le_trans (Imm.le_trans (Imm.le_trans hI35 hI42) hI49) hI56) hI97) hI103)))) fun v108 I108 O108 hI108 hK108 => ?_
  obtain ⟨rfl, v108, rfl, hp108⟩ := hK108
  have hp108' := hp108
  obtain ⟨a108, q108, rfl, -⟩ := hp108'
  refine .e (.move rfl) rfl rfl <| .e (.extract rfl rfl) rfl rfl <| .e (.extract rfl rfl) rfl rfl <| .e (.extract rfl rfl) rfl rfl <| .on rfl <| .alloc zr24 rfl fun c11 _ _ => .e (.assign rfl) rfl rfl ?_
  refine .on rfl <| .storeW sz24 rfl rfl rfl rfl rfl rfl .here <| .e (.assign rfl) rfl rfl <| .nil <| .go <| .seq <| .region ?_
  refine .e (.loadW ag24 sz24 rfl (.there <| .there <| .there <| .there <| .there <| .there <| .there <| .there <| .there <| .there <| .here) rfl) rfl rfl <| .on rfl <| .call cal17 rfl rfl rfl (rtakeF (hn0'.mono (Imm.le_trans (Imm.le_trans (Imm.le_trans (Imm.le_trans (Imm.le_trans (Imm.le_trans (Imm.le_trans hI31 hI35) hI42) hI49) hI56) hI97) hI103) hI108))) fun v114 I114 O114 hI114 hK114 => ?_
  obtain ⟨rfl, v114, rfl, hp114⟩ := hK114
  have hp114' := hp114
  obtain ⟨a114, q114, rfl, -⟩ := hp114'
  refine .e (.move rfl) rfl rfl <| .e (.extract rfl rfl) rfl rfl <| .e (.extract rfl rfl) rfl rfl <| .e (.extract rfl rfl) rfl rfl <| .on rfl <| .alloc zr24 rfl fun c12 _ _ => .e (.assign rfl) rfl rfl ?_
  refine .on rfl <| .storeW sz24 rfl rfl rfl rfl rfl rfl .here <| .e (.assign rfl) rfl rfl <| .nil <| .go <| .seq ?_
  refine .draw [(c9, _), (c10, _), (c11, _), (c12, _), (c2, _), (c1, _)] mixed (.cons (.there <| .there <| .there <| .here) (.cons (.there <| .there <| .here) (.cons (.there <| .here) (.cons .here (.cons (.there <| .there <| .there <| .there <| .there <| .there <| .there <| .there <| .there <| .there <| .here) (.cons (.there <| .there <| .there <| .there <| .there <| .there <| .there <| .there <| .there <| .there <| .there <| .here) .nil)))))) ?_
  refine .t 0 rfl (.loadW ag24 sz24 rfl .here rfl) rfl rfl (by kernel_rfl) <| .t 1 rfl (.loadW ag24 sz24 rfl (.there <| .here) rfl) rfl rfl (by kernel_rfl) <| .one (i := 2) (by kernel_rfl) rfl rfl <| .callP cal13 rfl rfl rfl ((sameNet_ok (netMk (hp97.mono (Imm.le_trans (Imm.le_trans hI103 hI108) hI114))) (netMk (hp103.mono (Imm.le_trans hI108 hI114)))).cast (congrArg Value.bool (decide_eq_true rfl))) ?_
  refine ⟨(.cons (.there <| .there <| .there <| .here) (.cons (.there <| .there <| .here) (.cons (.there <| .here) (.cons .here (.cons (.there <| .there <| .there <| .there <| .there <| .there <| .there <| .there <| .there <| .there <| .here) (.cons (.there <| .there <| .there <| .there <| .there <| .there <| .there <| .there <| .there <| .there <| .there <| .here) .nil)))))), Imm.le_refl _, ?_⟩
  refine .t 3 rfl (.move rfl) rfl rfl (by kernel_rfl) <| .t 4 rfl (.move rfl) rfl rfl (by kernel_rfl) <| .t 5 rfl (.move rfl) rfl rfl (by kernel_rfl) <| .t 6 rfl ((EV.cast (u := .bool true) (.eql rfl rfl) (by simp))) rfl rfl (by kernel_rfl) <| .t 7 rfl (.pickT rfl rfl) rfl rfl (by kernel_rfl) <| .t 8 rfl (.move rfl) rfl rfl (by kernel_rfl) ?_
  refine .t 9 rfl (.move rfl) rfl rfl (by kernel_rfl) <| .t 10 rfl (.build bs24 zv24 rfl rfl) rfl rfl (by kernel_rfl) <| .t 11 rfl (.move rfl) rfl rfl (by kernel_rfl) <| .t 12 rfl (.build bs24 zv24 rfl rfl) rfl rfl (by kernel_rfl) <| .one (i := 13) (by kernel_rfl) rfl rfl <| .callP cal13 rfl rfl rfl ((sameNet_ok (netMk (hp108.mono hI114)) (netMk hp114)).cast (congrArg Value.bool (decide_eq_true rfl))) ?_
  refine ⟨(.cons (.there <| .there <| .there <| .here) (.cons (.there <| .there <| .here) (.cons (.there <| .here) (.cons .here (.cons (.there <| .there <| .there <| .there <| .there <| .there <| .there <| .there <| .there <| .there <| .here) (.cons (.there <| .there <| .there <| .there <| .there <| .there <| .there <| .there <| .there <| .there <| .there <| .here) .nil)))))), Imm.le_refl _, ?_⟩
  refine .t 14 rfl (.pickT rfl rfl) rfl rfl (by kernel_rfl) <| .t 15 rfl (.move rfl) rfl rfl (by kernel_rfl) <| .t 16 rfl (.loadW ag24 sz24 rfl (.there <| .there <| .here) rfl) rfl rfl (by kernel_rfl) <| .t 17 rfl (.loadW ag24 sz24 rfl (.there <| .there <| .there <| .here) rfl) rfl rfl (by kernel_rfl) <| .one (i := 18) (by kernel_rfl) rfl rfl <| .callP cal13 rfl rfl rfl ((sameNet_ok netNil netNil).cast (congrArg Value.bool (decide_eq_true rfl))) ?_
  refine ⟨(.cons (.there <| .there <| .there <| .here) (.cons (.there <| .there <| .here) (.cons (.there <| .here) (.cons .here (.cons (.there <| .there <| .there <| .there <| .there <| .there <| .there <| .there <| .there <| .there <| .here) (.cons (.there <| .there <| .there <| .there <| .there <| .there <| .there <| .there <| .there <| .there <| .there <| .here) .nil)))))), Imm.le_refl _, ?_⟩
  refine .t 19 rfl (.pickT rfl rfl) rfl rfl (by kernel_rfl) <| .t 20 rfl (.move rfl) rfl rfl (by kernel_rfl) <| .t 21 rfl (.move rfl) rfl rfl (by kernel_rfl) <| .t 22 rfl (.move rfl) rfl rfl (by kernel_rfl) <| .t 23 rfl ((EV.cast (u := .bool true) (.eql rfl rfl) (by simp))) rfl rfl (by kernel_rfl) <| .t 24 rfl (.pickT rfl rfl) rfl rfl (by kernel_rfl) ?_
  refine .t 25 rfl (.move rfl) rfl rfl (by kernel_rfl) <| .t 26 rfl (.loadW ag24 sz24 rfl (.there <| .there <| .there <| .there <| .here) rfl) rfl rfl (by kernel_rfl) <| .t 28 rfl (.loadW ag24 sz24 rfl (.there <| .there <| .there <| .there <| .there <| .here) rfl) rfl rfl (by kernel_rfl) <| .one (i := 27) (by kernel_rfl) rfl rfl <| .callP cal18 rfl rfl rfl (nCheck_ok (netMk (hp31.mono (Imm.le_trans (Imm.le_trans (Imm.le_trans (Imm.le_trans (Imm.le_trans (Imm.le_trans (Imm.le_trans hI35 hI42) hI49) hI56) hI97) hI103) hI108) hI114)))) ?_
  refine ⟨(.cons (.there <| .there <| .there <| .here) (.cons (.there <| .there <| .here) (.cons (.there <| .here) (.cons .here (.cons (.there <| .there <| .there <| .there <| .there <| .there <| .there <| .there <| .there <| .there <| .here) (.cons (.there <| .there <| .there <| .there <| .there <| .there <| .there <| .there <| .there <| .there <| .there <| .here) .nil)))))), Imm.le_refl _, ?_⟩
  refine .one (i := 29) (by kernel_rfl) rfl rfl <| .callP cal19 rfl rfl rfl (rnCheck_ok (hn0'.mono (Imm.le_trans (Imm.le_trans (Imm.le_trans (Imm.le_trans (Imm.le_trans (Imm.le_trans (Imm.le_trans (Imm.le_trans hI31 hI35) hI42) hI49) hI56) hI97) hI103) hI108) hI114))) ?_
  refine ⟨(.cons (.there <| .there <| .there <| .here) (.cons (.there <| .there <| .here) (.cons (.there <| .here) (.cons .here (.cons (.there <| .there <| .there <| .there <| .there <| .there <| .there <| .there <| .there <| .there <| .here) (.cons (.there <| .there <| .there <| .there <| .there <| .there <| .there <| .there <| .there <| .there <| .there <| .here) .nil)))))), Imm.le_refl _, ?_⟩
  refine .t 30 rfl ((EV.cast (u := .bool true) (.eql rfl rfl) (by simp))) rfl rfl (by kernel_rfl) <| .t 31 rfl (.pickT rfl rfl) rfl rfl (by kernel_rfl) <| .t 32 rfl (.move rfl) rfl rfl (by kernel_rfl) <| .t 33 rfl (.loadW ag24 sz24 rfl (.there <| .there <| .there <| .there <| .here) rfl) rfl rfl (by kernel_rfl) <| .t 34 rfl (.loadW ag24 sz24 rfl (.there <| .there <| .there <| .there <| .there <| .here) rfl) rfl rfl (by kernel_rfl) <| .one (i := 35) (by kernel_rfl) rfl rfl ?_
  refine .callP cal13 rfl rfl rfl ((sameNet_ok (netMk (hp31.mono (Imm.le_trans (Imm.le_trans (Imm.le_trans (Imm.le_trans (Imm.le_trans (Imm.le_trans (Imm.le_trans hI35 hI42) hI49) hI56) hI97) hI103) hI108) hI114))) (hn0'.mono (Imm.le_trans (Imm.le_trans (Imm.le_trans (Imm.le_trans (Imm.le_trans (Imm.le_trans (Imm.le_trans (Imm.le_trans hI31 hI35) hI42) hI49) hI56) hI97) hI103) hI108) hI114))).cast (congrArg Value.bool (decide_eq_true rfl))) ?_
  refine ⟨(.cons (.there <| .there <| .there <| .here) (.cons (.there <| .there <| .here) (.cons (.there <| .here) (.cons .here (.cons (.there <| .there <| .there <| .there <| .there <| .there <| .there <| .there <| .there <| .there <| .here) (.cons (.there <| .there <| .there <| .there <| .there <| .there <| .there <| .there <| .there <| .there <| .there <| .here) .nil)))))), Imm.le_refl _, ?_⟩
  refine .t 36 rfl (.pickT rfl rfl) rfl rfl (by kernel_rfl) <| .t 37 rfl (.assign rfl) rfl rfl (by kernel_rfl) <| .done (by kernel_rfl) <| .go <| .ret ?_
  refine .tail <| .tail <| .tail <| .tail <| .tail <| .tail ?_
  refine .tail <| .tail <| .tail <| .tail <| .tail <| .tail ?_
  refine .back (Imm.le_trans (Imm.le_trans (Imm.le_trans (Imm.le_trans (Imm.le_trans (Imm.le_trans (Imm.le_trans (Imm.le_trans hI31 hI35) hI42) hI49) hI56) hI97) hI103) hI108) hI114) ?_
  refine Post.retE rfl rfl ?_
  rfl

theorem filter_all {l : List Pkt} (h : l.all rightP = true) : l.filter rightP = l := List.filter_eq_self.2 fun p hp => List.all_eq_true.1 h p hp
theorem take_bad {n : List Pkt} (h : ¬(takeR n).2 = 0) : (takeR n).1 = [] := by
  unfold takeR at *
  split at h
  · exact absurd rfl h
  · rename_i h1; rw [if_neg h1]
theorem again_law {n : List Pkt} (h : (takeR n).2 = 0) : (takeR n).1 = n ∧ sendR [] (takeR n).1 = ((takeR n).1, ((takeR n).1.length : Int), 0) := by
  by_cases h1 : netOk n = true
  · have e : takeR n = (n, 0) := by unfold takeR; rw [if_pos h1]
    rw [e]
    refine ⟨rfl, ?_⟩
    have h2 := netOk_len h1
    have h3 : n.all rightP = true := by unfold netOk at h1; rw [Bool.and_eq_true] at h1; exact h1.2
    have e2 : sendP [] n = n := by unfold sendP; rw [filter_all h3]; exact List.take_of_length_le (by simpa using h2)
    have e3 : netOk ([] : List Pkt) = true := rfl
    unfold sendR
    rw [if_pos e3, e2]; rfl
  · unfold takeR at h; rw [if_neg h1] at h; cases h

set_option maxHeartbeats 4000000 in
set_option maxRecDepth 20000 in
theorem NetAgain_ok {I : Imm} {O : Own} {cs : List Value} {n : List Pkt} (hn : NetR I cs n) :
    Pure Try.prog 6 [.agg ⟨cs⟩] I O (.bool true) := by
  have hn0' := hn
  obtain ⟨nv, rfl, hnv⟩ := hn
  have hn0 := hnv
  obtain ⟨na, ncap, rfl, hn1, hn2, -⟩ := hnv
  refine Go.Sy.Does.enter Try.func6 rfl Try.ntmps6 rfl ?_
  refine .seq <| .region <| .on rfl <| .box rfl rfl rfl fun c1 _ _ => .e (.assign rfl) rfl rfl <| .nil <| .go ?_
  refine .seq <| .seq <| .region <| .on rfl <| .callP cal12 rfl rfl rfl (lives_ok) <| .e (.not rfl) rfl rfl <| .nil ?_
  refine .go <| .cond_false rfl <| .skip <| .go <| .seq <| .region ?_
  refine .e (.loadW ag24 sz24 rfl .here rfl) rfl rfl <| .on rfl <| .call cal16 rfl rfl rfl (takeF hn0') fun v13 I13 O13 hI13 hK13 => ?_
  obtain ⟨rfl, v13, rfl, hp13⟩ := hK13
  have hp13' := hp13
  obtain ⟨a13, q13, rfl, -⟩ := hp13'
  refine .e (.move rfl) rfl rfl <| .e (.extract rfl rfl) rfl rfl <| .e (.extract rfl rfl) rfl rfl <| .e (.extract rfl rfl) rfl rfl <| .on rfl <| .alloc zr24 rfl fun c2 _ _ => .e (.assign rfl) rfl rfl ?_
  refine .on rfl <| .storeW sz24 rfl rfl rfl rfl rfl rfl .here <| .e (.assign rfl) rfl rfl <| .nil <| .go <| .seq <| .seq ?_
  refine .region <| .e (.move rfl) rfl rfl <| .e (.neq rfl rfl) rfl rfl <| .nil <| .go ?_
  refine .split 18 rfl (fun h18 => ?_) (fun h18 => ?_)
  · skip
    first | replace h18 := of_decide_eq_false ((Bool.not_eq_true' _).mp h18) | replace h18 := of_decide_eq_false (by simpa using h18)
    refine .cond_true rfl <| .seq <| .region <| .e (.move rfl) rfl rfl <| .e (.len sl22 rfl rfl) rfl rfl <| .e ((EV.cast (u := .bool true) (.eql rfl rfl) (congrArg Value.bool (decide_eq_true (by rw [take_bad h18]; rfl))))) rfl rfl ?_
    refine .e (.assign rfl) rfl rfl <| .nil <| .go <| .ret <| .ret ?_
    refine .tail <| .tail ?_
    refine .back hI13 ?_
    refine Post.retE rfl rfl ?_
    rfl
  · skip
    first | replace h18 := of_decide_eq_true ((Bool.not_eq_false' _).mp h18) | replace h18 := of_decide_eq_true (by simpa using h18)
    have hag := again_law h18
    refine .cond_false rfl <| .skip <| .go <| .seq <| .region <| .e (.loadW ag24 sz24 rfl .here rfl) rfl rfl ?_
    refine .e (.move rfl) rfl rfl <| .on rfl <| .call cal8 rfl rfl rfl (sendF (n := []) netNil hp13) fun v25 I25 O25 hI25 hK25 => ?_
    rw [hag.2] at hK25
    obtain ⟨rfl, v25, rfl, hp25⟩ := hK25
    have hp25' := hp25
    obtain ⟨a25, q25, rfl, -⟩ := hp25'
    refine .e (.move rfl) rfl rfl <| .e (.extract rfl rfl) rfl rfl <| .e (.extract rfl rfl) rfl rfl <| .e (.extract rfl rfl) rfl rfl <| .on rfl <| .alloc zr24 rfl fun c3 _ _ => .on rfl <| .storeW sz24 rfl rfl rfl rfl rfl rfl .here ?_
    refine .e (.assign rfl) rfl rfl <| .e (.assign rfl) rfl rfl <| .nil <| .go <| .seq <| .region ?_
    refine .e (.move rfl) rfl rfl <| .e (.eql rfl rfl) rfl rfl <| .e (.move rfl) rfl rfl <| .e (.move rfl) rfl rfl <| .e (.fieldAddr fo24_0 rfl) rfl rfl <| .e (.load ag22 rfl (.there <| .there <| .here) rfl) rfl rfl ?_
    refine .e (.len sl22 rfl rfl) rfl rfl <| .e ((EV.cast (u := .bool true) (.eql rfl rfl) (congrArg Value.bool (decide_eq_true (by rw [hag.1]))))) rfl rfl <| .e (.pickT rfl rfl) rfl rfl <| .e (.move rfl) rfl rfl <| .e (.loadW ag24 sz24 rfl .here rfl) rfl rfl <| .e (.loadW ag24 sz24 rfl (.there <| .there <| .here) rfl) rfl rfl ?_
    refine .on rfl <| .callP cal13 rfl rfl rfl ((sameNet_ok (netMk hp25) ((hn0'.mono hI13).mono hI25)).cast (congrArg Value.bool (decide_eq_true hag.1))) <| .e (.pickT rfl rfl) rfl rfl <| .e (.assign rfl) rfl rfl <| .nil <| .go <| .ret ?_
    refine .tail <| .tail <| .tail ?_
    refine .back (Imm.le_trans hI13 hI25) ?_
    refine Post.retE rfl rfl ?_
    rfl

end Go.Proofs.Ytgiddbcadhigcaa
