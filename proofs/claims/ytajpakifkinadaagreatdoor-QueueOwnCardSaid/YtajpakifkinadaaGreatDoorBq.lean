/- Walks of functions over a symbolic memory, printed by a program of the session. -/
import Derived.Test.YtajpakifkinadaaGreatDoorBp
namespace Go.Proofs.YtajpakifkinadaaGreatDoor
open Go.Sy
set_option linter.unusedSimpArgs false
set_option linter.unusedVariables false

abbrev nilS : Value := .slice none 0 0
theorem nilPr {I : Imm} : PrsR I nilS [] := SlR.nil
def flatO (o : Ordr) : Bool := decide (o.node.labels = [] ∧ o.node.taints = [] ∧ o.task.wants = [] ∧ o.task.bears = []) && (decide (0 ≤ o.kind ∧ o.kind ≤ 255) && (decide (o.name.size ≤ 1000) && (decide (o.on.size ≤ 1000) && (decide (0 ≤ o.fence ∧ o.fence ≤ 1000) && (decide (o.node.name.size ≤ 1000) && (decide (-1000 ≤ o.node.has.a ∧ o.node.has.a ≤ 1000 ∧ -1000 ≤ o.node.has.b ∧ o.node.has.b ≤ 1000 ∧ -1000 ≤ o.node.has.c ∧ o.node.has.c ≤ 1000) && (decide (o.task.name.size ≤ 1000) && (decide (-1000 ≤ o.task.needs.a ∧ o.task.needs.a ≤ 1000 ∧ -1000 ≤ o.task.needs.b ∧ o.task.needs.b ≤ 1000 ∧ -1000 ≤ o.task.needs.c ∧ o.task.needs.c ≤ 1000) && (decide (o.task.group.size ≤ 1000) && (decide (o.task.apart.size ≤ 1000) && decide (-1000 ≤ o.task.rank ∧ o.task.rank ≤ 1000)))))))))))
theorem ordFlat {I : Imm} {o : Ordr} (h : flatO o = true) : OrdrR I (o.cells nilS nilS nilS nilS) o ∧ OrdS o := by
  unfold flatO at h
  simp only [Bool.and_eq_true, decide_eq_true_eq] at h
  obtain ⟨⟨h1, h2, h3, h4⟩, g1, g2, g3, g4, g5, g6, g7, g8, g9, g10, g11⟩ := h
  have n1 : PrsR I nilS o.node.labels := by rw [h1]; exact nilPr
  have n2 : PrsR I nilS o.node.taints := by rw [h2]; exact nilPr
  have n3 : PrsR I nilS o.task.wants := by rw [h3]; exact nilPr
  have n4 : PrsR I nilS o.task.bears := by rw [h4]; exact nilPr
  refine ⟨⟨⟨_, _, _, _, rfl, ⟨⟨_, _, rfl, n1, n2⟩, ?_, ?_⟩, n1, n2, ⟨⟨_, _, rfl, n3, n4⟩, ?_, ?_, ?_, ?_, ?_⟩, n3, n4⟩, g1, ?_, ?_, ?_⟩, ?_⟩
  all_goals first | (unfold StrOk; omega) | (unfold A3.ok I64; omega) | (unfold I64; omega) | (unfold U64; omega) | (unfold OrdS TskS; omega)
theorem e1_ : StrOk ⟨#[]⟩ := by unfold StrOk; decide
theorem e2_ : A3.ok ⟨0, 0, 0⟩ := by unfold A3.ok I64; decide
theorem e3_ : I64 0 := by unfold I64; decide
theorem e4_ : U64 0 := by unfold U64; decide
theorem e5_ (k : Int) (h : 0 ≤ k ∧ k ≤ 255) : U8 k := h
theorem ordKR {I : Imm} {k : Int} {s : ByteArray} (hk : U8 k) (hs : StrOk s) : OrdrR I ((ordK k s).cells nilS nilS nilS nilS) (ordK k s) ∧ OrdS (ordK k s) := by
  refine ⟨⟨⟨_, _, _, _, rfl, ⟨⟨_, _, rfl, nilPr, nilPr⟩, ?_, ?_⟩, nilPr, nilPr, ⟨⟨_, _, rfl, nilPr, nilPr⟩, ?_, ?_, ?_, ?_, ?_⟩, nilPr, nilPr⟩, hk, hs, ?_, ?_⟩, ?_⟩
  all_goals first | exact e1_ | exact e2_ | exact e3_ | exact e4_ | exact e5_ 5 (by decide) | skip
  unfold StrOk at hs
  exact ⟨show (⟨#[]⟩ : ByteArray).size + (⟨#[]⟩ : ByteArray).size + (⟨#[]⟩ : ByteArray).size ≤ 9223372036854775807 by decide, show s.size + 0 ≤ _ by omega⟩
theorem ordBR {I : Imm} {t n : ByteArray} {f : Int} (ht : StrOk t) (hn : StrOk n) (hf : U64 f) (hz : t.size + n.size ≤ 9223372036854775807) : OrdrR I ((ordB t n f).cells nilS nilS nilS nilS) (ordB t n f) ∧ OrdS (ordB t n f) := by
  refine ⟨⟨⟨_, _, _, _, rfl, ⟨⟨_, _, rfl, nilPr, nilPr⟩, ?_, ?_⟩, nilPr, nilPr, ⟨⟨_, _, rfl, nilPr, nilPr⟩, ?_, ?_, ?_, ?_, ?_⟩, nilPr, nilPr⟩, ?_, ht, hn, hf⟩, ?_⟩
  all_goals first | exact e1_ | exact e2_ | exact e3_ | exact e4_ | exact e5_ 5 (by decide) | skip
  exact ⟨show (⟨#[]⟩ : ByteArray).size + (⟨#[]⟩ : ByteArray).size + (⟨#[]⟩ : ByteArray).size ≤ 9223372036854775807 by decide, hz⟩
theorem ordTR {I : Imm} {t : Tsk} {wv bv : Value} (ht : TskR I (t.cells wv bv) t) (hw : PrsR I wv t.wants) (hb : PrsR I bv t.bears) (hz : TskS t) : OrdrR I ((ordT t).cells nilS nilS wv bv) (ordT t) ∧ OrdS (ordT t) := by
  refine ⟨⟨⟨_, _, _, _, rfl, ⟨⟨_, _, rfl, nilPr, nilPr⟩, ?_, ?_⟩, nilPr, nilPr, ht, hw, hb⟩, ?_, ?_, ?_, ?_⟩, hz, show (⟨#[]⟩ : ByteArray).size + (⟨#[]⟩ : ByteArray).size ≤ 9223372036854775807 by decide⟩
  all_goals first | exact e1_ | exact e2_ | exact e3_ | exact e4_ | exact e5_ 3 (by decide)
def nA : Nod := ⟨⟨#[110]⟩, ⟨5, 0, 0⟩, [], []⟩
def tC (c : UInt8) : Tsk := ⟨⟨#[c]⟩, ⟨3, 0, 0⟩, [], [], ⟨#[]⟩, ⟨#[]⟩, 0⟩
def oA : Ordr := ⟨1, nA, task0', ⟨#[]⟩, ⟨#[]⟩, 0⟩
def oT (c : UInt8) : Ordr := ⟨3, nod0', tC c, ⟨#[]⟩, ⟨#[]⟩, 0⟩
def oX (c : UInt8) (f : Int) : Ordr := ⟨5, nod0', task0', ⟨#[c]⟩, ⟨#[110]⟩, f⟩
def lb1 : Bk := ⟨[nA], [], [], 0⟩
def lb2 : Bk := ⟨[nA], [tC 97], [], 0⟩
def lb3 : Bk := ⟨[nA], [tC 97, tC 98], [], 0⟩
def lb4 : Bk := ⟨[nA], [tC 97, tC 98], [⟨⟨#[97]⟩, ⟨#[110]⟩⟩], 0⟩
def lb5 : Bk := ⟨[nA], [tC 97, tC 98], [⟨⟨#[97]⟩, ⟨#[110]⟩⟩], 3⟩
theorem bl0 : doR bk0 oA = (lb1, 0, ⟨#[]⟩) := by decide +kernel
theorem bl1 : doR lb1 (oT 97) = (lb2, 0, ⟨#[]⟩) := by decide +kernel
theorem bl2 : doR lb2 (oT 98) = (lb3, 0, ⟨#[]⟩) := by decide +kernel
theorem bl3 : doR lb3 (oX 97 0) = (lb4, 0, ⟨#[]⟩) := by decide +kernel
theorem bl4 : doR lb4 (oX 98 0) = (lb4, 13, ⟨#[]⟩) := by decide +kernel
theorem bl5 : doR lb4 (ordK 7 ⟨#[97]⟩) = (lb4, 0, ⟨#[110]⟩) := by decide +kernel
theorem bl6 : leadR lb4 3 = (lb5, 0) := by decide +kernel
theorem bl7 : doR lb5 (oX 98 2) = (lb5, 14, ⟨#[]⟩) := by decide +kernel
theorem bk0B {I : Imm} : BkR I (bk0.cells nilS nilS nilS) bk0 := ⟨⟨_, _, _, rfl, SlR.nil, SlR.nil, SlR.nil⟩, by unfold U64 bk0; decide⟩

theorem ordS_flat {o : Ordr} (h : flatO o = true) : OrdS o := by
  unfold flatO at h
  simp only [Bool.and_eq_true, decide_eq_true_eq] at h
  obtain ⟨⟨h1, h2, h3, h4⟩, g1, g2, g3, g4, g5, g6, g7, g8, g9, g10, g11⟩ := h
  unfold OrdS TskS; omega

set_option maxHeartbeats 16000000 in
set_option maxRecDepth 20000 in
theorem lives_ok {I : Imm} {O : Own}  :
    Pure Tryz.prog 5 [] I O (.bool true) := by
  refine Go.Sy.Does.enter Tryz.func5 rfl Tryz.ntmps5 rfl ?_
  refine .seq <| .region <| .e (.assign rfl) rfl rfl <| .nil <| .go <| .seq ?_
  refine .region <| .e (.build bs27 zv27 rfl rfl) rfl rfl <| .on rfl <| .alloc zr27 rfl fun c1 _ _ => .on rfl <| .storeW sz27 rfl rfl rfl rfl rfl rfl .here <| .nil <| .go ?_
  refine .seq <| .seq <| .region <| .e (.buildA ar29 zv29 rfl rfl) rfl rfl <| .e (.build bs32 zv32 rfl rfl) rfl rfl <| .e (.build bs36 zv36 rfl rfl) rfl rfl ?_
  refine .e (.buildA ar29 zv29 rfl rfl) rfl rfl <| .e (.build bs34 zv34 rfl rfl) rfl rfl <| .e (.build bs36 zv36 rfl rfl) rfl rfl <| .e (.buildA ar29 zv29 rfl rfl) rfl rfl <| .e (.build bs34 zv34 rfl rfl) rfl rfl <| .e (.build bs36 zv36 rfl rfl) rfl rfl ?_
  refine .e (.build bs36 zv36 rfl rfl) rfl rfl <| .on rfl <| .buildSlice Tryz.underlying58 sz36 (by decide) (by decide) zv36 rfl rfl rfl rfl rfl fun c2 _ _ => .e (.len sl58 rfl rfl) rfl rfl <| .e (.move rfl) rfl rfl <| .nil <| .go ?_
  refine .block <| .unroll 4 <| .seq <| .region <| .e (.lss rfl rfl) rfl rfl <| .nil ?_
  refine .go <| .seq <| .cond_true rfl <| .skip <| .go <| .seq ?_
  refine .block <| .seq <| .region <| .e (.indexAddrL (j := 0) sl58 rfl rfl rfl (by decide)) rfl rfl <| .e (.loadP ag36 sz36 rfl .here rfl) rfl rfl <| .on rfl <| .alloc zr36 rfl fun c3 _ _ => ?_
  refine .on rfl <| .storeW sz36 rfl rfl rfl rfl rfl rfl .here <| .nil <| .go <| .seq <| .region <| .e (.loadW ag27 sz27 rfl (.there <| .there <| .here) rfl) rfl rfl ?_
  refine .e (.loadW ag36 sz36 rfl .here rfl) rfl rfl <| .on rfl <| .call cal7 rfl rfl rfl (doF bk0B (ordFlat (o := oA) (by decide +kernel)).1 (ordS_flat (o := oA) (by decide +kernel))) fun v34r0 I34r0 O34r0 hI34r0 hK34r0 => ?_
  rw [bl0] at hK34r0
  obtain ⟨rfl, cs34r0, rfl, hb34r0⟩ := hK34r0
  have hb34r00 := hb34r0
  obtain ⟨nv34r0, tv34r0, bv34r0, rfl, hn34r0, ht34r0, hx34r0⟩ := hb34r0.ex
  obtain ⟨_, _, rfl, -⟩ := hn34r0
  obtain ⟨_, _, rfl, htl34r0, -⟩ := ht34r0
  obtain ⟨_, _, rfl, -⟩ := hx34r0
  refine .e (.move rfl) rfl rfl <| .e (.extract rfl rfl) rfl rfl <| .e (.extract rfl rfl) rfl rfl <| .on rfl <| .alloc zr27 rfl fun c4 _ _ => .on rfl <| .alloc zr41 rfl fun c5 _ _ => .on rfl <| .storeW sz27 rfl rfl rfl rfl rfl rfl (.there <| .here) ?_
  refine .on rfl <| .storeW sz41 rfl rfl rfl rfl rfl rfl .here <| .nil <| .go <| .seq <| .seq <| .region ?_
  refine .e (.fieldAddr fo41_0 rfl) rfl rfl <| .e (.load ag39 rfl .here rfl) rfl rfl <| .e (.neq rfl rfl) rfl rfl <| .nil <| .go <| .cond_false rfl ?_
  refine .skip <| .go <| .region <| .e (.loadW ag27 sz27 rfl (.there <| .here) rfl) rfl rfl <| .on rfl <| .storeW sz27 rfl rfl rfl rfl rfl rfl (.there <| .there <| .there <| .there <| .here) <| .nil ?_
  refine .blk_normal <| .go <| .region <| .e (.add (c := 1) rfl rfl (by decide)) rfl rfl <| .e (.move rfl) rfl rfl <| .nil ?_
  refine .again <| .seq <| .region <| .e (.lss rfl rfl) rfl rfl <| .nil <| .go ?_
  refine .seq <| .cond_true rfl <| .skip <| .go <| .seq <| .block ?_
  refine .seq <| .region <| .e (.indexAddrL (j := 1) sl58 rfl rfl rfl (by decide)) rfl rfl <| .e (.loadP ag36 sz36 rfl (.there <| .there <| .there <| .here) rfl) rfl rfl <| .on rfl <| .alloc zr36 rfl fun c6 _ _ => .on rfl <| .storeW sz36 rfl rfl rfl rfl rfl rfl .here ?_
  refine .nil <| .go <| .seq <| .region <| .e (.loadW ag27 sz27 rfl (.there <| .there <| .there <| .there <| .there <| .here) rfl) rfl rfl <| .e (.loadW ag36 sz36 rfl .here rfl) rfl rfl ?_
  refine .on rfl <| .call cal7 rfl rfl rfl (doF hb34r00 (ordFlat (o := oT 97) (by decide +kernel)).1 (ordS_flat (o := oT 97) (by decide +kernel))) fun v34r1 I34r1 O34r1 hI34r1 hK34r1 => ?_
  rw [bl1] at hK34r1
  obtain ⟨rfl, cs34r1, rfl, hb34r1⟩ := hK34r1
  have hb34r10 := hb34r1
  obtain ⟨nv34r1, tv34r1, bv34r1, rfl, hn34r1, ht34r1, hx34r1⟩ := hb34r1.ex
  obtain ⟨_, _, rfl, -⟩ := hn34r1
  obtain ⟨_, _, rfl, htl34r1, -⟩ := ht34r1
  obtain ⟨_, _, rfl, -⟩ := hx34r1
  refine .e (.move rfl) rfl rfl <| .e (.extract rfl rfl) rfl rfl <| .e (.extract rfl rfl) rfl rfl <| .on rfl <| .alloc zr27 rfl fun c7 _ _ => .on rfl <| .alloc zr41 rfl fun c8 _ _ => .on rfl <| .storeW sz27 rfl rfl rfl rfl rfl rfl (.there <| .here) ?_
  refine .on rfl <| .storeW sz41 rfl rfl rfl rfl rfl rfl .here <| .nil <| .go <| .seq <| .seq <| .region ?_
  refine .e (.fieldAddr fo41_0 rfl) rfl rfl <| .e (.load ag39 rfl .here rfl) rfl rfl <| .e (.neq rfl rfl) rfl rfl <| .nil <| .go <| .cond_false rfl ?_
  refine .skip <| .go <| .region <| .e (.loadW ag27 sz27 rfl (.there <| .here) rfl) rfl rfl <| .on rfl <| .storeW sz27 rfl rfl rfl rfl rfl rfl (.there <| .there <| .there <| .there <| .there <| .there <| .there <| .here) <| .nil ?_
  refine .blk_normal <| .go <| .region <| .e (.add (c := 2) rfl rfl (by decide)) rfl rfl <| .e (.move rfl) rfl rfl <| .nil ?_
  refine .again <| .seq <| .region <| .e (.lss rfl rfl) rfl rfl <| .nil <| .go ?_
  refine .seq <| .cond_true rfl <| .skip <| .go <| .seq <| .block ?_
  refine .seq <| .region <| .e (.indexAddrL (j := 2) sl58 rfl rfl rfl (by decide)) rfl rfl <| .e (.loadP ag36 sz36 rfl (.there <| .there <| .there <| .there <| .there <| .there <| .here) rfl) rfl rfl <| .on rfl <| .alloc zr36 rfl fun c9 _ _ => .on rfl <| .storeW sz36 rfl rfl rfl rfl rfl rfl .here ?_
  refine .nil <| .go <| .seq <| .region <| .e (.loadW ag27 sz27 rfl (.there <| .there <| .there <| .there <| .there <| .there <| .there <| .there <| .here) rfl) rfl rfl <| .e (.loadW ag36 sz36 rfl .here rfl) rfl rfl ?_
  refine .on rfl <| .call cal7 rfl rfl rfl (doF hb34r10 (ordFlat (o := oT 98) (by decide +kernel)).1 (ordS_flat (o := oT 98) (by decide +kernel))) fun v34r2 I34r2 O34r2 hI34r2 hK34r2 => ?_
  rw [bl2] at hK34r2
  obtain ⟨rfl, cs34r2, rfl, hb34r2⟩ := hK34r2
  have hb34r20 := hb34r2
  obtain ⟨nv34r2, tv34r2, bv34r2, rfl, hn34r2, ht34r2, hx34r2⟩ := hb34r2.ex
  obtain ⟨_, _, rfl, -⟩ := hn34r2
  obtain ⟨_, _, rfl, htl34r2, -⟩ := ht34r2
  obtain ⟨_, _, rfl, -⟩ := hx34r2
  refine .e (.move rfl) rfl rfl <| .e (.extract rfl rfl) rfl rfl <| .e (.extract rfl rfl) rfl rfl <| .on rfl <| .alloc zr27 rfl fun c10 _ _ => .on rfl <| .alloc zr41 rfl fun c11 _ _ => .on rfl <| .storeW sz27 rfl rfl rfl rfl rfl rfl (.there <| .here) ?_
  refine .on rfl <| .storeW sz41 rfl rfl rfl rfl rfl rfl .here <| .nil <| .go <| .seq <| .seq <| .region ?_
  refine .e (.fieldAddr fo41_0 rfl) rfl rfl <| .e (.load ag39 rfl .here rfl) rfl rfl <| .e (.neq rfl rfl) rfl rfl <| .nil <| .go <| .cond_false rfl ?_
  refine .skip <| .go <| .region <| .e (.loadW ag27 sz27 rfl (.there <| .here) rfl) rfl rfl <| .on rfl <| .storeW sz27 rfl rfl rfl rfl rfl rfl (.there <| .there <| .there <| .there <| .there <| .there <| .there <| .there <| .there <| .there <| .here) <| .nil ?_
  refine .blk_normal <| .go <| .region <| .e (.add (c := 3) rfl rfl (by decide)) rfl rfl <| .e (.move rfl) rfl rfl <| .nil ?_
  refine .again <| .seq <| .region <| .e (.lss rfl rfl) rfl rfl <| .nil <| .go ?_
  refine .seq <| .cond_true rfl <| .skip <| .go <| .seq <| .block ?_
  refine .seq <| .region <| .e (.indexAddrL (j := 3) sl58 rfl rfl rfl (by decide)) rfl rfl <| .e (.loadP ag36 sz36 rfl (.there <| .there <| .there <| .there <| .there <| .there <| .there <| .there <| .there <| .here) rfl) rfl rfl <| .on rfl <| .alloc zr36 rfl fun c12 _ _ => .on rfl <| .storeW sz36 rfl rfl rfl rfl rfl rfl .here ?_
  refine .nil <| .go <| .seq <| .region <| .e (.loadW ag27 sz27 rfl (.there <| .there <| .there <| .there <| .there <| .there <| .there <| .there <| .there <| .there <| .there <| .here) rfl) rfl rfl <| .e (.loadW ag36 sz36 rfl .here rfl) rfl rfl ?_
  refine .on rfl <| .call cal7 rfl rfl rfl (doF hb34r20 (ordFlat (o := oX 97 0) (by decide +kernel)).1 (ordS_flat (o := oX 97 0) (by decide +kernel))) fun v34r3 I34r3 O34r3 hI34r3 hK34r3 => ?_
  rw [bl3] at hK34r3
  obtain ⟨rfl, cs34r3, rfl, hb34r3⟩ := hK34r3
  have hb34r30 := hb34r3
  obtain ⟨nv34r3, tv34r3, bv34r3, rfl, hn34r3, ht34r3, hx34r3⟩ := hb34r3.ex
  obtain ⟨_, _, rfl, -⟩ := hn34r3
  obtain ⟨_, _, rfl, htl34r3, -⟩ := ht34r3
  obtain ⟨_, _, rfl, -⟩ := hx34r3
  refine .e (.move rfl) rfl rfl <| .e (.extract rfl rfl) rfl rfl <| .e (.extract rfl rfl) rfl rfl <| .on rfl <| .alloc zr27 rfl fun c13 _ _ => .on rfl <| .alloc zr41 rfl fun c14 _ _ => .on rfl <| .storeW sz27 rfl rfl rfl rfl rfl rfl (.there <| .here) ?_
  refine .on rfl <| .storeW sz41 rfl rfl rfl rfl rfl rfl .here <| .nil <| .go <| .seq <| .seq <| .region ?_
  refine .e (.fieldAddr fo41_0 rfl) rfl rfl <| .e (.load ag39 rfl .here rfl) rfl rfl <| .e (.neq rfl rfl) rfl rfl <| .nil <| .go <| .cond_false rfl ?_
  refine .skip <| .go <| .region <| .e (.loadW ag27 sz27 rfl (.there <| .here) rfl) rfl rfl <| .on rfl <| .storeW sz27 rfl rfl rfl rfl rfl rfl (.there <| .there <| .there <| .there <| .there <| .there <| .there <| .there <| .there <| .there <| .there <| .there <| .there <| .here) <| .nil ?_
  refine .blk_normal <| .go <| .region <| .e (.add (c := 4) rfl rfl (by decide)) rfl rfl <| .e (.move rfl) rfl rfl <| .nil ?_
  refine .again <| .seq <| .region <| .e (.lss rfl rfl) rfl rfl <| .nil <| .go ?_
  refine .seq <| .cond_false rfl <| .exit <| .exit <| .exit <| .blk_exit ?_
  refine .go <| .seq <| .region <| .e (.loadW ag27 sz27 rfl (.there <| .there <| .there <| .there <| .there <| .there <| .there <| .there <| .there <| .there <| .there <| .there <| .there <| .here) rfl) rfl rfl <| .e (.build bs36 zv36 rfl rfl) rfl rfl <| .on rfl <| .call cal7 rfl rfl rfl (doF hb34r30 (ordFlat (o := oX 98 0) (by decide +kernel)).1 (ordS_flat (o := oX 98 0) (by decide +kernel))) fun v45 I45 O45 hI45 hK45 => ?_
  rw [bl4] at hK45
  obtain ⟨rfl, cs45, rfl, hb45⟩ := hK45
  have hb450 := hb45
  obtain ⟨nv45, tv45, bv45, rfl, hn45, ht45, hx45⟩ := hb45.ex
  obtain ⟨_, _, rfl, -⟩ := hn45
  obtain ⟨_, _, rfl, htl45, -⟩ := ht45
  obtain ⟨_, _, rfl, -⟩ := hx45
  refine .e (.move rfl) rfl rfl <| .e (.extract rfl rfl) rfl rfl <| .e (.extract rfl rfl) rfl rfl <| .on rfl <| .alloc zr27 rfl fun c15 _ _ => .on rfl <| .alloc zr41 rfl fun c16 _ _ => .on rfl <| .storeW sz27 rfl rfl rfl rfl rfl rfl (.there <| .here) ?_
  refine .on rfl <| .storeW sz41 rfl rfl rfl rfl rfl rfl .here <| .nil <| .go <| .seq <| .region <| .e (.loadW ag27 sz27 rfl (.there <| .there <| .there <| .there <| .there <| .there <| .there <| .there <| .there <| .there <| .there <| .there <| .there <| .there <| .there <| .here) rfl) rfl rfl ?_
  refine .e (.build bs36 zv36 rfl rfl) rfl rfl <| .on rfl <| .call cal7 rfl rfl rfl (doF (hb34r30.mono hI45) (ordFlat (o := ordK 7 ⟨#[97]⟩) (by decide +kernel)).1 (ordS_flat (o := ordK 7 ⟨#[97]⟩) (by decide +kernel))) fun v51 I51 O51 hI51 hK51 => ?_
  rw [bl5] at hK51
  obtain ⟨rfl, cs51, rfl, hb51⟩ := hK51
  have hb510 := hb51
  obtain ⟨nv51, tv51, bv51, rfl, hn51, ht51, hx51⟩ := hb51.ex
  obtain ⟨_, _, rfl, -⟩ := hn51
  obtain ⟨_, _, rfl, htl51, -⟩ := ht51
  obtain ⟨_, _, rfl, -⟩ := hx51
  refine .e (.move rfl) rfl rfl <| .e (.extract rfl rfl) rfl rfl <| .e (.extract rfl rfl) rfl rfl <| .on rfl <| .alloc zr27 rfl fun c17 _ _ => .on rfl <| .alloc zr41 rfl fun c18 _ _ => .on rfl <| .storeW sz27 rfl rfl rfl rfl rfl rfl (.there <| .here) ?_
  refine .on rfl <| .storeW sz41 rfl rfl rfl rfl rfl rfl .here <| .nil <| .go <| .seq <| .region <| .e (.loadW ag27 sz27 rfl (.there <| .there <| .there <| .there <| .there <| .there <| .there <| .there <| .there <| .there <| .there <| .there <| .there <| .there <| .there <| .there <| .there <| .here) rfl) rfl rfl ?_
  refine .on rfl <| .call cal12 rfl rfl rfl (leadF (t := 3) ((hb34r30.mono hI45).mono hI51) (by unfold U64; decide)) fun v56 I56 O56 hI56 hK56 => ?_
  rw [bl6] at hK56
  obtain ⟨rfl, cs56, rfl, hb56⟩ := hK56
  have hb560 := hb56
  obtain ⟨nv56, tv56, bv56, rfl, hn56, ht56, hx56⟩ := hb56.ex
  obtain ⟨_, _, rfl, -⟩ := hn56
  obtain ⟨_, _, rfl, htl56, -⟩ := ht56
  obtain ⟨_, _, rfl, -⟩ := hx56
  refine .e (.move rfl) rfl rfl <| .e (.extract rfl rfl) rfl rfl <| .e (.extract rfl rfl) rfl rfl <| .on rfl <| .alloc zr27 rfl fun c19 _ _ => .on rfl <| .storeW sz27 rfl rfl rfl rfl rfl rfl .here <| .e (.assign rfl) rfl rfl ?_
  refine .nil <| .go <| .seq <| .region <| .e (.loadW ag27 sz27 rfl .here rfl) rfl rfl <| .e (.build bs36 zv36 rfl rfl) rfl rfl ?_
  refine .on rfl <| .call cal7 rfl rfl rfl (doF hb560 (ordFlat (o := oX 98 2) (by decide +kernel)).1 (ordS_flat (o := oX 98 2) (by decide +kernel))) fun v62 I62 O62 hI62 hK62 => ?_
  rw [bl7] at hK62
  obtain ⟨rfl, cs62, rfl, hb62⟩ := hK62
  have hb620 := hb62
  obtain ⟨nv62, tv62, bv62, rfl, hn62, ht62, hx62⟩ := hb62.ex
  obtain ⟨_, _, rfl, -⟩ := hn62
  obtain ⟨_, _, rfl, htl62, -⟩ := ht62
  obtain ⟨_, _, rfl, -⟩ := hx62
  refine .e (.move rfl) rfl rfl <| .e (.extract rfl rfl) rfl rfl <| .e (.extract rfl rfl) rfl rfl <| .on rfl <| .alloc zr27 rfl fun c20 _ _ => .on rfl <| .alloc zr41 rfl fun c21 _ _ => .on rfl <| .storeW sz27 rfl rfl rfl rfl rfl rfl (.there <| .here) ?_
  refine .on rfl <| .storeW sz41 rfl rfl rfl rfl rfl rfl .here <| .nil <| .go <| .seq <| .region <| .e (.fieldAddr fo41_0 rfl) rfl rfl ?_
  refine .e (.load ag39 rfl (.there <| .there <| .there <| .there <| .there <| .here) rfl) rfl rfl <| .e ((EV.cast (u := .bool true) (.eql rfl rfl) (congrArg Value.bool (by decide)))) rfl rfl <| .e (.move rfl) rfl rfl <| .e (.fieldAddr fo41_1 rfl) rfl rfl <| .e (.load ag9 rfl (.there <| .there <| .there <| .here) rfl) rfl rfl <| .e ((EV.cast (u := .bool true) (.streq rfl rfl) (congrArg Value.bool (by decide)))) rfl rfl ?_
  refine .e (.pickT rfl rfl) rfl rfl <| .e (.move rfl) rfl rfl <| .e (.fieldAddr fo41_0 rfl) rfl rfl <| .e (.load ag39 rfl (.there <| .there <| .there <| .here) rfl) rfl rfl <| .e ((EV.cast (u := .bool true) (.eql rfl rfl) (congrArg Value.bool (by decide)))) rfl rfl <| .e (.pickT rfl rfl) rfl rfl ?_
  refine .e (.move rfl) rfl rfl <| .e (.move rfl) rfl rfl <| .e ((EV.cast (u := .bool true) (.eql rfl rfl) (congrArg Value.bool (by decide)))) rfl rfl <| .e (.pickT rfl rfl) rfl rfl <| .e (.move rfl) rfl rfl <| .e (.fieldAddr fo41_0 rfl) rfl rfl ?_
  refine .e (.load ag39 rfl .here rfl) rfl rfl <| .e ((EV.cast (u := .bool true) (.eql rfl rfl) (congrArg Value.bool (by decide)))) rfl rfl <| .e (.pickT rfl rfl) rfl rfl <| .e (.move rfl) rfl rfl <| .e (.fieldAddr fo27_1 rfl) rfl rfl <| .e (.load ag23 rfl (.there <| .there <| .there <| .there <| .there <| .there <| .there <| .there <| .there <| .there <| .there <| .there <| .there <| .there <| .there <| .there <| .there <| .there <| .there <| .there <| .here) rfl) rfl rfl ?_
  refine .e (.len sl23 rfl rfl) rfl rfl <| .e ((EV.cast (u := .bool true) (.eql rfl rfl) (congrArg Value.bool (by decide)))) rfl rfl <| .e (.pickT rfl rfl) rfl rfl <| .e (.assign rfl) rfl rfl <| .nil <| .go ?_
  refine .ret ?_
  refine .tail <| .tail <| .tail <| .tail <| .tail <| .tail ?_
  refine .tail <| .tail <| .tail <| .tail <| .tail <| .tail ?_
  refine .tail <| .tail <| .tail <| .tail <| .tail <| .tail ?_
  refine .tail <| .tail <| .tail ?_
  refine .back (Imm.le_trans (Imm.le_trans (Imm.le_trans (Imm.le_trans (Imm.le_trans (Imm.le_trans (Imm.le_trans hI34r0 hI34r1) hI34r2) hI34r3) hI45) hI51) hI56) hI62) ?_
  refine Post.retE rfl rfl ?_
  rfl

end Go.Proofs.YtajpakifkinadaaGreatDoor
