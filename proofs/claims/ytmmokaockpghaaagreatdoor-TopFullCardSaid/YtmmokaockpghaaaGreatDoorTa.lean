/- Walks of functions over a symbolic memory, printed by a program of the session. -/
import Derived.Test.YtmmokaockpghaaaGreatDoorSe
namespace Go.Proofs.YtmmokaockpghaaaGreatDoor
open Go.Sy
set_option linter.unusedSimpArgs false
set_option linter.unusedVariables false

section
variable {P : Program} {F : Fr} {I : Imm} {B : Own} {d : Option Tmp} {ty : TypeId} {pos : String} {af : Array Edge} {g : Option (Nat × Bool)}
theorem _root_.Go.Sy.EV.shlC {t t2 : TypeId} {x y : Operand} {q r : IntKind} {a b c : Int} (hx : F.op x = some (.int q a)) (hy : F.op y = some (.int r b)) (hb : ¬b < 0) (hc : q.wrap (a * 2 ^ (min b.toNat q.bits)) = c) :
    EV P F I B ⟨d, .binOp .shl t x y t2, ty, pos, af, g⟩ (.int q c) := .int hx hy fun w => by
  subst hc; simp [binOp, Op.shift, hb]
theorem _root_.Go.Sy.EV.shrC {t t2 : TypeId} {x y : Operand} {q r : IntKind} {a b c : Int} (hx : F.op x = some (.int q a)) (hy : F.op y = some (.int r b)) (hb : ¬b < 0) (hc : a.fdiv (2 ^ (min b.toNat q.bits)) = c) :
    EV P F I B ⟨d, .binOp .shr t x y t2, ty, pos, af, g⟩ (.int q c) := .int hx hy fun w => by
  subst hc; simp [binOp, Op.shift, hb]
theorem _root_.Go.Sy.EV.xorC {t t2 : TypeId} {x y : Operand} {q : IntKind} {a b c : Int} (hx : F.op x = some (.int q a)) (hy : F.op y = some (.int q b)) (hc : q.wrap ((BitVec.ofInt q.bits a ^^^ BitVec.ofInt q.bits b).toNat : Nat) = c) :
    EV P F I B ⟨d, .binOp .xor t x y t2, ty, pos, af, g⟩ (.int q c) := .int hx hy fun w => by
  subst hc; simp [binOp, Op.intArith, Op.intBits]
end
def shl16 (a b : Int) : Int := IntKind.u16.wrap (a * 2 ^ (min b.toNat IntKind.u16.bits))
def shr16 (a b : Int) : Int := a.fdiv (2 ^ (min b.toNat IntKind.u16.bits))
def xor16 (a b : Int) : Int := IntKind.u16.wrap ((BitVec.ofInt IntKind.u16.bits a ^^^ BitVec.ofInt IntKind.u16.bits b).toNat : Nat)
def bit1 (x : Int) : Int := xor16 (shl16 x 1) (IntKind.u16.wrap (4129 * shr16 x 15))
def bitTo (x : Int) : Nat → Int
  | 0 => x
  | j + 1 => bit1 (bitTo x j)
def byteIn (x : Int) (c : UInt8) : Int := xor16 x (shl16 (IntKind.u16.wrap (c.toNat : Nat)) 8)
def sumTo (s : ByteArray) : Nat → Int
  | 0 => 65535
  | k + 1 => bitTo (byteIn (sumTo s k) (s.data.toList.getD k 0)) 8
theorem sum_ten : sumTo ⟨#[49, 50, 51, 52, 53, 54, 55, 56, 57]⟩ 9 = 10673 := by decide +kernel

set_option maxHeartbeats 1000000 in
set_option maxRecDepth 20000 in
theorem sum_ok {I : Imm} {O : Own} {s : ByteArray} (hs : s.size ≤ 1000) :
    Pure Tryz.prog 85 [.string s] I O (.int .u16 (sumTo s s.size)) := by
  refine Go.Sy.Does.enter Tryz.func85 rfl Tryz.ntmps85 rfl ?_
  refine .seq <| .region <| .e (.assign rfl) rfl rfl <| .nil <| .go <| .scope ?_
  refine .seq <| .region <| .e (.assign rfl) rfl rfl <| .nil <| .go <| .seq ?_
  refine .label <| .go <| .seq <| .seq <| .region <| .e (.assign rfl) rfl rfl ?_
  refine .nil <| .go <| .block ?_
  refine .loopM [3, 4, 5, 6, 7, 8, 9, 10, 11, 12, 13, 14, 15, 16, 17, 18, 19, 20, 21, 22, 23, 24, 25, 26, 27, 28] (fun k => s.size + 1 - k) (fun k => k ≤ s.size) (fun k => [(4, .int .i64 k), (3, .int .u16 (sumTo s k))]) (fun _ => _) (fun _ => _) (0) (Nat.zero_le _) ⟨rfl, rfl, trivial⟩ rfl rfl ?_
  intro k hk
  refine .seq <| .block <| .seq <| .seq <| .region <| .e (.move rfl) rfl rfl ?_
  refine .e (.move rfl) rfl rfl <| .e (.lenS Tryz.underlying9 rfl rfl) rfl rfl <| .e (.eql rfl rfl) rfl rfl <| .nil <| .go ?_
  refine .split 11 rfl (fun h11 => ?_) (fun h11 => ?_)
  · skip
    replace h11 := of_decide_eq_true h11
    refine .cond_true rfl <| .exit <| .exit <| .blk_other rfl <| .exit <| .exit ?_
    refine .blk_exit <| .go <| .seq <| .region <| .e (.move rfl) rfl rfl <| .e (.assign rfl) rfl rfl ?_
    refine .nil <| .go <| .ret <| .sc_ret ?_
    refine Post.retE rfl rfl ?_
    exact congrArg (fun k : Nat => Value.int .u16 (sumTo s k)) (show k = s.size by omega)
  · skip
    replace h11 := of_decide_eq_false h11
    refine .cond_false rfl <| .skip <| .go <| .seq <| .region <| .e (.move rfl) rfl rfl ?_
    refine .e (.move rfl) rfl rfl <| .e (.move rfl) rfl rfl ?_
    have hkl : k < s.data.toList.length := by
      have e9 : s.data.toList.length = s.size := by simp
      omega
    refine .e ((.indexS (j := k) Tryz.underlying9 rfl rfl rfl hkl)) rfl rfl <| .e (.conv Tryz.underlying5 Tryz.underlying120 rfl) rfl rfl <| .e ((.shlC rfl rfl (by decide) rfl)) rfl rfl <| .e ((.xorC rfl rfl rfl)) rfl rfl <| .e (.assign rfl) rfl rfl <| .nil ?_
    refine .go <| .seq <| .region <| .e (.move rfl) rfl rfl <| .nil <| .go ?_
    refine .block ?_
    refine .loopM [3, 5, 19, 20, 21, 22, 23, 24, 25, 26, 27, 28] (fun j => 8 - j) (fun j => j ≤ 8) (fun j => [(19, .int .i64 j), (3, .int .u16 (bitTo (byteIn (sumTo s k) s.data.toList[k]) j))]) (fun _ => _) (fun _ => _) (0) (Nat.zero_le _) ⟨rfl, rfl, trivial⟩ rfl rfl ?_
    intro j hj
    refine .seq <| .region <| .e (.lss rfl rfl) rfl rfl <| .nil <| .go <| .seq ?_
    refine .split 20 rfl (fun h20 => ?_) (fun h20 => ?_)
    · skip
      replace h20 := of_decide_eq_true h20
      refine .cond_true rfl <| .skip <| .go <| .seq <| .block <| .seq ?_
      refine .region <| .e (.move rfl) rfl rfl <| .e ((.shrC rfl rfl (by decide) rfl)) rfl rfl <| .e (.assign rfl) rfl rfl <| .nil <| .go ?_
      refine .region <| .e (.move rfl) rfl rfl <| .e ((.shlC rfl rfl (by decide) rfl)) rfl rfl <| .e (.move rfl) rfl rfl <| .e (.mul rfl rfl rfl) rfl rfl <| .e ((.xorC rfl rfl rfl)) rfl rfl ?_
      refine .e (.assign rfl) rfl rfl <| .nil <| .blk_normal <| .go <| .region <| .e (.add rfl rfl (by first | exact wrap_succ (by omega) | exact IntWalk.i64_in _ (by omega) | exact rfl)) rfl rfl ?_
      refine .e (.move rfl) rfl rfl <| .nil ?_
      exact .mid (j + 1) ⟨by omega, by omega⟩ ⟨rfl, rfl, trivial⟩ rfl rfl (.pre 13 rfl (.app rfl .base))
    · skip
      replace h20 := of_decide_eq_false h20
      refine .cond_false rfl <| .exit <| .exit <| .exit <| .blk_exit <| .blk_normal ?_
      refine .go <| .region <| .e (.move rfl) rfl rfl <| .e (.add rfl rfl (by first | exact wrap_succ (by omega) | exact IntWalk.i64_in _ (by omega) | exact rfl)) rfl rfl <| .e (.assign rfl) rfl rfl <| .nil ?_
      have e3 : sumTo s (k + 1) = bitTo (byteIn (sumTo s k) s.data.toList[k]) j := by
        have ej : j = 8 := by omega
        rw [ej]; show bitTo (byteIn (sumTo s k) (s.data.toList.getD k 0)) 8 = _
        rw [List.getD_eq_getElem?_getD, List.getElem?_eq_getElem hkl]; rfl
      exact .mid (k + 1) ⟨by omega, by omega⟩ ⟨rfl, (by show some _ = some _; rw [e3]), trivial⟩ rfl rfl (.pre 5 rfl (.app rfl (.del rfl (.pre 14 rfl (.app rfl .base)))))

structure Fil where
  name : ByteArray
  data : ByteArray
  sync : Int
def FilR (_ : Imm) (cs : List Value) (x : Fil) : Prop := cs = [.string x.name, .string x.data, .int .i64 x.sync]
theorem FilR.len {I : Imm} {cs : List Value} {x : Fil} (h : FilR I cs x) : cs.length = 3 := by rw [h]; rfl
theorem FilR.ones {I : Imm} {cs : List Value} {x : Fil} (h : FilR I cs x) : Go.Sy.ones cs = true := by rw [h]; rfl
def fA : Fil := ⟨⟨#[97]⟩, ⟨#[120]⟩, 0⟩
abbrev dskV (v : Value) : List Value := [v, .bool false, .int .i64 (-1)]

set_option maxHeartbeats 1000000 in
set_option maxRecDepth 20000 in
theorem dchk0_ok {I : Imm} {O : Own}  :
    Pure Tryz.prog 186 [.agg ⟨dskV (.slice none 0 0)⟩] I O (.int .i64 0) := by
  refine Go.Sy.Does.enter Tryz.func186 rfl Tryz.ntmps186 rfl ?_
  refine .seq <| .region <| .on rfl <| .box rfl rfl rfl fun c1 _ _ => .e (.assign rfl) rfl rfl <| .nil <| .go ?_
  refine .seq <| .region <| .e (.assign rfl) rfl rfl <| .nil <| .go <| .seq ?_
  refine .seq <| .region <| .e (.fieldAddr fo115_0 rfl) rfl rfl <| .e (.load ag113 rfl .here rfl) rfl rfl <| .e (.len sl113 rfl rfl) rfl rfl <| .e (.move rfl) rfl rfl ?_
  refine .nil <| .go <| .block <| .unroll 0 <| .seq <| .region ?_
  refine .e (.lss rfl rfl) rfl rfl <| .nil <| .go <| .seq <| .cond_false rfl <| .exit ?_
  refine .exit <| .exit <| .blk_exit <| .go <| .seq <| .seq ?_
  refine .region <| .e (.move rfl) rfl rfl <| .e (.not rfl) rfl rfl <| .e (.move rfl) rfl rfl <| .e (.fieldAddr fo115_0 rfl) rfl rfl <| .e (.load ag113 rfl .here rfl) rfl rfl ?_
  refine .e (.len sl113 rfl rfl) rfl rfl <| .e (.gtr rfl rfl) rfl rfl <| .e (.pickF rfl rfl) rfl rfl <| .nil <| .go <| .cond_false rfl ?_
  refine .skip <| .go <| .seq <| .region <| .e (.assign rfl) rfl rfl <| .nil ?_
  refine .go <| .ret ?_
  refine .tail ?_
  refine Post.retE rfl rfl ?_
  rfl

set_option maxHeartbeats 1000000 in
set_option maxRecDepth 20000 in
theorem dchk1_ok {I : Imm} {O : Own} {fb cap : Nat} (hl : SlR FilR 3 I (.slice (some ⟨fb, 0, none⟩) 1 cap) [fA]) :
    Pure Tryz.prog 186 [.agg ⟨dskV (.slice (some ⟨fb, 0, none⟩) 1 cap)⟩] I O (.int .i64 0) := by
  refine Go.Sy.Does.enter Tryz.func186 rfl Tryz.ntmps186 rfl ?_
  refine .seq <| .region <| .on rfl <| .box rfl rfl rfl fun c1 _ _ => .e (.assign rfl) rfl rfl <| .nil <| .go ?_
  refine .seq <| .region <| .e (.assign rfl) rfl rfl <| .nil <| .go <| .seq ?_
  refine .seq <| .region <| .e (.fieldAddr fo115_0 rfl) rfl rfl <| .e (.load ag113 rfl .here rfl) rfl rfl <| .e (.len sl113 rfl rfl) rfl rfl <| .e (.move rfl) rfl rfl ?_
  refine .nil <| .go <| .block <| .unroll 1 <| .seq <| .region ?_
  refine .e (.lss rfl rfl) rfl rfl <| .nil <| .go <| .seq <| .cond_true rfl <| .skip ?_
  refine .go <| .seq <| .block <| .seq <| .region <| .e (.move rfl) rfl rfl ?_
  obtain ⟨eb12, eo12, cs12, hd12, hat12, hr12⟩ := SlR.at_ hl (k := 0) (by decide)
  cases hd12
  obtain rfl : cs12 = [.string ⟨#[97]⟩, .string ⟨#[120]⟩, .int .i64 0] := hr12
  refine .e (.indexAddrL sl113 rfl rfl rfl (by decide)) rfl rfl <| .e (.loadIA ag170 sz170 rfl hat12 rfl) rfl rfl <| .on rfl <| .alloc zr170 rfl fun c2 _ _ => .e (.assign rfl) rfl rfl <| .on rfl <| .storeW sz170 rfl rfl rfl rfl rfl rfl .here <| .nil ?_
  refine .go ?_
  refine .draw [(c1, _), (c2, _)] mixed (.cons (.there <| .here) (.cons .here .nil)) ?_
  refine .t 0 rfl (.move rfl) rfl rfl (by kernel_rfl) <| .t 1 rfl (.move rfl) rfl rfl (by kernel_rfl) <| .t 2 rfl (.move rfl) rfl rfl (by kernel_rfl) <| .t 3 rfl (.eql rfl rfl) rfl rfl (by kernel_rfl) <| .t 4 rfl (.move rfl) rfl rfl (by kernel_rfl) <| .s 5 rfl rfl rfl (by kernel_rfl) ?_
  refine .s 6 rfl rfl rfl (by kernel_rfl) <| .s 7 rfl rfl rfl (by kernel_rfl) <| .s 8 rfl rfl rfl (by kernel_rfl) <| .s 9 rfl rfl rfl (by kernel_rfl) <| .s 10 rfl rfl rfl (by kernel_rfl) <| .s 11 rfl rfl rfl (by kernel_rfl) ?_
  refine .s 12 rfl rfl rfl (by kernel_rfl) <| .s 13 rfl rfl rfl (by kernel_rfl) <| .s 14 rfl rfl rfl (by kernel_rfl) <| .t 15 rfl (.pickT rfl rfl) rfl rfl (by kernel_rfl) <| .t 16 rfl (.pickT rfl rfl) rfl rfl (by kernel_rfl) <| .t 17 rfl (.move rfl) rfl rfl (by kernel_rfl) ?_
  refine .t 18 rfl (.fieldAddr fo170_2 rfl) rfl rfl (by kernel_rfl) <| .t 19 rfl (.load ag3 rfl (.there <| .here) rfl) rfl rfl (by kernel_rfl) <| .t 20 rfl ((EV.cast (u := .bool true) (.geq rfl rfl) (congrArg Value.bool (by decide)))) rfl rfl (by kernel_rfl) <| .t 21 rfl (.pickT rfl rfl) rfl rfl (by kernel_rfl) <| .t 22 rfl (.move rfl) rfl rfl (by kernel_rfl) <| .t 23 rfl (.fieldAddr fo170_2 rfl) rfl rfl (by kernel_rfl) ?_
  refine .t 24 rfl (.load ag3 rfl (.there <| .here) rfl) rfl rfl (by kernel_rfl) <| .t 25 rfl (.fieldAddr fo170_1 rfl) rfl rfl (by kernel_rfl) <| .t 26 rfl (.load ag9 rfl (.there <| .here) rfl) rfl rfl (by kernel_rfl) <| .t 27 rfl (.lenS Tryz.underlying9 rfl rfl) rfl rfl (by kernel_rfl) <| .t 28 rfl ((EV.cast (u := .bool true) (.leq rfl rfl) (congrArg Value.bool (by decide)))) rfl rfl (by kernel_rfl) <| .t 29 rfl (.pickT rfl rfl) rfl rfl (by kernel_rfl) ?_
  refine .t 30 rfl (.assign rfl) rfl rfl (by kernel_rfl) <| .done (by kernel_rfl) <| .blk_normal <| .go <| .region <| .e (.add (c := 1) rfl rfl (by decide)) rfl rfl ?_
  refine .e (.move rfl) rfl rfl <| .nil <| .again <| .seq <| .region <| .e (.lss rfl rfl) rfl rfl ?_
  refine .nil <| .go <| .seq <| .cond_false rfl <| .exit <| .exit ?_
  refine .exit <| .blk_exit <| .go <| .seq <| .seq <| .region ?_
  refine .e (.move rfl) rfl rfl <| .e (.not rfl) rfl rfl <| .e (.move rfl) rfl rfl <| .e (.fieldAddr fo115_0 rfl) rfl rfl <| .e (.load ag113 rfl (.there <| .here) rfl) rfl rfl <| .e (.len sl113 rfl rfl) rfl rfl ?_
  refine .e (.gtr rfl rfl) rfl rfl <| .e (.pickF rfl rfl) rfl rfl <| .nil <| .go <| .cond_false rfl <| .skip ?_
  refine .go <| .seq <| .region <| .e (.assign rfl) rfl rfl <| .nil <| .go ?_
  refine .ret ?_
  refine .tail <| .tail ?_
  refine Post.retE rfl rfl ?_
  rfl

set_option maxHeartbeats 1000000 in
set_option maxRecDepth 20000 in
theorem dcmp_ok {I : Imm} {O : Own} {x s : ByteArray} {y : ByteArray} {n : Int} :
    Pure Tryz.prog 192 [.agg ⟨[.string x, .string y, .int .i64 n]⟩, .string s] I O (.int .i64 (cmpS x s)) := by
  refine Go.Sy.Does.enter Tryz.func192 rfl Tryz.ntmps192 rfl ?_
  refine .seq <| .region <| .on rfl <| .box rfl rfl rfl fun c1 _ _ => .e (.assign rfl) rfl rfl <| .nil <| .go ?_
  refine .seq <| .region <| .e (.fieldAddr fo170_0 rfl) rfl rfl <| .e (.load ag9 rfl .here rfl) rfl rfl <| .e (.move rfl) rfl rfl <| .on rfl <| .callP cal93 rfl rfl rfl (cmpS_ok) ?_
  refine .e (.assign rfl) rfl rfl <| .nil <| .go <| .ret ?_
  refine .tail ?_
  refine Post.retE rfl rfl ?_
  rfl

set_option maxHeartbeats 1000000 in
set_option maxRecDepth 20000 in
theorem dfind0_ok {I : Imm} {O : Own}  :
    Pure Tryz.prog 191 [.slice none 0 0, .string ⟨#[97]⟩, .func (.func 192) #[] #[]] I O (.tuple ⟨[.int .i64 0, .bool false]⟩) := by
  refine Go.Sy.Does.enter Tryz.func191 rfl Tryz.ntmps191 rfl ?_
  refine .seq <| .region <| .e (.assign rfl) rfl rfl <| .e (.assign rfl) rfl rfl <| .nil <| .go ?_
  refine .seq <| .region <| .e (.move rfl) rfl rfl <| .e (.len sl113 rfl rfl) rfl rfl <| .e (.assign rfl) rfl rfl <| .nil ?_
  refine .go <| .seq <| .region <| .e (.move rfl) rfl rfl <| .e (.assign rfl) rfl rfl <| .e (.assign rfl) rfl rfl ?_
  refine .nil <| .go <| .seq <| .block <| .unroll 0 <| .seq ?_
  refine .seq <| .region <| .e (.move rfl) rfl rfl <| .e (.move rfl) rfl rfl <| .e (.lss rfl rfl) rfl rfl <| .nil ?_
  refine .go <| .cond_false rfl <| .exit <| .exit <| .exit <| .blk_exit ?_
  refine .go <| .seq <| .region <| .e (.move rfl) rfl rfl <| .e (.move rfl) rfl rfl <| .e (.move rfl) rfl rfl ?_
  refine .e (.lss rfl rfl) rfl rfl <| .e (.move rfl) rfl rfl <| .off rfl rfl <| .off rfl rfl <| .off rfl rfl <| .off rfl rfl ?_
  refine .off rfl rfl <| .off rfl rfl <| .off rfl rfl <| .off rfl rfl <| .e (.pickF rfl rfl) rfl rfl <| .e (.assign rfl) rfl rfl ?_
  refine .e (.assign rfl) rfl rfl <| .nil <| .go <| .ret ?_
  refine Post.retsE rfl (.tmp rfl (.tmp rfl .nil)) rfl (fun w h => h) ?_
  rfl

set_option maxHeartbeats 1000000 in
set_option maxRecDepth 20000 in
theorem dfind1_ok {I : Imm} {O : Own} {fb cap : Nat} (hl : SlR FilR 3 I (.slice (some ⟨fb, 0, none⟩) 1 cap) [fA]) :
    Pure Tryz.prog 191 [.slice (some ⟨fb, 0, none⟩) 1 cap, .string ⟨#[97]⟩, .func (.func 192) #[] #[]] I O (.tuple ⟨[.int .i64 0, .bool true]⟩) := by
  refine Go.Sy.Does.enter Tryz.func191 rfl Tryz.ntmps191 rfl ?_
  refine .seq <| .region <| .e (.assign rfl) rfl rfl <| .e (.assign rfl) rfl rfl <| .nil <| .go ?_
  refine .seq <| .region <| .e (.move rfl) rfl rfl <| .e (.len sl113 rfl rfl) rfl rfl <| .e (.assign rfl) rfl rfl <| .nil ?_
  refine .go <| .seq <| .region <| .e (.move rfl) rfl rfl <| .e (.assign rfl) rfl rfl <| .e (.assign rfl) rfl rfl ?_
  refine .nil <| .go <| .seq <| .block <| .unroll 1 <| .seq ?_
  refine .seq <| .region <| .e (.move rfl) rfl rfl <| .e (.move rfl) rfl rfl <| .e (.lss rfl rfl) rfl rfl <| .nil ?_
  refine .go <| .cond_true rfl <| .skip <| .go <| .block <| .seq ?_
  refine .region <| .e (.move rfl) rfl rfl <| .e (.move rfl) rfl rfl <| .e (.add (c := 1) rfl rfl (by decide)) rfl rfl <| .e ((EV.cast (u := .int .u64 1) (.conv Tryz.underlying3 Tryz.underlying138 rfl) rfl)) rfl rfl <| .e (.shr1 (c := 0) rfl rfl (by decide) rfl) rfl rfl ?_
  refine .e ((EV.cast (u := .int .i64 0) (.conv Tryz.underlying138 Tryz.underlying3 rfl) rfl)) rfl rfl <| .e (.assign rfl) rfl rfl <| .nil <| .go <| .seq <| .region ?_
  refine .e (.move rfl) rfl rfl <| .e (.move rfl) rfl rfl <| .e (.move rfl) rfl rfl ?_
  obtain ⟨eb27, eo27, cs27, hd27, hat27, hr27⟩ := SlR.at_ hl (k := 0) (by decide)
  cases hd27
  obtain rfl : cs27 = [.string ⟨#[97]⟩, .string ⟨#[120]⟩, .int .i64 0] := hr27
  refine .e (.indexAddrL sl113 rfl rfl rfl (by decide)) rfl rfl <| .e (.loadIA ag170 sz170 rfl hat27 rfl) rfl rfl <| .e (.move rfl) rfl rfl <| .on rfl <| .callP cal192 rfl rfl rfl ((dcmp_ok).cast (v := .int .i64 (cmpS ⟨#[97]⟩ ⟨#[97]⟩)) (u := .int .i64 0) (congrArg (Value.int .i64) (show cmpS ⟨#[97]⟩ ⟨#[97]⟩ = 0 by decide +kernel))) <| .e (.lss rfl rfl) rfl rfl <| .nil ?_
  refine .go <| .cond_false rfl <| .region <| .e (.move rfl) rfl rfl <| .e (.assign rfl) rfl rfl <| .nil ?_
  refine .blk_normal <| .again <| .seq <| .seq <| .region <| .e (.move rfl) rfl rfl ?_
  refine .e (.move rfl) rfl rfl <| .e (.lss rfl rfl) rfl rfl <| .nil <| .go <| .cond_false rfl <| .exit ?_
  refine .exit <| .exit <| .blk_exit <| .go <| .seq <| .region ?_
  refine .e (.move rfl) rfl rfl <| .e (.move rfl) rfl rfl <| .e (.move rfl) rfl rfl <| .e (.lss rfl rfl) rfl rfl <| .e (.move rfl) rfl rfl <| .e (.move rfl) rfl rfl ?_
  refine .e (.move rfl) rfl rfl <| .e (.move rfl) rfl rfl ?_
  obtain ⟨eb43, eo43, cs43, hd43, hat43, hr43⟩ := SlR.at_ hl (k := 0) (by decide)
  cases hd43
  obtain rfl : cs43 = [.string ⟨#[97]⟩, .string ⟨#[120]⟩, .int .i64 0] := hr43
  refine .e (.indexAddrL sl113 rfl rfl rfl (by decide)) rfl rfl <| .e (.loadIA ag170 sz170 rfl hat43 rfl) rfl rfl <| .e (.move rfl) rfl rfl <| .on rfl <| .callP cal192 rfl rfl rfl ((dcmp_ok).cast (v := .int .i64 (cmpS ⟨#[97]⟩ ⟨#[97]⟩)) (u := .int .i64 0) (congrArg (Value.int .i64) (show cmpS ⟨#[97]⟩ ⟨#[97]⟩ = 0 by decide +kernel))) <| .e (.eql rfl rfl) rfl rfl <| .e (.pickT rfl rfl) rfl rfl ?_
  refine .e (.assign rfl) rfl rfl <| .e (.assign rfl) rfl rfl <| .nil <| .go <| .ret ?_
  refine Post.retsE rfl (.tmp rfl (.tmp rfl .nil)) rfl (fun w h => h) ?_
  rfl

set_option maxHeartbeats 1000000 in
set_option maxRecDepth 20000 in
theorem dplace0_ok {I : Imm} {O : Own}  :
    Pure Tryz.prog 140 [.agg ⟨dskV (.slice none 0 0)⟩, .string ⟨#[97]⟩] I O (.tuple ⟨[.int .i64 0, .bool false]⟩) := by
  refine Go.Sy.Does.enter Tryz.func140 rfl Tryz.ntmps140 rfl ?_
  refine .seq <| .region <| .on rfl <| .box rfl rfl rfl fun c1 _ _ => .e (.assign rfl) rfl rfl <| .e (.assign rfl) rfl rfl <| .nil ?_
  refine .go <| .seq <| .region <| .e (.fieldAddr fo115_0 rfl) rfl rfl <| .e (.load ag113 rfl .here rfl) rfl rfl <| .e (.move rfl) rfl rfl ?_
  refine .on rfl <| .callP cal191 rfl rfl rfl (dfind0_ok) <| .e (.extract rfl rfl) rfl rfl <| .e (.extract rfl rfl) rfl rfl <| .e (.assign rfl) rfl rfl <| .e (.assign rfl) rfl rfl <| .nil ?_
  refine .go <| .ret ?_
  refine Post.retsE rfl (.tmp rfl (.tmp rfl .nil)) rfl (fun w h => h.tail) ?_
  rfl

set_option maxHeartbeats 1000000 in
set_option maxRecDepth 20000 in
theorem dplace1_ok {I : Imm} {O : Own} {fb cap : Nat} (hl : SlR FilR 3 I (.slice (some ⟨fb, 0, none⟩) 1 cap) [fA]) :
    Pure Tryz.prog 140 [.agg ⟨dskV (.slice (some ⟨fb, 0, none⟩) 1 cap)⟩, .string ⟨#[97]⟩] I O (.tuple ⟨[.int .i64 0, .bool true]⟩) := by
  refine Go.Sy.Does.enter Tryz.func140 rfl Tryz.ntmps140 rfl ?_
  refine .seq <| .region <| .on rfl <| .box rfl rfl rfl fun c1 _ _ => .e (.assign rfl) rfl rfl <| .e (.assign rfl) rfl rfl <| .nil ?_
  refine .go <| .seq <| .region <| .e (.fieldAddr fo115_0 rfl) rfl rfl <| .e (.load ag113 rfl .here rfl) rfl rfl <| .e (.move rfl) rfl rfl ?_
  refine .on rfl <| .callP cal191 rfl rfl rfl (dfind1_ok hl) <| .e (.extract rfl rfl) rfl rfl <| .e (.extract rfl rfl) rfl rfl <| .e (.assign rfl) rfl rfl <| .e (.assign rfl) rfl rfl <| .nil ?_
  refine .go <| .ret ?_
  refine Post.retsE rfl (.tmp rfl (.tmp rfl .nil)) rfl (fun w h => h.tail) ?_
  rfl

set_option maxHeartbeats 1000000 in
set_option maxRecDepth 20000 in
theorem dnamed_ok {I : Imm} {O : Own}  :
    Pure Tryz.prog 215 [.string ⟨#[97]⟩] I O (.bool true) := by
  refine Go.Sy.Does.enter Tryz.func215 rfl Tryz.ntmps215 rfl ?_
  refine .seq <| .region <| .e (.assign rfl) rfl rfl <| .nil <| .go <| .seq ?_
  refine .region <| .e (.move rfl) rfl rfl <| .e ((EV.cast (u := .bool true) (.strne rfl rfl) (congrArg Value.bool (by decide)))) rfl rfl <| .e (.move rfl) rfl rfl <| .e (.move rfl) rfl rfl <| .e (.lenS Tryz.underlying9 rfl rfl) rfl rfl ?_
  refine .e ((EV.cast (u := .bool true) (.leq rfl rfl) (congrArg Value.bool (by decide)))) rfl rfl <| .e (.pickT rfl rfl) rfl rfl <| .e (.assign rfl) rfl rfl <| .nil <| .go <| .ret ?_
  refine Post.retE rfl rfl ?_
  rfl

set_option maxHeartbeats 1000000 in
set_option maxRecDepth 20000 in
theorem drefused_ok {I : Imm} {O : Own}  :
    Pure Tryz.prog 188 [.agg ⟨[.int .u8 0, .string ⟨#[97]⟩, .string ⟨#[]⟩, .string ⟨#[120]⟩, .int .i64 0]⟩, .agg ⟨dskV (.slice none 0 0)⟩] I O (.int .i64 0) := by
  refine Go.Sy.Does.enter Tryz.func188 rfl Tryz.ntmps188 rfl ?_
  refine .seq <| .region <| .on rfl <| .box rfl rfl rfl fun c1 _ _ => .on rfl <| .box rfl rfl rfl fun c2 _ _ => .e (.assign rfl) rfl rfl <| .nil ?_
  refine .go <| .seq <| .region <| .e (.loadW ag115 sz115 rfl .here rfl) rfl rfl <| .e (.fieldAddr fo166_1 rfl) rfl rfl <| .e (.load ag9 rfl (.there <| .here) rfl) rfl rfl ?_
  refine .on rfl <| .callP cal140 rfl rfl rfl (dplace0_ok) <| .e (.move rfl) rfl rfl <| .e (.extract rfl rfl) rfl rfl <| .e (.extract rfl rfl) rfl rfl <| .e (.assign rfl) rfl rfl <| .e (.assign rfl) rfl rfl ?_
  refine .nil <| .go <| .seq <| .block <| .seq <| .region ?_
  refine .e (.fieldAddr fo166_0 rfl) rfl rfl <| .e (.load ag164 rfl (.there <| .here) rfl) rfl rfl <| .e (.eql rfl rfl) rfl rfl <| .e (.move rfl) rfl rfl <| .e (.fieldAddr fo166_1 rfl) rfl rfl <| .e (.load ag9 rfl (.there <| .here) rfl) rfl rfl ?_
  refine .on rfl <| .callP cal215 rfl rfl rfl (dnamed_ok) <| .e (.not rfl) rfl rfl <| .e (.pickT rfl rfl) rfl rfl <| .e (.assign rfl) rfl rfl <| .nil <| .go ?_
  refine .cond_false rfl <| .seq <| .region <| .e (.fieldAddr fo166_0 rfl) rfl rfl <| .e (.load ag164 rfl (.there <| .here) rfl) rfl rfl <| .e (.eql rfl rfl) rfl rfl ?_
  refine .e (.move rfl) rfl rfl <| .e (.move rfl) rfl rfl <| .e (.not rfl) rfl rfl <| .e (.pickT rfl rfl) rfl rfl <| .e (.move rfl) rfl rfl <| .e (.fieldAddr fo115_0 rfl) rfl rfl ?_
  refine .e (.load ag113 rfl .here rfl) rfl rfl <| .e (.len sl113 rfl rfl) rfl rfl <| .e (.geq rfl rfl) rfl rfl <| .e (.pickT rfl rfl) rfl rfl <| .e (.assign rfl) rfl rfl <| .nil ?_
  refine .go <| .cond_false rfl <| .seq <| .region <| .e (.fieldAddr fo166_0 rfl) rfl rfl <| .e (.load ag164 rfl (.there <| .here) rfl) rfl rfl ?_
  refine .e (.neq rfl rfl) rfl rfl <| .e (.move rfl) rfl rfl <| .off rfl rfl <| .off rfl rfl <| .e (.pickF rfl rfl) rfl rfl <| .e (.assign rfl) rfl rfl ?_
  refine .nil <| .go <| .cond_false rfl <| .seq ?_
  refine .draw [(c1, _), (c2, _)] mixed (.cons (.there <| .here) (.cons .here .nil)) ?_
  refine .t 0 rfl (.fieldAddr fo166_0 rfl) rfl rfl (by kernel_rfl) <| .t 1 rfl (.load ag164 rfl .here rfl) rfl rfl (by kernel_rfl) <| .t 2 rfl (.eql rfl rfl) rfl rfl (by kernel_rfl) <| .t 3 rfl (.move rfl) rfl rfl (by kernel_rfl) <| .s 4 rfl rfl rfl (by kernel_rfl) <| .s 5 rfl rfl rfl (by kernel_rfl) ?_
  refine .s 6 rfl rfl rfl (by kernel_rfl) <| .s 7 rfl rfl rfl (by kernel_rfl) <| .s 8 rfl rfl rfl (by kernel_rfl) <| .s 9 rfl rfl rfl (by kernel_rfl) <| .s 10 rfl rfl rfl (by kernel_rfl) <| .s 11 rfl rfl rfl (by kernel_rfl) ?_
  refine .s 12 rfl rfl rfl (by kernel_rfl) <| .s 13 rfl rfl rfl (by kernel_rfl) <| .s 14 rfl rfl rfl (by kernel_rfl) <| .s 15 rfl rfl rfl (by kernel_rfl) <| .s 16 rfl rfl rfl (by kernel_rfl) <| .s 17 rfl rfl rfl (by kernel_rfl) ?_
  refine .s 18 rfl rfl rfl (by kernel_rfl) <| .t 19 rfl (.pickF rfl rfl) rfl rfl (by kernel_rfl) <| .t 20 rfl (.assign rfl) rfl rfl (by kernel_rfl) <| .done (by kernel_rfl) <| .go <| .cond_false rfl ?_
  refine .seq ?_
  refine .draw [(c1, _), (c2, _)] mixed (.cons (.there <| .here) (.cons .here .nil)) ?_
  refine .t 0 rfl (.fieldAddr fo166_0 rfl) rfl rfl (by kernel_rfl) <| .t 1 rfl (.load ag164 rfl .here rfl) rfl rfl (by kernel_rfl) <| .t 2 rfl (.eql rfl rfl) rfl rfl (by kernel_rfl) <| .t 3 rfl (.move rfl) rfl rfl (by kernel_rfl) <| .s 4 rfl rfl rfl (by kernel_rfl) <| .s 5 rfl rfl rfl (by kernel_rfl) ?_
  refine .s 6 rfl rfl rfl (by kernel_rfl) <| .s 7 rfl rfl rfl (by kernel_rfl) <| .s 8 rfl rfl rfl (by kernel_rfl) <| .s 9 rfl rfl rfl (by kernel_rfl) <| .s 10 rfl rfl rfl (by kernel_rfl) <| .s 11 rfl rfl rfl (by kernel_rfl) ?_
  refine .s 12 rfl rfl rfl (by kernel_rfl) <| .s 13 rfl rfl rfl (by kernel_rfl) <| .s 14 rfl rfl rfl (by kernel_rfl) <| .s 15 rfl rfl rfl (by kernel_rfl) <| .s 16 rfl rfl rfl (by kernel_rfl) <| .s 17 rfl rfl rfl (by kernel_rfl) ?_
  refine .t 18 rfl (.pickF rfl rfl) rfl rfl (by kernel_rfl) <| .t 19 rfl (.assign rfl) rfl rfl (by kernel_rfl) <| .done (by kernel_rfl) <| .go <| .cond_false rfl <| .seq ?_
  refine .region <| .e (.fieldAddr fo166_0 rfl) rfl rfl <| .e (.load ag164 rfl (.there <| .here) rfl) rfl rfl <| .e (.eql rfl rfl) rfl rfl <| .e (.move rfl) rfl rfl <| .off rfl rfl ?_
  refine .off rfl rfl <| .off rfl rfl <| .off rfl rfl <| .e (.pickF rfl rfl) rfl rfl <| .e (.assign rfl) rfl rfl <| .nil ?_
  refine .go <| .cond_false rfl <| .skip <| .blk_normal <| .go <| .seq ?_
  refine .region <| .e (.assign rfl) rfl rfl <| .nil <| .go <| .ret ?_
  refine .tail <| .tail ?_
  refine Post.retE rfl rfl ?_
  rfl

set_option maxHeartbeats 1000000 in
set_option maxRecDepth 20000 in
theorem dasked_ok {I : Imm} {O : Own} {fb cap : Nat} (hl : SlR FilR 3 I (.slice (some ⟨fb, 0, none⟩) 1 cap) [fA]) :
    Pure Tryz.prog 139 [.agg ⟨dskV (.slice (some ⟨fb, 0, none⟩) 1 cap)⟩] I O (.int .i64 0) := by
  refine Go.Sy.Does.enter Tryz.func139 rfl Tryz.ntmps139 rfl ?_
  refine .seq <| .region <| .on rfl <| .box rfl rfl rfl fun c1 _ _ => .e (.assign rfl) rfl rfl <| .nil <| .go ?_
  refine .seq <| .seq <| .region <| .e (.loadW ag115 sz115 rfl .here rfl) rfl rfl <| .on rfl <| .callP cal186 rfl rfl rfl (dchk1_ok hl) <| .e (.assign rfl) rfl rfl ?_
  refine .nil <| .go <| .seq <| .region <| .e (.move rfl) rfl rfl <| .e (.neq rfl rfl) rfl rfl ?_
  refine .nil <| .go <| .cond_false rfl <| .skip <| .go <| .seq ?_
  refine .seq <| .region <| .e (.fieldAddr fo115_1 rfl) rfl rfl <| .e (.load ag4 rfl .here rfl) rfl rfl <| .nil <| .go ?_
  refine .cond_false rfl <| .skip <| .go <| .seq <| .region <| .e (.assign rfl) rfl rfl ?_
  refine .nil <| .go <| .ret ?_
  refine .tail ?_
  refine Post.retE rfl rfl ?_
  rfl

set_option maxHeartbeats 1000000 in
set_option maxRecDepth 20000 in
theorem dread_ok {I : Imm} {O : Own} {fb cap : Nat} (hl : SlR FilR 3 I (.slice (some ⟨fb, 0, none⟩) 1 cap) [fA]) :
    Pure Tryz.prog 84 [.agg ⟨dskV (.slice (some ⟨fb, 0, none⟩) 1 cap)⟩, .string ⟨#[97]⟩] I O (.tuple ⟨[.string ⟨#[120]⟩, .int .i64 0]⟩) := by
  refine Go.Sy.Does.enter Tryz.func84 rfl Tryz.ntmps84 rfl ?_
  refine .seq <| .region <| .on rfl <| .box rfl rfl rfl fun c1 _ _ => .e (.assign rfl) rfl rfl <| .e (.assign rfl) rfl rfl <| .nil ?_
  refine .go <| .seq <| .seq <| .region <| .e (.loadW ag115 sz115 rfl .here rfl) rfl rfl <| .on rfl <| .callP cal139 rfl rfl rfl (dasked_ok hl) ?_
  refine .e (.assign rfl) rfl rfl <| .nil <| .go <| .seq <| .region <| .e (.move rfl) rfl rfl ?_
  refine .e (.neq rfl rfl) rfl rfl <| .nil <| .go <| .cond_false rfl <| .skip <| .go ?_
  refine .seq <| .region <| .e (.loadW ag115 sz115 rfl .here rfl) rfl rfl <| .e (.move rfl) rfl rfl <| .on rfl <| .callP cal140 rfl rfl rfl (dplace1_ok hl) <| .e (.move rfl) rfl rfl ?_
  refine .e (.extract rfl rfl) rfl rfl <| .e (.extract rfl rfl) rfl rfl <| .e (.assign rfl) rfl rfl <| .e (.assign rfl) rfl rfl <| .nil <| .go ?_
  refine .seq <| .seq <| .region <| .e (.move rfl) rfl rfl <| .e (.not rfl) rfl rfl <| .nil ?_
  refine .go <| .cond_false rfl <| .skip <| .go <| .seq <| .region ?_
  refine .e (.fieldAddr fo115_0 rfl) rfl rfl <| .e (.load ag113 rfl .here rfl) rfl rfl <| .e (.move rfl) rfl rfl ?_
  obtain ⟨eb25, eo25, cs25, hd25, hat25, hr25⟩ := SlR.at_ hl (k := 0) (by decide)
  cases hd25
  obtain rfl : cs25 = [.string ⟨#[97]⟩, .string ⟨#[120]⟩, .int .i64 0] := hr25
  refine .e (.indexAddrL sl113 rfl rfl rfl (by decide)) rfl rfl <| .e (.fieldAddr fo170_1 rfl) rfl rfl <| .e (.loadI ag9 rfl (hat25.cell (j := 1) rfl)) rfl rfl <| .e (.assign rfl) rfl rfl <| .e (.assign rfl) rfl rfl <| .nil ?_
  refine .go <| .ret ?_
  refine Post.retsE rfl (.tmp rfl (.tmp rfl .nil)) rfl (fun w h => h.tail) ?_
  rfl

set_option maxHeartbeats 1000000 in
set_option maxRecDepth 20000 in
theorem dclone_ok {I : Imm} {O : Own}  :
    Pure Tryz.prog 187 [.slice none 0 0] I O (.slice none 0 0) := by
  refine Go.Sy.Does.enter Tryz.func187 rfl Tryz.ntmps187 rfl ?_
  refine .seq <| .region <| .e (.assign rfl) rfl rfl <| .nil <| .go <| .seq ?_
  refine .seq <| .region <| .e (.move rfl) rfl rfl <| .e (.eqv (.nilSlice Tryz.underlying113) rfl rfl) rfl rfl <| .nil <| .go ?_
  refine .split 4 rfl (fun h4 => ?_) (fun h4 => ?_)
  · skip
    refine .cond_true rfl <| .seq <| .region <| .e (.assign rfl) rfl rfl <| .nil <| .go ?_
    refine .ret <| .ret ?_
    refine Post.retE rfl rfl ?_
    rfl
  · skip
    cases h4

set_option maxHeartbeats 1000000 in
set_option maxRecDepth 20000 in
theorem dins_ok {I : Imm} {O : Own} {c : Nat} {cs : List Value} {tx : TypeId} (hcl : cs.length = 3) (hco : Go.Sy.ones cs = true) :
    Go.Sy.Does Tryz.prog 189 [.slice none 0 0, .int .i64 0, .slice (some ⟨c, 0, none⟩) 1 1] I ((c, .cells ⟨cs⟩ tx (0, 0)) :: O) (fun u I' O' => I' = I ∧ ∃ ob', OwnS 3 u 1 cs ob' ∧ O' = ob' ++ O) := by
  refine Go.Sy.Does.enter Tryz.func189 rfl Tryz.ntmps189 rfl ?_
  refine .seq <| .region <| .e (.assign rfl) rfl rfl <| .nil <| .go <| .seq ?_
  refine .region <| .e (.move rfl) rfl rfl <| .e (.move rfl) rfl rfl <| .e (.sliceL (l := 0) sl113 rfl rfl rfl (Nat.le_refl 0)) rfl rfl <| .nil <| .go ?_
  refine .seq <| .region <| .e (.move rfl) rfl rfl <| .e (.len sl113 rfl rfl) rfl rfl <| .e (.assign rfl) rfl rfl <| .nil ?_
  refine .go <| .seq <| .seq <| .region <| .e (.move rfl) rfl rfl <| .e (.eql rfl rfl) rfl rfl ?_
  refine .nil <| .go <| .cond_false rfl <| .skip <| .go <| .seq ?_
  refine .region <| .e (.move rfl) rfl rfl <| .e (.len sl113 rfl rfl) rfl rfl <| .e (.assign rfl) rfl rfl <| .nil <| .go ?_
  refine .seq <| .seq <| .region <| .e (.move rfl) rfl rfl <| .e (.move rfl) rfl rfl <| .e (.eql rfl rfl) rfl rfl ?_
  refine .nil <| .go <| .cond_true rfl <| .seq <| .region <| .e (.move rfl) rfl rfl ?_
  refine .e (.move rfl) rfl rfl <| .on rfl <| .append Tryz.underlying113 Tryz.underlying113 sz170 by170 zv170 rfl rfl rfl .nil OwnS.nil ((OwnS.made (k := 3) (len := 1) (b := c) (T := tx) (by rw [hcl]) (by decide)).src (I := _) .here) (by rw [hcl]) hco (by omega) (by omega) rfl fun v25 ob25 ho25 => .e (.assign rfl) rfl rfl <| .nil <| .go <| .ret ?_
  refine .ret ?_
  refine Post.rets rfl (.tmp rfl .nil) rfl (Imm.le_refl _) (fun w h => (Sat.tail (Sat.rem h (Rem.app <| Rem.here)))) ?_
  exact ⟨rfl, ob25, ho25, rfl⟩

theorem fil_cell {cs ws : List Value} {q : Nat} {v : Value} (h : cs.take (1 * 3) = ws) (hq : q < 3) (hv : ws[q]? = some v) : cs[q]? = some v := by
  rw [← h, List.getElem?_take_of_lt (by omega)] at hv
  exact hv
theorem own_setO' {cs ws : List Value} {v : Value} {n k q m cap b : Nat} {T : TypeId} (hw : cs.take (n * m) = ws) (hk : k < n) (hq : q < m) (hn : n ≤ cap) (hc : cs.length = cap * m) (hl : ws.length = n * m) (hm : cap ≤ 9223372036854775807) :
    OwnS m (.slice (some ⟨b, 0, none⟩) n cap) n (setL ws (k * m + q) [v]) [(b, .cells ⟨setL cs (0 + k * m + q) [v]⟩ T (0, 0))] := by
  have h1 : k * m + m ≤ n * m := by rw [← Nat.succ_mul]; exact Nat.mul_le_mul_right m hk
  have h2 : n * m ≤ cap * m := Nat.mul_le_mul_right m hn
  have e : 0 + k * m + q = k * m + q := by omega
  rw [e]
  refine .inr ⟨b, cap, _, T, rfl, rfl, hn, ?_, ?_, ?_, hm⟩
  · rw [setL_length (by simp; omega), hc]
  · rw [setL_take (by simp; omega) (by omega), hw]
  · rw [setL_length (by simp; omega), hl]

set_option maxHeartbeats 8000000 in
set_option maxRecDepth 20000 in
theorem ddone_ok {I : Imm} {O : Own}  :
    Go.Sy.Does Tryz.prog 138 [.agg ⟨dskV (.slice none 0 0)⟩, .agg ⟨[.int .u8 0, .string ⟨#[97]⟩, .string ⟨#[]⟩, .string ⟨#[120]⟩, .int .i64 0]⟩] I O (fun u I' O' => ∃ v ws ob, u = .tuple ⟨[.agg ⟨dskV v⟩, .int .i64 0]⟩ ∧ OwnS 3 v 1 ws ob ∧ DR FilR 3 I' ws [fA] ∧ O' = ob ++ O) := by
  refine Go.Sy.Does.enter Tryz.func138 rfl Tryz.ntmps138 rfl ?_
  refine .seq <| .region <| .on rfl <| .box rfl rfl rfl fun c1 _ _ => .on rfl <| .box rfl rfl rfl fun c2 _ _ => .on rfl <| .alloc zr115 rfl fun c3 _ _ => .e (.assign rfl) rfl rfl ?_
  refine .nil <| .go <| .seq <| .seq <| .region <| .e (.loadW ag115 sz115 rfl (.there <| .there <| .here) rfl) rfl rfl ?_
  refine .on rfl <| .callP cal186 rfl rfl rfl (dchk0_ok) <| .e (.assign rfl) rfl rfl <| .nil <| .go <| .seq <| .region ?_
  refine .e (.move rfl) rfl rfl <| .e (.neq rfl rfl) rfl rfl <| .nil <| .go <| .cond_false rfl <| .skip ?_
  refine .go <| .seq <| .region <| .e (.fieldAddr fo115_0 rfl) rfl rfl <| .e (.load ag113 rfl (.there <| .there <| .here) rfl) rfl rfl <| .on rfl <| .callP cal187 rfl rfl rfl (dclone_ok) ?_
  refine .e (.fieldAddr fo115_0 rfl) rfl rfl <| .on rfl <| .store sz113 rfl rfl rfl rfl rfl rfl (.there <| .there <| .here) <| .nil <| .go <| .seq <| .seq ?_
  refine .region <| .e (.fieldAddr fo115_1 rfl) rfl rfl <| .e (.load ag4 rfl (.there <| .there <| .here) rfl) rfl rfl <| .nil <| .go <| .cond_false rfl ?_
  refine .skip <| .go <| .seq <| .seq <| .region <| .e (.loadW ag166 sz166 rfl (.there <| .here) rfl) rfl rfl ?_
  refine .e (.loadW ag115 sz115 rfl (.there <| .there <| .here) rfl) rfl rfl <| .on rfl <| .callP cal188 rfl rfl rfl (drefused_ok) <| .e (.assign rfl) rfl rfl <| .nil <| .go <| .seq ?_
  refine .region <| .e (.move rfl) rfl rfl <| .e (.neq rfl rfl) rfl rfl <| .nil <| .go <| .cond_false rfl ?_
  refine .skip <| .go <| .seq <| .region <| .e (.loadW ag115 sz115 rfl (.there <| .there <| .here) rfl) rfl rfl <| .e (.fieldAddr fo166_1 rfl) rfl rfl ?_
  refine .e (.load ag9 rfl (.there <| .here) rfl) rfl rfl <| .on rfl <| .callP cal140 rfl rfl rfl (dplace0_ok) <| .e (.move rfl) rfl rfl <| .e (.extract rfl rfl) rfl rfl <| .e (.extract rfl rfl) rfl rfl <| .e (.assign rfl) rfl rfl ?_
  refine .e (.assign rfl) rfl rfl <| .nil <| .go <| .seq <| .seq <| .region ?_
  refine .e (.fieldAddr fo166_0 rfl) rfl rfl <| .e (.load ag164 rfl (.there <| .here) rfl) rfl rfl <| .e (.eql rfl rfl) rfl rfl <| .nil <| .go <| .cond_true rfl ?_
  refine .seq <| .seq <| .region <| .e (.move rfl) rfl rfl <| .e (.not rfl) rfl rfl <| .nil ?_
  refine .go <| .cond_true rfl <| .region <| .e (.fieldAddr fo115_0 rfl) rfl rfl <| .e (.load ag113 rfl (.there <| .there <| .here) rfl) rfl rfl <| .e (.move rfl) rfl rfl ?_
  refine .e (.fieldAddr fo166_1 rfl) rfl rfl <| .e (.load ag9 rfl (.there <| .here) rfl) rfl rfl <| .e (.build bs170 zv170 rfl rfl) rfl rfl <| .on rfl <| .buildSlice Tryz.underlying113 sz170 (by decide) (by decide) zv170 rfl rfl rfl rfl rfl fun c4 _ _ => ?_
  refine .on rfl <| .call cal189 rfl rfl rfl (dins_ok rfl rfl) fun v53 I53 O53 hI53 hK53 => ?_
  obtain ⟨hq53, ob53, ho53, rfl⟩ := hK53
  replace hq53 := hq53.symm
  subst hq53
  obtain ⟨_, h0, _, _⟩ | ⟨bL, capL, csL, TL, hv5, rfl, hc1, hc2, hc3, hc4, hc5⟩ := ho53
  · cases h0
  subst hv5
  simp only [@List.singleton_append (Nat × Obj)]
  refine .e (.fieldAddr fo115_0 rfl) rfl rfl <| .on rfl <| .store sz113 rfl rfl rfl rfl rfl rfl (.there <| .there <| .there <| .here) <| .nil <| .go ?_
  refine .draw [(c1, _), (c2, _)] mixed (.cons (.there <| .there <| .there <| .here) (.cons (.there <| .there <| .here) .nil)) ?_
  refine .t 0 rfl (.fieldAddr fo115_0 rfl) rfl rfl (by kernel_rfl) <| .t 1 rfl (.load ag113 rfl .here rfl) rfl rfl (by kernel_rfl) <| .t 2 rfl (.move rfl) rfl rfl (by kernel_rfl) <| .t 3 rfl (.indexAddrL sl113 rfl rfl rfl (by decide)) rfl rfl (by kernel_rfl) <| .t 4 rfl (.fieldAddr fo170_1 rfl) rfl rfl (by kernel_rfl) <| .t 6 rfl (.fieldAddr fo166_3 rfl) rfl rfl (by kernel_rfl) ?_
  refine .t 7 rfl (.load ag9 rfl (.there <| .here) rfl) rfl rfl (by kernel_rfl) <| .one (i := 5) (by kernel_rfl) rfl rfl ?_
  refine .ev (.load (v := .string ⟨#[]⟩) ag9 rfl .here ((List.getElem?_toArray).trans (fil_cell hc3 (by decide) rfl))) rfl ⟨(.cons (.there <| .there <| .there <| .here) (.cons (.there <| .there <| .here) .nil)), Imm.le_refl _, ?_⟩
  refine .t 8 rfl ((EV.cast (u := .string ⟨#[120]⟩) (.strcat rfl rfl (by decide)) (congrArg Value.string (by decide)))) rfl rfl (by kernel_rfl) <| .t 9 rfl (.indexAddrL sl113 rfl rfl rfl (by decide)) rfl rfl (by kernel_rfl) <| .t 10 rfl (.fieldAddr fo170_1 rfl) rfl rfl (by kernel_rfl) <| .one (i := 11) (by kernel_rfl) rfl rfl <| .store sz9 rfl rfl rfl rfl rfl (Nat.ble_eq_true_of_le (by first | (simp; omega) | omega)) .here ?_
  refine ⟨(.cons (.there <| .there <| .there <| .here) (.cons (.there <| .there <| .here) .nil)), Imm.le_refl _, ?_⟩
  refine .done (by kernel_rfl) <| .go <| .seq <| .seq <| .region <| .e (.fieldAddr fo115_2 rfl) rfl rfl ?_
  refine .e (.load ag3 rfl (.there <| .there <| .there <| .here) rfl) rfl rfl <| .e (.eql rfl rfl) rfl rfl <| .nil <| .go <| .cond_false rfl <| .skip ?_
  refine .go <| .seq <| .seq <| .region <| .e (.fieldAddr fo115_2 rfl) rfl rfl <| .e (.load ag3 rfl (.there <| .there <| .there <| .here) rfl) rfl rfl ?_
  refine .e (.gtr rfl rfl) rfl rfl <| .nil <| .go <| .cond_false rfl <| .skip <| .go ?_
  refine .seq <| .region <| .e (.fieldAddr fo115_0 rfl) rfl rfl <| .e (.load ag113 rfl (.there <| .there <| .there <| .here) rfl) rfl rfl <| .e (.move rfl) rfl rfl <| .e (.indexAddrL sl113 rfl rfl rfl (by decide)) rfl rfl ?_
  refine .e (.assign rfl) rfl rfl <| .nil <| .go <| .seq <| .seq <| .region ?_
  refine .e (.fieldAddr fo166_0 rfl) rfl rfl <| .e (.load ag164 rfl (.there <| .there <| .here) rfl) rfl rfl <| .nil <| .go <| .block <| .seq ?_
  refine .region <| .e (.eql rfl rfl) rfl rfl <| .e (.assign rfl) rfl rfl <| .nil <| .go <| .cond_false rfl ?_
  refine .seq <| .region <| .e (.eql rfl rfl) rfl rfl <| .e (.assign rfl) rfl rfl <| .nil <| .go ?_
  refine .cond_false rfl <| .seq <| .region <| .e (.eql rfl rfl) rfl rfl <| .e (.assign rfl) rfl rfl <| .nil ?_
  refine .go <| .cond_false rfl <| .seq <| .region <| .e (.eql rfl rfl) rfl rfl <| .e (.assign rfl) rfl rfl ?_
  refine .nil <| .go <| .cond_false rfl <| .skip <| .blk_normal <| .go ?_
  refine .seq <| .region <| .e (.loadW ag115 sz115 rfl (.there <| .there <| .there <| .here) rfl) rfl rfl <| .on rfl <| .storeW sz115 rfl rfl rfl rfl rfl rfl (.there <| .here) <| .e (.assign rfl) rfl rfl <| .nil ?_
  refine .go <| .ret ?_
  refine Post.rets rfl (.agg rfl ag115 sz115 (.there <| .here) rfl (.tmp rfl .nil)) rfl (Imm.le_refl _) (fun w h => (Sat.tail (Sat.rem (Sat.tail (Sat.rem (Sat.tail (Sat.rem h (Rem.there <| Rem.here))) (Rem.there <| Rem.here))) (Rem.there <| Rem.here)))) ?_
  exact ⟨_, _, _, rfl, own_setO' (k := 0) (q := 1) hc3 (by decide) (by decide) hc1 hc2 hc4 hc5, (show DR FilR 3 _ [.string ⟨#[97]⟩, .string ⟨#[120]⟩, .int .i64 0] [fA] from DR.single rfl rfl), rfl⟩

theorem ddoneF {I : Imm} {O : Own} : Go.Sy.Does Tryz.prog 138 [.agg ⟨dskV (.slice none 0 0)⟩, .agg ⟨[.int .u8 0, .string ⟨#[97]⟩, .string ⟨#[]⟩, .string ⟨#[120]⟩, .int .i64 0]⟩] I O fun u I' O' => O' = O ∧ ∃ fb cap, u = .tuple ⟨[.agg ⟨dskV (.slice (some ⟨fb, 0, none⟩) 1 cap)⟩, .int .i64 0]⟩ ∧ SlR FilR 3 I' (.slice (some ⟨fb, 0, none⟩) 1 cap) [fA] := fun w hw => (ddone_ok w hw).mono fun en w' ⟨u, I', O', he, hI, hs, v, ws, ob, hu, ho, hd, hO⟩ => by
  subst hO
  have ho2 := ho
  obtain ⟨J, hJ, r, s1⟩ := frzS ho hs
  obtain ⟨_, h0, _, _⟩ | ⟨b, cap, cs, T, hv, _⟩ := ho2
  · cases h0
  · subst hv
    exact ⟨u, J, O, he, Imm.le_trans hI hJ, s1, rfl, b, cap, hu, r (R := FilR) (hd.mono fun _ _ h => h) rfl⟩

set_option maxHeartbeats 1000000 in
set_option maxRecDepth 20000 in
theorem dadd_ok {I : Imm} {O : Own}  :
    Go.Sy.Does Tryz.prog 83 [.agg ⟨dskV (.slice none 0 0)⟩, .string ⟨#[97]⟩, .string ⟨#[120]⟩] I O (fun u I' O' => O' = O ∧ ∃ fb cap, u = .tuple ⟨[.agg ⟨dskV (.slice (some ⟨fb, 0, none⟩) 1 cap)⟩, .int .i64 0]⟩ ∧ SlR FilR 3 I' (.slice (some ⟨fb, 0, none⟩) 1 cap) [fA]) := by
  refine Go.Sy.Does.enter Tryz.func83 rfl Tryz.ntmps83 rfl ?_
  refine .seq <| .region <| .on rfl <| .box rfl rfl rfl fun c1 _ _ => .on rfl <| .alloc zr115 rfl fun c2 _ _ => .e (.assign rfl) rfl rfl <| .nil ?_
  refine .go <| .seq <| .region <| .e (.loadW ag115 sz115 rfl (.there <| .here) rfl) rfl rfl <| .e (.move rfl) rfl rfl <| .e (.move rfl) rfl rfl ?_
  refine .e (.build bs166 zv166 rfl rfl) rfl rfl <| .on rfl <| .call cal138 rfl rfl rfl (ddoneF) fun v12 I12 O12 hI12 hK12 => ?_
  obtain ⟨rfl, fb, cp, rfl, hf⟩ := hK12
  refine .e (.extract rfl rfl) rfl rfl <| .e (.extract rfl rfl) rfl rfl <| .on rfl <| .storeW sz115 rfl rfl rfl rfl rfl rfl .here <| .e (.assign rfl) rfl rfl <| .nil <| .go ?_
  refine .ret ?_
  refine Post.rets rfl (.agg rfl ag115 sz115 .here rfl (.tmp rfl .nil)) rfl hI12 (fun w h => (Sat.tail (Sat.tail h))) ?_
  exact ⟨rfl, _, _, rfl, hf⟩

set_option maxHeartbeats 1000000 in
set_option maxRecDepth 20000 in
theorem begins_ok {I : Imm} {O : Own}  :
    Pure Tryz.prog 34 [] I O (.bool true) := by
  refine Go.Sy.Does.enter Tryz.func34 rfl Tryz.ntmps34 rfl ?_
  refine .seq <| .region <| .e (.assign rfl) rfl rfl <| .nil <| .go <| .seq ?_
  refine .region <| .e (.build bs115 zv115 rfl rfl) rfl rfl <| .on rfl <| .call cal83 rfl rfl rfl (dadd_ok) fun v7 I7 O7 hI7 hK7 => ?_
  obtain ⟨rfl, fb, cp, rfl, hf⟩ := hK7
  refine .e (.move rfl) rfl rfl <| .e (.extract rfl rfl) rfl rfl <| .e (.extract rfl rfl) rfl rfl <| .on rfl <| .alloc zr115 rfl fun c1 _ _ => .on rfl <| .storeW sz115 rfl rfl rfl rfl rfl rfl .here <| .e (.assign rfl) rfl rfl ?_
  refine .nil <| .go <| .seq <| .region <| .e (.loadW ag115 sz115 rfl .here rfl) rfl rfl <| .on rfl <| .callP cal84 rfl rfl rfl (dread_ok hf) ?_
  refine .e (.move rfl) rfl rfl <| .e (.extract rfl rfl) rfl rfl <| .e (.extract rfl rfl) rfl rfl <| .e (.assign rfl) rfl rfl <| .e (.assign rfl) rfl rfl <| .nil ?_
  refine .go <| .seq <| .region <| .on rfl <| .callP cal85 rfl rfl rfl ((sum_ok (by decide)).cast (congrArg (Value.int .u16) sum_ten)) <| .e (.eql rfl rfl) rfl rfl <| .e (.move rfl) rfl rfl ?_
  refine .e (.move rfl) rfl rfl <| .e (.eql rfl rfl) rfl rfl <| .e (.pickT rfl rfl) rfl rfl <| .e (.move rfl) rfl rfl <| .e (.move rfl) rfl rfl <| .e (.eql rfl rfl) rfl rfl ?_
  refine .e (.pickT rfl rfl) rfl rfl <| .e (.move rfl) rfl rfl <| .e (.move rfl) rfl rfl <| .e ((EV.cast (u := .bool true) (.streq rfl rfl) (congrArg Value.bool (by decide)))) rfl rfl <| .e (.pickT rfl rfl) rfl rfl <| .e (.assign rfl) rfl rfl ?_
  refine .nil <| .go <| .ret ?_
  refine .tail ?_
  refine .back hI7 ?_
  refine Post.retE rfl rfl ?_
  rfl

def ordN (n : Nod) : Ordr := ⟨1, n, task0', ⟨#[]⟩, ⟨#[]⟩, 0⟩
theorem ordNR {I : Imm} {n : Nod} {lv tv : Value} (hn : NodR I (n.cells lv tv) n) (hl : PrsR I lv n.labels) (ht : PrsR I tv n.taints) : OrdrR I ((ordN n).cells lv tv nilS nilS) (ordN n) ∧ OrdS (ordN n) := by
  refine ⟨⟨⟨_, _, _, _, rfl, hn, hl, ht, ⟨⟨_, _, rfl, nilPr, nilPr⟩, ?_, ?_, ?_, ?_, ?_⟩, nilPr, nilPr⟩, ?_, ?_, ?_, ?_⟩, show (⟨#[]⟩ : ByteArray).size + (⟨#[]⟩ : ByteArray).size + (⟨#[]⟩ : ByteArray).size ≤ 9223372036854775807 by decide, show (⟨#[]⟩ : ByteArray).size + (⟨#[]⟩ : ByteArray).size ≤ 9223372036854775807 by decide⟩
  all_goals first | exact e1_ | exact e2_ | exact e3_ | exact e4_ | exact e5_ 1 (by decide)
theorem add_mem {b : Bk} {t : Tsk} (h : (doR b (ordT t)).2.1 = 0) : t ∈ (doR b (ordT t)).1.tasks := by
  obtain ⟨h1, h2, h3⟩ := do_in h
  rw [h3] at h ⊢
  rw [step3] at h ⊢
  unfold addTR at h ⊢
  dsimp only at h ⊢
  split
  · rename_i h4; rw [if_pos h4] at h
    split
    · rename_i h5; rw [if_pos h5] at h; cases h
    · rename_i h5; rw [if_neg h5] at h
      split
      · rename_i h6; rw [if_pos h6] at h; cases h
      · exact mem_insAt.2 (.inl rfl)
  · rename_i h4; rw [if_neg h4] at h; exact absurd h h4
theorem best_some {m : Bk} (h : BookOk m) {t : Tsk} (ht : t ∈ m.tasks) : (bestR t (candL m t.name)).2 = 0 ↔ 0 < (candL m t.name).length := by
  have h1 := target_none h ht
  unfold targetR at h1
  constructor
  · intro h2
    rw [if_pos h2] at h1
    rcases Nat.eq_zero_or_pos (candL m t.name).length with h3 | h3
    · exact absurd (h1.2 (List.length_eq_zero_iff.1 h3)) (by simp)
    · exact h3
  · intro h2
    by_cases h3 : (bestR t (candL m t.name)).2 = 0
    · exact h3
    · rw [if_neg h3] at h1
      rw [h1.1 rfl] at h2; simp at h2
theorem best_nn {t : Tsk} {l : List Lod} : 0 ≤ (bestR t l).1 := by
  by_cases h : (bestR t l).2 = 0
  · exact (bestR_in h).1
  · rw [bestR_zero h]; exact Int.le_refl _
def candN (b : Bk) (s : ByteArray) (k : Nat) : List Lod := ((b.nodes.take k).filter fun n => decide (canA b s n.name = 0)).map (loadOf b)
theorem candN_step {b : Bk} {s : ByteArray} {k : Nat} (hk : k < b.nodes.length) : candN b s (k + 1) = if canA b s b.nodes[k].name = 0 then candN b s k ++ [loadOf b b.nodes[k]] else candN b s k := by
  unfold candN
  rw [List.take_succ_eq_append_getElem hk, List.filter_append, List.map_append]
  split <;> rename_i h <;> simp [h]
theorem candN_len {b : Bk} {s : ByteArray} {k : Nat} : (candN b s k).length ≤ k := by
  unfold candN
  rw [List.length_map]
  have := List.length_filter_le (fun n : Nod => decide (canA b s n.name = 0)) (b.nodes.take k)
  rw [List.length_take] at this; omega
theorem candN_end {b : Bk} {s : ByteArray} {k : Nat} (hk : b.nodes.length ≤ k) : candN b s k = candL b s := by
  unfold candN candL loadsR
  rw [List.take_of_length_le hk, List.filter_map]; rfl

set_option maxHeartbeats 32000000 in
set_option maxRecDepth 20000 in
theorem TopFull_ok {I : Imm} {O : Own} {v u : Value} {N : List Nod} {T : List Tsk} (hn : NodsR I v N) (ht : TsksR I u T) (hS : ∀ t ∈ T, TskS t) :
    Pure Tryz.prog 13 [v, u] I O (.bool true) := by
  have hn0 := hn
  obtain ⟨na, ncap, rfl, hn1, hn2, -⟩ := hn
  have ht0 := ht
  obtain ⟨ta, tcap, rfl, ht1, ht2, -⟩ := ht
  refine Go.Sy.Does.enter Tryz.func13 rfl Tryz.ntmps13 rfl ?_
  refine .seq <| .region <| .e (.assign rfl) rfl rfl <| .nil <| .go <| .seq ?_
  refine .seq <| .region <| .on rfl <| .callP cal34 rfl rfl rfl (begins_ok) <| .e (.not rfl) rfl rfl <| .nil <| .go ?_
  refine .cond_false rfl <| .skip <| .go <| .seq <| .region <| .e (.build bs27 zv27 rfl rfl) rfl rfl ?_
  refine .on rfl <| .alloc zr27 rfl fun c1 _ _ => .on rfl <| .storeW sz27 rfl rfl rfl rfl rfl rfl .here <| .nil <| .go <| .seq <| .seq ?_
  refine .region <| .e (.move rfl) rfl rfl <| .e (.len sl22 rfl rfl) rfl rfl <| .e (.move rfl) rfl rfl <| .nil <| .go ?_
  refine .block ?_
  refine .loopM [6, 7, 24, 25, 26, 27, 28, 29, 30, 31, 32, 33, 34, 35, 36, 37, 38] (fun s => N.length - s.1) (fun s => s.1 ≤ N.length ∧ BkR s.2.2.2 s.2.2.1 s.2.1 ∧ I.le s.2.2.2 ∧ bookOk s.2.1 = true ∧ s.2.1.fence = 0) (fun s => [(24, .int .i64 s.1)]) (fun s => s.2.2.2) (fun s => (c1, .cells ⟨s.2.2.1⟩ 27 (0, 0)) :: _) (((0, bk0, _, I) : Nat × Bk × List Value × Imm)) ⟨Nat.zero_le _, bkZ, Imm.le_refl _, (show bookOk bk0 = true from by decide), rfl⟩ ⟨rfl, trivial⟩ rfl rfl ?_
  intro ⟨k, m, kcL, J⟩ hkI
  dsimp only at hkI ⊢
  obtain ⟨hkk, hm, hJ, hokm, hfm⟩ := hkI
  have hm0 := hm
  obtain ⟨nm_, tm_, bm_, rfl, xn_, xt_, xb_⟩ := hm.ex
  obtain ⟨_, _, rfl, -⟩ := xn_
  obtain ⟨_, _, rfl, -⟩ := xt_
  obtain ⟨_, _, rfl, -⟩ := xb_
  have hnJ := NodsR.mono hJ hn0
  refine .seq <| .region <| .e (.lss rfl rfl) rfl rfl <| .nil <| .go <| .seq ?_
  refine .split 25 rfl (fun h25 => ?_) (fun h25 => ?_)
  · skip
    replace h25 := of_decide_eq_true h25
    refine .cond_true rfl <| .skip <| .go <| .seq <| .block <| .seq ?_
    refine .region <| .e (.move rfl) rfl rfl ?_
    obtain ⟨eb27, eo27, cs27, hd27, hat27, hr27⟩ := SlR.at_ hnJ (k := k) (by omega)
    cases hd27
    have hn27 := hr27
    obtain ⟨xf27, xg27, rfl, hxf27, hxg27⟩ := hr27.ex
    have hxf27' := hxf27
    have hxg27' := hxg27
    obtain ⟨xh27, xi27, rfl, -⟩ := hxf27
    obtain ⟨xj27, xk27, rfl, -⟩ := hxg27
    refine .e (.indexAddrL sl22 rfl rfl rfl (by omega)) rfl rfl <| .e (.loadIA ag45 sz45 rfl hat27 rfl) rfl rfl <| .on rfl <| .alloc zr45 rfl fun c2 _ _ => .e (.assign rfl) rfl rfl <| .on rfl <| .storeW sz45 rfl rfl rfl rfl rfl rfl .here <| .nil ?_
    refine .go <| .seq <| .region <| .e (.move rfl) rfl rfl <| .e (.lss rfl rfl) rfl rfl <| .nil ?_
    refine .go ?_
    refine .split 30 rfl (fun h30 => ?_) (fun h30 => ?_)
    · skip
      replace h30 := of_decide_eq_true h30
      refine .cond_true rfl <| .region <| .e (.loadW ag27 sz27 rfl (.there <| .here) rfl) rfl rfl <| .e (.loadW ag45 sz45 rfl .here rfl) rfl rfl <| .e (.build bs65 zv65 rfl rfl) rfl rfl <| .on rfl <| .call cal27 rfl rfl rfl (doF hm0 (ordNR hn27 hxf27' hxg27').1 (ordNR hn27 hxf27' hxg27').2) fun v35 I35 O35 hI35 hK35 => ?_
      obtain ⟨rfl, cs35, rfl, hb35⟩ := hK35
      have hb350 := hb35
      obtain ⟨nv35, tv35, bv35, rfl, hn35, ht35, hx35⟩ := hb35.ex
      obtain ⟨_, _, rfl, -⟩ := hn35
      obtain ⟨_, _, rfl, htl35, -⟩ := ht35
      obtain ⟨_, _, rfl, -⟩ := hx35
      refine .e (.move rfl) rfl rfl <| .e (.extract rfl rfl) rfl rfl <| .e (.extract rfl rfl) rfl rfl <| .on rfl <| .storeW sz27 rfl rfl rfl rfl rfl rfl (.there <| .here) <| .nil <| .blk_normal ?_
      refine .go <| .region <| .e (.add rfl rfl (by first | exact wrap_succ (by omega) | exact IntWalk.i64_in _ (by omega) | exact rfl)) rfl rfl <| .e (.move rfl) rfl rfl <| .nil ?_
      refine .tail ?_
      exact .mid ((k + 1, (doR m (ordN N[k])).1, _, I35)) ⟨by dsimp only; omega, by dsimp only; omega, hb350, (Imm.le_trans hJ hI35), do_okB hokm, (do_fence hokm).trans hfm⟩ ⟨rfl, trivial⟩ rfl rfl (.pre 19 rfl (.app rfl .base))
    · skip
      replace h30 := of_decide_eq_false h30
      refine .cond_false rfl <| .skip <| .blk_normal <| .go <| .region <| .e (.add rfl rfl (by first | exact wrap_succ (by omega) | exact IntWalk.i64_in _ (by omega) | exact rfl)) rfl rfl ?_
      refine .e (.move rfl) rfl rfl <| .nil ?_
      refine .tail ?_
      exact .mid ((k + 1, m, _, J)) ⟨by dsimp only; omega, by dsimp only; omega, hm0, hJ, hokm, hfm⟩ ⟨rfl, trivial⟩ rfl rfl (.pre 12 rfl (.app rfl .base))
  · skip
    replace h25 := of_decide_eq_false h25
    refine .cond_false rfl <| .exit <| .exit <| .exit <| .blk_exit <| .go ?_
    refine .seq <| .seq <| .region <| .e (.move rfl) rfl rfl <| .e (.len sl23 rfl rfl) rfl rfl <| .e (.move rfl) rfl rfl ?_
    refine .nil <| .go <| .block ?_
    refine .loopM [4, 8, 9, 10, 11, 12, 14, 15, 16, 17, 18, 41, 42, 43, 44, 45, 46, 47, 48, 49, 50, 51, 52, 53, 54, 55, 56, 57, 58, 59, 60, 61, 62, 63, 64, 65, 66, 67, 68, 69, 70, 71, 72, 73, 74, 75, 76, 77, 78, 79, 80, 81, 82, 83, 84, 85, 86, 87, 88, 89, 90, 91, 92, 93, 94, 95, 96, 97, 98, 99, 100, 101, 102, 103, 104, 105, 106, 107, 108, 109, 110, 111, 112, 113, 114, 115, 116, 117, 118, 119, 120, 121, 122, 123, 124, 125, 126, 127, 128, 129, 130, 131, 132, 133, 134, 135, 136, 137, 138] (fun s => T.length - s.1) (fun s => s.1 ≤ T.length ∧ BkR s.2.2.2 s.2.2.1 s.2.1 ∧ I.le s.2.2.2 ∧ bookOk s.2.1 = true ∧ s.2.1.fence = 0) (fun s => [(41, .int .i64 s.1)]) (fun s => s.2.2.2) (fun s => (c1, .cells ⟨s.2.2.1⟩ 27 (0, 0)) :: _) (((0, m, _, J) : Nat × Bk × List Value × Imm)) ⟨Nat.zero_le _, hm0, hJ, hokm, hfm⟩ ⟨rfl, trivial⟩ rfl rfl ?_
    intro ⟨q, m, kcL, G⟩ hkI
    dsimp only at hkI ⊢
    obtain ⟨hqq, hm, hG, hokm, hfm⟩ := hkI
    have hm0 := hm
    obtain ⟨nm_, tm_, bm_, rfl, xn_, xt_, xb_⟩ := hm.ex
    obtain ⟨_, _, rfl, -⟩ := xn_
    obtain ⟨_, _, rfl, -⟩ := xt_
    obtain ⟨_, _, rfl, -⟩ := xb_
    have htG := TsksR.mono hG ht0
    refine .seq <| .region <| .e (.lss rfl rfl) rfl rfl <| .nil <| .go <| .seq ?_
    refine .split 42 rfl (fun h42 => ?_) (fun h42 => ?_)
    · skip
      replace h42 := of_decide_eq_true h42
      refine .cond_true rfl <| .skip <| .go <| .seq <| .block <| .seq ?_
      refine .region <| .e (.move rfl) rfl rfl ?_
      obtain ⟨eb44, eo44, cs44, hd44, hat44, hr44⟩ := SlR.at_ htG (k := q) (by omega)
      cases hd44
      have ht44 := hr44
      obtain ⟨xw44, xb44, rfl, hxw44, hxb44⟩ := hr44.ex
      have hxw44' := hxw44
      have hxb44' := hxb44
      obtain ⟨xa44, xc44, rfl, -⟩ := hxw44
      obtain ⟨xd44, xe44, rfl, -⟩ := hxb44
      refine .e (.indexAddrL sl23 rfl rfl rfl (by omega)) rfl rfl <| .e (.loadIA ag42 sz42 rfl hat44 rfl) rfl rfl <| .on rfl <| .alloc zr42 rfl fun c3 _ _ => .e (.assign rfl) rfl rfl <| .on rfl <| .storeW sz42 rfl rfl rfl rfl rfl rfl .here <| .nil ?_
      refine .go <| .seq <| .seq <| .region <| .e (.move rfl) rfl rfl <| .e (.eql rfl rfl) rfl rfl ?_
      refine .nil <| .go ?_
      refine .split 47 rfl (fun h47 => ?_) (fun h47 => ?_)
      · skip
        replace h47 := of_decide_eq_true h47
        refine .cond_true rfl <| .exit <| .exit <| .blk_other rfl <| .exit <| .exit ?_
        refine .blk_exit <| .go <| .seq <| .region <| .e (.loadW ag27 sz27 rfl (.there <| .here) rfl) rfl rfl <| .on rfl <| .callP cal23 rfl rfl rfl ((bCheck_ok hm0).cast (congrArg (Value.int .i64) (bookWhy0 hokm))) ?_
        refine .e (.eql rfl rfl) rfl rfl <| .e (.assign rfl) rfl rfl <| .nil <| .go <| .ret ?_
        refine .tail <| .tail ?_
        refine .back hG ?_
        refine Post.retE rfl rfl ?_
        rfl
      · skip
        replace h47 := of_decide_eq_false h47
        refine .cond_false rfl <| .skip <| .go <| .seq <| .region <| .e (.loadW ag27 sz27 rfl (.there <| .here) rfl) rfl rfl ?_
        refine .e (.loadW ag42 sz42 rfl .here rfl) rfl rfl <| .e (.build bs65 zv65 rfl rfl) rfl rfl <| .on rfl <| .call cal27 rfl rfl rfl (doF hm0 (ordTR ht44 hxw44' hxb44' (hS _ (List.getElem_mem (by omega)))).1 (ordTR (I := G) ht44 hxw44' hxb44' (hS _ (List.getElem_mem (by omega)))).2) fun v52 I52 O52 hI52 hK52 => ?_
        obtain ⟨rfl, cs52, rfl, hb52⟩ := hK52
        have hb520 := hb52
        obtain ⟨nv52, tv52, bv52, rfl, hn52, ht52, hx52⟩ := hb52.ex
        obtain ⟨_, _, rfl, -⟩ := hn52
        obtain ⟨_, _, rfl, htl52, -⟩ := ht52
        obtain ⟨_, _, rfl, -⟩ := hx52
        generalize hb1E : (doR m (ordT T[q])).1 = b1 at *
        refine .e (.move rfl) rfl rfl <| .e (.extract rfl rfl) rfl rfl <| .e (.extract rfl rfl) rfl rfl <| .on rfl <| .alloc zr27 rfl fun c4 _ _ => .on rfl <| .alloc zr60 rfl fun c5 _ _ => .on rfl <| .storeW sz27 rfl rfl rfl rfl rfl rfl (.there <| .here) ?_
        refine .on rfl <| .storeW sz60 rfl rfl rfl rfl rfl rfl .here <| .nil <| .go <| .seq <| .seq <| .region ?_
        refine .e (.fieldAddr fo60_0 rfl) rfl rfl <| .e (.load ag28 rfl .here rfl) rfl rfl <| .e (.neq rfl rfl) rfl rfl <| .nil <| .go ?_
        refine .split 57 rfl (fun h57 => ?_) (fun h57 => ?_)
        · skip
          first | replace h57 := of_decide_eq_false ((Bool.not_eq_true' _).mp h57) | replace h57 := of_decide_eq_false (by simpa using h57)
          refine .cond_true rfl <| .exit <| .exit <| .blk_exit <| .go <| .region ?_
          refine .e (.add rfl rfl (by first | exact wrap_succ (by omega) | exact IntWalk.i64_in _ (by omega) | exact rfl)) rfl rfl <| .e (.move rfl) rfl rfl <| .nil ?_
          refine .tail ?_
          refine .tail ?_
          refine .tail ?_
          exact .mid ((q + 1, m, _, I52)) ⟨by dsimp only; omega, by dsimp only; omega, hm0.mono hI52, (Imm.le_trans hG hI52), hokm, hfm⟩ ⟨rfl, trivial⟩ rfl rfl (.pre 25 rfl (.app rfl .base))
        · skip
          first | replace h57 := of_decide_eq_true ((Bool.not_eq_false' _).mp h57) | replace h57 := of_decide_eq_true (by simpa using h57)
          have htm : T[q] ∈ b1.tasks := hb1E ▸ add_mem h57
          have hok1 : bookOk b1 = true := hb1E ▸ do_okB hokm
          have hf1 : b1.fence = 0 := hb1E ▸ (do_fence hokm).trans hfm
          have hB1 := BookOk.of hok1
          have hbn1 := hB1.nodes
          obtain ⟨nvQ, tvQ, bvQ, eQ, hn520, ht520, hx520⟩ := hb520.ex
          cases eQ
          refine .cond_false rfl <| .skip <| .go <| .seq <| .region <| .e (.loadW ag27 sz27 rfl (.there <| .here) rfl) rfl rfl ?_
          refine .on rfl <| .storeW sz27 rfl rfl rfl rfl rfl rfl (.there <| .there <| .there <| .here) <| .nil <| .go <| .seq <| .region <| .e (.assign rfl) rfl rfl ?_
          refine .nil <| .go <| .seq <| .seq <| .region <| .e (.fieldAddr fo27_0 rfl) rfl rfl ?_
          refine .e (.load ag22 rfl (.there <| .there <| .there <| .here) rfl) rfl rfl <| .e (.len sl22 rfl rfl) rfl rfl <| .e (.move rfl) rfl rfl <| .nil <| .go <| .block ?_
          refine .loopM [12, 14, 15, 16, 62, 63, 64, 65, 66, 67, 68, 69, 70, 71, 72, 73, 74, 75, 76, 77, 78, 79, 80, 81, 82, 83, 84, 85, 86] (fun s => b1.nodes.length - s.1) (fun s => s.1 ≤ b1.nodes.length ∧ OwnS 9 s.2.1 (candN b1 T[q].name s.1).length s.2.2.1 s.2.2.2 ∧ DR LodR 9 I52 s.2.2.1 (candN b1 T[q].name s.1)) (fun s => [(62, .int .i64 s.1), (12, s.2.1)]) (fun _ => _) (fun s => s.2.2.2 ++ _) (((0, .slice none 0 0, [], []) : Nat × Value × List Value × Own)) ⟨Nat.zero_le _, OwnS.nil, DR.nil⟩ ⟨rfl, rfl, trivial⟩ rfl rfl ?_
          intro ⟨k, vL, wsL, obL⟩ hk
          dsimp only at hk ⊢
          obtain ⟨hkk3, hoL, hdL⟩ := hk
          obtain ⟨adL, capL, rfl⟩ := hoL.form
          have hcl := candN_len (b := b1) (s := T[q].name) (k := k)
          refine .seq <| .region <| .e (.lss rfl rfl) rfl rfl <| .nil <| .go <| .seq ?_
          refine .split 63 rfl (fun h63 => ?_) (fun h63 => ?_)
          · skip
            replace h63 := of_decide_eq_true h63
            refine .cond_true rfl <| .skip <| .go <| .seq <| .block <| .seq ?_
            refine .region ?_
            obtain ⟨eb64, eo64, cs64, hd64, hat64, hr64⟩ := SlR.at_ hn520 (k := k) (by omega)
            cases hd64
            have hn64 := hr64
            obtain ⟨xf64, xg64, rfl, hxf64, hxg64⟩ := hr64.ex
            obtain ⟨xh64, xi64, rfl, -⟩ := hxf64
            obtain ⟨xj64, xk64, rfl, -⟩ := hxg64
            refine .e (.indexAddrL sl22 rfl rfl rfl (by omega)) rfl rfl <| .e (.loadIA ag45 sz45 rfl hat64 rfl) rfl rfl <| .on rfl <| .alloc zr45 rfl fun c6 _ _ => .on rfl <| .storeW sz45 rfl rfl rfl rfl rfl rfl .here <| .nil <| .go ?_
            refine .seq <| .region <| .e (.loadW ag27 sz27 rfl (.there <| .app <| .there <| .there <| .there <| .here) rfl) rfl rfl <| .e (.fieldAddr fo42_0 rfl) rfl rfl <| .e (.load ag9 rfl (.there <| .app <| .there <| .there <| .here) rfl) rfl rfl <| .e (.fieldAddr fo45_0 rfl) rfl rfl ?_
            refine .e (.load ag9 rfl .here rfl) rfl rfl <| .on rfl <| .callP cal35 rfl rfl rfl (bCan_ok hb520) <| .e (.eql rfl rfl) rfl rfl <| .nil <| .go ?_
            refine .split 72 rfl (fun h72 => ?_) (fun h72 => ?_)
            · skip
              replace h72 := of_decide_eq_true h72
              refine .cond_true rfl <| .seq <| .region <| .e (.loadW ag27 sz27 rfl (.there <| .app <| .there <| .there <| .there <| .here) rfl) rfl rfl <| .e (.fieldAddr fo45_0 rfl) rfl rfl <| .e (.load ag9 rfl .here rfl) rfl rfl ?_
              refine .on rfl <| .callP cal36 rfl rfl rfl (bUsed_ok hb520) <| .e (.move rfl) rfl rfl <| .e (.extract rfl rfl) rfl rfl <| .e (.extract rfl rfl) rfl rfl <| .on rfl <| .alloc zr39 rfl fun c7 _ _ => .on rfl <| .storeW sz39 rfl rfl rfl rfl rfl rfl .here ?_
              refine .e (.assign rfl) rfl rfl <| .nil <| .go <| .region <| .e (.move rfl) rfl rfl <| .e (.loadW ag45 sz45 rfl (.there <| .here) rfl) rfl rfl ?_
              refine .e (.loadW ag39 sz39 rfl .here rfl) rfl rfl <| .e (.build bs47 zv47 rfl rfl) rfl rfl <| .on rfl <| .buildSlice Tryz.underlying31 sz47 (by decide) (by decide) zv47 rfl rfl rfl rfl rfl fun c8 _ _ => .on rfl <| .append Tryz.underlying31 Tryz.underlying31 sz47 by47 zv47 rfl rfl rfl (.there <| .there <| .there <| .front) hoL ((OwnS.made (k := 9) rfl (by decide)).src (I := _) .here) rfl rfl (by omega) (by omega) rfl fun v85 ob85 ho85 => .e (.assign rfl) rfl rfl <| .nil ?_
              refine .blk_normal <| .go <| .region <| .e (.add rfl rfl (by first | exact wrap_succ (by omega) | exact IntWalk.i64_in _ (by omega) | exact rfl)) rfl rfl <| .e (.move rfl) rfl rfl <| .nil ?_
              refine .front1 (.app <| .here) ?_
              refine .tail ?_
              refine .front1 (.app <| .here) ?_
              refine .tail ?_
              refine .front1 (.app <| .here) ?_
              refine .tail ?_
              have e5 := candN_step (b := b1) (s := T[q].name) (k := k) (by omega)
              rw [if_pos h72] at e5
              have e6 : (candN b1 T[q].name (k + 1)).length = (candN b1 T[q].name k).length + 1 := by rw [e5, List.length_append]; rfl
              exact .mid ((k + 1, _, _, _)) ⟨by dsimp only; omega, by dsimp only; omega, by dsimp only; rw [e6]; exact ho85, (by dsimp only; rw [e5]; exact hdL.append (DR.single rfl (lodMk hn64 (used_i64 hB1 (List.getElem_mem (show k < b1.nodes.length by omega))))))⟩ ⟨rfl, rfl, trivial⟩ rfl rfl (.pre 31 rfl (.app rfl .base))
            · skip
              replace h72 := of_decide_eq_false h72
              refine .cond_false rfl <| .skip <| .blk_normal <| .go <| .region <| .e (.add rfl rfl (by first | exact wrap_succ (by omega) | exact IntWalk.i64_in _ (by omega) | exact rfl)) rfl rfl ?_
              refine .e (.move rfl) rfl rfl <| .nil ?_
              refine .tail ?_
              have e5 := candN_step (b := b1) (s := T[q].name) (k := k) (by omega)
              rw [if_neg h72] at e5
              exact .mid ((k + 1, _, wsL, obL)) ⟨by dsimp only; omega, by dsimp only; omega, by dsimp only; rw [e5]; exact hoL, by dsimp only; rw [e5]; exact hdL⟩ ⟨rfl, rfl, trivial⟩ rfl rfl (.pre 15 rfl (.app rfl .base))
          · skip
            replace h63 := of_decide_eq_false h63
            refine .cond_false rfl <| .exit <| .exit <| .exit <| .blk_exit <| .go ?_
            refine .seq <| .region ?_
            refine .freezeS hoL fun K hK hKs => ?_
            have ek : b1.nodes.length ≤ k := by omega
            have eck := candN_end (b := b1) (s := T[q].name) ek
            rw [eck] at hKs hdL ⊢
            have hlK : LodsR K _ (candL b1 T[q].name) := hKs (R := LodR) (hdL.mono fun _ _ h => h.mono hK) rfl
            have hbs := best_some hB1 htm
            have hnn := best_nn (t := T[q]) (l := candL b1 T[q].name)
            have hin := bestR_in (t := T[q]) (l := candL b1 T[q].name)
            obtain ⟨j, hj⟩ : ∃ j : Nat, (bestR T[q] (candL b1 T[q].name)).1 = (j : Int) := ⟨_, (Int.toNat_of_nonneg hnn).symm⟩
            refine .e (.loadW ag42 sz42 rfl (.there <| .there <| .here) rfl) rfl rfl <| .e (.move rfl) rfl rfl <| .on rfl <| .callP cal37 rfl rfl rfl (Best_ok (ht44.mono (Imm.le_trans hI52 hK)) hlK) <| .e (.move rfl) rfl rfl <| .e (.extract rfl rfl) rfl rfl <| .e (.extract rfl rfl) rfl rfl ?_
            refine .e (.assign rfl) rfl rfl <| .e (.assign rfl) rfl rfl <| .nil <| .go <| .seq <| .seq ?_
            refine .region <| .e (.move rfl) rfl rfl <| .e (.eql rfl rfl) rfl rfl <| .e (.move rfl) rfl rfl <| .e (.len sl31 rfl rfl) rfl rfl <| .e (.gtr rfl rfl) rfl rfl ?_
            refine .e ((EV.cast (u := .bool false) (.nev eqBool rfl rfl) (congrArg Value.bool (by rw [Bool.not_eq_false', decide_eq_true_eq]; exact decide_eq_decide.2 (hbs.trans (by omega)))))) rfl rfl <| .e (.move rfl) rfl rfl <| .e (.move rfl) rfl rfl <| .e ((EV.cast (u := .bool false) (.lss rfl rfl) (congrArg Value.bool (decide_eq_false (by omega))))) rfl rfl <| .e (.pickF rfl rfl) rfl rfl <| .e (.move rfl) rfl rfl ?_
            refine .e (.move rfl) rfl rfl <| .e (.eql rfl rfl) rfl rfl <| .e (.move rfl) rfl rfl ?_
            refine .split 106 rfl (fun h106 => ?_) (fun h106 => ?_)
            · skip
              replace h106 := of_decide_eq_true h106
              refine .e (.move rfl) rfl rfl <| .e (.move rfl) rfl rfl <| .e (.len sl31 rfl rfl) rfl rfl <| .e ((EV.cast (u := .bool false) (.geq rfl rfl) (congrArg Value.bool (decide_eq_false (by have := hin (by assumption); omega))))) rfl rfl <| .e (.pickT rfl rfl) rfl rfl <| .e (.pickF rfl rfl) rfl rfl ?_
              refine .nil <| .go <| .cond_false rfl <| .skip <| .go <| .seq ?_
              refine .seq <| .region <| .e (.move rfl) rfl rfl <| .e (.neq rfl rfl) rfl rfl <| .nil <| .go ?_
              refine .split 114 rfl (fun h114 => ?_) (fun h114 => ?_)
              · skip
                first | replace h114 := of_decide_eq_false ((Bool.not_eq_true' _).mp h114) | replace h114 := of_decide_eq_false (by simpa using h114)
                refine .cond_true rfl <| .exit <| .exit <| .blk_exit <| .go <| .region ?_
                refine .e (.add rfl rfl (by first | exact wrap_succ (by omega) | exact IntWalk.i64_in _ (by omega) | exact rfl)) rfl rfl <| .e (.move rfl) rfl rfl <| .nil ?_
                refine .tail ?_
                refine .tail ?_
                refine .tail ?_
                exact .mid ((q + 1, b1, _, K)) ⟨by dsimp only; omega, by dsimp only; omega, hb520.mono hK, (Imm.le_trans (Imm.le_trans hG hI52) hK), hok1, hf1⟩ ⟨rfl, trivial⟩ rfl rfl (.pre 36 rfl (.app rfl (.del rfl (.pre 29 rfl (.app rfl .base)))))
              · skip
                first | replace h114 := of_decide_eq_true ((Bool.not_eq_false' _).mp h114) | replace h114 := of_decide_eq_true (by simpa using h114)
                have hjl : j < (candL b1 T[q].name).length := by have := hin h114; omega
                have hcm := cand_mem.1 (List.getElem_mem hjl)
                have hons : (candL b1 T[q].name)[j].node.name.size ≤ 32 := by
                  obtain ⟨n, hn, e⟩ := load_mem.1 hcm.1
                  rw [e]; exact nod_nm (hB1.nod n hn)
                have hpl : (doR b1 (ordB T[q].name (candL b1 T[q].name)[j].node.name 0)).2.1 = 0 := by rw [place_at hok1 (can_in hcm.2).2 (by omega)]
                refine .cond_false rfl <| .skip <| .go <| .seq ?_
                refine .draw [(c1, _), (c3, _)] mixed (.cons (.there <| .there <| .there <| .here) (.cons (.there <| .there <| .here) .nil)) ?_
                refine .t 0 rfl (.loadW ag27 sz27 rfl .here rfl) rfl rfl (by kernel_rfl) <| .t 1 rfl (.fieldAddr fo42_0 rfl) rfl rfl (by kernel_rfl) <| .t 2 rfl (.load ag9 rfl (.there <| .here) rfl) rfl rfl (by kernel_rfl) <| .t 3 rfl (.move rfl) rfl rfl (by kernel_rfl) <| .t 4 rfl (.move rfl) rfl rfl (by kernel_rfl) ?_
                obtain ⟨eb121, eo121, cs121, hd121, hat121, hr121⟩ := SlR.at_ hlK (k := j) hjl
                cases hd121
                have hx121 := hr121
                obtain ⟨xv121, yv121, rfl, hxv121, hyv121⟩ := hr121.ex
                obtain ⟨xa121, xc121, rfl, -⟩ := hxv121
                obtain ⟨ya121, yc121, rfl, -⟩ := hyv121
                refine .t 5 rfl (.indexAddrL sl31 rfl rfl hj hjl) rfl rfl (by kernel_rfl) <| .t 6 rfl (.fieldAddr fo47_0 rfl) rfl rfl (by kernel_rfl) <| .t 7 rfl (.fieldAddr fo45_0 rfl) rfl rfl (by kernel_rfl) <| .t 8 rfl (.loadI ag9 rfl (hat121.cell (j := 0) rfl)) rfl rfl (by kernel_rfl) <| .t 9 rfl (.build bs65 zv65 rfl rfl) rfl rfl (by kernel_rfl) <| .one (i := 10) (by kernel_rfl) rfl rfl ?_
                refine .call cal27 rfl rfl rfl (doF (o := ordB T[q].name (candL b1 T[q].name)[j].node.name 0) (hb520.mono hK) (ordBR (f := 0) (strOk32 (tsk_nm (hB1.tsk _ htm))) (strOk32 hons) e4_ (by have := tsk_nm (hB1.tsk _ htm); omega)).1 (ordBR (I := I) (f := 0) (strOk32 (tsk_nm (hB1.tsk _ htm))) (strOk32 hons) e4_ (by have := tsk_nm (hB1.tsk _ htm); omega)).2) fun v126 I126 O126 hI126 hK126 => ?_
                obtain ⟨rfl, cs126, rfl, hb126⟩ := hK126
                have hb1260 := hb126
                obtain ⟨nv126, tv126, bv126, rfl, hn126, ht126, hx126⟩ := hb126.ex
                obtain ⟨_, _, rfl, -⟩ := hn126
                obtain ⟨_, _, rfl, htl126, -⟩ := ht126
                obtain ⟨_, _, rfl, -⟩ := hx126
                refine ⟨(.cons (.there <| .there <| .there <| .here) (.cons (.there <| .there <| .here) .nil)), hI126, ?_⟩
                refine .t 11 rfl (.move rfl) rfl rfl (by kernel_rfl) <| .t 12 rfl (.extract rfl rfl) rfl rfl (by kernel_rfl) <| .t 13 rfl (.extract rfl rfl) rfl rfl (by kernel_rfl) <| .one (i := 14) (by kernel_rfl) rfl rfl <| .storeW sz27 rfl rfl rfl rfl rfl rfl (.there <| .here) ?_
                refine ⟨(.cons (.there <| .there <| .there <| .here) (.cons (.there <| .there <| .here) .nil)), hI126, ?_⟩
                refine .late (i := 15) (by kernel_rfl) (by kernel_rfl) (by kernel_rfl) rfl rfl <| .storeW sz60 rfl rfl rfl rfl rfl rfl .here <| .go <| .seq <| .seq <| .region <| .e (.fieldAddr fo60_0 rfl) rfl rfl ?_
                refine .e (.load ag28 rfl .here rfl) rfl rfl <| .e ((EV.cast (u := .bool false) (.neq rfl rfl) (congrArg Value.bool (by rw [decide_eq_true (hpl)]; rfl)))) rfl rfl <| .e (.move rfl) rfl rfl <| .e (.loadW ag27 sz27 rfl (.there <| .here) rfl) rfl rfl <| .on rfl <| .callP cal23 rfl rfl rfl ((bCheck_ok hb1260).cast (congrArg (Value.int .i64) (bookWhy0 (do_okB hok1)))) <| .e ((EV.cast (u := .bool false) (.neq rfl rfl) (congrArg Value.bool (by decide)))) rfl rfl ?_
                refine .e (.pickF rfl rfl) rfl rfl <| .nil <| .go <| .cond_false rfl <| .skip <| .go ?_
                refine .region <| .e (.loadW ag27 sz27 rfl (.there <| .here) rfl) rfl rfl <| .on rfl <| .storeW sz27 rfl rfl rfl rfl rfl rfl (.there <| .there <| .there <| .here) <| .nil <| .blk_normal <| .go ?_
                refine .region <| .e (.add rfl rfl (by first | exact wrap_succ (by omega) | exact IntWalk.i64_in _ (by omega) | exact rfl)) rfl rfl <| .e (.move rfl) rfl rfl <| .nil ?_
                refine .tail ?_
                refine .tail ?_
                refine .tail ?_
                exact .mid ((q + 1, _, _, I126)) ⟨by dsimp only; omega, by dsimp only; omega, hb1260, (Imm.le_trans (Imm.le_trans (Imm.le_trans hG hI52) hK) hI126), do_okB hok1, (do_fence hok1).trans hf1⟩ ⟨rfl, trivial⟩ rfl rfl (.pre 59 rfl (.app rfl (.del rfl (.pre 29 rfl (.app rfl .base)))))
            · skip
              replace h106 := of_decide_eq_false h106
              refine .off rfl rfl <| .off rfl rfl <| .off rfl rfl <| .off rfl rfl <| .e (.pickF rfl rfl) rfl rfl <| .e (.pickF rfl rfl) rfl rfl ?_
              refine .nil <| .go <| .cond_false rfl <| .skip <| .go <| .seq ?_
              refine .seq <| .region <| .e (.move rfl) rfl rfl <| .e (.neq rfl rfl) rfl rfl <| .nil <| .go ?_
              refine .split 114 rfl (fun h114 => ?_) (fun h114 => ?_)
              · skip
                first | replace h114 := of_decide_eq_false ((Bool.not_eq_true' _).mp h114) | replace h114 := of_decide_eq_false (by simpa using h114)
                refine .cond_true rfl <| .exit <| .exit <| .blk_exit <| .go <| .region ?_
                refine .e (.add rfl rfl (by first | exact wrap_succ (by omega) | exact IntWalk.i64_in _ (by omega) | exact rfl)) rfl rfl <| .e (.move rfl) rfl rfl <| .nil ?_
                refine .tail ?_
                refine .tail ?_
                refine .tail ?_
                exact .mid ((q + 1, b1, _, K)) ⟨by dsimp only; omega, by dsimp only; omega, hb520.mono hK, (Imm.le_trans (Imm.le_trans hG hI52) hK), hok1, hf1⟩ ⟨rfl, trivial⟩ rfl rfl (.pre 36 rfl (.app rfl (.del rfl (.pre 29 rfl (.app rfl .base)))))
              · skip
                first | replace h114 := of_decide_eq_true ((Bool.not_eq_false' _).mp h114) | replace h114 := of_decide_eq_true (by simpa using h114)
                have hjl : j < (candL b1 T[q].name).length := by have := hin h114; omega
                have hcm := cand_mem.1 (List.getElem_mem hjl)
                have hons : (candL b1 T[q].name)[j].node.name.size ≤ 32 := by
                  obtain ⟨n, hn, e⟩ := load_mem.1 hcm.1
                  rw [e]; exact nod_nm (hB1.nod n hn)
                have hpl : (doR b1 (ordB T[q].name (candL b1 T[q].name)[j].node.name 0)).2.1 = 0 := by rw [place_at hok1 (can_in hcm.2).2 (by omega)]
                refine .cond_false rfl <| .skip <| .go <| .seq ?_
                refine .draw [(c1, _), (c3, _)] mixed (.cons (.there <| .there <| .there <| .here) (.cons (.there <| .there <| .here) .nil)) ?_
                refine .t 0 rfl (.loadW ag27 sz27 rfl .here rfl) rfl rfl (by kernel_rfl) <| .t 1 rfl (.fieldAddr fo42_0 rfl) rfl rfl (by kernel_rfl) <| .t 2 rfl (.load ag9 rfl (.there <| .here) rfl) rfl rfl (by kernel_rfl) <| .t 3 rfl (.move rfl) rfl rfl (by kernel_rfl) <| .t 4 rfl (.move rfl) rfl rfl (by kernel_rfl) ?_
                obtain ⟨eb121, eo121, cs121, hd121, hat121, hr121⟩ := SlR.at_ hlK (k := j) hjl
                cases hd121
                have hx121 := hr121
                obtain ⟨xv121, yv121, rfl, hxv121, hyv121⟩ := hr121.ex
                obtain ⟨xa121, xc121, rfl, -⟩ := hxv121
                obtain ⟨ya121, yc121, rfl, -⟩ := hyv121
                refine .t 5 rfl (.indexAddrL sl31 rfl rfl hj hjl) rfl rfl (by kernel_rfl) <| .t 6 rfl (.fieldAddr fo47_0 rfl) rfl rfl (by kernel_rfl) <| .t 7 rfl (.fieldAddr fo45_0 rfl) rfl rfl (by kernel_rfl) <| .t 8 rfl (.loadI ag9 rfl (hat121.cell (j := 0) rfl)) rfl rfl (by kernel_rfl) <| .t 9 rfl (.build bs65 zv65 rfl rfl) rfl rfl (by kernel_rfl) <| .one (i := 10) (by kernel_rfl) rfl rfl ?_
                refine .call cal27 rfl rfl rfl (doF (o := ordB T[q].name (candL b1 T[q].name)[j].node.name 0) (hb520.mono hK) (ordBR (f := 0) (strOk32 (tsk_nm (hB1.tsk _ htm))) (strOk32 hons) e4_ (by have := tsk_nm (hB1.tsk _ htm); omega)).1 (ordBR (I := I) (f := 0) (strOk32 (tsk_nm (hB1.tsk _ htm))) (strOk32 hons) e4_ (by have := tsk_nm (hB1.tsk _ htm); omega)).2) fun v126 I126 O126 hI126 hK126 => ?_
                obtain ⟨rfl, cs126, rfl, hb126⟩ := hK126
                have hb1260 := hb126
                obtain ⟨nv126, tv126, bv126, rfl, hn126, ht126, hx126⟩ := hb126.ex
                obtain ⟨_, _, rfl, -⟩ := hn126
                obtain ⟨_, _, rfl, htl126, -⟩ := ht126
                obtain ⟨_, _, rfl, -⟩ := hx126
                refine ⟨(.cons (.there <| .there <| .there <| .here) (.cons (.there <| .there <| .here) .nil)), hI126, ?_⟩
                refine .t 11 rfl (.move rfl) rfl rfl (by kernel_rfl) <| .t 12 rfl (.extract rfl rfl) rfl rfl (by kernel_rfl) <| .t 13 rfl (.extract rfl rfl) rfl rfl (by kernel_rfl) <| .one (i := 14) (by kernel_rfl) rfl rfl <| .storeW sz27 rfl rfl rfl rfl rfl rfl (.there <| .here) ?_
                refine ⟨(.cons (.there <| .there <| .there <| .here) (.cons (.there <| .there <| .here) .nil)), hI126, ?_⟩
                refine .late (i := 15) (by kernel_rfl) (by kernel_rfl) (by kernel_rfl) rfl rfl <| .storeW sz60 rfl rfl rfl rfl rfl rfl .here <| .go <| .seq <| .seq <| .region <| .e (.fieldAddr fo60_0 rfl) rfl rfl ?_
                refine .e (.load ag28 rfl .here rfl) rfl rfl <| .e ((EV.cast (u := .bool false) (.neq rfl rfl) (congrArg Value.bool (by rw [decide_eq_true (hpl)]; rfl)))) rfl rfl <| .e (.move rfl) rfl rfl <| .e (.loadW ag27 sz27 rfl (.there <| .here) rfl) rfl rfl <| .on rfl <| .callP cal23 rfl rfl rfl ((bCheck_ok hb1260).cast (congrArg (Value.int .i64) (bookWhy0 (do_okB hok1)))) <| .e ((EV.cast (u := .bool false) (.neq rfl rfl) (congrArg Value.bool (by decide)))) rfl rfl ?_
                refine .e (.pickF rfl rfl) rfl rfl <| .nil <| .go <| .cond_false rfl <| .skip <| .go ?_
                refine .region <| .e (.loadW ag27 sz27 rfl (.there <| .here) rfl) rfl rfl <| .on rfl <| .storeW sz27 rfl rfl rfl rfl rfl rfl (.there <| .there <| .there <| .here) <| .nil <| .blk_normal <| .go ?_
                refine .region <| .e (.add rfl rfl (by first | exact wrap_succ (by omega) | exact IntWalk.i64_in _ (by omega) | exact rfl)) rfl rfl <| .e (.move rfl) rfl rfl <| .nil ?_
                refine .tail ?_
                refine .tail ?_
                refine .tail ?_
                exact .mid ((q + 1, _, _, I126)) ⟨by dsimp only; omega, by dsimp only; omega, hb1260, (Imm.le_trans (Imm.le_trans (Imm.le_trans hG hI52) hK) hI126), do_okB hok1, (do_fence hok1).trans hf1⟩ ⟨rfl, trivial⟩ rfl rfl (.pre 59 rfl (.app rfl (.del rfl (.pre 29 rfl (.app rfl .base)))))
    · skip
      replace h42 := of_decide_eq_false h42
      refine .cond_false rfl <| .exit <| .exit <| .exit <| .blk_exit <| .go ?_
      refine .seq <| .region <| .e (.loadW ag27 sz27 rfl .here rfl) rfl rfl <| .on rfl <| .callP cal23 rfl rfl rfl ((bCheck_ok hm0).cast (congrArg (Value.int .i64) (bookWhy0 hokm))) <| .e (.eql rfl rfl) rfl rfl <| .e (.assign rfl) rfl rfl ?_
      refine .nil <| .go <| .ret ?_
      refine .tail ?_
      refine .back hG ?_
      refine Post.retE rfl rfl ?_
      rfl

end Go.Proofs.YtmmokaockpghaaaGreatDoor
