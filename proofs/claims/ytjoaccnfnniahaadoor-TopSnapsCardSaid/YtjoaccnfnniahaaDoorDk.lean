/- Walks of functions over a symbolic memory, printed by a program of the session. -/
import Derived.Test.YtjoaccnfnniahaaDoorDd
namespace Go.Proofs.YtjoaccnfnniahaaDoor
open Go.Sy
set_option linter.unusedSimpArgs false
set_option linter.unusedVariables false

def refW (d : Dsk) (s t : ByteArray) : Int := if hasF d s = true then (if (atF d s).sync < ((atF d s).data.size : Int) then 9 else if namedB t = true then 0 else 5) else 6
def delF (d : Dsk) (s : ByteArray) : List Fil := d.files.take (posF d s) ++ d.files.drop (posF d s + 1)
def fuseR (z : Int) : Int := if 0 < z then z - 1 else z
def movF (D : Dsk) (t : ByteArray) (x : Fil) : List Fil := if hasF D t = true then D.files.set (posF D t) x else D.files.take (posF D t) ++ (x :: D.files.drop (posF D t))
def dropR (d : Dsk) (s : ByteArray) : Dsk × Int := if diskWhy d = 0 then (if d.down = true then (d, 8) else if refS d s = 0 then (if d.fuse = 0 then (⟨d.files, true, d.fuse⟩, 8) else (⟨delF d s, d.down, fuseR d.fuse⟩, 0)) else (d, refS d s)) else (⟨[], false, 0⟩, diskWhy d)
def swapR (d : Dsk) (s t : ByteArray) : Dsk × Int := if diskWhy d = 0 then (if d.down = true then (d, 8) else if refW d s t = 0 then (if d.fuse = 0 then (⟨d.files, true, d.fuse⟩, 8) else (⟨movF ⟨delF d s, d.down, fuseR d.fuse⟩ t { atF d s with name := t }, d.down, fuseR d.fuse⟩, 0)) else (d, refW d s t)) else (⟨[], false, 0⟩, diskWhy d)
theorem refW_in {d : Dsk} {s t : ByteArray} (h : refW d s t = 0) : hasF d s = true := by
  unfold refW at h
  split at h
  · assumption
  · cases h
theorem fuse_up {z : Int} (h : 0 < z) : fuseR z = z - 1 := by unfold fuseR; rw [if_pos h]
theorem fuse_no {z : Int} (h : ¬0 < z) : fuseR z = z := by unfold fuseR; rw [if_neg h]
theorem del_rising {l : List Fil} {k : Nat} (h : Rising (fun x : Fil => x.name) l) : Rising (fun x : Fil => x.name) (l.take k ++ l.drop (k + 1)) := by
  have h1 : List.Pairwise (fun a b : Fil => slt a.name b.name = true) l := List.pairwise_iff_getElem.2 fun i j hi hj hij => h i j hi hj hij
  have h2 : List.Pairwise (fun a b : Fil => slt a.name b.name = true) (l.take k ++ l.drop (k + 1)) := by
    rw [← List.eraseIdx_eq_take_drop_succ]
    exact h1.sublist (List.eraseIdx_sublist l k)
  intro i j hi hj hij
  exact List.pairwise_iff_getElem.1 h2 i j hi hj hij
theorem dr_setF {I : Imm} {ws : List Value} {l : List Fil} {k : Nat} {x : Fil} (h : DR FilR 3 I ws l) (hk : k < l.length) (hx : FilR I x.cells x) : DR FilR 3 I (setL ws (k * 3) x.cells) (l.set k x) := by
  have h1 : k * 3 + 3 ≤ l.length * 3 := by rw [← Nat.succ_mul]; exact Nat.mul_le_mul_right 3 hk
  have hwl := h.1
  have e : l.set k x = l.take k ++ ([x] ++ l.drop (k + 1)) := by rw [List.set_eq_take_append_cons_drop, if_pos hk]; rfl
  have e2 : setL ws (k * 3) x.cells = ws.take (k * 3) ++ (x.cells ++ ws.drop ((k + 1) * 3)) := by unfold setL; rw [Nat.succ_mul]; rfl
  rw [e2, e]
  exact (h.take (Nat.le_of_lt hk)).append ((DR.single rfl hx).append (h.drop (l := k + 1) hk))
theorem del_len {l : List Fil} {k : Nat} (h : k < l.length) : (l.take k ++ l.drop (k + 1)).length = l.length - 1 := by rw [List.length_append, List.length_take, List.length_drop]; omega

set_option maxHeartbeats 1000000 in
set_option maxRecDepth 20000 in
theorem drefD_ok {I : Imm} {O : Own} {dc : List Value} {d : Dsk} (hd : DskR I dc d) (hr : Rising (fun x : Fil => x.name) d.files) (hsm : d.files.length ≤ 1000) {s : ByteArray} :
    Pure Tryd.prog 45 [.agg ⟨[.int .u8 4, .string s, .string ⟨#[]⟩, .string ⟨#[]⟩, .int .i64 0]⟩, .agg ⟨dc⟩] I O (.int .i64 (refS d s)) := by
  have hd0 := hd
  obtain ⟨fv, rfl, hfv⟩ := hd.ex
  have hfv0 := hfv
  obtain ⟨fa, fcap, rfl, hf1, hf2, -⟩ := hfv
  have hfz := hd0.fuse
  refine Go.Sy.Does.enter Tryd.func45 rfl Tryd.ntmps45 rfl ?_
  refine .seq <| .region <| .on rfl <| .box rfl rfl rfl fun c1 _ _ => .on rfl <| .box rfl rfl rfl fun c2 _ _ => .e (.assign rfl) rfl rfl <| .nil ?_
  refine .go <| .seq <| .region <| .e (.loadW ag27 sz27 rfl .here rfl) rfl rfl <| .e (.fieldAddr fo59_1 rfl) rfl rfl <| .e (.load ag9 rfl (.there <| .here) rfl) rfl rfl ?_
  refine .on rfl <| .callP cal23 rfl rfl rfl (dplace_ok hd0 hr (disk_small hsm)) <| .e (.move rfl) rfl rfl <| .e (.extract rfl rfl) rfl rfl <| .e (.extract rfl rfl) rfl rfl <| .e (.assign rfl) rfl rfl <| .e (.assign rfl) rfl rfl ?_
  refine .nil <| .go <| .seq <| .block <| .seq <| .region ?_
  refine .e (.fieldAddr fo59_0 rfl) rfl rfl <| .e (.load ag57 rfl (.there <| .here) rfl) rfl rfl <| .e (.eql rfl rfl) rfl rfl <| .e (.move rfl) rfl rfl <| .off rfl rfl <| .off rfl rfl ?_
  refine .off rfl rfl <| .off rfl rfl <| .e (.pickF rfl rfl) rfl rfl <| .e (.assign rfl) rfl rfl <| .nil <| .go ?_
  refine .cond_false rfl <| .seq <| .region <| .e (.fieldAddr fo59_0 rfl) rfl rfl <| .e (.load ag57 rfl (.there <| .here) rfl) rfl rfl <| .e (.eql rfl rfl) rfl rfl ?_
  refine .e (.move rfl) rfl rfl <| .off rfl rfl <| .off rfl rfl <| .e (.pickF rfl rfl) rfl rfl <| .e (.move rfl) rfl rfl <| .off rfl rfl ?_
  refine .off rfl rfl <| .off rfl rfl <| .off rfl rfl <| .e (.pickF rfl rfl) rfl rfl <| .e (.assign rfl) rfl rfl <| .nil ?_
  refine .go <| .cond_false rfl <| .seq <| .region <| .e (.fieldAddr fo59_0 rfl) rfl rfl <| .e (.load ag57 rfl (.there <| .here) rfl) rfl rfl ?_
  refine .e (.neq rfl rfl) rfl rfl <| .e (.move rfl) rfl rfl <| .e (.move rfl) rfl rfl <| .e (.not rfl) rfl rfl <| .e (.pickT rfl rfl) rfl rfl <| .e (.assign rfl) rfl rfl ?_
  refine .nil <| .go ?_
  refine .split 38 rfl (fun h38 => ?_) (fun h38 => ?_)
  · skip
    refine .cond_true rfl <| .seq <| .region <| .e (.assign rfl) rfl rfl <| .nil <| .go ?_
    refine .ret <| .blk_ret <| .ret ?_
    refine .tail <| .tail ?_
    refine Post.retE rfl rfl ?_
    unfold refS
    rw [if_neg (by simpa using h38)]
  · skip
    refine .cond_false rfl <| .seq ?_
    refine .draw [(c1, _), (c2, _)] mixed (.cons (.there <| .here) (.cons .here .nil)) ?_
    refine .t 0 rfl (.fieldAddr fo59_0 rfl) rfl rfl (by kernel_rfl) <| .t 1 rfl (.load ag57 rfl .here rfl) rfl rfl (by kernel_rfl) <| .t 2 rfl (.eql rfl rfl) rfl rfl (by kernel_rfl) <| .t 3 rfl (.move rfl) rfl rfl (by kernel_rfl) <| .s 4 rfl rfl rfl (by kernel_rfl) <| .s 5 rfl rfl rfl (by kernel_rfl) ?_
    refine .s 6 rfl rfl rfl (by kernel_rfl) <| .s 7 rfl rfl rfl (by kernel_rfl) <| .s 8 rfl rfl rfl (by kernel_rfl) <| .s 9 rfl rfl rfl (by kernel_rfl) <| .s 10 rfl rfl rfl (by kernel_rfl) <| .s 11 rfl rfl rfl (by kernel_rfl) ?_
    refine .s 12 rfl rfl rfl (by kernel_rfl) <| .s 13 rfl rfl rfl (by kernel_rfl) <| .s 14 rfl rfl rfl (by kernel_rfl) <| .s 15 rfl rfl rfl (by kernel_rfl) <| .s 16 rfl rfl rfl (by kernel_rfl) <| .s 17 rfl rfl rfl (by kernel_rfl) ?_
    refine .s 18 rfl rfl rfl (by kernel_rfl) <| .t 19 rfl (.pickF rfl rfl) rfl rfl (by kernel_rfl) <| .t 20 rfl (.assign rfl) rfl rfl (by kernel_rfl) <| .done (by kernel_rfl) <| .go <| .cond_false rfl ?_
    refine .seq ?_
    refine .draw [(c1, _), (c2, _)] mixed (.cons (.there <| .here) (.cons .here .nil)) ?_
    refine .t 0 rfl (.fieldAddr fo59_0 rfl) rfl rfl (by kernel_rfl) <| .t 1 rfl (.load ag57 rfl .here rfl) rfl rfl (by kernel_rfl) <| .t 2 rfl (.eql rfl rfl) rfl rfl (by kernel_rfl) <| .t 3 rfl (.move rfl) rfl rfl (by kernel_rfl) <| .s 4 rfl rfl rfl (by kernel_rfl) <| .s 5 rfl rfl rfl (by kernel_rfl) ?_
    refine .s 6 rfl rfl rfl (by kernel_rfl) <| .s 7 rfl rfl rfl (by kernel_rfl) <| .s 8 rfl rfl rfl (by kernel_rfl) <| .s 9 rfl rfl rfl (by kernel_rfl) <| .s 10 rfl rfl rfl (by kernel_rfl) <| .s 11 rfl rfl rfl (by kernel_rfl) ?_
    refine .s 12 rfl rfl rfl (by kernel_rfl) <| .s 13 rfl rfl rfl (by kernel_rfl) <| .s 14 rfl rfl rfl (by kernel_rfl) <| .s 15 rfl rfl rfl (by kernel_rfl) <| .s 16 rfl rfl rfl (by kernel_rfl) <| .s 17 rfl rfl rfl (by kernel_rfl) ?_
    refine .t 18 rfl (.pickF rfl rfl) rfl rfl (by kernel_rfl) <| .t 19 rfl (.assign rfl) rfl rfl (by kernel_rfl) <| .done (by kernel_rfl) <| .go <| .cond_false rfl <| .seq ?_
    refine .region <| .e (.fieldAddr fo59_0 rfl) rfl rfl <| .e (.load ag57 rfl (.there <| .here) rfl) rfl rfl <| .e (.eql rfl rfl) rfl rfl <| .e (.move rfl) rfl rfl <| .off rfl rfl ?_
    refine .off rfl rfl <| .off rfl rfl <| .off rfl rfl <| .e (.pickF rfl rfl) rfl rfl <| .e (.assign rfl) rfl rfl <| .nil ?_
    refine .go <| .cond_false rfl <| .skip <| .blk_normal <| .go <| .seq ?_
    refine .region <| .e (.assign rfl) rfl rfl <| .nil <| .go <| .ret ?_
    refine .tail <| .tail ?_
    refine Post.retE rfl rfl ?_
    unfold refS
    rw [if_pos (by simpa using h38)]

set_option maxHeartbeats 1000000 in
set_option maxRecDepth 20000 in
theorem drefW_ok {I : Imm} {O : Own} {dc : List Value} {d : Dsk} (hd : DskR I dc d) (hr : Rising (fun x : Fil => x.name) d.files) (hsm : d.files.length ≤ 1000) {s t : ByteArray} :
    Pure Tryd.prog 45 [.agg ⟨[.int .u8 3, .string s, .string t, .string ⟨#[]⟩, .int .i64 0]⟩, .agg ⟨dc⟩] I O (.int .i64 (refW d s t)) := by
  have hd0 := hd
  obtain ⟨fv, rfl, hfv⟩ := hd.ex
  have hfv0 := hfv
  obtain ⟨fa, fcap, rfl, hf1, hf2, -⟩ := hfv
  have hfz := hd0.fuse
  refine Go.Sy.Does.enter Tryd.func45 rfl Tryd.ntmps45 rfl ?_
  refine .seq <| .region <| .on rfl <| .box rfl rfl rfl fun c1 _ _ => .on rfl <| .box rfl rfl rfl fun c2 _ _ => .e (.assign rfl) rfl rfl <| .nil ?_
  refine .go <| .seq <| .region <| .e (.loadW ag27 sz27 rfl .here rfl) rfl rfl <| .e (.fieldAddr fo59_1 rfl) rfl rfl <| .e (.load ag9 rfl (.there <| .here) rfl) rfl rfl ?_
  refine .on rfl <| .callP cal23 rfl rfl rfl (dplace_ok hd0 hr (disk_small hsm)) <| .e (.move rfl) rfl rfl <| .e (.extract rfl rfl) rfl rfl <| .e (.extract rfl rfl) rfl rfl <| .e (.assign rfl) rfl rfl <| .e (.assign rfl) rfl rfl ?_
  refine .nil <| .go <| .seq <| .block <| .seq <| .region ?_
  refine .e (.fieldAddr fo59_0 rfl) rfl rfl <| .e (.load ag57 rfl (.there <| .here) rfl) rfl rfl <| .e (.eql rfl rfl) rfl rfl <| .e (.move rfl) rfl rfl <| .off rfl rfl <| .off rfl rfl ?_
  refine .off rfl rfl <| .off rfl rfl <| .e (.pickF rfl rfl) rfl rfl <| .e (.assign rfl) rfl rfl <| .nil <| .go ?_
  refine .cond_false rfl <| .seq <| .region <| .e (.fieldAddr fo59_0 rfl) rfl rfl <| .e (.load ag57 rfl (.there <| .here) rfl) rfl rfl <| .e (.eql rfl rfl) rfl rfl ?_
  refine .e (.move rfl) rfl rfl <| .off rfl rfl <| .off rfl rfl <| .e (.pickF rfl rfl) rfl rfl <| .e (.move rfl) rfl rfl <| .off rfl rfl ?_
  refine .off rfl rfl <| .off rfl rfl <| .off rfl rfl <| .e (.pickF rfl rfl) rfl rfl <| .e (.assign rfl) rfl rfl <| .nil ?_
  refine .go <| .cond_false rfl <| .seq <| .region <| .e (.fieldAddr fo59_0 rfl) rfl rfl <| .e (.load ag57 rfl (.there <| .here) rfl) rfl rfl ?_
  refine .e (.neq rfl rfl) rfl rfl <| .e (.move rfl) rfl rfl <| .e (.move rfl) rfl rfl <| .e (.not rfl) rfl rfl <| .e (.pickT rfl rfl) rfl rfl <| .e (.assign rfl) rfl rfl ?_
  refine .nil <| .go ?_
  refine .split 38 rfl (fun h38 => ?_) (fun h38 => ?_)
  · skip
    refine .cond_true rfl <| .seq <| .region <| .e (.assign rfl) rfl rfl <| .nil <| .go ?_
    refine .ret <| .blk_ret <| .ret ?_
    refine .tail <| .tail ?_
    refine Post.retE rfl rfl ?_
    unfold refW
    rw [if_neg (by simpa using h38)]
  · skip
    have hhas : hasF d s = true := by simpa using h38
    obtain ⟨hpos, hnm⟩ := has_get hr (show hasBy (fun x : Fil => x.name) d.files s = true from hhas)
    replace hpos : posF d s < d.files.length := hpos
    refine .cond_false rfl <| .seq ?_
    refine .draw [(c1, _), (c2, _)] mixed (.cons (.there <| .here) (.cons .here .nil)) ?_
    refine .t 0 rfl (.fieldAddr fo59_0 rfl) rfl rfl (by kernel_rfl) <| .t 1 rfl (.load ag57 rfl .here rfl) rfl rfl (by kernel_rfl) <| .t 2 rfl (.eql rfl rfl) rfl rfl (by kernel_rfl) <| .t 3 rfl (.move rfl) rfl rfl (by kernel_rfl) <| .s 4 rfl rfl rfl (by kernel_rfl) <| .s 5 rfl rfl rfl (by kernel_rfl) ?_
    refine .s 6 rfl rfl rfl (by kernel_rfl) <| .s 7 rfl rfl rfl (by kernel_rfl) <| .s 8 rfl rfl rfl (by kernel_rfl) <| .s 9 rfl rfl rfl (by kernel_rfl) <| .s 10 rfl rfl rfl (by kernel_rfl) <| .s 11 rfl rfl rfl (by kernel_rfl) ?_
    refine .s 12 rfl rfl rfl (by kernel_rfl) <| .s 13 rfl rfl rfl (by kernel_rfl) <| .s 14 rfl rfl rfl (by kernel_rfl) <| .s 15 rfl rfl rfl (by kernel_rfl) <| .s 16 rfl rfl rfl (by kernel_rfl) <| .s 17 rfl rfl rfl (by kernel_rfl) ?_
    refine .s 18 rfl rfl rfl (by kernel_rfl) <| .t 19 rfl (.pickF rfl rfl) rfl rfl (by kernel_rfl) <| .t 20 rfl (.assign rfl) rfl rfl (by kernel_rfl) <| .done (by kernel_rfl) <| .go <| .cond_false rfl ?_
    refine .seq ?_
    refine .draw [(c1, _), (c2, _)] mixed (.cons (.there <| .here) (.cons .here .nil)) ?_
    refine .t 0 rfl (.fieldAddr fo59_0 rfl) rfl rfl (by kernel_rfl) <| .t 1 rfl (.load ag57 rfl .here rfl) rfl rfl (by kernel_rfl) <| .t 2 rfl (.eql rfl rfl) rfl rfl (by kernel_rfl) <| .t 3 rfl (.move rfl) rfl rfl (by kernel_rfl) <| .t 4 rfl (.fieldAddr fo27_0 rfl) rfl rfl (by kernel_rfl) <| .t 5 rfl (.load ag25 rfl (.there <| .here) rfl) rfl rfl (by kernel_rfl) ?_
    refine .t 6 rfl (.move rfl) rfl rfl (by kernel_rfl) ?_
    obtain ⟨eb75, eo75, cs75, hd75, hat75, hr75⟩ := SlR.at_ hfv0 (k := posF d s) hpos
    cases hd75
    obtain ⟨rfl, hn75, hz75, hs75⟩ := hr75
    unfold StrOk at hn75 hz75
    unfold I64 at hs75
    refine .t 7 rfl (.indexAddrL sl25 rfl rfl rfl hpos) rfl rfl (by kernel_rfl) <| .t 8 rfl (.fieldAddr fo51_2 rfl) rfl rfl (by kernel_rfl) <| .t 9 rfl (.loadI ag3 rfl (hat75.cell (j := 2) rfl)) rfl rfl (by kernel_rfl) <| .t 10 rfl (.fieldAddr fo27_0 rfl) rfl rfl (by kernel_rfl) <| .t 11 rfl (.load ag25 rfl (.there <| .here) rfl) rfl rfl (by kernel_rfl) <| .t 12 rfl (.move rfl) rfl rfl (by kernel_rfl) ?_
    obtain ⟨eb81, eo81, cs81, hd81, hat81, hr81⟩ := SlR.at_ hfv0 (k := posF d s) hpos
    cases hd81
    obtain ⟨rfl, hn81, hz81, hs81⟩ := hr81
    unfold StrOk at hn81 hz81
    unfold I64 at hs81
    refine .t 13 rfl (.indexAddrL sl25 rfl rfl rfl hpos) rfl rfl (by kernel_rfl) <| .t 14 rfl (.fieldAddr fo51_1 rfl) rfl rfl (by kernel_rfl) <| .t 15 rfl (.loadI ag9 rfl (hat81.cell (j := 1) rfl)) rfl rfl (by kernel_rfl) <| .t 16 rfl (.lenS Tryd.underlying9 rfl rfl) rfl rfl (by kernel_rfl) <| .t 17 rfl (.lss rfl rfl) rfl rfl (by kernel_rfl) <| .t 18 rfl (.pickT rfl rfl) rfl rfl (by kernel_rfl) ?_
    refine .t 19 rfl (.assign rfl) rfl rfl (by kernel_rfl) <| .done (by kernel_rfl) <| .go ?_
    refine .split 67 rfl (fun h67 => ?_) (fun h67 => ?_)
    · skip
      replace h67 := of_decide_eq_true h67
      refine .cond_true rfl <| .seq <| .region <| .e (.assign rfl) rfl rfl <| .nil <| .go ?_
      refine .ret <| .blk_ret <| .ret ?_
      refine .tail <| .tail ?_
      refine Post.retE rfl rfl ?_
      have ea : atF d s = d.files[posF d s] := (at_yes hhas).trans (filD hpos)
      unfold refW
      rw [if_pos hhas, ea, if_pos h67]
    · skip
      replace h67 := of_decide_eq_false h67
      refine .cond_false rfl <| .seq <| .region <| .e (.fieldAddr fo59_0 rfl) rfl rfl <| .e (.load ag57 rfl (.there <| .here) rfl) rfl rfl <| .e (.eql rfl rfl) rfl rfl ?_
      refine .e (.move rfl) rfl rfl <| .e (.fieldAddr fo59_2 rfl) rfl rfl <| .e (.load ag9 rfl (.there <| .here) rfl) rfl rfl <| .on rfl <| .callP cal61 rfl rfl rfl (dnamed_ok) <| .e (.not rfl) rfl rfl <| .e (.pickT rfl rfl) rfl rfl ?_
      refine .e (.assign rfl) rfl rfl <| .nil <| .go ?_
      refine .split 87 rfl (fun h87 => ?_) (fun h87 => ?_)
      · skip
        refine .cond_true rfl <| .seq <| .region <| .e (.assign rfl) rfl rfl <| .nil <| .go ?_
        refine .ret <| .blk_ret <| .ret ?_
        refine .tail <| .tail ?_
        refine Post.retE rfl rfl ?_
        have ea : atF d s = d.files[posF d s] := (at_yes hhas).trans (filD hpos)
        unfold refW
        rw [if_pos hhas, ea, if_neg h67, if_neg (by simpa using h87)]
      · skip
        refine .cond_false rfl <| .skip <| .blk_normal <| .go <| .seq <| .region ?_
        refine .e (.assign rfl) rfl rfl <| .nil <| .go <| .ret ?_
        refine .tail <| .tail ?_
        refine Post.retE rfl rfl ?_
        have ea : atF d s = d.files[posF d s] := (at_yes hhas).trans (filD hpos)
        unfold refW
        rw [if_pos hhas, ea, if_neg h67, if_pos (by simpa using h87)]

end Go.Proofs.YtjoaccnfnniahaaDoor
