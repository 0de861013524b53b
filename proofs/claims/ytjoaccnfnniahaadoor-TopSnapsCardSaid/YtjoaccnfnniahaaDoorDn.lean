/- Walks of functions over a symbolic memory, printed by a program of the session. -/
import Derived.Test.YtjoaccnfnniahaaDoorDl
import Derived.Test.YtjoaccnfnniahaaDoorDm
import Derived.Test.YtjoaccnfnniahaaDoorDi
namespace Go.Proofs.YtjoaccnfnniahaaDoor
open Go.Sy
set_option linter.unusedSimpArgs false
set_option linter.unusedVariables false

theorem drop_fuse {d : Dsk} {s : ByteArray} (h : I64 d.fuse) : I64 (dropR d s).1.fuse := by
  unfold dropR fuseR I64 at *
  repeat' split
  all_goals dsimp only
  all_goals first | exact h | omega
theorem swap_fuse {d : Dsk} {s t : ByteArray} (h : I64 d.fuse) : I64 (swapR d s t).1.fuse := by
  unfold swapR fuseR I64 at *
  repeat' split
  all_goals dsimp only
  all_goals first | exact h | omega
theorem dDropF {I : Imm} {O : Own} {dc : List Value} {d D : Dsk} {e : Int} (hd : DskR I dc d) (hsm : d.files.length ≤ 1000) {s : ByteArray} (hsS : StrOk s) (h : dropR d s = (D, e)) :
    Go.Sy.Does Tryd.prog 21 [.agg ⟨dc⟩, .agg ⟨[.int .u8 4, .string s, .string ⟨#[]⟩, .string ⟨#[]⟩, .int .i64 0]⟩] I O fun u I' O' => O' = O ∧ ∃ v, u = .tuple ⟨[.agg ⟨D.cells v⟩, .int .i64 e]⟩ ∧ DskR I' (D.cells v) D := by
  have h1 := frzD (ddone4_ok (O := O) hd hsm hsS) (drop_fuse hd.fuse)
  rw [h] at h1; exact h1
theorem dSwapF {I : Imm} {O : Own} {dc : List Value} {d D : Dsk} {e : Int} (hd : DskR I dc d) (hsm : d.files.length ≤ 1000) {s t : ByteArray} (hsS : StrOk s) (ht : StrOk t) (h : swapR d s t = (D, e)) :
    Go.Sy.Does Tryd.prog 21 [.agg ⟨dc⟩, .agg ⟨[.int .u8 3, .string s, .string t, .string ⟨#[]⟩, .int .i64 0]⟩] I O fun u I' O' => O' = O ∧ ∃ v, u = .tuple ⟨[.agg ⟨D.cells v⟩, .int .i64 e]⟩ ∧ DskR I' (D.cells v) D := by
  have h1 := frzD (ddone3_ok (O := O) hd hsm hsS ht) (swap_fuse hd.fuse)
  rw [h] at h1; exact h1

set_option maxHeartbeats 1000000 in
set_option maxRecDepth 20000 in
theorem dDrop_ok {I : Imm} {O : Own} {dc : List Value} {d : Dsk} (hd : DskR I dc d) {D : Dsk} {e : Int} (hsm : d.files.length ≤ 1000) {s : ByteArray} (hsS : StrOk s) (h : dropR d s = (D, e)) :
    Go.Sy.Does Tryd.prog 36 [.agg ⟨dc⟩, .string s] I O (fun u I' O' => O' = O ∧ ∃ v, u = .tuple ⟨[.agg ⟨D.cells v⟩, .int .i64 e]⟩ ∧ DskR I' (D.cells v) D) := by
  have hd0 := hd
  obtain ⟨fv, rfl, hfv⟩ := hd.ex
  have hfv0 := hfv
  obtain ⟨fa, fcap, rfl, hf1, hf2, -⟩ := hfv
  have hfz := hd0.fuse
  refine Go.Sy.Does.enter Tryd.func36 rfl Tryd.ntmps36 rfl ?_
  refine .seq <| .region <| .on rfl <| .box rfl rfl rfl fun c1 _ _ => .on rfl <| .alloc zr27 rfl fun c2 _ _ => .e (.assign rfl) rfl rfl <| .nil ?_
  refine .go <| .seq <| .region <| .e (.loadW ag27 sz27 rfl (.there <| .here) rfl) rfl rfl <| .e (.move rfl) rfl rfl <| .e (.build bs59 zv59 rfl rfl) rfl rfl ?_
  refine .on rfl <| .call cal21 rfl rfl rfl (dDropF hd0 hsm hsS h) fun v9 I9 O9 hI9 hK9 => ?_
  obtain ⟨rfl, fv9, rfl, hf9⟩ := hK9
  obtain ⟨fw9, ew9, hw9⟩ := hf9.ex
  obtain ⟨fa9, fc9, rfl, -, -, -⟩ := hw9
  cases ew9
  have hf := hf9
  refine .e (.extract rfl rfl) rfl rfl <| .e (.extract rfl rfl) rfl rfl <| .on rfl <| .storeW sz27 rfl rfl rfl rfl rfl rfl .here <| .e (.assign rfl) rfl rfl <| .nil <| .go ?_
  refine .ret ?_
  refine Post.rets rfl (.agg rfl ag27 sz27 .here rfl (.tmp rfl .nil)) rfl hI9 (fun w h => (Sat.tail (Sat.tail h))) ?_
  exact ⟨rfl, _, rfl, hf⟩

set_option maxHeartbeats 1000000 in
set_option maxRecDepth 20000 in
theorem dSwap_ok {I : Imm} {O : Own} {dc : List Value} {d : Dsk} (hd : DskR I dc d) {D : Dsk} {e : Int} (hsm : d.files.length ≤ 1000) {s t : ByteArray} (hsS : StrOk s) (ht : StrOk t) (h : swapR d s t = (D, e)) :
    Go.Sy.Does Tryd.prog 42 [.agg ⟨dc⟩, .string s, .string t] I O (fun u I' O' => O' = O ∧ ∃ v, u = .tuple ⟨[.agg ⟨D.cells v⟩, .int .i64 e]⟩ ∧ DskR I' (D.cells v) D) := by
  have hd0 := hd
  obtain ⟨fv, rfl, hfv⟩ := hd.ex
  have hfv0 := hfv
  obtain ⟨fa, fcap, rfl, hf1, hf2, -⟩ := hfv
  have hfz := hd0.fuse
  refine Go.Sy.Does.enter Tryd.func42 rfl Tryd.ntmps42 rfl ?_
  refine .seq <| .region <| .on rfl <| .box rfl rfl rfl fun c1 _ _ => .on rfl <| .alloc zr27 rfl fun c2 _ _ => .e (.assign rfl) rfl rfl <| .nil ?_
  refine .go <| .seq <| .region <| .e (.loadW ag27 sz27 rfl (.there <| .here) rfl) rfl rfl <| .e (.move rfl) rfl rfl <| .e (.move rfl) rfl rfl ?_
  refine .e (.build bs59 zv59 rfl rfl) rfl rfl <| .on rfl <| .call cal21 rfl rfl rfl (dSwapF hd0 hsm hsS ht h) fun v12 I12 O12 hI12 hK12 => ?_
  obtain ⟨rfl, fv12, rfl, hf12⟩ := hK12
  obtain ⟨fw12, ew12, hw12⟩ := hf12.ex
  obtain ⟨fa12, fc12, rfl, -, -, -⟩ := hw12
  cases ew12
  have hf := hf12
  refine .e (.extract rfl rfl) rfl rfl <| .e (.extract rfl rfl) rfl rfl <| .on rfl <| .storeW sz27 rfl rfl rfl rfl rfl rfl .here <| .e (.assign rfl) rfl rfl <| .nil <| .go ?_
  refine .ret ?_
  refine Post.rets rfl (.agg rfl ag27 sz27 .here rfl (.tmp rfl .nil)) rfl hI12 (fun w h => (Sat.tail (Sat.tail h))) ?_
  exact ⟨rfl, _, rfl, hf⟩

end Go.Proofs.YtjoaccnfnniahaaDoor
