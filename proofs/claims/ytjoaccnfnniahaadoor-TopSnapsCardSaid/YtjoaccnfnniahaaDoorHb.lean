/- Walks of functions over a symbolic memory, printed by a program of the session. -/
import Derived.Test.YtjoaccnfnniahaaDoorHa
namespace Go.Proofs.YtjoaccnfnniahaaDoor
open Go.Sy
set_option linter.unusedSimpArgs false
set_option linter.unusedVariables false

set_option maxHeartbeats 1000000 in
set_option maxRecDepth 20000 in
theorem putA_ok {I : Imm} {O : Own} {dc : List Value} {d : Dsk} (hd : DskR I dc d) {D : Dsk} {e : Int} (hsm : d.files.length ≤ 1000) {ct cd : Nat} {tmp x : ByteArray} (ht : Has O ct (.cells ⟨[.string tmp]⟩ 9 (0, 0))) (hx : Has O cd (.cells ⟨[.string x]⟩ 9 (0, 0))) (hsS : StrOk tmp) (hxS : StrOk x) (hsz : ∀ f ∈ d.files, StrOk (f.data ++ x)) (h : addR d tmp x = (D, e)) :
    Go.Sy.Does Tryd.prog 38 [.agg ⟨dc⟩, .pointer (some ⟨ct, 0, none⟩), .pointer (some ⟨cd, 0, none⟩)] I O (fun u I' O' => O' = O ∧ ∃ v, u = .tuple ⟨[.agg ⟨D.cells v⟩, .int .i64 e]⟩ ∧ DskR I' (D.cells v) D) := by
  have hd0 := hd
  obtain ⟨fv, rfl, hfv⟩ := hd.ex
  have hfv0 := hfv
  obtain ⟨fa, fcap, rfl, hf1, hf2, -⟩ := hfv
  have hfz := hd0.fuse
  refine Go.Sy.Does.enter Tryd.func38 rfl Tryd.ntmps38 rfl ?_
  refine .seq <| .region <| .on rfl <| .box rfl rfl rfl fun c1 _ _ => .on rfl <| .alloc zr27 rfl fun c2 _ _ => .e (.assign rfl) rfl rfl <| .nil ?_
  refine .go <| .seq <| .region <| .e (.loadW ag27 sz27 rfl (.there <| .here) rfl) rfl rfl <| .e (.load ag9 rfl (.there <| .there <| ht) rfl) rfl rfl <| .e (.load ag9 rfl (.there <| .there <| hx) rfl) rfl rfl ?_
  refine .on rfl <| .call cal9 rfl rfl rfl (dAdd_ok hd0 hsm hsS hxS hsz h) fun v9 I9 O9 hI9 hK9 => ?_
  obtain ⟨rfl, fv9, rfl, hf9⟩ := hK9
  obtain ⟨fw9, ew9, hw9⟩ := hf9.ex
  obtain ⟨fa9, fc9, rfl, -, -, -⟩ := hw9
  cases ew9
  have hf := hf9
  refine .e (.extract rfl rfl) rfl rfl <| .e (.extract rfl rfl) rfl rfl <| .on rfl <| .storeW sz27 rfl rfl rfl rfl rfl rfl .here <| .e (.assign rfl) rfl rfl <| .nil <| .go ?_
  refine .ret ?_
  refine Post.rets rfl (.agg rfl ag27 sz27 .here rfl (.tmp rfl .nil)) rfl hI9 (fun w h => (Sat.tail (Sat.tail h))) ?_
  exact ⟨rfl, _, rfl, hf⟩

set_option maxHeartbeats 1000000 in
set_option maxRecDepth 20000 in
theorem putS_ok {I : Imm} {O : Own} {dc : List Value} {d : Dsk} (hd : DskR I dc d) {D : Dsk} {e : Int} (hsm : d.files.length ≤ 1000) {ct : Nat} {tmp : ByteArray} (ht : Has O ct (.cells ⟨[.string tmp]⟩ 9 (0, 0))) (hsS : StrOk tmp) (h : syncR d tmp = (D, e)) :
    Go.Sy.Does Tryd.prog 39 [.agg ⟨dc⟩, .pointer (some ⟨ct, 0, none⟩)] I O (fun u I' O' => O' = O ∧ ∃ v, u = .tuple ⟨[.agg ⟨D.cells v⟩, .int .i64 e]⟩ ∧ DskR I' (D.cells v) D) := by
  have hd0 := hd
  obtain ⟨fv, rfl, hfv⟩ := hd.ex
  have hfv0 := hfv
  obtain ⟨fa, fcap, rfl, hf1, hf2, -⟩ := hfv
  have hfz := hd0.fuse
  refine Go.Sy.Does.enter Tryd.func39 rfl Tryd.ntmps39 rfl ?_
  refine .seq <| .region <| .on rfl <| .box rfl rfl rfl fun c1 _ _ => .on rfl <| .alloc zr27 rfl fun c2 _ _ => .e (.assign rfl) rfl rfl <| .nil ?_
  refine .go <| .seq <| .region <| .e (.loadW ag27 sz27 rfl (.there <| .here) rfl) rfl rfl <| .e (.load ag9 rfl (.there <| .there <| ht) rfl) rfl rfl <| .on rfl <| .call cal40 rfl rfl rfl (dSync_ok hd0 hsm hsS h) fun v7 I7 O7 hI7 hK7 => ?_
  obtain ⟨rfl, fv7, rfl, hf7⟩ := hK7
  obtain ⟨fw7, ew7, hw7⟩ := hf7.ex
  obtain ⟨fa7, fc7, rfl, -, -, -⟩ := hw7
  cases ew7
  have hf := hf7
  refine .e (.extract rfl rfl) rfl rfl <| .e (.extract rfl rfl) rfl rfl <| .on rfl <| .storeW sz27 rfl rfl rfl rfl rfl rfl .here <| .e (.assign rfl) rfl rfl <| .nil <| .go ?_
  refine .ret ?_
  refine Post.rets rfl (.agg rfl ag27 sz27 .here rfl (.tmp rfl .nil)) rfl hI7 (fun w h => (Sat.tail (Sat.tail h))) ?_
  exact ⟨rfl, _, rfl, hf⟩

set_option maxHeartbeats 1000000 in
set_option maxRecDepth 20000 in
theorem putW_ok {I : Imm} {O : Own} {dc : List Value} {d : Dsk} (hd : DskR I dc d) {D : Dsk} {e : Int} (hsm : d.files.length ≤ 1000) {ct cn : Nat} {tmp nm : ByteArray} (ht : Has O ct (.cells ⟨[.string tmp]⟩ 9 (0, 0))) (hn : Has O cn (.cells ⟨[.string nm]⟩ 9 (0, 0))) (hsS : StrOk tmp) (hnS : StrOk nm) (h : swapR d tmp nm = (D, e)) :
    Go.Sy.Does Tryd.prog 41 [.agg ⟨dc⟩, .pointer (some ⟨ct, 0, none⟩), .pointer (some ⟨cn, 0, none⟩)] I O (fun u I' O' => O' = O ∧ ∃ v, u = .tuple ⟨[.agg ⟨D.cells v⟩, .int .i64 e]⟩ ∧ DskR I' (D.cells v) D) := by
  have hd0 := hd
  obtain ⟨fv, rfl, hfv⟩ := hd.ex
  have hfv0 := hfv
  obtain ⟨fa, fcap, rfl, hf1, hf2, -⟩ := hfv
  have hfz := hd0.fuse
  refine Go.Sy.Does.enter Tryd.func41 rfl Tryd.ntmps41 rfl ?_
  refine .seq <| .region <| .on rfl <| .box rfl rfl rfl fun c1 _ _ => .on rfl <| .alloc zr27 rfl fun c2 _ _ => .e (.assign rfl) rfl rfl <| .nil ?_
  refine .go <| .seq <| .region <| .e (.loadW ag27 sz27 rfl (.there <| .here) rfl) rfl rfl <| .e (.load ag9 rfl (.there <| .there <| ht) rfl) rfl rfl <| .e (.load ag9 rfl (.there <| .there <| hn) rfl) rfl rfl ?_
  refine .on rfl <| .call cal42 rfl rfl rfl (dSwap_ok hd0 hsm hsS hnS h) fun v9 I9 O9 hI9 hK9 => ?_
  obtain ⟨rfl, fv9, rfl, hf9⟩ := hK9
  obtain ⟨fw9, ew9, hw9⟩ := hf9.ex
  obtain ⟨fa9, fc9, rfl, -, -, -⟩ := hw9
  cases ew9
  have hf := hf9
  refine .e (.extract rfl rfl) rfl rfl <| .e (.extract rfl rfl) rfl rfl <| .on rfl <| .storeW sz27 rfl rfl rfl rfl rfl rfl .here <| .e (.assign rfl) rfl rfl <| .nil <| .go ?_
  refine .ret ?_
  refine Post.rets rfl (.agg rfl ag27 sz27 .here rfl (.tmp rfl .nil)) rfl hI9 (fun w h => (Sat.tail (Sat.tail h))) ?_
  exact ⟨rfl, _, rfl, hf⟩

set_option maxHeartbeats 4000000 in
set_option maxRecDepth 20000 in
theorem hall_ok {I : Imm} {O : Own} {dc : List Value} {d : Dsk} (hd : DskR I dc d) {D : Dsk} {e : Int} (hsm : d.files.length ≤ 999) {cl ct cd cn : Nat} {tmp x nm : ByteArray} (ht : Has O ct (.cells ⟨[.string tmp]⟩ 9 (0, 0))) (hx : Has O cd (.cells ⟨[.string x]⟩ 9 (0, 0))) (hn : Has O cn (.cells ⟨[.string nm]⟩ 9 (0, 0))) (htS : StrOk tmp) (hxS : StrOk x) (hnS : StrOk nm) (hsz : ∀ f ∈ d.files, StrOk (f.data ++ x)) (hp : put3 d tmp nm x = (D, e)) :
    Go.Sy.Does Tryd.prog 37 [.agg ⟨dc⟩, .slice (some ⟨cl, 0, none⟩) 3 3] I ((cl, .cells ⟨[.func (.func 38) #[] ⟨[.pointer (some ⟨ct, 0, none⟩), .pointer (some ⟨cd, 0, none⟩)]⟩, .func (.func 39) #[] ⟨[.pointer (some ⟨ct, 0, none⟩)]⟩, .func (.func 41) #[] ⟨[.pointer (some ⟨ct, 0, none⟩), .pointer (some ⟨cn, 0, none⟩)]⟩]⟩ 77 (0, 0)) :: O) (fun u I' O' => O' = O ∧ ∃ v, u = .tuple ⟨[.agg ⟨D.cells v⟩, .int .i64 e]⟩ ∧ DskR I' (D.cells v) D) := by
  have hd0 := hd
  obtain ⟨fv, rfl, hfv⟩ := hd.ex
  have hfv0 := hfv
  obtain ⟨fa, fcap, rfl, hf1, hf2, -⟩ := hfv
  have hfz := hd0.fuse
  obtain ⟨d1, e1, h1⟩ : ∃ D e, addR d tmp x = (D, e) := ⟨_, _, rfl⟩
  obtain ⟨d2, e2, h2⟩ : ∃ D e, syncR d1 tmp = (D, e) := ⟨_, _, rfl⟩
  obtain ⟨d3, e3, h3⟩ : ∃ D e, swapR d2 tmp nm = (D, e) := ⟨_, _, rfl⟩
  have hl1 := add_len (d := d) (s := tmp) (x := x)
  have hl2 := sync_len (d := d1) (s := tmp)
  rw [h1] at hl1
  rw [h2] at hl2
  dsimp only at hl1 hl2
  refine Go.Sy.Does.enter Tryd.func37 rfl Tryd.ntmps37 rfl ?_
  refine .seq <| .region <| .on rfl <| .box rfl rfl rfl fun c1 _ _ => .on rfl <| .alloc zr27 rfl fun c2 _ _ => .e (.assign rfl) rfl rfl <| .nil ?_
  refine .go <| .seq <| .seq <| .region <| .e (.move rfl) rfl rfl <| .e (.len sl104 rfl rfl) rfl rfl ?_
  refine .e (.move rfl) rfl rfl <| .nil <| .go <| .block <| .unroll 3 <| .seq ?_
  refine .region <| .e (.lss rfl rfl) rfl rfl <| .nil <| .go <| .seq <| .cond_true rfl ?_
  refine .skip <| .go <| .seq <| .block <| .seq <| .region ?_
  refine .e (.indexAddrL sl104 rfl rfl rfl (by decide)) rfl rfl <| .e (.load ag77 rfl (.there <| .there <| .here) rfl) rfl rfl <| .e (.assign rfl) rfl rfl <| .nil <| .go <| .seq ?_
  refine .region <| .e (.move rfl) rfl rfl <| .e (.loadW ag27 sz27 rfl (.there <| .here) rfl) rfl rfl <| .on rfl <| .call cal38 rfl rfl rfl (putA_ok hd0 (by omega) (.there <| .there <| .there <| ht) (.there <| .there <| .there <| hx) htS hxS hsz h1) fun v19a I19a O19a hI19a hK19a => ?_
  obtain ⟨rfl, fv19a, rfl, hf19a⟩ := hK19a
  obtain ⟨fw19a, ew19a, hw19a⟩ := hf19a.ex
  obtain ⟨fa19a, fc19a, rfl, -, -, -⟩ := hw19a
  cases ew19a
  have hf := hf19a
  refine .e (.move rfl) rfl rfl <| .e (.extract rfl rfl) rfl rfl <| .e (.extract rfl rfl) rfl rfl <| .on rfl <| .alloc zr27 rfl fun c3 _ _ => .on rfl <| .storeW sz27 rfl rfl rfl rfl rfl rfl .here <| .e (.assign rfl) rfl rfl ?_
  refine .nil <| .go <| .seq <| .seq <| .region <| .e (.move rfl) rfl rfl ?_
  refine .e (.neq rfl rfl) rfl rfl <| .nil <| .go ?_
  refine .split 23 rfl (fun h23 => ?_) (fun h23 => ?_)
  · skip
    first | replace h23 := of_decide_eq_false ((Bool.not_eq_true' _).mp h23) | replace h23 := of_decide_eq_false (by simpa using h23)
    refine .cond_true rfl <| .seq <| .region <| .e (.loadW ag27 sz27 rfl .here rfl) rfl rfl <| .e (.move rfl) rfl rfl <| .on rfl <| .storeW sz27 rfl rfl rfl rfl rfl rfl (.there <| .here) ?_
    refine .e (.assign rfl) rfl rfl <| .nil <| .go <| .ret <| .ret <| .blk_ret ?_
    refine .ret <| .ret <| .blk_ret <| .ret ?_
    refine Post.rets rfl (.agg rfl ag27 sz27 (.there <| .here) rfl (.tmp rfl .nil)) rfl hI19a (fun w h => (Sat.tail (Sat.tail (Sat.tail (Sat.tail h))))) ?_
    have hq : put3 d tmp nm x = (d1, e1) := by
      unfold put3
      rw [h1, if_neg (by dsimp only; exact h23)]
    rw [hp] at hq
    cases hq
    exact ⟨rfl, _, rfl, hf⟩
  · skip
    first | replace h23 := of_decide_eq_true ((Bool.not_eq_false' _).mp h23) | replace h23 := of_decide_eq_true (by simpa using h23)
    refine .cond_false rfl <| .skip <| .go <| .region <| .e (.loadW ag27 sz27 rfl .here rfl) rfl rfl <| .on rfl <| .storeW sz27 rfl rfl rfl rfl rfl rfl (.there <| .there <| .here) ?_
    refine .nil <| .blk_normal <| .go <| .region <| .e (.add (c := 1) rfl rfl (by decide)) rfl rfl <| .e (.move rfl) rfl rfl ?_
    refine .nil <| .again <| .seq <| .region <| .e (.lss rfl rfl) rfl rfl <| .nil ?_
    refine .go <| .seq <| .cond_true rfl <| .skip <| .go <| .seq ?_
    refine .block <| .seq <| .region <| .e (.indexAddrL sl104 rfl rfl rfl (by decide)) rfl rfl <| .e (.load ag77 rfl (.there <| .there <| .there <| .here) rfl) rfl rfl <| .e (.assign rfl) rfl rfl ?_
    refine .nil <| .go <| .seq <| .region <| .e (.move rfl) rfl rfl <| .e (.loadW ag27 sz27 rfl (.there <| .there <| .here) rfl) rfl rfl ?_
    refine .on rfl <| .call cal39 rfl rfl rfl (putS_ok hf19a (by omega) (.there <| .there <| .there <| .there <| ht) htS h2) fun v19b I19b O19b hI19b hK19b => ?_
    obtain ⟨rfl, fv19b, rfl, hf19b⟩ := hK19b
    obtain ⟨fw19b, ew19b, hw19b⟩ := hf19b.ex
    obtain ⟨fa19b, fc19b, rfl, -, -, -⟩ := hw19b
    cases ew19b
    have hf := hf19b
    refine .e (.move rfl) rfl rfl <| .e (.extract rfl rfl) rfl rfl <| .e (.extract rfl rfl) rfl rfl <| .on rfl <| .alloc zr27 rfl fun c4 _ _ => .on rfl <| .storeW sz27 rfl rfl rfl rfl rfl rfl .here <| .e (.assign rfl) rfl rfl ?_
    refine .nil <| .go <| .seq <| .seq <| .region <| .e (.move rfl) rfl rfl ?_
    refine .e (.neq rfl rfl) rfl rfl <| .nil <| .go ?_
    refine .split 23 rfl (fun h23_2 => ?_) (fun h23_2 => ?_)
    · skip
      first | replace h23_2 := of_decide_eq_false ((Bool.not_eq_true' _).mp h23_2) | replace h23_2 := of_decide_eq_false (by simpa using h23_2)
      refine .cond_true rfl <| .seq <| .region <| .e (.loadW ag27 sz27 rfl .here rfl) rfl rfl <| .e (.move rfl) rfl rfl <| .on rfl <| .storeW sz27 rfl rfl rfl rfl rfl rfl (.there <| .there <| .here) ?_
      refine .e (.assign rfl) rfl rfl <| .nil <| .go <| .ret <| .ret <| .blk_ret ?_
      refine .ret <| .ret <| .blk_ret <| .ret ?_
      refine Post.rets rfl (.agg rfl ag27 sz27 (.there <| .there <| .here) rfl (.tmp rfl .nil)) rfl (Imm.le_trans hI19a hI19b) (fun w h => (Sat.tail (Sat.tail (Sat.tail (Sat.tail (Sat.tail h)))))) ?_
      have hq : put3 d tmp nm x = (d2, e2) := by
        unfold put3
        rw [h1, if_pos (by dsimp only; exact h23)]
        dsimp only
        rw [h2, if_neg (by dsimp only; exact h23_2)]
      rw [hp] at hq
      cases hq
      exact ⟨rfl, _, rfl, hf⟩
    · skip
      first | replace h23_2 := of_decide_eq_true ((Bool.not_eq_false' _).mp h23_2) | replace h23_2 := of_decide_eq_true (by simpa using h23_2)
      refine .cond_false rfl <| .skip <| .go <| .region <| .e (.loadW ag27 sz27 rfl .here rfl) rfl rfl <| .on rfl <| .storeW sz27 rfl rfl rfl rfl rfl rfl (.there <| .there <| .there <| .here) ?_
      refine .nil <| .blk_normal <| .go <| .region <| .e (.add (c := 2) rfl rfl (by decide)) rfl rfl <| .e (.move rfl) rfl rfl ?_
      refine .nil <| .again <| .seq <| .region <| .e (.lss rfl rfl) rfl rfl <| .nil ?_
      refine .go <| .seq <| .cond_true rfl <| .skip <| .go <| .seq ?_
      refine .block <| .seq <| .region <| .e (.indexAddrL sl104 rfl rfl rfl (by decide)) rfl rfl <| .e (.load ag77 rfl (.there <| .there <| .there <| .there <| .here) rfl) rfl rfl <| .e (.assign rfl) rfl rfl ?_
      refine .nil <| .go <| .seq <| .region <| .e (.move rfl) rfl rfl <| .e (.loadW ag27 sz27 rfl (.there <| .there <| .there <| .here) rfl) rfl rfl ?_
      refine .on rfl <| .call cal41 rfl rfl rfl (putW_ok hf19b (by omega) (.there <| .there <| .there <| .there <| .there <| ht) (.there <| .there <| .there <| .there <| .there <| hn) htS hnS h3) fun v19c I19c O19c hI19c hK19c => ?_
      obtain ⟨rfl, fv19c, rfl, hf19c⟩ := hK19c
      obtain ⟨fw19c, ew19c, hw19c⟩ := hf19c.ex
      obtain ⟨fa19c, fc19c, rfl, -, -, -⟩ := hw19c
      cases ew19c
      have hf := hf19c
      refine .e (.move rfl) rfl rfl <| .e (.extract rfl rfl) rfl rfl <| .e (.extract rfl rfl) rfl rfl <| .on rfl <| .alloc zr27 rfl fun c5 _ _ => .on rfl <| .storeW sz27 rfl rfl rfl rfl rfl rfl .here <| .e (.assign rfl) rfl rfl ?_
      refine .nil <| .go <| .seq <| .seq <| .region <| .e (.move rfl) rfl rfl ?_
      refine .e (.neq rfl rfl) rfl rfl <| .nil <| .go ?_
      refine .split 23 rfl (fun h23_3 => ?_) (fun h23_3 => ?_)
      · skip
        first | replace h23_3 := of_decide_eq_false ((Bool.not_eq_true' _).mp h23_3) | replace h23_3 := of_decide_eq_false (by simpa using h23_3)
        refine .cond_true rfl <| .seq <| .region <| .e (.loadW ag27 sz27 rfl .here rfl) rfl rfl <| .e (.move rfl) rfl rfl <| .on rfl <| .storeW sz27 rfl rfl rfl rfl rfl rfl (.there <| .there <| .there <| .here) ?_
        refine .e (.assign rfl) rfl rfl <| .nil <| .go <| .ret <| .ret <| .blk_ret ?_
        refine .ret <| .ret <| .blk_ret <| .ret ?_
        refine Post.rets rfl (.agg rfl ag27 sz27 (.there <| .there <| .there <| .here) rfl (.tmp rfl .nil)) rfl (Imm.le_trans (Imm.le_trans hI19a hI19b) hI19c) (fun w h => (Sat.tail (Sat.tail (Sat.tail (Sat.tail (Sat.tail (Sat.tail h))))))) ?_
        have hq : put3 d tmp nm x = (d3, e3) := by
          unfold put3
          rw [h1, if_pos (by dsimp only; exact h23)]
          dsimp only
          rw [h2, if_pos (by dsimp only; exact h23_2)]
          dsimp only
          rw [h3]
        rw [hp] at hq
        cases hq
        exact ⟨rfl, _, rfl, hf⟩
      · skip
        first | replace h23_3 := of_decide_eq_true ((Bool.not_eq_false' _).mp h23_3) | replace h23_3 := of_decide_eq_true (by simpa using h23_3)
        refine .cond_false rfl <| .skip <| .go <| .region <| .e (.loadW ag27 sz27 rfl .here rfl) rfl rfl <| .on rfl <| .storeW sz27 rfl rfl rfl rfl rfl rfl (.there <| .there <| .there <| .there <| .here) ?_
        refine .nil <| .blk_normal <| .go <| .region <| .e (.add (c := 3) rfl rfl (by decide)) rfl rfl <| .e (.move rfl) rfl rfl ?_
        refine .nil <| .again <| .seq <| .region <| .e (.lss rfl rfl) rfl rfl <| .nil ?_
        refine .go <| .seq <| .cond_false rfl <| .exit <| .exit <| .exit ?_
        refine .blk_exit <| .go <| .seq <| .region <| .e (.loadW ag27 sz27 rfl (.there <| .there <| .there <| .there <| .here) rfl) rfl rfl <| .on rfl <| .storeW sz27 rfl rfl rfl rfl rfl rfl (.there <| .there <| .there <| .here) ?_
        refine .e (.assign rfl) rfl rfl <| .nil <| .go <| .ret ?_
        refine Post.rets rfl (.agg rfl ag27 sz27 (.there <| .there <| .there <| .here) rfl (.tmp rfl .nil)) rfl (Imm.le_trans (Imm.le_trans hI19a hI19b) hI19c) (fun w h => (Sat.tail (Sat.tail (Sat.tail (Sat.tail (Sat.tail (Sat.tail h))))))) ?_
        have hq : put3 d tmp nm x = (d3, 0) := by
          unfold put3
          rw [h1, if_pos (by dsimp only; exact h23)]
          dsimp only
          rw [h2, if_pos (by dsimp only; exact h23_2)]
          dsimp only
          rw [h3, h23_3]
        rw [hp] at hq
        cases hq
        exact ⟨rfl, _, rfl, hf⟩

set_option maxHeartbeats 4000000 in
set_option maxRecDepth 20000 in
theorem hPut_ok {I : Imm} {O : Own} {dc : List Value} {d : Dsk} (hd : DskR I dc d) {D : Dsk} {e : Int} (hsm : d.files.length ≤ 999) {nm x : ByteArray} (hnS : nm.size ≤ 1000) (hxS : StrOk x) (hsz : ∀ f ∈ d.files, StrOk (f.data ++ x)) (h : putR d nm x = (D, e)) :
    Go.Sy.Does Tryd.prog 16 [.agg ⟨dc⟩, .string nm, .string x] I O (fun u I' O' => O' = O ∧ ∃ v, u = .tuple ⟨[.agg ⟨D.cells v⟩, .int .i64 e]⟩ ∧ DskR I' (D.cells v) D) := by
  have hd0 := hd
  obtain ⟨fv, rfl, hfv⟩ := hd.ex
  have hfv0 := hfv
  obtain ⟨fa, fcap, rfl, hf1, hf2, -⟩ := hfv
  have hfz := hd0.fuse
  obtain ⟨p1, p2, hrd⟩ : ∃ a b, readR d (isTmp nm) = (a, b) := ⟨_, _, rfl⟩
  obtain ⟨d0, e0, h0⟩ : ∃ D e, dropR d (isTmp nm) = (D, e) := ⟨_, _, rfl⟩
  have hds := drop_sub (d := d) (s := isTmp nm)
  rw [h0] at hds
  dsimp only at hds
  have htz : (isTmp nm).size = nm.size + 4 := by unfold isTmp; rw [ByteArray.size_append]; rfl
  have htS : StrOk (isTmp nm) := by unfold StrOk; omega
  have hnS' : StrOk nm := by unfold StrOk; omega
  refine Go.Sy.Does.enter Tryd.func16 rfl Tryd.ntmps16 rfl ?_
  refine .seq <| .region <| .on rfl <| .box rfl rfl rfl fun c1 _ _ => .on rfl <| .box rfl rfl rfl fun c2 _ _ => .on rfl <| .box rfl rfl rfl fun c3 _ _ => .on rfl <| .alloc zr27 rfl fun c4 _ _ => ?_
  refine .e (.assign rfl) rfl rfl <| .nil <| .go <| .seq <| .region <| .e (.load ag9 rfl (.there <| .there <| .here) rfl) rfl rfl ?_
  refine .e (.strcat rfl rfl (show nm.size + 4 ≤ 9223372036854775807 by omega)) rfl rfl <| .on rfl <| .alloc zr9 rfl fun c5 _ _ => .on rfl <| .storeW sz9 rfl rfl rfl rfl rfl rfl .here <| .nil <| .go <| .seq ?_
  refine .seq <| .region <| .e (.loadW ag27 sz27 rfl (.there <| .there <| .there <| .there <| .here) rfl) rfl rfl <| .e (.load ag9 rfl .here rfl) rfl rfl <| .on rfl <| .callP cal10 rfl rfl rfl ((dRead_ok hd0 (s := isTmp nm)).cast (congrArg rdV hrd)) <| .e (.move rfl) rfl rfl ?_
  refine .e (.extract rfl rfl) rfl rfl <| .e (.extract rfl rfl) rfl rfl <| .e (.assign rfl) rfl rfl <| .e (.assign rfl) rfl rfl <| .nil <| .go ?_
  refine .seq <| .region <| .e (.move rfl) rfl rfl <| .e (.eql rfl rfl) rfl rfl <| .nil <| .go ?_
  refine .split 22 rfl (fun h22 => ?_) (fun h22 => ?_)
  · skip
    replace h22 := of_decide_eq_true h22
    refine .cond_true rfl <| .seq <| .region <| .e (.loadW ag27 sz27 rfl (.there <| .there <| .there <| .there <| .here) rfl) rfl rfl <| .e (.load ag9 rfl .here rfl) rfl rfl <| .on rfl <| .call cal36 rfl rfl rfl (dDrop_ok hd0 (by omega) htS h0) fun v26 I26 O26 hI26 hK26 => ?_
    obtain ⟨rfl, fv26, rfl, hf26⟩ := hK26
    obtain ⟨fw26, ew26, hw26⟩ := hf26.ex
    obtain ⟨fa26, fc26, rfl, -, -, -⟩ := hw26
    cases ew26
    have hf := hf26
    refine .e (.move rfl) rfl rfl <| .e (.extract rfl rfl) rfl rfl <| .e (.extract rfl rfl) rfl rfl <| .on rfl <| .alloc zr27 rfl fun c6 _ _ => .on rfl <| .storeW sz27 rfl rfl rfl rfl rfl rfl .here <| .e (.assign rfl) rfl rfl ?_
    refine .nil <| .go <| .seq <| .seq <| .region <| .e (.move rfl) rfl rfl ?_
    refine .e (.neq rfl rfl) rfl rfl <| .nil <| .go ?_
    refine .split 30 rfl (fun h30 => ?_) (fun h30 => ?_)
    · skip
      first | replace h30 := of_decide_eq_false ((Bool.not_eq_true' _).mp h30) | replace h30 := of_decide_eq_false (by simpa using h30)
      refine .cond_true rfl <| .seq <| .region <| .e (.loadW ag27 sz27 rfl .here rfl) rfl rfl <| .e (.move rfl) rfl rfl <| .on rfl <| .storeW sz27 rfl rfl rfl rfl rfl rfl (.there <| .there <| .here) ?_
      refine .e (.assign rfl) rfl rfl <| .nil <| .go <| .ret <| .ret <| .ret ?_
      refine Post.rets rfl (.agg rfl ag27 sz27 (.there <| .there <| .here) rfl (.tmp rfl .nil)) rfl hI26 (fun w h => (Sat.tail (Sat.tail (Sat.tail (Sat.tail (Sat.tail (Sat.tail h))))))) ?_
      have hq : putR d nm x = (d0, e0) := by
        unfold putR; rw [hrd, if_pos (show (p1, p2).2 = 0 from h22), h0, if_neg (show ¬(d0, e0).2 = 0 from h30)]
      rw [h] at hq
      cases hq
      exact ⟨rfl, _, rfl, hf⟩
    · skip
      first | replace h30 := of_decide_eq_true ((Bool.not_eq_false' _).mp h30) | replace h30 := of_decide_eq_true (by simpa using h30)
      refine .cond_false rfl <| .skip <| .go <| .region <| .e (.loadW ag27 sz27 rfl .here rfl) rfl rfl <| .on rfl <| .storeW sz27 rfl rfl rfl rfl rfl rfl (.there <| .there <| .there <| .there <| .there <| .here) ?_
      refine .nil <| .go <| .seq <| .region <| .e (.loadW ag27 sz27 rfl (.there <| .there <| .there <| .there <| .there <| .here) rfl) rfl rfl <| .e (.makeFunc rfl rfl) rfl rfl ?_
      refine .e (.makeFunc rfl rfl) rfl rfl <| .e (.makeFunc rfl rfl) rfl rfl <| .on rfl <| .buildSlice Tryd.underlying104 sz77 (by decide) (by decide) zv77 rfl rfl rfl rfl rfl fun c7 _ _ => ?_
      refine .on rfl <| .call cal37 rfl rfl rfl (hall_ok (D := D) (e := e) (tmp := isTmp nm) (nm := nm) (x := x) (d := d0) hf26 (by omega) (.there <| .here) (.there <| .there <| .there <| .here) (.there <| .there <| .there <| .there <| .here) htS hxS hnS' (fun f hf => hsz f (hds.2 f hf)) (by have hh := h; unfold putR at hh; rw [hrd, if_pos (show (p1, p2).2 = 0 from h22), h0, if_pos (show (d0, e0).2 = 0 from h30)] at hh; exact hh)) fun v39 I39 O39 hI39 hK39 => ?_
      obtain ⟨rfl, fv39, rfl, hf39⟩ := hK39
      obtain ⟨fw39, ew39, hw39⟩ := hf39.ex
      obtain ⟨fa39, fc39, rfl, -, -, -⟩ := hw39
      cases ew39
      have hf := hf39
      refine .e (.extract rfl rfl) rfl rfl <| .e (.extract rfl rfl) rfl rfl <| .on rfl <| .storeW sz27 rfl rfl rfl rfl rfl rfl (.there <| .there <| .here) <| .e (.assign rfl) rfl rfl <| .nil <| .go ?_
      refine .ret ?_
      refine Post.rets rfl (.agg rfl ag27 sz27 (.there <| .there <| .here) rfl (.tmp rfl .nil)) rfl (Imm.le_trans hI26 hI39) (fun w h => (Sat.tail (Sat.tail (Sat.tail (Sat.tail (Sat.tail (Sat.tail h))))))) ?_
      exact ⟨rfl, _, rfl, hf⟩
  · skip
    replace h22 := of_decide_eq_false h22
    refine .cond_false rfl <| .skip <| .go <| .seq <| .region <| .e (.loadW ag27 sz27 rfl (.there <| .there <| .there <| .there <| .here) rfl) rfl rfl ?_
    refine .e (.makeFunc rfl rfl) rfl rfl <| .e (.makeFunc rfl rfl) rfl rfl <| .e (.makeFunc rfl rfl) rfl rfl <| .on rfl <| .buildSlice Tryd.underlying104 sz77 (by decide) (by decide) zv77 rfl rfl rfl rfl rfl fun c8 _ _ => ?_
    refine .on rfl <| .call cal37 rfl rfl rfl (hall_ok (D := D) (e := e) (tmp := isTmp nm) (nm := nm) (x := x) (d := d) hd0 (by omega) .here (.there <| .there <| .here) (.there <| .there <| .there <| .here) htS hxS hnS' hsz (by have hh := h; unfold putR at hh; rw [hrd, if_neg (show ¬(p1, p2).2 = 0 from h22)] at hh; exact hh)) fun v39 I39 O39 hI39 hK39 => ?_
    obtain ⟨rfl, fv39, rfl, hf39⟩ := hK39
    obtain ⟨fw39, ew39, hw39⟩ := hf39.ex
    obtain ⟨fa39, fc39, rfl, -, -, -⟩ := hw39
    cases ew39
    have hf := hf39
    refine .e (.extract rfl rfl) rfl rfl <| .e (.extract rfl rfl) rfl rfl <| .on rfl <| .storeW sz27 rfl rfl rfl rfl rfl rfl (.there <| .here) <| .e (.assign rfl) rfl rfl <| .nil <| .go ?_
    refine .ret ?_
    refine Post.rets rfl (.agg rfl ag27 sz27 (.there <| .here) rfl (.tmp rfl .nil)) rfl hI39 (fun w h => (Sat.tail (Sat.tail (Sat.tail (Sat.tail (Sat.tail h)))))) ?_
    exact ⟨rfl, _, rfl, hf⟩

end Go.Proofs.YtjoaccnfnniahaaDoor
