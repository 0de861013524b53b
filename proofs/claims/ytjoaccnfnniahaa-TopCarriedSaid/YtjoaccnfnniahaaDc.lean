/- Walks of functions over a symbolic memory, printed by a program of the session. -/
import Derived.Test.YtjoaccnfnniahaaDb
namespace Go.Proofs.Ytjoaccnfnniahaa
open Go.Sy
set_option linter.unusedSimpArgs false
set_option linter.unusedVariables false

def askedR (d : Dsk) : Int := if diskWhy d = 0 then (if d.down = true then 8 else 0) else diskWhy d
def readR (d : Dsk) (s : ByteArray) : ByteArray × Int := if askedR d = 0 then (if hasF d s = true then ((d.files.getD (posF d s) fil0).data, 0) else (⟨#[]⟩, 6)) else (⟨#[]⟩, askedR d)
def rdV (p : ByteArray × Int) : Value := .tuple ⟨[.string p.1, .int .i64 p.2]⟩
theorem rdV_eq {p : ByteArray × Int} {a : ByteArray} {b : Int} (h : p = (a, b)) : Value.tuple ⟨[.string a, .int .i64 b]⟩ = rdV p := by subst h; rfl
theorem asked_in {d : Dsk} (h : askedR d = 0) : diskOk d = true ∧ d.down = false := by
  unfold askedR at h
  split at h
  · rename_i h1
    split at h
    · cases h
    · rename_i h2; exact ⟨diskWhy_ok h1, by simpa using h2⟩
  · contradiction
def refA (d : Dsk) (s : ByteArray) : Int := if namedB s = false then 5 else if hasF d s = false ∧ 4096 ≤ d.files.length then 11 else 0
def refS (d : Dsk) (s : ByteArray) : Int := if hasF d s = true then 0 else 6
theorem disk_small {d : Dsk} (h : d.files.length ≤ 1000) : d.files.length ≤ 4611686018427387903 := by omega

set_option maxHeartbeats 1000000 in
set_option maxRecDepth 20000 in
theorem dasked_ok {I : Imm} {O : Own} {dc : List Value} {d : Dsk} (hd : DskR I dc d) :
    Pure Try.prog 23 [.agg ⟨dc⟩] I O (.int .i64 (askedR d)) := by
  have hd0 := hd
  obtain ⟨fv, rfl, hfv⟩ := hd.ex
  have hfv0 := hfv
  obtain ⟨fa, fcap, rfl, hf1, hf2, -⟩ := hfv
  have hfz := hd0.fuse
  refine Go.Sy.Does.enter Try.func23 rfl Try.ntmps23 rfl ?_
  refine .seq <| .region <| .on rfl <| .box rfl rfl rfl fun c1 _ _ => .e (.assign rfl) rfl rfl <| .nil <| .go ?_
  refine .seq <| .seq <| .region <| .e (.loadW ag28 sz28 rfl .here rfl) rfl rfl <| .on rfl <| .callP cal21 rfl rfl rfl (dCheck_ok hd0) <| .e (.assign rfl) rfl rfl ?_
  refine .nil <| .go <| .seq <| .region <| .e (.move rfl) rfl rfl <| .e (.neq rfl rfl) rfl rfl ?_
  refine .nil <| .go ?_
  refine .split 7 rfl (fun h7 => ?_) (fun h7 => ?_)
  · skip
    first | replace h7 := of_decide_eq_false ((Bool.not_eq_true' _).mp h7) | replace h7 := of_decide_eq_false (by simpa using h7)
    refine .cond_true rfl <| .seq <| .region <| .e (.move rfl) rfl rfl <| .e (.assign rfl) rfl rfl <| .nil ?_
    refine .go <| .ret <| .ret ?_
    refine .tail ?_
    refine Post.retE rfl rfl ?_
    unfold askedR
    rw [if_neg h7]
  · skip
    first | replace h7 := of_decide_eq_true ((Bool.not_eq_false' _).mp h7) | replace h7 := of_decide_eq_true (by simpa using h7)
    refine .cond_false rfl <| .skip <| .go <| .seq <| .seq <| .region ?_
    refine .e (.fieldAddr fo28_1 rfl) rfl rfl <| .e (.load ag4 rfl .here rfl) rfl rfl <| .nil <| .go ?_
    refine .split 10 rfl (fun h10 => ?_) (fun h10 => ?_)
    · skip
      refine .cond_true rfl <| .seq <| .region <| .e (.assign rfl) rfl rfl <| .nil <| .go ?_
      refine .ret <| .ret ?_
      refine .tail ?_
      refine Post.retE rfl rfl ?_
      unfold askedR
      rw [if_pos h7, if_pos h10]
    · skip
      refine .cond_false rfl <| .skip <| .go <| .seq <| .region <| .e (.assign rfl) rfl rfl ?_
      refine .nil <| .go <| .ret ?_
      refine .tail ?_
      refine Post.retE rfl rfl ?_
      unfold askedR
      rw [if_pos h7, if_neg (by rw [h10]; simp)]

set_option maxHeartbeats 1000000 in
set_option maxRecDepth 20000 in
theorem dRead_ok {I : Imm} {O : Own} {dc : List Value} {d : Dsk} (hd : DskR I dc d) {s : ByteArray} :
    Pure Try.prog 10 [.agg ⟨dc⟩, .string s] I O (rdV (readR d s)) := by
  have hd0 := hd
  obtain ⟨fv, rfl, hfv⟩ := hd.ex
  have hfv0 := hfv
  obtain ⟨fa, fcap, rfl, hf1, hf2, -⟩ := hfv
  have hfz := hd0.fuse
  refine Go.Sy.Does.enter Try.func10 rfl Try.ntmps10 rfl ?_
  refine .seq <| .region <| .on rfl <| .box rfl rfl rfl fun c1 _ _ => .e (.assign rfl) rfl rfl <| .e (.assign rfl) rfl rfl <| .nil ?_
  refine .go <| .seq <| .seq <| .region <| .e (.loadW ag28 sz28 rfl .here rfl) rfl rfl <| .on rfl <| .callP cal23 rfl rfl rfl (dasked_ok hd0) ?_
  refine .e (.assign rfl) rfl rfl <| .nil <| .go <| .seq <| .region <| .e (.move rfl) rfl rfl ?_
  refine .e (.neq rfl rfl) rfl rfl <| .nil <| .go ?_
  refine .split 12 rfl (fun h12 => ?_) (fun h12 => ?_)
  · skip
    first | replace h12 := of_decide_eq_false ((Bool.not_eq_true' _).mp h12) | replace h12 := of_decide_eq_false (by simpa using h12)
    refine .cond_true rfl <| .seq <| .region <| .e (.move rfl) rfl rfl <| .e (.assign rfl) rfl rfl <| .e (.assign rfl) rfl rfl ?_
    refine .nil <| .go <| .ret <| .ret ?_
    refine Post.retsE rfl (.tmp rfl (.tmp rfl .nil)) rfl (fun w h => h.tail) ?_
    exact rdV_eq (by unfold readR; rw [if_neg h12])
  · skip
    first | replace h12 := of_decide_eq_true ((Bool.not_eq_false' _).mp h12) | replace h12 := of_decide_eq_true (by simpa using h12)
    obtain ⟨hok, hdn⟩ := asked_in h12
    have hle := (disk_ok hok).2
    refine .cond_false rfl <| .skip <| .go <| .seq <| .region <| .e (.loadW ag28 sz28 rfl .here rfl) rfl rfl ?_
    refine .e (.move rfl) rfl rfl <| .on rfl <| .callP cal24 rfl rfl rfl (dplace_ok hd0 (disk_rising (disk_ok hok).1) (by have := (disk_ok hok).2; omega)) <| .e (.move rfl) rfl rfl <| .e (.extract rfl rfl) rfl rfl <| .e (.extract rfl rfl) rfl rfl <| .e (.assign rfl) rfl rfl ?_
    refine .e (.assign rfl) rfl rfl <| .nil <| .go <| .seq <| .seq <| .region ?_
    refine .e (.move rfl) rfl rfl <| .e (.not rfl) rfl rfl <| .nil <| .go ?_
    refine .split 21 rfl (fun h21 => ?_) (fun h21 => ?_)
    · skip
      refine .cond_true rfl <| .seq <| .region <| .e (.assign rfl) rfl rfl <| .e (.assign rfl) rfl rfl <| .nil ?_
      refine .go <| .ret <| .ret ?_
      refine Post.retsE rfl (.tmp rfl (.tmp rfl .nil)) rfl (fun w h => h.tail) ?_
      exact rdV_eq (by unfold readR; rw [if_pos h12, if_neg (by simpa using h21)])
    · skip
      have hhas : hasF d s = true := by simpa using h21
      obtain ⟨hpos, hnm⟩ := has_get (disk_rising (disk_ok hok).1) (show hasBy (fun x : Fil => x.name) d.files s = true from hhas)
      refine .cond_false rfl <| .skip <| .go <| .seq <| .region <| .e (.fieldAddr fo28_0 rfl) rfl rfl ?_
      refine .e (.load ag26 rfl .here rfl) rfl rfl <| .e (.move rfl) rfl rfl ?_
      obtain ⟨eb25, eo25, cs25, hd25, hat25, hr25⟩ := SlR.at_ hfv0 (k := posF d s) hpos
      cases hd25
      obtain ⟨rfl, hn25, hz25, hs25⟩ := hr25
      unfold StrOk at hn25 hz25
      unfold I64 at hs25
      refine .e (.indexAddrL sl26 rfl rfl rfl hpos) rfl rfl <| .e (.fieldAddr fo70_1 rfl) rfl rfl <| .e (.loadI ag9 rfl (hat25.cell (j := 1) rfl)) rfl rfl <| .e (.assign rfl) rfl rfl <| .e (.assign rfl) rfl rfl <| .nil ?_
      refine .go <| .ret ?_
      refine Post.retsE rfl (.tmp rfl (.tmp rfl .nil)) rfl (fun w h => h.tail) ?_
      exact rdV_eq (by unfold readR; rw [if_pos h12, if_pos hhas, filD (show posF d s < d.files.length from hpos)]; rfl)

set_option maxHeartbeats 1000000 in
set_option maxRecDepth 20000 in
theorem drefA_ok {I : Imm} {O : Own} {dc : List Value} {d : Dsk} (hd : DskR I dc d) (hr : Rising (fun x : Fil => x.name) d.files) (hsm : d.files.length ≤ 1000) {s x : ByteArray} :
    Pure Try.prog 37 [.agg ⟨[.int .u8 0, .string s, .string ⟨#[]⟩, .string x, .int .i64 0]⟩, .agg ⟨dc⟩] I O (.int .i64 (refA d s)) := by
  have hd0 := hd
  obtain ⟨fv, rfl, hfv⟩ := hd.ex
  have hfv0 := hfv
  obtain ⟨fa, fcap, rfl, hf1, hf2, -⟩ := hfv
  have hfz := hd0.fuse
  refine Go.Sy.Does.enter Try.func37 rfl Try.ntmps37 rfl ?_
  refine .seq <| .region <| .on rfl <| .box rfl rfl rfl fun c1 _ _ => .on rfl <| .box rfl rfl rfl fun c2 _ _ => .e (.assign rfl) rfl rfl <| .nil ?_
  refine .go <| .seq <| .region <| .e (.loadW ag28 sz28 rfl .here rfl) rfl rfl <| .e (.fieldAddr fo66_1 rfl) rfl rfl <| .e (.load ag9 rfl (.there <| .here) rfl) rfl rfl ?_
  refine .on rfl <| .callP cal24 rfl rfl rfl (dplace_ok hd0 hr (disk_small hsm)) <| .e (.move rfl) rfl rfl <| .e (.extract rfl rfl) rfl rfl <| .e (.extract rfl rfl) rfl rfl <| .e (.assign rfl) rfl rfl <| .e (.assign rfl) rfl rfl ?_
  refine .nil <| .go <| .seq <| .block <| .seq <| .region ?_
  refine .e (.fieldAddr fo66_0 rfl) rfl rfl <| .e (.load ag64 rfl (.there <| .here) rfl) rfl rfl <| .e (.eql rfl rfl) rfl rfl <| .e (.move rfl) rfl rfl <| .e (.fieldAddr fo66_1 rfl) rfl rfl <| .e (.load ag9 rfl (.there <| .here) rfl) rfl rfl ?_
  refine .on rfl <| .callP cal61 rfl rfl rfl (dnamed_ok) <| .e (.not rfl) rfl rfl <| .e (.pickT rfl rfl) rfl rfl <| .e (.assign rfl) rfl rfl <| .nil <| .go ?_
  refine .split 14 rfl (fun h14 => ?_) (fun h14 => ?_)
  · skip
    refine .cond_true rfl <| .seq <| .region <| .e (.assign rfl) rfl rfl <| .nil <| .go ?_
    refine .ret <| .blk_ret <| .ret ?_
    refine .tail <| .tail ?_
    refine Post.retE rfl rfl ?_
    unfold refA
    rw [if_pos (by simpa using h14)]
  · skip
    refine .cond_false rfl <| .seq <| .region <| .e (.fieldAddr fo66_0 rfl) rfl rfl <| .e (.load ag64 rfl (.there <| .here) rfl) rfl rfl <| .e (.eql rfl rfl) rfl rfl ?_
    refine .e (.move rfl) rfl rfl <| .e (.move rfl) rfl rfl <| .e (.not rfl) rfl rfl <| .e (.pickT rfl rfl) rfl rfl <| .e (.move rfl) rfl rfl ?_
    refine .split 32 rfl (fun h32 => ?_) (fun h32 => ?_)
    · skip
      refine .e (.fieldAddr fo28_0 rfl) rfl rfl <| .e (.load ag26 rfl .here rfl) rfl rfl <| .e (.len sl26 rfl rfl) rfl rfl <| .e (.geq rfl rfl) rfl rfl <| .e (.pickT rfl rfl) rfl rfl <| .e (.assign rfl) rfl rfl ?_
      refine .nil <| .go ?_
      refine .split 24 rfl (fun h24 => ?_) (fun h24 => ?_)
      · skip
        replace h24 := of_decide_eq_true h24
        exact absurd h24 (by omega)
      · skip
        replace h24 := of_decide_eq_false h24
        refine .cond_false rfl <| .seq <| .region <| .e (.fieldAddr fo66_0 rfl) rfl rfl <| .e (.load ag64 rfl (.there <| .here) rfl) rfl rfl <| .e (.neq rfl rfl) rfl rfl ?_
        refine .e (.move rfl) rfl rfl <| .off rfl rfl <| .off rfl rfl <| .e (.pickF rfl rfl) rfl rfl <| .e (.assign rfl) rfl rfl <| .nil ?_
        refine .go <| .cond_false rfl <| .seq ?_
        refine .draw [(c1, _), (c2, _)] mixed (.cons (.there <| .here) (.cons .here .nil)) ?_
        refine .t 0 rfl (.fieldAddr fo66_0 rfl) rfl rfl (by kernel_rfl) <| .t 1 rfl (.load ag64 rfl .here rfl) rfl rfl (by kernel_rfl) <| .t 2 rfl (.eql rfl rfl) rfl rfl (by kernel_rfl) <| .t 3 rfl (.move rfl) rfl rfl (by kernel_rfl) <| .s 4 rfl rfl rfl (by kernel_rfl) <| .s 5 rfl rfl rfl (by kernel_rfl) ?_
        refine .s 6 rfl rfl rfl (by kernel_rfl) <| .s 7 rfl rfl rfl (by kernel_rfl) <| .s 8 rfl rfl rfl (by kernel_rfl) <| .s 9 rfl rfl rfl (by kernel_rfl) <| .s 10 rfl rfl rfl (by kernel_rfl) <| .s 11 rfl rfl rfl (by kernel_rfl) ?_
        refine .s 12 rfl rfl rfl (by kernel_rfl) <| .s 13 rfl rfl rfl (by kernel_rfl) <| .s 14 rfl rfl rfl (by kernel_rfl) <| .s 15 rfl rfl rfl (by kernel_rfl) <| .s 16 rfl rfl rfl (by kernel_rfl) <| .s 17 rfl rfl rfl (by kernel_rfl) ?_
        refine .s 18 rfl rfl rfl (by kernel_rfl) <| .t 19 rfl (.pickF rfl rfl) rfl rfl (by kernel_rfl) <| .t 20 rfl (.assign rfl) rfl rfl (by kernel_rfl) <| .done (by kernel_rfl) <| .go <| .cond_false rfl ?_
        refine .seq ?_
        refine .draw [(c1, _), (c2, _)] mixed (.cons (.there <| .here) (.cons .here .nil)) ?_
        refine .t 0 rfl (.fieldAddr fo66_0 rfl) rfl rfl (by kernel_rfl) <| .t 1 rfl (.load ag64 rfl .here rfl) rfl rfl (by kernel_rfl) <| .t 2 rfl (.eql rfl rfl) rfl rfl (by kernel_rfl) <| .t 3 rfl (.move rfl) rfl rfl (by kernel_rfl) <| .s 4 rfl rfl rfl (by kernel_rfl) <| .s 5 rfl rfl rfl (by kernel_rfl) ?_
        refine .s 6 rfl rfl rfl (by kernel_rfl) <| .s 7 rfl rfl rfl (by kernel_rfl) <| .s 8 rfl rfl rfl (by kernel_rfl) <| .s 9 rfl rfl rfl (by kernel_rfl) <| .s 10 rfl rfl rfl (by kernel_rfl) <| .s 11 rfl rfl rfl (by kernel_rfl) ?_
        refine .s 12 rfl rfl rfl (by kernel_rfl) <| .s 13 rfl rfl rfl (by kernel_rfl) <| .s 14 rfl rfl rfl (by kernel_rfl) <| .s 15 rfl rfl rfl (by kernel_rfl) <| .s 16 rfl rfl rfl (by kernel_rfl) <| .s 17 rfl rfl rfl (by kernel_rfl) ?_
        refine .t 18 rfl (.pickF rfl rfl) rfl rfl (by kernel_rfl) <| .t 19 rfl (.assign rfl) rfl rfl (by kernel_rfl) <| .done (by kernel_rfl) <| .go <| .cond_false rfl <| .seq ?_
        refine .region <| .e (.fieldAddr fo66_0 rfl) rfl rfl <| .e (.load ag64 rfl (.there <| .here) rfl) rfl rfl <| .e (.eql rfl rfl) rfl rfl <| .e (.move rfl) rfl rfl <| .off rfl rfl ?_
        refine .off rfl rfl <| .off rfl rfl <| .off rfl rfl <| .e (.pickF rfl rfl) rfl rfl <| .e (.assign rfl) rfl rfl <| .nil ?_
        refine .go <| .cond_false rfl <| .skip <| .blk_normal <| .go <| .seq ?_
        refine .region <| .e (.assign rfl) rfl rfl <| .nil <| .go <| .ret ?_
        refine .tail <| .tail ?_
        refine Post.retE rfl rfl ?_
        unfold refA
        rw [if_neg (by simpa using h14), if_neg (fun h => absurd h.2 (by omega))]
    · skip
      refine .off rfl rfl <| .off rfl rfl <| .off rfl rfl <| .off rfl rfl <| .e (.pickF rfl rfl) rfl rfl <| .e (.assign rfl) rfl rfl ?_
      refine .nil <| .go <| .cond_false rfl <| .seq <| .region <| .e (.fieldAddr fo66_0 rfl) rfl rfl ?_
      refine .e (.load ag64 rfl (.there <| .here) rfl) rfl rfl <| .e (.neq rfl rfl) rfl rfl <| .e (.move rfl) rfl rfl <| .off rfl rfl <| .off rfl rfl <| .e (.pickF rfl rfl) rfl rfl ?_
      refine .e (.assign rfl) rfl rfl <| .nil <| .go <| .cond_false rfl <| .seq ?_
      refine .draw [(c1, _), (c2, _)] mixed (.cons (.there <| .here) (.cons .here .nil)) ?_
      refine .t 0 rfl (.fieldAddr fo66_0 rfl) rfl rfl (by kernel_rfl) <| .t 1 rfl (.load ag64 rfl .here rfl) rfl rfl (by kernel_rfl) <| .t 2 rfl (.eql rfl rfl) rfl rfl (by kernel_rfl) <| .t 3 rfl (.move rfl) rfl rfl (by kernel_rfl) <| .s 4 rfl rfl rfl (by kernel_rfl) <| .s 5 rfl rfl rfl (by kernel_rfl) ?_
      refine .s 6 rfl rfl rfl (by kernel_rfl) <| .s 7 rfl rfl rfl (by kernel_rfl) <| .s 8 rfl rfl rfl (by kernel_rfl) <| .s 9 rfl rfl rfl (by kernel_rfl) <| .s 10 rfl rfl rfl (by kernel_rfl) <| .s 11 rfl rfl rfl (by kernel_rfl) ?_
      refine .s 12 rfl rfl rfl (by kernel_rfl) <| .s 13 rfl rfl rfl (by kernel_rfl) <| .s 14 rfl rfl rfl (by kernel_rfl) <| .s 15 rfl rfl rfl (by kernel_rfl) <| .s 16 rfl rfl rfl (by kernel_rfl) <| .s 17 rfl rfl rfl (by kernel_rfl) ?_
      refine .s 18 rfl rfl rfl (by kernel_rfl) <| .t 19 rfl (.pickF rfl rfl) rfl rfl (by kernel_rfl) <| .t 20 rfl (.assign rfl) rfl rfl (by kernel_rfl) <| .done (by kernel_rfl) <| .go <| .cond_false rfl ?_
      refine .seq ?_
      refine .draw [(c1, _), (c2, _)] mixed (.cons (.there <| .here) (.cons .here .nil)) ?_
      refine .t 0 rfl (.fieldAddr fo66_0 rfl) rfl rfl (by kernel_rfl) <| .t 1 rfl (.load ag64 rfl .here rfl) rfl rfl (by kernel_rfl) <| .t 2 rfl (.eql rfl rfl) rfl rfl (by kernel_rfl) <| .t 3 rfl (.move rfl) rfl rfl (by kernel_rfl) <| .s 4 rfl rfl rfl (by kernel_rfl) <| .s 5 rfl rfl rfl (by kernel_rfl) ?_
      refine .s 6 rfl rfl rfl (by kernel_rfl) <| .s 7 rfl rfl rfl (by kernel_rfl) <| .s 8 rfl rfl rfl (by kernel_rfl) <| .s 9 rfl rfl rfl (by kernel_rfl) <| .s 10 rfl rfl rfl (by kernel_rfl) <| .s 11 rfl rfl rfl (by kernel_rfl) ?_
      refine .s 12 rfl rfl rfl (by kernel_rfl) <| .s 13 rfl rfl rfl (by kernel_rfl) <| .s 14 rfl rfl rfl (by kernel_rfl) <| .s 15 rfl rfl rfl (by kernel_rfl) <| .s 16 rfl rfl rfl (by kernel_rfl) <| .s 17 rfl rfl rfl (by kernel_rfl) ?_
      refine .t 18 rfl (.pickF rfl rfl) rfl rfl (by kernel_rfl) <| .t 19 rfl (.assign rfl) rfl rfl (by kernel_rfl) <| .done (by kernel_rfl) <| .go <| .cond_false rfl <| .seq ?_
      refine .region <| .e (.fieldAddr fo66_0 rfl) rfl rfl <| .e (.load ag64 rfl (.there <| .here) rfl) rfl rfl <| .e (.eql rfl rfl) rfl rfl <| .e (.move rfl) rfl rfl <| .off rfl rfl ?_
      refine .off rfl rfl <| .off rfl rfl <| .off rfl rfl <| .e (.pickF rfl rfl) rfl rfl <| .e (.assign rfl) rfl rfl <| .nil ?_
      refine .go <| .cond_false rfl <| .skip <| .blk_normal <| .go <| .seq ?_
      refine .region <| .e (.assign rfl) rfl rfl <| .nil <| .go <| .ret ?_
      refine .tail <| .tail ?_
      refine Post.retE rfl rfl ?_
      unfold refA
      rw [if_neg (by simpa using h14), if_neg (fun h => absurd h.2 (by omega))]

set_option maxHeartbeats 1000000 in
set_option maxRecDepth 20000 in
theorem drefS_ok {I : Imm} {O : Own} {dc : List Value} {d : Dsk} (hd : DskR I dc d) (hr : Rising (fun x : Fil => x.name) d.files) (hsm : d.files.length ≤ 1000) {s x : ByteArray} :
    Pure Try.prog 37 [.agg ⟨[.int .u8 1, .string s, .string ⟨#[]⟩, .string x, .int .i64 0]⟩, .agg ⟨dc⟩] I O (.int .i64 (refS d s)) := by
  have hd0 := hd
  obtain ⟨fv, rfl, hfv⟩ := hd.ex
  have hfv0 := hfv
  obtain ⟨fa, fcap, rfl, hf1, hf2, -⟩ := hfv
  have hfz := hd0.fuse
  refine Go.Sy.Does.enter Try.func37 rfl Try.ntmps37 rfl ?_
  refine .seq <| .region <| .on rfl <| .box rfl rfl rfl fun c1 _ _ => .on rfl <| .box rfl rfl rfl fun c2 _ _ => .e (.assign rfl) rfl rfl <| .nil ?_
  refine .go <| .seq <| .region <| .e (.loadW ag28 sz28 rfl .here rfl) rfl rfl <| .e (.fieldAddr fo66_1 rfl) rfl rfl <| .e (.load ag9 rfl (.there <| .here) rfl) rfl rfl ?_
  refine .on rfl <| .callP cal24 rfl rfl rfl (dplace_ok hd0 hr (disk_small hsm)) <| .e (.move rfl) rfl rfl <| .e (.extract rfl rfl) rfl rfl <| .e (.extract rfl rfl) rfl rfl <| .e (.assign rfl) rfl rfl <| .e (.assign rfl) rfl rfl ?_
  refine .nil <| .go <| .seq <| .block <| .seq <| .region ?_
  refine .e (.fieldAddr fo66_0 rfl) rfl rfl <| .e (.load ag64 rfl (.there <| .here) rfl) rfl rfl <| .e (.eql rfl rfl) rfl rfl <| .e (.move rfl) rfl rfl <| .off rfl rfl <| .off rfl rfl ?_
  refine .off rfl rfl <| .off rfl rfl <| .e (.pickF rfl rfl) rfl rfl <| .e (.assign rfl) rfl rfl <| .nil <| .go ?_
  refine .cond_false rfl <| .seq <| .region <| .e (.fieldAddr fo66_0 rfl) rfl rfl <| .e (.load ag64 rfl (.there <| .here) rfl) rfl rfl <| .e (.eql rfl rfl) rfl rfl ?_
  refine .e (.move rfl) rfl rfl <| .off rfl rfl <| .off rfl rfl <| .e (.pickF rfl rfl) rfl rfl <| .e (.move rfl) rfl rfl <| .off rfl rfl ?_
  refine .off rfl rfl <| .off rfl rfl <| .off rfl rfl <| .e (.pickF rfl rfl) rfl rfl <| .e (.assign rfl) rfl rfl <| .nil ?_
  refine .go <| .cond_false rfl <| .seq <| .region <| .e (.fieldAddr fo66_0 rfl) rfl rfl <| .e (.load ag64 rfl (.there <| .here) rfl) rfl rfl ?_
  refine .e (.neq rfl rfl) rfl rfl <| .e (.move rfl) rfl rfl <| .e (.move rfl) rfl rfl <| .e (.not rfl) rfl rfl <| .e (.pickT rfl rfl) rfl rfl <| .e (.assign rfl) rfl rfl ?_
  refine .nil <| .go ?_
  refine .split 38 rfl (fun h38 => ?_) (fun h38 => ?_)
  · skip
    refine .cond_true rfl <| .seq <| .region <| .e (.assign rfl) rfl rfl <| .nil <| .go ?_
    refine .ret <| .blk_ret <| .ret ?_
    refine .tail <| .tail ?_
    refine Post.retE rfl rfl ?_
    unfold refS
    rw [if_neg (by simpa using h38)]
  · skip
    refine .cond_false rfl <| .seq ?_
    refine .draw [(c1, _), (c2, _)] mixed (.cons (.there <| .here) (.cons .here .nil)) ?_
    refine .t 0 rfl (.fieldAddr fo66_0 rfl) rfl rfl (by kernel_rfl) <| .t 1 rfl (.load ag64 rfl .here rfl) rfl rfl (by kernel_rfl) <| .t 2 rfl (.eql rfl rfl) rfl rfl (by kernel_rfl) <| .t 3 rfl (.move rfl) rfl rfl (by kernel_rfl) <| .s 4 rfl rfl rfl (by kernel_rfl) <| .s 5 rfl rfl rfl (by kernel_rfl) ?_
    refine .s 6 rfl rfl rfl (by kernel_rfl) <| .s 7 rfl rfl rfl (by kernel_rfl) <| .s 8 rfl rfl rfl (by kernel_rfl) <| .s 9 rfl rfl rfl (by kernel_rfl) <| .s 10 rfl rfl rfl (by kernel_rfl) <| .s 11 rfl rfl rfl (by kernel_rfl) ?_
    refine .s 12 rfl rfl rfl (by kernel_rfl) <| .s 13 rfl rfl rfl (by kernel_rfl) <| .s 14 rfl rfl rfl (by kernel_rfl) <| .s 15 rfl rfl rfl (by kernel_rfl) <| .s 16 rfl rfl rfl (by kernel_rfl) <| .s 17 rfl rfl rfl (by kernel_rfl) ?_
    refine .s 18 rfl rfl rfl (by kernel_rfl) <| .t 19 rfl (.pickF rfl rfl) rfl rfl (by kernel_rfl) <| .t 20 rfl (.assign rfl) rfl rfl (by kernel_rfl) <| .done (by kernel_rfl) <| .go <| .cond_false rfl ?_
    refine .seq ?_
    refine .draw [(c1, _), (c2, _)] mixed (.cons (.there <| .here) (.cons .here .nil)) ?_
    refine .t 0 rfl (.fieldAddr fo66_0 rfl) rfl rfl (by kernel_rfl) <| .t 1 rfl (.load ag64 rfl .here rfl) rfl rfl (by kernel_rfl) <| .t 2 rfl (.eql rfl rfl) rfl rfl (by kernel_rfl) <| .t 3 rfl (.move rfl) rfl rfl (by kernel_rfl) <| .s 4 rfl rfl rfl (by kernel_rfl) <| .s 5 rfl rfl rfl (by kernel_rfl) ?_
    refine .s 6 rfl rfl rfl (by kernel_rfl) <| .s 7 rfl rfl rfl (by kernel_rfl) <| .s 8 rfl rfl rfl (by kernel_rfl) <| .s 9 rfl rfl rfl (by kernel_rfl) <| .s 10 rfl rfl rfl (by kernel_rfl) <| .s 11 rfl rfl rfl (by kernel_rfl) ?_
    refine .s 12 rfl rfl rfl (by kernel_rfl) <| .s 13 rfl rfl rfl (by kernel_rfl) <| .s 14 rfl rfl rfl (by kernel_rfl) <| .s 15 rfl rfl rfl (by kernel_rfl) <| .s 16 rfl rfl rfl (by kernel_rfl) <| .s 17 rfl rfl rfl (by kernel_rfl) ?_
    refine .t 18 rfl (.pickF rfl rfl) rfl rfl (by kernel_rfl) <| .t 19 rfl (.assign rfl) rfl rfl (by kernel_rfl) <| .done (by kernel_rfl) <| .go <| .cond_false rfl <| .seq ?_
    refine .region <| .e (.fieldAddr fo66_0 rfl) rfl rfl <| .e (.load ag64 rfl (.there <| .here) rfl) rfl rfl <| .e (.eql rfl rfl) rfl rfl <| .e (.move rfl) rfl rfl <| .off rfl rfl ?_
    refine .off rfl rfl <| .off rfl rfl <| .off rfl rfl <| .e (.pickF rfl rfl) rfl rfl <| .e (.assign rfl) rfl rfl <| .nil ?_
    refine .go <| .cond_false rfl <| .skip <| .blk_normal <| .go <| .seq ?_
    refine .region <| .e (.assign rfl) rfl rfl <| .nil <| .go <| .ret ?_
    refine .tail <| .tail ?_
    refine Post.retE rfl rfl ?_
    unfold refS
    rw [if_pos (by simpa using h38)]

end Go.Proofs.Ytjoaccnfnniahaa
