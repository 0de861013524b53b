/- Walks of functions over a symbolic memory, printed by a program of the session. -/
import Derived.Test.YtajpakifkinadaaGreatDoorBg
namespace Go.Proofs.YtajpakifkinadaaGreatDoor
open Go.Sy
set_option linter.unusedSimpArgs false
set_option linter.unusedVariables false

set_option maxHeartbeats 1000000 in
set_option maxRecDepth 20000 in
theorem idxNod_ok {I : Imm} {O : Own} {v : Value} {l : List Nod} {p : Nod → Bool} {g : FuncId} {us : List Value} (hl : SlR NodR 6 I v l) (hg : callee Tryz.prog g = true) (hf : ∀ cs x, x ∈ l → NodR I cs x → Pure Tryz.prog g ([.agg ⟨cs⟩] ++ us) I O (.bool (p x))) :
    Pure Tryz.prog 76 [v, .func (.func g) #[] ⟨us⟩] I O (.int .i64 (idxOf p l)) := by
  have hl0 := hl
  obtain ⟨la, lcap, rfl, hl1, hl2, -⟩ := hl
  refine Go.Sy.Does.enter Tryz.func76 rfl Tryz.ntmps76 rfl ?_
  refine .seq <| .region <| .e (.assign rfl) rfl rfl <| .nil <| .go <| .seq ?_
  refine .seq <| .region <| .e (.move rfl) rfl rfl <| .e (.len sl22 rfl rfl) rfl rfl <| .e (.move rfl) rfl rfl <| .nil ?_
  refine .go <| .block ?_
  refine .loopM [4, 5, 8, 9, 10, 11, 12, 13, 14, 15, 16, 17, 18] (fun k => l.length - k) (fun k => k ≤ l.length ∧ (l.take k).any p = false) (fun k => [(8, .int .i64 k)]) (fun _ => _) (fun _ => _) (0) ⟨by omega, rfl⟩ ⟨rfl, trivial⟩ rfl rfl ?_
  intro k hk
  obtain ⟨hk, hw⟩ := hk
  refine .seq <| .region <| .e (.lss rfl rfl) rfl rfl <| .nil <| .go <| .seq ?_
  refine .split 9 rfl (fun h9 => ?_) (fun h9 => ?_)
  · skip
    replace h9 := of_decide_eq_true h9
    refine .cond_true rfl <| .skip <| .go <| .seq <| .block <| .seq ?_
    refine .region <| .e (.move rfl) rfl rfl <| .e (.assign rfl) rfl rfl <| .nil <| .go <| .seq ?_
    refine .region <| .e (.move rfl) rfl rfl <| .e (.move rfl) rfl rfl <| .e (.move rfl) rfl rfl ?_
    obtain ⟨eb14, eo14, cs14, hd14, hat14, hr14⟩ := SlR.at_ hl0 (k := k) (by omega)
    cases hd14
    refine .e (.indexAddrL sl22 rfl rfl rfl (by omega)) rfl rfl <| .e (.loadIA ag32 sz32 rfl hat14 (NodR.len hr14)) rfl rfl <| .on rfl <| .callP hg rfl rfl rfl (hf _ _ (List.getElem_mem (by omega)) hr14) <| .nil <| .go ?_
    refine .split 16 rfl (fun h16 => ?_) (fun h16 => ?_)
    · skip
      refine .cond_true rfl <| .seq <| .region <| .e (.move rfl) rfl rfl <| .e (.assign rfl) rfl rfl <| .nil ?_
      refine .go <| .ret <| .blk_ret <| .ret <| .ret <| .blk_ret ?_
      refine .ret ?_
      refine Post.retE rfl rfl ?_
      exact congrArg (Value.int .i64) (idxOf_some (by omega) hw (by simpa using h16)).symm
    · skip
      refine .cond_false rfl <| .skip <| .blk_normal <| .go <| .region <| .e (.add rfl rfl (by first | exact wrap_succ (by omega) | exact IntWalk.i64_in _ (by omega) | exact rfl)) rfl rfl ?_
      refine .e (.move rfl) rfl rfl <| .nil ?_
      exact .mid (k + 1) ⟨by omega, by omega, any_take_step (by omega) hw (by simpa using h16)⟩ ⟨rfl, trivial⟩ rfl rfl (.pre 13 rfl (.app rfl .base))
  · skip
    replace h9 := of_decide_eq_false h9
    refine .cond_false rfl <| .exit <| .exit <| .exit <| .blk_exit <| .go ?_
    refine .seq <| .region <| .e (.assign rfl) rfl rfl <| .nil <| .go <| .ret ?_
    refine Post.retE rfl rfl ?_
    exact congrArg (Value.int .i64) (idxOf_none (any_take_all (by omega) hw)).symm

set_option maxHeartbeats 1000000 in
set_option maxRecDepth 20000 in
theorem hasNod_ok {I : Imm} {O : Own} {v : Value} {l : List Nod} {p : Nod → Bool} {g : FuncId} {us : List Value} (hl : SlR NodR 6 I v l) (hg : callee Tryz.prog g = true) (hf : ∀ cs x, x ∈ l → NodR I cs x → Pure Tryz.prog g ([.agg ⟨cs⟩] ++ us) I O (.bool (p x))) :
    Pure Tryz.prog 37 [v, .func (.func g) #[] ⟨us⟩] I O (.bool (l.any p)) := by
  refine Go.Sy.Does.enter Tryz.func37 rfl Tryz.ntmps37 rfl ?_
  refine .seq <| .region <| .e (.assign rfl) rfl rfl <| .nil <| .go <| .seq ?_
  refine .region <| .e (.move rfl) rfl rfl <| .e (.move rfl) rfl rfl <| .on rfl <| .callP cal76 rfl rfl rfl (idxNod_ok hl hg hf) <| .e (.geq rfl rfl) rfl rfl <| .e (.assign rfl) rfl rfl ?_
  refine .nil <| .go <| .ret ?_
  refine Post.retE rfl rfl ?_
  exact congrArg Value.bool idxOf_ge

set_option maxHeartbeats 1000000 in
set_option maxRecDepth 20000 in
theorem idxBnd_ok {I : Imm} {O : Own} {v : Value} {l : List Bnd} {p : Bnd → Bool} {g : FuncId} {us : List Value} (hl : SlR BndR 2 I v l) (hg : callee Tryz.prog g = true) (hf : ∀ cs x, x ∈ l → BndR I cs x → Pure Tryz.prog g ([.agg ⟨cs⟩] ++ us) I O (.bool (p x))) :
    Pure Tryz.prog 69 [v, .func (.func g) #[] ⟨us⟩] I O (.int .i64 (idxOf p l)) := by
  have hl0 := hl
  obtain ⟨la, lcap, rfl, hl1, hl2, -⟩ := hl
  refine Go.Sy.Does.enter Tryz.func69 rfl Tryz.ntmps69 rfl ?_
  refine .seq <| .region <| .e (.assign rfl) rfl rfl <| .nil <| .go <| .seq ?_
  refine .seq <| .region <| .e (.move rfl) rfl rfl <| .e (.len sl24 rfl rfl) rfl rfl <| .e (.move rfl) rfl rfl <| .nil ?_
  refine .go <| .block ?_
  refine .loopM [4, 5, 8, 9, 10, 11, 12, 13, 14, 15, 16, 17, 18] (fun k => l.length - k) (fun k => k ≤ l.length ∧ (l.take k).any p = false) (fun k => [(8, .int .i64 k)]) (fun _ => _) (fun _ => _) (0) ⟨by omega, rfl⟩ ⟨rfl, trivial⟩ rfl rfl ?_
  intro k hk
  obtain ⟨hk, hw⟩ := hk
  refine .seq <| .region <| .e (.lss rfl rfl) rfl rfl <| .nil <| .go <| .seq ?_
  refine .split 9 rfl (fun h9 => ?_) (fun h9 => ?_)
  · skip
    replace h9 := of_decide_eq_true h9
    refine .cond_true rfl <| .skip <| .go <| .seq <| .block <| .seq ?_
    refine .region <| .e (.move rfl) rfl rfl <| .e (.assign rfl) rfl rfl <| .nil <| .go <| .seq ?_
    refine .region <| .e (.move rfl) rfl rfl <| .e (.move rfl) rfl rfl <| .e (.move rfl) rfl rfl ?_
    obtain ⟨eb14, eo14, cs14, hd14, hat14, hr14⟩ := SlR.at_ hl0 (k := k) (by omega)
    cases hd14
    refine .e (.indexAddrL sl24 rfl rfl rfl (by omega)) rfl rfl <| .e (.loadIA ag47 sz47 rfl hat14 (BndR.len hr14)) rfl rfl <| .on rfl <| .callP hg rfl rfl rfl (hf _ _ (List.getElem_mem (by omega)) hr14) <| .nil <| .go ?_
    refine .split 16 rfl (fun h16 => ?_) (fun h16 => ?_)
    · skip
      refine .cond_true rfl <| .seq <| .region <| .e (.move rfl) rfl rfl <| .e (.assign rfl) rfl rfl <| .nil ?_
      refine .go <| .ret <| .blk_ret <| .ret <| .ret <| .blk_ret ?_
      refine .ret ?_
      refine Post.retE rfl rfl ?_
      exact congrArg (Value.int .i64) (idxOf_some (by omega) hw (by simpa using h16)).symm
    · skip
      refine .cond_false rfl <| .skip <| .blk_normal <| .go <| .region <| .e (.add rfl rfl (by first | exact wrap_succ (by omega) | exact IntWalk.i64_in _ (by omega) | exact rfl)) rfl rfl ?_
      refine .e (.move rfl) rfl rfl <| .nil ?_
      exact .mid (k + 1) ⟨by omega, by omega, any_take_step (by omega) hw (by simpa using h16)⟩ ⟨rfl, trivial⟩ rfl rfl (.pre 13 rfl (.app rfl .base))
  · skip
    replace h9 := of_decide_eq_false h9
    refine .cond_false rfl <| .exit <| .exit <| .exit <| .blk_exit <| .go ?_
    refine .seq <| .region <| .e (.assign rfl) rfl rfl <| .nil <| .go <| .ret ?_
    refine Post.retE rfl rfl ?_
    exact congrArg (Value.int .i64) (idxOf_none (any_take_all (by omega) hw)).symm

set_option maxHeartbeats 1000000 in
set_option maxRecDepth 20000 in
theorem hasBnd_ok {I : Imm} {O : Own} {v : Value} {l : List Bnd} {p : Bnd → Bool} {g : FuncId} {us : List Value} (hl : SlR BndR 2 I v l) (hg : callee Tryz.prog g = true) (hf : ∀ cs x, x ∈ l → BndR I cs x → Pure Tryz.prog g ([.agg ⟨cs⟩] ++ us) I O (.bool (p x))) :
    Pure Tryz.prog 26 [v, .func (.func g) #[] ⟨us⟩] I O (.bool (l.any p)) := by
  refine Go.Sy.Does.enter Tryz.func26 rfl Tryz.ntmps26 rfl ?_
  refine .seq <| .region <| .e (.assign rfl) rfl rfl <| .nil <| .go <| .seq ?_
  refine .region <| .e (.move rfl) rfl rfl <| .e (.move rfl) rfl rfl <| .on rfl <| .callP cal69 rfl rfl rfl (idxBnd_ok hl hg hf) <| .e (.geq rfl rfl) rfl rfl <| .e (.assign rfl) rfl rfl ?_
  refine .nil <| .go <| .ret ?_
  refine Post.retE rfl rfl ?_
  exact congrArg Value.bool idxOf_ge

def badN (n : Nod) : Bool := !decide (nodWhy n = 0)
def badK (t : Tsk) : Bool := !decide (tskWhy t = 0)
def badX (b : Bk) (x : Bnd) : Bool := !hasBy (fun x : Nod => x.name) b.nodes x.node || !hasBy (fun x : Tsk => x.name) b.tasks x.task
def bookOk (b : Bk) : Bool := decide (b.nodes.length ≤ 16) && (decide (b.tasks.length ≤ 32) && (risingB (fun x : Nod => x.name) b.nodes && (risingB (fun x : Tsk => x.name) b.tasks && (risingB (fun x : Bnd => x.task) b.binds && (!b.nodes.any badN && (!b.tasks.any badK && (!b.binds.any (badX b) && !b.nodes.any fun n => !wellR b n)))))))
def bookWhy (b : Bk) : Int := if bookOk b = true then 0 else 10
theorem binds_few {b : Bk} (h1 : b.tasks.length ≤ 32) (h2 : risingB (fun x : Bnd => x.task) b.binds = true) (h3 : b.binds.any (badX b) = false) : b.binds.length ≤ 32 := by
  have hn := nodup_of (rising_of h2)
  have := len_le_of_mem (b.binds.map fun x => x.task) (b.tasks.map fun x => x.name) hn fun s hs => by
    obtain ⟨x, hx, rfl⟩ := List.mem_map.1 hs
    have h4 := List.any_eq_false.1 h3 x hx
    simp only [badX, Bool.or_eq_true, Bool.not_eq_true', not_or, Bool.not_eq_false] at h4
    obtain ⟨t, ht, h5⟩ := List.any_eq_true.1 h4.2
    rw [decide_eq_true_eq] at h5
    exact List.mem_map.2 ⟨t, ht, h5⟩
  simp only [List.length_map] at this
  omega
structure BookOk (b : Bk) : Prop where
  nodes : b.nodes.length ≤ 16
  tasks : b.tasks.length ≤ 32
  rn : Rising (fun x : Nod => x.name) b.nodes
  rt : Rising (fun x : Tsk => x.name) b.tasks
  rb : Rising (fun x : Bnd => x.task) b.binds
  nod : ∀ n ∈ b.nodes, nodWhy n = 0
  tsk : ∀ t ∈ b.tasks, tskWhy t = 0
  bnd : ∀ x ∈ b.binds, hasBy (fun x : Nod => x.name) b.nodes x.node = true ∧ hasBy (fun x : Tsk => x.name) b.tasks x.task = true
  well : ∀ n ∈ b.nodes, wellR b n = true
  binds : b.binds.length ≤ 32
theorem BookOk.of {b : Bk} (h : bookOk b = true) : BookOk b := by
  unfold bookOk at h
  simp only [Bool.and_eq_true, Bool.not_eq_true', decide_eq_true_eq] at h
  obtain ⟨h1, h2, h3, h4, h5, h6, h7, h8, h9⟩ := h
  refine ⟨h1, h2, rising_of h3, rising_of h4, rising_of h5, fun n hn => ?_, fun t ht => ?_, fun x hx => ?_, fun n hn => ?_, binds_few h2 h5 h8⟩
  · simpa [badN] using List.any_eq_false.1 h6 n hn
  · simpa [badK] using List.any_eq_false.1 h7 t ht
  · simpa [badX] using List.any_eq_false.1 h8 x hx
  · simpa using List.any_eq_false.1 h9 n hn
theorem bookWhy_ok {b : Bk} (h : bookWhy b = 0) : bookOk b = true := by
  unfold bookWhy at h
  cases h2 : bookOk b
  · rw [h2] at h; cases h
  · rfl
theorem bookWhy_no {b : Bk} (h : ¬bookWhy b = 0) : bookOk b = false ∧ bookWhy b = 10 := by
  unfold bookWhy at *
  cases h2 : bookOk b
  · exact ⟨rfl, rfl⟩
  · rw [h2] at h; exact absurd rfl h

set_option maxHeartbeats 1000000 in
set_option maxRecDepth 20000 in
theorem chk4_ok {I : Imm} {O : Own} {cs : List Value} {n : Nod} (hn : NodR I cs n) :
    Pure Tryz.prog 38 [.agg ⟨cs⟩] I O (.bool (badN n)) := by
  have hn0 := hn
  obtain ⟨nl, nt, rfl, hnl, hnt⟩ := hn.ex
  have hnl0 := hnl
  obtain ⟨la, lcap, rfl, hl1, hl2, -⟩ := hnl
  have hnt0 := hnt
  obtain ⟨ta, tcap, rfl, ht1, ht2, -⟩ := hnt
  refine Go.Sy.Does.enter Tryz.func38 rfl Tryz.ntmps38 rfl ?_
  refine .seq <| .region <| .on rfl <| .box rfl rfl rfl fun c1 _ _ => .e (.assign rfl) rfl rfl <| .nil <| .go ?_
  refine .seq <| .region <| .e (.loadW ag32 sz32 rfl .here rfl) rfl rfl <| .on rfl <| .callP cal39 rfl rfl rfl (CheckNode_ok hn0) <| .e (.neq rfl rfl) rfl rfl <| .e (.assign rfl) rfl rfl ?_
  refine .nil <| .go <| .ret ?_
  refine .tail ?_
  refine Post.retE rfl rfl ?_
  rfl

set_option maxHeartbeats 1000000 in
set_option maxRecDepth 20000 in
theorem chk5_ok {I : Imm} {O : Own} {cs : List Value} {t : Tsk} (ht : TskR I cs t) :
    Pure Tryz.prog 41 [.agg ⟨cs⟩] I O (.bool (badK t)) := by
  have ht0 := ht
  obtain ⟨tw, tb, rfl, htw, htb⟩ := ht.ex
  have htw0 := htw
  obtain ⟨wa, wcap, rfl, hw1, hw2, -⟩ := htw
  have htb0 := htb
  obtain ⟨ba, bcap, rfl, hb1, hb2, -⟩ := htb
  refine Go.Sy.Does.enter Tryz.func41 rfl Tryz.ntmps41 rfl ?_
  refine .seq <| .region <| .on rfl <| .box rfl rfl rfl fun c1 _ _ => .e (.assign rfl) rfl rfl <| .nil <| .go ?_
  refine .seq <| .region <| .e (.loadW ag34 sz34 rfl .here rfl) rfl rfl <| .on rfl <| .callP cal42 rfl rfl rfl (CheckTask_ok ht0) <| .e (.neq rfl rfl) rfl rfl <| .e (.assign rfl) rfl rfl ?_
  refine .nil <| .go <| .ret ?_
  refine .tail ?_
  refine Post.retE rfl rfl ?_
  rfl

set_option maxHeartbeats 1000000 in
set_option maxRecDepth 20000 in
theorem chk6_ok {I : Imm} {O : Own} {cs : List Value} {x : Bnd} (hx : BndR I cs x) {kc : List Value} {b : Bk} {kb : Nat} (hb : Has O kb (.cells ⟨kc⟩ 66 (0, 0))) (hk : BkR I kc b) {pb : Nat} (hp : Has O pb (.cells ⟨[.pointer (some ⟨kb, 0, none⟩)]⟩ 64 (0, 0))) (hrn : Rising (fun x : Nod => x.name) b.nodes) (hrt : Rising (fun x : Tsk => x.name) b.tasks) (hsn : b.nodes.length ≤ 16) (hst : b.tasks.length ≤ 32) :
    Pure Tryz.prog 43 [.agg ⟨cs⟩, .pointer (some ⟨pb, 0, none⟩)] I O (.bool (badX b x)) := by
  obtain ⟨rfl, hx1, hx2⟩ := hx
  have hk0 := hk
  refine Go.Sy.Does.enter Tryz.func43 rfl Tryz.ntmps43 rfl ?_
  refine .seq <| .region <| .on rfl <| .box rfl rfl rfl fun c1 _ _ => .e (.assign rfl) rfl rfl <| .nil <| .go ?_
  refine .seq <| .region <| .e (.load ag64 rfl (.there <| hp) rfl) rfl rfl <| .e (.fieldAddr fo47_1 rfl) rfl rfl <| .e (.load ag9 rfl .here rfl) rfl rfl <| .on rfl <| .callP cal44 rfl rfl rfl (knode_ok (.there <| hb) hk0 hrn (by omega)) ?_
  refine .e (.move rfl) rfl rfl <| .e (.extract rfl rfl) rfl rfl <| .e (.extract rfl rfl) rfl rfl <| .e (.assign rfl) rfl rfl <| .e (.assign rfl) rfl rfl <| .nil ?_
  refine .go <| .seq <| .region <| .e (.load ag64 rfl (.there <| hp) rfl) rfl rfl <| .e (.fieldAddr fo47_0 rfl) rfl rfl <| .e (.load ag9 rfl .here rfl) rfl rfl ?_
  refine .on rfl <| .callP cal45 rfl rfl rfl (ktask_ok (.there <| hb) hk0 hrt (by omega)) <| .e (.move rfl) rfl rfl <| .e (.extract rfl rfl) rfl rfl <| .e (.extract rfl rfl) rfl rfl <| .e (.assign rfl) rfl rfl <| .e (.assign rfl) rfl rfl ?_
  refine .nil <| .go <| .seq <| .region <| .e (.move rfl) rfl rfl <| .e (.not rfl) rfl rfl ?_
  refine .e (.move rfl) rfl rfl ?_
  refine .split 24 rfl (fun h24 => ?_) (fun h24 => ?_)
  · skip
    refine .off rfl rfl <| .off rfl rfl <| .e (.pickT rfl rfl) rfl rfl <| .e (.assign rfl) rfl rfl <| .nil <| .go ?_
    refine .ret ?_
    refine .tail ?_
    refine Post.retE rfl rfl ?_
    simp_all [badX]
  · skip
    refine .e (.move rfl) rfl rfl <| .e (.not rfl) rfl rfl <| .e (.pickF rfl rfl) rfl rfl <| .e (.assign rfl) rfl rfl <| .nil <| .go ?_
    refine .ret ?_
    refine .tail ?_
    refine Post.retE rfl rfl ?_
    simp_all [badX]

set_option maxHeartbeats 1000000 in
set_option maxRecDepth 20000 in
theorem chk7_ok {I : Imm} {O : Own} {cs : List Value} {n : Nod} (hn : NodR I cs n) {kc : List Value} {b : Bk} {kb : Nat} (hb : Has O kb (.cells ⟨kc⟩ 66 (0, 0))) (hk : BkR I kc b) {pb : Nat} (hp : Has O pb (.cells ⟨[.pointer (some ⟨kb, 0, none⟩)]⟩ 64 (0, 0))) (hrt : Rising (fun x : Tsk => x.name) b.tasks) (hst : b.tasks.length ≤ 32) (hbl : b.binds.length ≤ 32) :
    Pure Tryz.prog 46 [.agg ⟨cs⟩, .pointer (some ⟨pb, 0, none⟩)] I O (.bool (!wellR b n)) := by
  have hn0 := hn
  obtain ⟨nl, nt, rfl, hnl, hnt⟩ := hn.ex
  have hnl0 := hnl
  obtain ⟨la, lcap, rfl, hl1, hl2, -⟩ := hnl
  have hnt0 := hnt
  obtain ⟨ta, tcap, rfl, ht1, ht2, -⟩ := hnt
  have hk0 := hk
  refine Go.Sy.Does.enter Tryz.func46 rfl Tryz.ntmps46 rfl ?_
  refine .seq <| .region <| .on rfl <| .box rfl rfl rfl fun c1 _ _ => .e (.assign rfl) rfl rfl <| .nil <| .go ?_
  refine .seq <| .region <| .e (.load ag64 rfl (.there <| hp) rfl) rfl rfl <| .e (.loadW ag32 sz32 rfl .here rfl) rfl rfl <| .on rfl <| .callP cal47 rfl rfl rfl (well_ok (.there <| hb) hk0 hn0 hrt (by omega) hbl) <| .e (.not rfl) rfl rfl ?_
  refine .e (.assign rfl) rfl rfl <| .nil <| .go <| .ret ?_
  refine .tail ?_
  refine Post.retE rfl rfl ?_
  rfl

set_option maxHeartbeats 4000000 in
set_option maxRecDepth 20000 in
theorem bCheck_ok {I : Imm} {O : Own} {kc : List Value} {b : Bk} (hk : BkR I kc b) :
    Pure Tryz.prog 15 [.agg ⟨kc⟩] I O (.int .i64 (bookWhy b)) := by
  have hk0 := hk
  obtain ⟨nv, tv, bv, rfl, hnv, htv, hbv⟩ := hk.ex
  have hnv0 := hnv
  have htv0 := htv
  have hbv0 := hbv
  obtain ⟨na, ncap, rfl, hn1, hn2, -⟩ := hnv
  obtain ⟨ta, tcap, rfl, ht1, ht2, -⟩ := htv
  obtain ⟨ba, bcap, rfl, hb1, hb2, -⟩ := hbv
  refine Go.Sy.Does.enter Tryz.func15 rfl Tryz.ntmps15 rfl ?_
  refine .seq <| .region <| .on rfl <| .box rfl rfl rfl fun c1 _ _ => .e (.assign rfl) rfl rfl <| .nil <| .go ?_
  refine .seq <| .region <| .e (.loadW ag27 sz27 rfl .here rfl) rfl rfl <| .e (.build bs66 zv66 rfl rfl) rfl rfl <| .on rfl <| .box rfl rfl rfl fun c2 _ _ => .on rfl <| .alloc zr64 rfl fun c3 _ _ => ?_
  refine .on rfl <| .storeW sz64 rfl rfl rfl rfl rfl rfl .here <| .nil <| .go <| .seq <| .region <| .e (.fieldAddr fo27_0 rfl) rfl rfl ?_
  refine .e (.load ag22 rfl (.there <| .there <| .here) rfl) rfl rfl <| .e (.len sl22 rfl rfl) rfl rfl <| .e (.leq rfl rfl) rfl rfl <| .e (.move rfl) rfl rfl ?_
  refine .split 12 rfl (fun h12 => ?_) (fun h12 => ?_)
  · skip
    replace h12 := of_decide_eq_true h12
    refine .e (.fieldAddr fo27_1 rfl) rfl rfl <| .e (.load ag23 rfl (.there <| .there <| .here) rfl) rfl rfl <| .e (.len sl23 rfl rfl) rfl rfl <| .e (.leq rfl rfl) rfl rfl <| .e (.pickT rfl rfl) rfl rfl <| .e (.move rfl) rfl rfl ?_
    refine .split 18 rfl (fun h18 => ?_) (fun h18 => ?_)
    · skip
      replace h18 := of_decide_eq_true h18
      refine .e (.fieldAddr fo27_0 rfl) rfl rfl <| .e (.load ag22 rfl (.there <| .there <| .here) rfl) rfl rfl <| .on rfl <| .callP cal31 rfl rfl rfl (risingNod_ok (by assumption)) <| .e (.pickT rfl rfl) rfl rfl <| .e (.move rfl) rfl rfl ?_
      refine .split 23 rfl (fun h23 => ?_) (fun h23 => ?_)
      · skip
        refine .e (.fieldAddr fo27_1 rfl) rfl rfl <| .e (.load ag23 rfl (.there <| .there <| .here) rfl) rfl rfl <| .on rfl <| .callP cal33 rfl rfl rfl (risingTsk_ok (by assumption)) <| .e (.pickT rfl rfl) rfl rfl <| .e (.move rfl) rfl rfl ?_
        refine .split 28 rfl (fun h28 => ?_) (fun h28 => ?_)
        · skip
          refine .e (.fieldAddr fo27_2 rfl) rfl rfl <| .e (.load ag24 rfl (.there <| .there <| .here) rfl) rfl rfl <| .on rfl <| .callP cal35 rfl rfl rfl (risingBnd_ok (by assumption)) <| .e (.pickT rfl rfl) rfl rfl <| .e (.assign rfl) rfl rfl <| .nil ?_
          refine .go <| .seq <| .region <| .e (.move rfl) rfl rfl <| .e (.move rfl) rfl rfl ?_
          refine .split 34 rfl (fun h34 => ?_) (fun h34 => ?_)
          · skip
            refine .e (.fieldAddr fo27_0 rfl) rfl rfl <| .e (.load ag22 rfl (.there <| .there <| .here) rfl) rfl rfl <| .on rfl <| .callP cal37 rfl rfl rfl (hasNod_ok (p := badN) (us := []) hnv0 cal38 (fun cs x _ hx => chk4_ok hx)) <| .e (.not rfl) rfl rfl <| .e (.pickT rfl rfl) rfl rfl <| .e (.assign rfl) rfl rfl ?_
            refine .nil <| .go <| .seq <| .region <| .e (.move rfl) rfl rfl <| .e (.move rfl) rfl rfl ?_
            refine .split 41 rfl (fun h41 => ?_) (fun h41 => ?_)
            · skip
              refine .e (.fieldAddr fo27_1 rfl) rfl rfl <| .e (.load ag23 rfl (.there <| .there <| .here) rfl) rfl rfl <| .on rfl <| .callP cal40 rfl rfl rfl (hasTsk_ok (p := badK) (us := []) htv0 cal41 (fun cs x _ hx => chk5_ok hx)) <| .e (.not rfl) rfl rfl <| .e (.pickT rfl rfl) rfl rfl <| .e (.assign rfl) rfl rfl ?_
              refine .nil <| .go <| .seq <| .region <| .e (.move rfl) rfl rfl <| .e (.move rfl) rfl rfl ?_
              refine .split 48 rfl (fun h48 => ?_) (fun h48 => ?_)
              · skip
                refine .e (.fieldAddr fo27_2 rfl) rfl rfl <| .e (.load ag24 rfl (.there <| .there <| .here) rfl) rfl rfl <| .e (.makeFunc rfl rfl) rfl rfl <| .on rfl <| .callP cal26 rfl rfl rfl (hasBnd_ok (p := badX b) (us := [.pointer (some ⟨c3, 0, none⟩)]) hbv0 cal43 (fun cs x _ hx => chk6_ok hx (.there <| .here) hk0 .here (rising_of h23) (rising_of h28) (by omega) (by omega))) <| .e (.not rfl) rfl rfl <| .e (.pickT rfl rfl) rfl rfl ?_
                refine .e (.assign rfl) rfl rfl <| .nil <| .go <| .seq <| .region <| .e (.move rfl) rfl rfl ?_
                refine .e (.move rfl) rfl rfl ?_
                refine .split 56 rfl (fun h56 => ?_) (fun h56 => ?_)
                · skip
                  refine .e (.fieldAddr fo27_0 rfl) rfl rfl <| .e (.load ag22 rfl (.there <| .there <| .here) rfl) rfl rfl <| .e (.makeFunc rfl rfl) rfl rfl <| .on rfl <| .callP cal37 rfl rfl rfl (hasNod_ok (p := fun n => !wellR b n) (us := [.pointer (some ⟨c3, 0, none⟩)]) hnv0 cal46 (fun cs x _ hx => chk7_ok hx (.there <| .here) hk0 .here (rising_of h28) (by omega) (binds_few (by omega) h34 (by simpa using h56)))) <| .e (.not rfl) rfl rfl <| .e (.pickT rfl rfl) rfl rfl ?_
                  refine .e (.assign rfl) rfl rfl <| .nil <| .go <| .seq <| .seq <| .region ?_
                  refine .e (.move rfl) rfl rfl <| .e (.not rfl) rfl rfl <| .nil <| .go ?_
                  refine .split 64 rfl (fun h64 => ?_) (fun h64 => ?_)
                  · skip
                    refine .cond_true rfl <| .seq <| .region <| .e (.assign rfl) rfl rfl <| .nil <| .go ?_
                    refine .ret <| .ret ?_
                    refine .tail <| .tail <| .tail ?_
                    refine Post.retE rfl rfl ?_
                    refine congrArg (Value.int .i64) ?_
                    unfold bookWhy bookOk
                    replace h64 := (Bool.not_eq_true' _).mp h64
                    have g12 : b.nodes.length ≤ 16 := by omega
                    have g18 : b.tasks.length ≤ 32 := by omega
                    simp only [g12, g18, h23, h28, h34, h41, h48, h56, h64, decide_true, decide_false, Bool.true_and, Bool.and_true, Bool.false_and, Bool.and_false, ↓reduceIte, Bool.false_eq_true]
                  · skip
                    refine .cond_false rfl <| .skip <| .go <| .seq <| .region <| .e (.assign rfl) rfl rfl ?_
                    refine .nil <| .go <| .ret ?_
                    refine .tail <| .tail <| .tail ?_
                    refine Post.retE rfl rfl ?_
                    refine congrArg (Value.int .i64) ?_
                    unfold bookWhy bookOk
                    replace h64 := (Bool.not_eq_false' _).mp h64
                    have g12 : b.nodes.length ≤ 16 := by omega
                    have g18 : b.tasks.length ≤ 32 := by omega
                    simp only [g12, g18, h23, h28, h34, h41, h48, h56, h64, decide_true, decide_false, Bool.true_and, Bool.and_true, Bool.false_and, Bool.and_false, ↓reduceIte, Bool.false_eq_true]
                · skip
                  refine .off rfl rfl <| .off rfl rfl <| .off rfl rfl <| .off rfl rfl <| .off rfl rfl <| .e (.pickF rfl rfl) rfl rfl ?_
                  refine .e (.assign rfl) rfl rfl <| .nil <| .go <| .seq <| .seq <| .region ?_
                  refine .e (.move rfl) rfl rfl <| .e (.not rfl) rfl rfl <| .nil <| .go <| .cond_true rfl <| .seq ?_
                  refine .region <| .e (.assign rfl) rfl rfl <| .nil <| .go <| .ret <| .ret ?_
                  refine .tail <| .tail <| .tail ?_
                  refine Post.retE rfl rfl ?_
                  refine congrArg (Value.int .i64) ?_
                  unfold bookWhy bookOk
                  have g12 : b.nodes.length ≤ 16 := by omega
                  have g18 : b.tasks.length ≤ 32 := by omega
                  simp only [g12, g18, h23, h28, h34, h41, h48, h56, decide_true, decide_false, Bool.true_and, Bool.and_true, Bool.false_and, Bool.and_false, ↓reduceIte, Bool.false_eq_true]
              · skip
                refine .off rfl rfl <| .off rfl rfl <| .off rfl rfl <| .off rfl rfl <| .off rfl rfl <| .e (.pickF rfl rfl) rfl rfl ?_
                refine .e (.assign rfl) rfl rfl <| .nil <| .go <| .seq <| .region <| .e (.move rfl) rfl rfl ?_
                refine .e (.move rfl) rfl rfl <| .off rfl rfl <| .off rfl rfl <| .off rfl rfl <| .off rfl rfl <| .off rfl rfl ?_
                refine .e (.pickF rfl rfl) rfl rfl <| .e (.assign rfl) rfl rfl <| .nil <| .go <| .seq <| .seq ?_
                refine .region <| .e (.move rfl) rfl rfl <| .e (.not rfl) rfl rfl <| .nil <| .go <| .cond_true rfl ?_
                refine .seq <| .region <| .e (.assign rfl) rfl rfl <| .nil <| .go <| .ret ?_
                refine .ret ?_
                refine .tail <| .tail <| .tail ?_
                refine Post.retE rfl rfl ?_
                refine congrArg (Value.int .i64) ?_
                unfold bookWhy bookOk
                have g12 : b.nodes.length ≤ 16 := by omega
                have g18 : b.tasks.length ≤ 32 := by omega
                simp only [g12, g18, h23, h28, h34, h41, h48, decide_true, decide_false, Bool.true_and, Bool.and_true, Bool.false_and, Bool.and_false, ↓reduceIte, Bool.false_eq_true]
            · skip
              refine .off rfl rfl <| .off rfl rfl <| .off rfl rfl <| .off rfl rfl <| .e (.pickF rfl rfl) rfl rfl <| .e (.assign rfl) rfl rfl ?_
              refine .nil <| .go <| .seq <| .region <| .e (.move rfl) rfl rfl <| .e (.move rfl) rfl rfl ?_
              refine .off rfl rfl <| .off rfl rfl <| .off rfl rfl <| .off rfl rfl <| .off rfl rfl <| .e (.pickF rfl rfl) rfl rfl ?_
              refine .e (.assign rfl) rfl rfl <| .nil <| .go <| .seq <| .region <| .e (.move rfl) rfl rfl ?_
              refine .e (.move rfl) rfl rfl <| .off rfl rfl <| .off rfl rfl <| .off rfl rfl <| .off rfl rfl <| .off rfl rfl ?_
              refine .e (.pickF rfl rfl) rfl rfl <| .e (.assign rfl) rfl rfl <| .nil <| .go <| .seq <| .seq ?_
              refine .region <| .e (.move rfl) rfl rfl <| .e (.not rfl) rfl rfl <| .nil <| .go <| .cond_true rfl ?_
              refine .seq <| .region <| .e (.assign rfl) rfl rfl <| .nil <| .go <| .ret ?_
              refine .ret ?_
              refine .tail <| .tail <| .tail ?_
              refine Post.retE rfl rfl ?_
              refine congrArg (Value.int .i64) ?_
              unfold bookWhy bookOk
              have g12 : b.nodes.length ≤ 16 := by omega
              have g18 : b.tasks.length ≤ 32 := by omega
              simp only [g12, g18, h23, h28, h34, h41, decide_true, decide_false, Bool.true_and, Bool.and_true, Bool.false_and, Bool.and_false, ↓reduceIte, Bool.false_eq_true]
          · skip
            refine .off rfl rfl <| .off rfl rfl <| .off rfl rfl <| .off rfl rfl <| .e (.pickF rfl rfl) rfl rfl <| .e (.assign rfl) rfl rfl ?_
            refine .nil <| .go <| .seq <| .region <| .e (.move rfl) rfl rfl <| .e (.move rfl) rfl rfl ?_
            refine .off rfl rfl <| .off rfl rfl <| .off rfl rfl <| .off rfl rfl <| .e (.pickF rfl rfl) rfl rfl <| .e (.assign rfl) rfl rfl ?_
            refine .nil <| .go <| .seq <| .region <| .e (.move rfl) rfl rfl <| .e (.move rfl) rfl rfl ?_
            refine .off rfl rfl <| .off rfl rfl <| .off rfl rfl <| .off rfl rfl <| .off rfl rfl <| .e (.pickF rfl rfl) rfl rfl ?_
            refine .e (.assign rfl) rfl rfl <| .nil <| .go <| .seq <| .region <| .e (.move rfl) rfl rfl ?_
            refine .e (.move rfl) rfl rfl <| .off rfl rfl <| .off rfl rfl <| .off rfl rfl <| .off rfl rfl <| .off rfl rfl ?_
            refine .e (.pickF rfl rfl) rfl rfl <| .e (.assign rfl) rfl rfl <| .nil <| .go <| .seq <| .seq ?_
            refine .region <| .e (.move rfl) rfl rfl <| .e (.not rfl) rfl rfl <| .nil <| .go <| .cond_true rfl ?_
            refine .seq <| .region <| .e (.assign rfl) rfl rfl <| .nil <| .go <| .ret ?_
            refine .ret ?_
            refine .tail <| .tail <| .tail ?_
            refine Post.retE rfl rfl ?_
            refine congrArg (Value.int .i64) ?_
            unfold bookWhy bookOk
            have g12 : b.nodes.length ≤ 16 := by omega
            have g18 : b.tasks.length ≤ 32 := by omega
            simp only [g12, g18, h23, h28, h34, decide_true, decide_false, Bool.true_and, Bool.and_true, Bool.false_and, Bool.and_false, ↓reduceIte, Bool.false_eq_true]
        · skip
          refine .off rfl rfl <| .off rfl rfl <| .off rfl rfl <| .e (.pickF rfl rfl) rfl rfl <| .e (.assign rfl) rfl rfl <| .nil ?_
          refine .go <| .seq <| .region <| .e (.move rfl) rfl rfl <| .e (.move rfl) rfl rfl <| .off rfl rfl ?_
          refine .off rfl rfl <| .off rfl rfl <| .off rfl rfl <| .e (.pickF rfl rfl) rfl rfl <| .e (.assign rfl) rfl rfl <| .nil ?_
          refine .go <| .seq <| .region <| .e (.move rfl) rfl rfl <| .e (.move rfl) rfl rfl <| .off rfl rfl ?_
          refine .off rfl rfl <| .off rfl rfl <| .off rfl rfl <| .e (.pickF rfl rfl) rfl rfl <| .e (.assign rfl) rfl rfl <| .nil ?_
          refine .go <| .seq <| .region <| .e (.move rfl) rfl rfl <| .e (.move rfl) rfl rfl <| .off rfl rfl ?_
          refine .off rfl rfl <| .off rfl rfl <| .off rfl rfl <| .off rfl rfl <| .e (.pickF rfl rfl) rfl rfl <| .e (.assign rfl) rfl rfl ?_
          refine .nil <| .go <| .seq <| .region <| .e (.move rfl) rfl rfl <| .e (.move rfl) rfl rfl ?_
          refine .off rfl rfl <| .off rfl rfl <| .off rfl rfl <| .off rfl rfl <| .off rfl rfl <| .e (.pickF rfl rfl) rfl rfl ?_
          refine .e (.assign rfl) rfl rfl <| .nil <| .go <| .seq <| .seq <| .region ?_
          refine .e (.move rfl) rfl rfl <| .e (.not rfl) rfl rfl <| .nil <| .go <| .cond_true rfl <| .seq ?_
          refine .region <| .e (.assign rfl) rfl rfl <| .nil <| .go <| .ret <| .ret ?_
          refine .tail <| .tail <| .tail ?_
          refine Post.retE rfl rfl ?_
          refine congrArg (Value.int .i64) ?_
          unfold bookWhy bookOk
          have g12 : b.nodes.length ≤ 16 := by omega
          have g18 : b.tasks.length ≤ 32 := by omega
          simp only [g12, g18, h23, h28, decide_true, decide_false, Bool.true_and, Bool.and_true, Bool.false_and, Bool.and_false, ↓reduceIte, Bool.false_eq_true]
      · skip
        refine .off rfl rfl <| .off rfl rfl <| .off rfl rfl <| .e (.pickF rfl rfl) rfl rfl <| .e (.move rfl) rfl rfl <| .off rfl rfl ?_
        refine .off rfl rfl <| .off rfl rfl <| .e (.pickF rfl rfl) rfl rfl <| .e (.assign rfl) rfl rfl <| .nil <| .go ?_
        refine .seq <| .region <| .e (.move rfl) rfl rfl <| .e (.move rfl) rfl rfl <| .off rfl rfl <| .off rfl rfl ?_
        refine .off rfl rfl <| .off rfl rfl <| .e (.pickF rfl rfl) rfl rfl <| .e (.assign rfl) rfl rfl <| .nil <| .go ?_
        refine .seq <| .region <| .e (.move rfl) rfl rfl <| .e (.move rfl) rfl rfl <| .off rfl rfl <| .off rfl rfl ?_
        refine .off rfl rfl <| .off rfl rfl <| .e (.pickF rfl rfl) rfl rfl <| .e (.assign rfl) rfl rfl <| .nil <| .go ?_
        refine .seq <| .region <| .e (.move rfl) rfl rfl <| .e (.move rfl) rfl rfl <| .off rfl rfl <| .off rfl rfl ?_
        refine .off rfl rfl <| .off rfl rfl <| .off rfl rfl <| .e (.pickF rfl rfl) rfl rfl <| .e (.assign rfl) rfl rfl <| .nil ?_
        refine .go <| .seq <| .region <| .e (.move rfl) rfl rfl <| .e (.move rfl) rfl rfl <| .off rfl rfl ?_
        refine .off rfl rfl <| .off rfl rfl <| .off rfl rfl <| .off rfl rfl <| .e (.pickF rfl rfl) rfl rfl <| .e (.assign rfl) rfl rfl ?_
        refine .nil <| .go <| .seq <| .seq <| .region <| .e (.move rfl) rfl rfl ?_
        refine .e (.not rfl) rfl rfl <| .nil <| .go <| .cond_true rfl <| .seq <| .region ?_
        refine .e (.assign rfl) rfl rfl <| .nil <| .go <| .ret <| .ret ?_
        refine .tail <| .tail <| .tail ?_
        refine Post.retE rfl rfl ?_
        refine congrArg (Value.int .i64) ?_
        unfold bookWhy bookOk
        have g12 : b.nodes.length ≤ 16 := by omega
        have g18 : b.tasks.length ≤ 32 := by omega
        simp only [g12, g18, h23, decide_true, decide_false, Bool.true_and, Bool.and_true, Bool.false_and, Bool.and_false, ↓reduceIte, Bool.false_eq_true]
    · skip
      replace h18 := of_decide_eq_false h18
      refine .off rfl rfl <| .off rfl rfl <| .off rfl rfl <| .e (.pickF rfl rfl) rfl rfl <| .e (.move rfl) rfl rfl <| .off rfl rfl ?_
      refine .off rfl rfl <| .off rfl rfl <| .e (.pickF rfl rfl) rfl rfl <| .e (.move rfl) rfl rfl <| .off rfl rfl <| .off rfl rfl ?_
      refine .off rfl rfl <| .e (.pickF rfl rfl) rfl rfl <| .e (.assign rfl) rfl rfl <| .nil <| .go <| .seq ?_
      refine .region <| .e (.move rfl) rfl rfl <| .e (.move rfl) rfl rfl <| .off rfl rfl <| .off rfl rfl <| .off rfl rfl ?_
      refine .off rfl rfl <| .e (.pickF rfl rfl) rfl rfl <| .e (.assign rfl) rfl rfl <| .nil <| .go <| .seq ?_
      refine .region <| .e (.move rfl) rfl rfl <| .e (.move rfl) rfl rfl <| .off rfl rfl <| .off rfl rfl <| .off rfl rfl ?_
      refine .off rfl rfl <| .e (.pickF rfl rfl) rfl rfl <| .e (.assign rfl) rfl rfl <| .nil <| .go <| .seq ?_
      refine .region <| .e (.move rfl) rfl rfl <| .e (.move rfl) rfl rfl <| .off rfl rfl <| .off rfl rfl <| .off rfl rfl ?_
      refine .off rfl rfl <| .off rfl rfl <| .e (.pickF rfl rfl) rfl rfl <| .e (.assign rfl) rfl rfl <| .nil <| .go ?_
      refine .seq <| .region <| .e (.move rfl) rfl rfl <| .e (.move rfl) rfl rfl <| .off rfl rfl <| .off rfl rfl ?_
      refine .off rfl rfl <| .off rfl rfl <| .off rfl rfl <| .e (.pickF rfl rfl) rfl rfl <| .e (.assign rfl) rfl rfl <| .nil ?_
      refine .go <| .seq <| .seq <| .region <| .e (.move rfl) rfl rfl <| .e (.not rfl) rfl rfl ?_
      refine .nil <| .go <| .cond_true rfl <| .seq <| .region <| .e (.assign rfl) rfl rfl ?_
      refine .nil <| .go <| .ret <| .ret ?_
      refine .tail <| .tail <| .tail ?_
      refine Post.retE rfl rfl ?_
      refine congrArg (Value.int .i64) ?_
      unfold bookWhy bookOk
      have g12 : b.nodes.length ≤ 16 := by omega
      have g18 : ¬b.tasks.length ≤ 32 := by omega
      simp only [g12, g18, decide_true, decide_false, Bool.true_and, Bool.and_true, Bool.false_and, Bool.and_false, ↓reduceIte, Bool.false_eq_true]
  · skip
    replace h12 := of_decide_eq_false h12
    refine .off rfl rfl <| .off rfl rfl <| .off rfl rfl <| .off rfl rfl <| .e (.pickF rfl rfl) rfl rfl <| .e (.move rfl) rfl rfl ?_
    refine .off rfl rfl <| .off rfl rfl <| .off rfl rfl <| .e (.pickF rfl rfl) rfl rfl <| .e (.move rfl) rfl rfl <| .off rfl rfl ?_
    refine .off rfl rfl <| .off rfl rfl <| .e (.pickF rfl rfl) rfl rfl <| .e (.move rfl) rfl rfl <| .off rfl rfl <| .off rfl rfl ?_
    refine .off rfl rfl <| .e (.pickF rfl rfl) rfl rfl <| .e (.assign rfl) rfl rfl <| .nil <| .go <| .seq ?_
    refine .region <| .e (.move rfl) rfl rfl <| .e (.move rfl) rfl rfl <| .off rfl rfl <| .off rfl rfl <| .off rfl rfl ?_
    refine .off rfl rfl <| .e (.pickF rfl rfl) rfl rfl <| .e (.assign rfl) rfl rfl <| .nil <| .go <| .seq ?_
    refine .region <| .e (.move rfl) rfl rfl <| .e (.move rfl) rfl rfl <| .off rfl rfl <| .off rfl rfl <| .off rfl rfl ?_
    refine .off rfl rfl <| .e (.pickF rfl rfl) rfl rfl <| .e (.assign rfl) rfl rfl <| .nil <| .go <| .seq ?_
    refine .region <| .e (.move rfl) rfl rfl <| .e (.move rfl) rfl rfl <| .off rfl rfl <| .off rfl rfl <| .off rfl rfl ?_
    refine .off rfl rfl <| .off rfl rfl <| .e (.pickF rfl rfl) rfl rfl <| .e (.assign rfl) rfl rfl <| .nil <| .go ?_
    refine .seq <| .region <| .e (.move rfl) rfl rfl <| .e (.move rfl) rfl rfl <| .off rfl rfl <| .off rfl rfl ?_
    refine .off rfl rfl <| .off rfl rfl <| .off rfl rfl <| .e (.pickF rfl rfl) rfl rfl <| .e (.assign rfl) rfl rfl <| .nil ?_
    refine .go <| .seq <| .seq <| .region <| .e (.move rfl) rfl rfl <| .e (.not rfl) rfl rfl ?_
    refine .nil <| .go <| .cond_true rfl <| .seq <| .region <| .e (.assign rfl) rfl rfl ?_
    refine .nil <| .go <| .ret <| .ret ?_
    refine .tail <| .tail <| .tail ?_
    refine Post.retE rfl rfl ?_
    refine congrArg (Value.int .i64) ?_
    unfold bookWhy bookOk
    have g12 : ¬b.nodes.length ≤ 16 := by omega
    simp only [g12, decide_true, decide_false, Bool.true_and, Bool.and_true, Bool.false_and, Bool.and_false, ↓reduceIte, Bool.false_eq_true]

end Go.Proofs.YtajpakifkinadaaGreatDoor
