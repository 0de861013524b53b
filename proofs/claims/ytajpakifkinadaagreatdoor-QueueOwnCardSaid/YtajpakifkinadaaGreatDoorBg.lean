/- Walks of functions over a symbolic memory, printed by a program of the session. -/
import Derived.Test.YtajpakifkinadaaGreatDoorBf
namespace Go.Proofs.YtajpakifkinadaaGreatDoor
open Go.Sy
set_option linter.unusedSimpArgs false
set_option linter.unusedVariables false

set_option maxHeartbeats 1000000 in
set_option maxRecDepth 20000 in
theorem wellClo_ok {I : Imm} {O : Own} {cs tc : List Value} {u t : Tsk} {cb : Nat} (hc : Has O cb (.cells ⟨tc⟩ 34 (0, 0))) (ht : TskR I tc t) (hu : TskR I cs u) :
    Pure Tryz.prog 87 [.agg ⟨cs⟩, .pointer (some ⟨cb, 0, none⟩)] I O (.bool (!bear t u)) := by
  have ht0 := ht
  have hu0 := hu
  obtain ⟨xw, xb, rfl, hxw, hxb⟩ := ht.ex
  obtain ⟨yw, yb, rfl, hyw, hyb⟩ := hu.ex
  obtain ⟨_, _, rfl, -⟩ := hxw
  obtain ⟨_, _, rfl, -⟩ := hxb
  obtain ⟨_, _, rfl, -⟩ := hyw
  obtain ⟨_, _, rfl, -⟩ := hyb
  refine Go.Sy.Does.enter Tryz.func87 rfl Tryz.ntmps87 rfl ?_
  refine .seq <| .region <| .on rfl <| .box rfl rfl rfl fun c1 _ _ => .e (.assign rfl) rfl rfl <| .nil <| .go ?_
  refine .seq <| .region <| .e (.loadW ag34 sz34 rfl (.there <| hc) rfl) rfl rfl <| .e (.loadW ag34 sz34 rfl .here rfl) rfl rfl <| .on rfl <| .callP cal88 rfl rfl rfl (Bear_ok ht0 hu0) <| .e (.not rfl) rfl rfl ?_
  refine .e (.assign rfl) rfl rfl <| .nil <| .go <| .ret ?_
  refine .tail ?_
  refine Post.retE rfl rfl ?_
  rfl

set_option maxHeartbeats 1000000 in
set_option maxRecDepth 20000 in
theorem well_ok {I : Imm} {O : Own} {kc : List Value} {b : Bk} {kb : Nat} (hb : Has O kb (.cells ⟨kc⟩ 66 (0, 0))) (hk : BkR I kc b) {nc : List Value} {n : Nod} (hn : NodR I nc n) (hr : Rising (fun x : Tsk => x.name) b.tasks) (hsm : b.tasks.length ≤ 4611686018427387903) (hbl : b.binds.length ≤ 32) :
    Pure Tryz.prog 47 [.pointer (some ⟨kb, 0, none⟩), .agg ⟨nc⟩] I O (.bool (wellR b n)) := by
  have hk0 := hk
  obtain ⟨nv, tv, bv, rfl, hnv, htv, hbv⟩ := hk.ex
  have hnv0 := hnv
  have htv0 := htv
  have hbv0 := hbv
  obtain ⟨na, ncap, rfl, hn1, hn2, -⟩ := hnv
  obtain ⟨ta, tcap, rfl, ht1, ht2, -⟩ := htv
  obtain ⟨ba, bcap, rfl, hb1, hb2, -⟩ := hbv
  have hn0 := hn
  obtain ⟨xl, xt, rfl, hxl, hxt⟩ := hn.ex
  obtain ⟨xla, xlc, rfl, -⟩ := hxl
  obtain ⟨xta, xtc, rfl, -⟩ := hxt
  obtain ⟨L, hL⟩ : ∃ L, thereR b n.name = L := ⟨_, rfl⟩
  refine Go.Sy.Does.enter Tryz.func47 rfl Tryz.ntmps47 rfl ?_
  refine .seq <| .region <| .on rfl <| .box rfl rfl rfl fun c1 _ _ => .e (.assign rfl) rfl rfl <| .nil <| .go ?_
  refine .seq <| .region <| .e (.move rfl) rfl rfl <| .e (.fieldAddr fo32_0 rfl) rfl rfl <| .e (.load ag9 rfl .here rfl) rfl rfl <| .on rfl <| .call cal57 rfl rfl rfl (there_ok (.there <| hb) hk0 hr hsm hbl) fun v13 I13 O13 hI13 hK13 => ?_
  obtain ⟨rfl, hl13⟩ := hK13
  have hl130 := hl13
  obtain ⟨la13, lc13, rfl, hl131, hl132, -⟩ := hl13
  refine .e (.assign rfl) rfl rfl <| .nil <| .go <| .seq <| .region <| .e (.move rfl) rfl rfl ?_
  rw [hL] at hl130 hl131
  rw [hL]
  refine .on rfl <| .callP cal75 rfl rfl rfl (Sum_ok hl130) <| .e (.move rfl) rfl rfl <| .e (.extract rfl rfl) rfl rfl <| .e (.extract rfl rfl) rfl rfl <| .on rfl <| .alloc zr29 rfl fun c2 _ _ => .on rfl <| .storeW sz29 rfl rfl rfl rfl rfl rfl .here ?_
  refine .e (.assign rfl) rfl rfl <| .nil <| .go <| .seq <| .seq <| .region ?_
  refine .e (.move rfl) rfl rfl <| .e (.neq rfl rfl) rfl rfl <| .e (.move rfl) rfl rfl ?_
  refine .split 21 rfl (fun h21 => ?_) (fun h21 => ?_)
  · skip
    first | replace h21 := of_decide_eq_false ((Bool.not_eq_true' _).mp h21) | replace h21 := of_decide_eq_false (by simpa using h21)
    refine .off rfl rfl <| .off rfl rfl <| .off rfl rfl <| .off rfl rfl <| .off rfl rfl <| .e (.pickT rfl rfl) rfl rfl ?_
    refine .nil <| .go <| .cond_true rfl <| .seq <| .region <| .e (.assign rfl) rfl rfl ?_
    refine .nil <| .go <| .ret <| .ret ?_
    refine .tail <| .tail ?_
    refine .back hI13 ?_
    refine Post.retE rfl rfl ?_
    refine congrArg Value.bool ?_
    unfold wellR
    rw [hL]
    simp_all
  · skip
    first | replace h21 := of_decide_eq_true ((Bool.not_eq_false' _).mp h21) | replace h21 := of_decide_eq_true (by simpa using h21)
    refine .e (.loadW ag32 sz32 rfl (.there <| .here) rfl) rfl rfl <| .e (.loadW ag29 sz29 rfl .here rfl) rfl rfl <| .e (.buildA ar29 zv29 rfl rfl) rfl rfl <| .on rfl <| .callP cal85 rfl rfl rfl (Room_ok (u := (sumR L).1) (d := ⟨0, 0, 0⟩) (hn0.mono hI13)) <| .e (.not rfl) rfl rfl <| .e (.pickF rfl rfl) rfl rfl ?_
    refine .nil <| .go ?_
    refine .split 27 rfl (fun h27 => ?_) (fun h27 => ?_)
    · skip
      refine .cond_true rfl <| .seq <| .region <| .e (.assign rfl) rfl rfl <| .nil <| .go ?_
      refine .ret <| .ret ?_
      refine .tail <| .tail ?_
      refine .back hI13 ?_
      refine Post.retE rfl rfl ?_
      refine congrArg Value.bool ?_
      unfold wellR
      rw [hL]
      simp_all
    · skip
      refine .cond_false rfl <| .skip <| .go <| .seq <| .seq <| .region ?_
      refine .e (.move rfl) rfl rfl <| .e (.len sl23 rfl rfl) rfl rfl <| .e (.move rfl) rfl rfl <| .nil <| .go <| .block ?_
      refine .loopM [4, 8, 9, 30, 31, 32, 33, 34, 35, 36, 37, 38, 39, 40, 41, 42, 43, 44, 45, 46] (fun k => L.length - k) (fun k => k ≤ L.length ∧ fitTo n L k = true) (fun k => [(30, .int .i64 k)]) (fun _ => _) (fun _ => _) (0) ⟨Nat.zero_le _, rfl⟩ ⟨rfl, trivial⟩ rfl rfl ?_
      intro k hk
      obtain ⟨hkk, hw⟩ := hk
      refine .seq <| .region <| .e (.lss rfl rfl) rfl rfl <| .nil <| .go <| .seq ?_
      refine .split 31 rfl (fun h31 => ?_) (fun h31 => ?_)
      · skip
        replace h31 := of_decide_eq_true h31
        refine .cond_true rfl <| .skip <| .go <| .seq <| .block <| .seq ?_
        refine .region <| .e (.move rfl) rfl rfl ?_
        obtain ⟨eb33, eo33, cs33, hd33, hat33, hr33⟩ := SlR.at_ hl130 (k := k) (by omega)
        cases hd33
        have ht33 := hr33
        obtain ⟨xw33, xb33, rfl, hxw33, hxb33⟩ := hr33.ex
        obtain ⟨xa33, xc33, rfl, -⟩ := hxw33
        obtain ⟨xd33, xe33, rfl, -⟩ := hxb33
        refine .e (.indexAddrL sl23 rfl rfl rfl (by omega)) rfl rfl <| .e (.loadIA ag34 sz34 rfl hat33 rfl) rfl rfl <| .on rfl <| .alloc zr34 rfl fun c3 _ _ => .e (.assign rfl) rfl rfl <| .on rfl <| .storeW sz34 rfl rfl rfl rfl rfl rfl .here <| .nil ?_
        refine .go <| .seq <| .region <| .e (.loadW ag34 sz34 rfl .here rfl) rfl rfl <| .e (.loadW ag32 sz32 rfl (.there <| .there <| .here) rfl) rfl rfl <| .on rfl <| .callP cal86 rfl rfl rfl (Suits_ok ht33 (hn0.mono hI13)) ?_
        refine .e (.not rfl) rfl rfl <| .e (.move rfl) rfl rfl ?_
        refine .split 39 rfl (fun h39 => ?_) (fun h39 => ?_)
        · skip
          refine .off rfl rfl <| .off rfl rfl <| .off rfl rfl <| .off rfl rfl <| .off rfl rfl <| .e (.pickT rfl rfl) rfl rfl ?_
          refine .nil <| .go <| .cond_true rfl <| .seq <| .region <| .e (.assign rfl) rfl rfl ?_
          refine .nil <| .go <| .ret <| .blk_ret <| .ret <| .ret ?_
          refine .blk_ret <| .ret ?_
          refine .tail <| .tail <| .tail ?_
          refine .back hI13 ?_
          refine Post.retE rfl rfl ?_
          refine congrArg Value.bool ?_
          unfold wellR
          rw [hL]
          rw [fit_bad (k := k) (show k < L.length by omega) (by unfold fitAt; rw [tskD (show k < L.length by omega)]; simp_all)]
          simp
        · skip
          refine .e (.move rfl) rfl rfl <| .e (.move rfl) rfl rfl <| .e (.sliceHn sl23 rfl rfl rfl (by omega)) rfl rfl <| .e (.makeFunc rfl rfl) rfl rfl <| .on rfl <| .callP cal40 rfl rfl rfl (hasTsk_ok (p := fun u => !bear (L[k]'(by omega)) u) (us := [.pointer (some ⟨c3, 0, none⟩)]) (SlR.takeN hl130 (by omega)) cal87 (fun cs x _ hx => wellClo_ok .here ht33 hx)) <| .e (.pickF rfl rfl) rfl rfl ?_
          refine .nil <| .go ?_
          refine .split 45 rfl (fun h45 => ?_) (fun h45 => ?_)
          · skip
            refine .cond_true rfl <| .seq <| .region <| .e (.assign rfl) rfl rfl <| .nil <| .go ?_
            refine .ret <| .blk_ret <| .ret <| .ret <| .blk_ret <| .ret ?_
            refine .tail <| .tail <| .tail ?_
            refine .back hI13 ?_
            refine Post.retE rfl rfl ?_
            refine congrArg Value.bool ?_
            unfold wellR
            rw [hL]
            rw [fit_bad (k := k) (show k < L.length by omega) (by unfold fitAt; rw [tskD (show k < L.length by omega)]; simp_all)]
            simp
          · skip
            refine .cond_false rfl <| .skip <| .blk_normal <| .go <| .region <| .e (.add rfl rfl (by first | exact wrap_succ (by omega) | exact IntWalk.i64_in _ (by omega) | exact rfl)) rfl rfl ?_
            refine .e (.move rfl) rfl rfl <| .nil ?_
            refine .tail ?_
            exact .mid (k + 1) ⟨by omega, by omega, fit_step hw (by unfold fitAt; rw [tskD (show k < L.length by omega)]; simp_all)⟩ ⟨rfl, trivial⟩ rfl rfl (.pre 22 rfl (.app rfl .base))
      · skip
        replace h31 := of_decide_eq_false h31
        refine .cond_false rfl <| .exit <| .exit <| .exit <| .blk_exit <| .go ?_
        refine .seq <| .region <| .e (.assign rfl) rfl rfl <| .nil <| .go <| .ret ?_
        refine .tail <| .tail ?_
        refine .back hI13 ?_
        refine Post.retE rfl rfl ?_
        refine congrArg Value.bool ?_
        unfold wellR
        rw [hL]
        have ek : k = L.length := by omega
        subst ek
        simp_all

theorem can_no1 {a : Bool} {p : Tsk → Bool} {L : List Tsk} {k : Nat} (h : (a && (L.take k).all p) = false) : (a && L.all p) = false := by
  rw [Bool.and_eq_false_iff] at h ⊢
  refine h.imp id fun h => ?_
  rw [Bool.eq_false_iff] at h ⊢
  exact fun h2 => h (List.all_eq_true.2 fun x hx => List.all_eq_true.1 h2 x (List.mem_of_mem_take hx))
theorem can_no2 {a : Bool} {p : Tsk → Bool} {L : List Tsk} {k : Nat} (hk : k < L.length) (h : (!p L[k]) = true) : (a && L.all p) = false := by
  rw [Bool.and_eq_false_iff]
  refine .inr (Bool.eq_false_iff.2 fun h2 => ?_)
  rw [List.all_eq_true.1 h2 _ (List.getElem_mem hk)] at h
  cases h

set_option maxHeartbeats 4000000 in
set_option maxRecDepth 20000 in
theorem kcan_ok {I : Imm} {O : Own} {kc : List Value} {b : Bk} {kb : Nat} (hb : Has O kb (.cells ⟨kc⟩ 66 (0, 0))) (hk : BkR I kc b) {task node : ByteArray} (hrn : Rising (fun x : Nod => x.name) b.nodes) (hrt : Rising (fun x : Tsk => x.name) b.tasks) (hrb : Rising (fun x : Bnd => x.task) b.binds) (hsn : b.nodes.length ≤ 4611686018427387903) (hst : b.tasks.length ≤ 4611686018427387903) (hbl : b.binds.length ≤ 32) :
    Pure Tryz.prog 59 [.pointer (some ⟨kb, 0, none⟩), .string task, .string node] I O (.int .i64 (canR b task node)) := by
  have hk0 := hk
  obtain ⟨nv, tv, bv, rfl, hnv, htv, hbv⟩ := hk.ex
  have hnv0 := hnv
  have htv0 := htv
  have hbv0 := hbv
  obtain ⟨na, ncap, rfl, hn1, hn2, -⟩ := hnv
  obtain ⟨ta, tcap, rfl, ht1, ht2, -⟩ := htv
  obtain ⟨ba, bcap, rfl, hb1, hb2, -⟩ := hbv
  refine Go.Sy.Does.enter Tryz.func59 rfl Tryz.ntmps59 rfl ?_
  refine .seq <| .region <| .e (.assign rfl) rfl rfl <| .nil <| .go <| .scope ?_
  refine .seq <| .region <| .e (.move rfl) rfl rfl <| .e (.move rfl) rfl rfl <| .on rfl <| .callP cal45 rfl rfl rfl (ktask_ok (hb) hk0 hrt hst) <| .e (.move rfl) rfl rfl ?_
  refine .e (.extract rfl rfl) rfl rfl <| .e (.extract rfl rfl) rfl rfl <| .e (.assign rfl) rfl rfl <| .e (.assign rfl) rfl rfl <| .nil <| .go ?_
  refine .seq <| .region <| .e (.move rfl) rfl rfl <| .e (.move rfl) rfl rfl <| .on rfl <| .callP cal44 rfl rfl rfl (knode_ok (hb) hk0 hrn hsn) <| .e (.move rfl) rfl rfl ?_
  refine .e (.extract rfl rfl) rfl rfl <| .e (.extract rfl rfl) rfl rfl <| .e (.assign rfl) rfl rfl <| .e (.assign rfl) rfl rfl <| .nil <| .go ?_
  refine .seq <| .seq <| .region <| .e (.move rfl) rfl rfl <| .e (.not rfl) rfl rfl <| .e (.move rfl) rfl rfl ?_
  refine .split 34 rfl (fun h34 => ?_) (fun h34 => ?_)
  · skip
    refine .off rfl rfl <| .off rfl rfl <| .e (.pickT rfl rfl) rfl rfl <| .nil <| .go <| .cond_true rfl ?_
    refine .seq <| .region <| .e (.assign rfl) rfl rfl <| .nil <| .go <| .ret ?_
    refine .ret <| .sc_ret ?_
    refine Post.retE rfl rfl ?_
    exact congrArg (Value.int .i64) (canR_none (.inl (by simpa [hasT] using h34))).symm
  · skip
    have hT34 := (Bool.not_eq_false' _).mp h34
    obtain ⟨hpt, -⟩ := has_get hrt hT34
    refine .e (.move rfl) rfl rfl <| .e (.not rfl) rfl rfl <| .e (.pickF rfl rfl) rfl rfl <| .nil <| .go ?_
    refine .split 37 rfl (fun h37 => ?_) (fun h37 => ?_)
    · skip
      refine .cond_true rfl <| .seq <| .region <| .e (.assign rfl) rfl rfl <| .nil <| .go ?_
      refine .ret <| .ret <| .sc_ret ?_
      refine Post.retE rfl rfl ?_
      exact congrArg (Value.int .i64) (canR_none (.inr (by simpa [hasN] using h37))).symm
    · skip
      have hN37 := (Bool.not_eq_false' _).mp h37
      obtain ⟨hpn, -⟩ := has_get hrn hN37
      refine .cond_false rfl <| .skip <| .go <| .seq <| .seq <| .region ?_
      refine .e (.move rfl) rfl rfl <| .e (.move rfl) rfl rfl <| .on rfl <| .callP cal60 rfl rfl rfl (kbind_ok (hb) hk0 hrb (by omega)) <| .e (.move rfl) rfl rfl <| .e (.extract rfl rfl) rfl rfl <| .e (.extract rfl rfl) rfl rfl ?_
      refine .e (.assign rfl) rfl rfl <| .e (.assign rfl) rfl rfl <| .nil <| .go <| .seq <| .region ?_
      refine .e (.move rfl) rfl rfl <| .nil <| .go ?_
      refine .split 44 rfl (fun h44 => ?_) (fun h44 => ?_)
      · skip
        refine .cond_true rfl <| .seq <| .region <| .e (.assign rfl) rfl rfl <| .nil <| .go ?_
        refine .ret <| .ret <| .sc_ret ?_
        refine Post.retE rfl rfl ?_
        refine congrArg (Value.int .i64) ?_
        rw [canR_some hrt hrn hT34 hN37]
        rw [if_pos (show hasB b task = true from h44)]
      · skip
        refine .cond_false rfl <| .skip <| .go <| .seq <| .region <| .e (.move rfl) rfl rfl ?_
        refine .e (.move rfl) rfl rfl <| .on rfl <| .call cal57 rfl rfl rfl (there_ok (hb) hk0 hrt hst hbl) fun v47 I47 O47 hI47 hK47 => ?_
        obtain ⟨rfl, hl47⟩ := hK47
        have hl470 := hl47
        obtain ⟨la47, lc47, rfl, hl471, hl472, -⟩ := hl47
        refine .e (.assign rfl) rfl rfl <| .nil <| .go <| .seq <| .region <| .e (.move rfl) rfl rfl ?_
        obtain ⟨L, hL⟩ : ∃ L, thereR b node = L := ⟨_, rfl⟩
        rw [hL] at hl470 hl471
        rw [hL]
        refine .on rfl <| .callP cal75 rfl rfl rfl (Sum_ok hl470) <| .e (.move rfl) rfl rfl <| .e (.extract rfl rfl) rfl rfl <| .e (.extract rfl rfl) rfl rfl <| .on rfl <| .alloc zr29 rfl fun c1 _ _ => .on rfl <| .storeW sz29 rfl rfl rfl rfl rfl rfl .here ?_
        refine .e (.assign rfl) rfl rfl <| .nil <| .go <| .seq <| .region <| .e (.move rfl) rfl rfl ?_
        refine .e (.nilCheck rfl) rfl rfl <| .e (.fieldAddr fo66_0 rfl) rfl rfl <| .e (.fieldAddr fo27_1 rfl) rfl rfl <| .e (.load ag23 rfl (.there <| hb) rfl) rfl rfl <| .e (.move rfl) rfl rfl ?_
        obtain ⟨eb59, eo59, cs59, hd59, hat59, hr59⟩ := SlR.at_ (htv0.mono hI47) (k := posBy (fun x : Tsk => x.name) b.tasks task) hpt
        cases hd59
        obtain ⟨t, ht⟩ : ∃ t, b.tasks[posBy (fun x : Tsk => x.name) b.tasks task]'hpt = t := ⟨_, rfl⟩
        rw [ht] at hr59
        have htK := hr59
        obtain ⟨xw59, xb59, rfl, hxw59, hxb59⟩ := hr59.ex
        obtain ⟨xa59, xc59, rfl, -⟩ := hxw59
        obtain ⟨xd59, xe59, rfl, -⟩ := hxb59
        refine .e (.indexAddrL sl23 rfl rfl rfl hpt) rfl rfl <| .e (.loadIA ag34 sz34 rfl hat59 rfl) rfl rfl <| .on rfl <| .alloc zr34 rfl fun c2 _ _ => .on rfl <| .storeW sz34 rfl rfl rfl rfl rfl rfl .here <| .nil <| .go ?_
        refine .seq ?_
        refine .draw [(c2, _), (c1, _)] mixed (.cons .here (.cons (.there <| .here) .nil)) ?_
        refine .t 0 rfl (.loadW ag34 sz34 rfl .here rfl) rfl rfl (by kernel_rfl) <| .t 1 rfl (.move rfl) rfl rfl (by kernel_rfl) <| .t 2 rfl (.nilCheck rfl) rfl rfl (by kernel_rfl) <| .t 3 rfl (.fieldAddr fo66_0 rfl) rfl rfl (by kernel_rfl) <| .t 4 rfl (.fieldAddr fo27_0 rfl) rfl rfl (by kernel_rfl) <| .t 6 rfl (.move rfl) rfl rfl (by kernel_rfl) ?_
        refine .one (i := 5) (by kernel_rfl) rfl rfl ?_
        refine .ev (.load ag22 rfl (.there <| .there <| hb) rfl) rfl ⟨(.cons .here (.cons (.there <| .here) .nil)), Imm.le_refl _, ?_⟩
        obtain ⟨eb68, eo68, cs68, hd68, hat68, hr68⟩ := SlR.at_ (hnv0.mono hI47) (k := posBy (fun x : Nod => x.name) b.nodes node) hpn
        cases hd68
        obtain ⟨n, hn⟩ : ∃ n, b.nodes[posBy (fun x : Nod => x.name) b.nodes node]'hpn = n := ⟨_, rfl⟩
        rw [hn] at hr68
        have hn68 := hr68
        obtain ⟨xf68, xg68, rfl, hxf68, hxg68⟩ := hr68.ex
        obtain ⟨xh68, xi68, rfl, -⟩ := hxf68
        obtain ⟨xj68, xk68, rfl, -⟩ := hxg68
        refine .t 7 rfl (.indexAddrL sl22 rfl rfl rfl hpn) rfl rfl (by kernel_rfl) <| .t 8 rfl (.loadIA ag32 sz32 rfl hat68 rfl) rfl rfl (by kernel_rfl) <| .one (i := 9) (by kernel_rfl) rfl rfl <| .callP cal86 rfl rfl rfl (Suits_ok htK hn68) ?_
        refine ⟨(.cons .here (.cons (.there <| .here) .nil)), Imm.le_refl _, ?_⟩
        refine .t 10 rfl (.move rfl) rfl rfl (by kernel_rfl) ?_
        refine .split 71 rfl (fun h71 => ?_) (fun h71 => ?_)
        · skip
          refine .t 11 rfl (.move rfl) rfl rfl (by kernel_rfl) <| .t 12 rfl (.nilCheck rfl) rfl rfl (by kernel_rfl) <| .t 13 rfl (.fieldAddr fo66_0 rfl) rfl rfl (by kernel_rfl) <| .t 14 rfl (.fieldAddr fo27_0 rfl) rfl rfl (by kernel_rfl) <| .t 16 rfl (.move rfl) rfl rfl (by kernel_rfl) <| .t 19 rfl (.loadW ag29 sz29 rfl (.there <| .here) rfl) rfl rfl (by kernel_rfl) ?_
          refine .t 20 rfl (.fieldAddr fo34_1 rfl) rfl rfl (by kernel_rfl) <| .t 21 rfl (.loadP ag29 sz29 rfl .here rfl) rfl rfl (by kernel_rfl) <| .one (i := 15) (by kernel_rfl) rfl rfl ?_
          refine .ev (.load ag22 rfl (.there <| .there <| hb) rfl) rfl ⟨(.cons .here (.cons (.there <| .here) .nil)), Imm.le_refl _, ?_⟩
          obtain ⟨eb78, eo78, cs78, hd78, hat78, hr78⟩ := SlR.at_ (hnv0.mono hI47) (k := posBy (fun x : Nod => x.name) b.nodes node) hpn
          cases hd78
          rw [hn] at hr78
          have hn78 := hr78
          obtain ⟨xf78, xg78, rfl, hxf78, hxg78⟩ := hr78.ex
          obtain ⟨xh78, xi78, rfl, -⟩ := hxf78
          obtain ⟨xj78, xk78, rfl, -⟩ := hxg78
          refine .t 17 rfl (.indexAddrL sl22 rfl rfl rfl hpn) rfl rfl (by kernel_rfl) <| .t 18 rfl (.loadIA ag32 sz32 rfl hat78 rfl) rfl rfl (by kernel_rfl) <| .one (i := 22) (by kernel_rfl) rfl rfl <| .callP cal85 rfl rfl rfl (Room_ok (u := (sumR L).1) (d := t.needs) hn78) ?_
          refine ⟨(.cons .here (.cons (.there <| .here) .nil)), Imm.le_refl _, ?_⟩
          refine .t 23 rfl (.pickT rfl rfl) rfl rfl (by kernel_rfl) <| .t 24 rfl (.assign rfl) rfl rfl (by kernel_rfl) <| .done (by kernel_rfl) <| .go <| .seq <| .label ?_
          refine .go <| .seq <| .seq <| .region <| .e (.move rfl) rfl rfl <| .e (.len sl23 rfl rfl) rfl rfl ?_
          refine .e (.move rfl) rfl rfl <| .nil <| .go <| .block ?_
          refine .loopM [17, 19, 87, 88, 89, 90, 91, 92, 93, 94, 95, 96, 97, 98, 99] (fun k => L.length - k) (fun k => k ≤ L.length) (fun k => [(87, .int .i64 k), (17, .bool ((suits t n && room n (sumR L).1 t.needs) && (L.take k).all (bear t)))]) (fun _ => _) (fun _ => _) (0) (Nat.zero_le _) ⟨rfl, congrArg (fun x => some (Value.bool x)) (by simp_all), trivial⟩ rfl rfl ?_
          intro k hk
          refine .seq <| .region <| .e (.lss rfl rfl) rfl rfl <| .nil <| .go <| .seq ?_
          refine .split 88 rfl (fun h88 => ?_) (fun h88 => ?_)
          · skip
            replace h88 := of_decide_eq_true h88
            refine .cond_true rfl <| .skip <| .go <| .seq <| .block <| .seq ?_
            refine .region ?_
            obtain ⟨eb89, eo89, cs89, hd89, hat89, hr89⟩ := SlR.at_ hl470 (k := k) (by omega)
            cases hd89
            have ht89 := hr89
            obtain ⟨xw89, xb89, rfl, hxw89, hxb89⟩ := hr89.ex
            obtain ⟨xa89, xc89, rfl, -⟩ := hxw89
            obtain ⟨xd89, xe89, rfl, -⟩ := hxb89
            refine .e (.indexAddrL sl23 rfl rfl rfl (by omega)) rfl rfl <| .e (.loadIA ag34 sz34 rfl hat89 rfl) rfl rfl <| .on rfl <| .alloc zr34 rfl fun c3 _ _ => .on rfl <| .storeW sz34 rfl rfl rfl rfl rfl rfl .here <| .nil <| .go ?_
            refine .seq <| .region <| .e (.move rfl) rfl rfl <| .e (.move rfl) rfl rfl ?_
            refine .split 92 rfl (fun h92 => ?_) (fun h92 => ?_)
            · skip
              refine .e (.loadW ag34 sz34 rfl (.there <| .here) rfl) rfl rfl <| .e (.loadW ag34 sz34 rfl .here rfl) rfl rfl <| .on rfl <| .callP cal88 rfl rfl rfl (Bear_ok htK ht89) <| .e (.pickT rfl rfl) rfl rfl <| .e (.assign rfl) rfl rfl <| .nil ?_
              refine .go <| .seq <| .region <| .e (.move rfl) rfl rfl <| .e (.not rfl) rfl rfl <| .nil ?_
              refine .go ?_
              refine .split 98 rfl (fun h98 => ?_) (fun h98 => ?_)
              · skip
                refine .cond_true rfl <| .exit <| .blk_other rfl <| .exit <| .exit <| .blk_exit ?_
                refine .go <| .seq <| .seq <| .region <| .e (.move rfl) rfl rfl <| .e (.not rfl) rfl rfl ?_
                refine .nil <| .go ?_
                refine .split 101 rfl (fun h101 => ?_) (fun h101 => ?_)
                · skip
                  refine .cond_true rfl <| .seq <| .region <| .e (.assign rfl) rfl rfl <| .nil <| .go ?_
                  refine .ret <| .ret <| .sc_ret ?_
                  refine .tail <| .tail <| .tail ?_
                  refine .back hI47 ?_
                  refine Post.retE rfl rfl ?_
                  refine congrArg (Value.int .i64) ?_
                  rw [canR_some hrt hrn hT34 hN37]
                  rw [if_neg (show ¬hasB b task = true by simpa [hasB] using h44), hL]
                  simp only [ht, hn]
                  unfold canT
                  rw [hL, if_neg (Bool.eq_false_iff.1 (can_no2 (show k < L.length by omega) h98))]
                · skip
                  refine .cond_false rfl <| .skip <| .go <| .seq <| .region <| .e (.assign rfl) rfl rfl ?_
                  refine .nil <| .go <| .ret <| .sc_ret ?_
                  refine .tail <| .tail <| .tail ?_
                  refine .back hI47 ?_
                  refine Post.retE rfl rfl ?_
                  simp_all
              · skip
                refine .cond_false rfl <| .skip <| .blk_normal <| .go <| .region <| .e (.add rfl rfl (by first | exact wrap_succ (by omega) | exact IntWalk.i64_in _ (by omega) | exact rfl)) rfl rfl ?_
                refine .e (.move rfl) rfl rfl <| .nil ?_
                refine .tail ?_
                exact .mid (k + 1) ⟨by omega, by omega⟩ ⟨rfl, congrArg (fun x => some (Value.bool x)) (by rw [List.take_succ_eq_append_getElem (show k < L.length by omega), List.all_append]; simp_all), trivial⟩ rfl rfl (.pre 18 rfl (.app rfl .base))
            · skip
              refine .off rfl rfl <| .off rfl rfl <| .off rfl rfl <| .e (.pickF rfl rfl) rfl rfl <| .e (.assign rfl) rfl rfl <| .nil ?_
              refine .go <| .seq <| .region <| .e (.move rfl) rfl rfl <| .e (.not rfl) rfl rfl <| .nil ?_
              refine .go <| .cond_true rfl <| .exit <| .blk_other rfl <| .exit <| .exit ?_
              refine .blk_exit <| .go <| .seq <| .seq <| .region <| .e (.move rfl) rfl rfl ?_
              refine .e (.not rfl) rfl rfl <| .nil <| .go <| .cond_true rfl <| .seq <| .region ?_
              refine .e (.assign rfl) rfl rfl <| .nil <| .go <| .ret <| .ret <| .sc_ret ?_
              refine .tail <| .tail <| .tail ?_
              refine .back hI47 ?_
              refine Post.retE rfl rfl ?_
              refine congrArg (Value.int .i64) ?_
              rw [canR_some hrt hrn hT34 hN37]
              rw [if_neg (show ¬hasB b task = true by simpa [hasB] using h44), hL]
              simp only [ht, hn]
              unfold canT
              rw [hL, if_neg (Bool.eq_false_iff.1 (can_no1 (k := k) (by simpa using h92)))]
          · skip
            replace h88 := of_decide_eq_false h88
            refine .cond_false rfl <| .exit <| .exit <| .exit <| .blk_exit <| .go ?_
            refine .seq <| .seq <| .region <| .e (.move rfl) rfl rfl <| .e (.not rfl) rfl rfl <| .nil ?_
            refine .go ?_
            refine .split 101 rfl (fun h101 => ?_) (fun h101 => ?_)
            · skip
              refine .cond_true rfl <| .seq <| .region <| .e (.assign rfl) rfl rfl <| .nil <| .go ?_
              refine .ret <| .ret <| .sc_ret ?_
              refine .tail <| .tail ?_
              refine .back hI47 ?_
              refine Post.retE rfl rfl ?_
              refine congrArg (Value.int .i64) ?_
              rw [canR_some hrt hrn hT34 hN37]
              rw [if_neg (show ¬hasB b task = true by simpa [hasB] using h44), hL]
              simp only [ht, hn]
              have eL : L.take k = L := List.take_of_length_le (by omega)
              rw [eL] at h101
              unfold canT
              rw [hL]
              rw [if_neg (Bool.eq_false_iff.1 ((Bool.not_eq_true' _).mp h101))]
            · skip
              refine .cond_false rfl <| .skip <| .go <| .seq <| .region <| .e (.assign rfl) rfl rfl ?_
              refine .nil <| .go <| .ret <| .sc_ret ?_
              refine .tail <| .tail ?_
              refine .back hI47 ?_
              refine Post.retE rfl rfl ?_
              refine congrArg (Value.int .i64) ?_
              rw [canR_some hrt hrn hT34 hN37]
              rw [if_neg (show ¬hasB b task = true by simpa [hasB] using h44), hL]
              simp only [ht, hn]
              have eL : L.take k = L := List.take_of_length_le (by omega)
              rw [eL] at h101
              unfold canT
              rw [hL]
              rw [if_pos ((Bool.not_eq_false' _).mp h101)]
        · skip
          refine .s 11 rfl rfl rfl (by kernel_rfl) <| .s 12 rfl rfl rfl (by kernel_rfl) <| .s 13 rfl rfl rfl (by kernel_rfl) <| .s 14 rfl rfl rfl (by kernel_rfl) <| .s 15 rfl rfl rfl (by kernel_rfl) <| .s 16 rfl rfl rfl (by kernel_rfl) ?_
          refine .s 17 rfl rfl rfl (by kernel_rfl) <| .s 18 rfl rfl rfl (by kernel_rfl) <| .s 19 rfl rfl rfl (by kernel_rfl) <| .s 20 rfl rfl rfl (by kernel_rfl) <| .s 21 rfl rfl rfl (by kernel_rfl) <| .none_ (i := 22) (by kernel_rfl) rfl rfl rfl ?_
          refine .t 23 rfl (.pickF rfl rfl) rfl rfl (by kernel_rfl) <| .t 24 rfl (.assign rfl) rfl rfl (by kernel_rfl) <| .done (by kernel_rfl) <| .go <| .seq <| .label ?_
          refine .go <| .seq <| .seq <| .region <| .e (.move rfl) rfl rfl <| .e (.len sl23 rfl rfl) rfl rfl ?_
          refine .e (.move rfl) rfl rfl <| .nil <| .go <| .block ?_
          refine .loopM [17, 19, 87, 88, 89, 90, 91, 92, 93, 94, 95, 96, 97, 98, 99] (fun k => L.length - k) (fun k => k ≤ L.length) (fun k => [(87, .int .i64 k), (17, .bool ((suits t n && room n (sumR L).1 t.needs) && (L.take k).all (bear t)))]) (fun _ => _) (fun _ => _) (0) (Nat.zero_le _) ⟨rfl, congrArg (fun x => some (Value.bool x)) (by simp_all), trivial⟩ rfl rfl ?_
          intro k hk
          refine .seq <| .region <| .e (.lss rfl rfl) rfl rfl <| .nil <| .go <| .seq ?_
          refine .split 88 rfl (fun h88 => ?_) (fun h88 => ?_)
          · skip
            replace h88 := of_decide_eq_true h88
            refine .cond_true rfl <| .skip <| .go <| .seq <| .block <| .seq ?_
            refine .region ?_
            obtain ⟨eb89, eo89, cs89, hd89, hat89, hr89⟩ := SlR.at_ hl470 (k := k) (by omega)
            cases hd89
            have ht89 := hr89
            obtain ⟨xw89, xb89, rfl, hxw89, hxb89⟩ := hr89.ex
            obtain ⟨xa89, xc89, rfl, -⟩ := hxw89
            obtain ⟨xd89, xe89, rfl, -⟩ := hxb89
            refine .e (.indexAddrL sl23 rfl rfl rfl (by omega)) rfl rfl <| .e (.loadIA ag34 sz34 rfl hat89 rfl) rfl rfl <| .on rfl <| .alloc zr34 rfl fun c4 _ _ => .on rfl <| .storeW sz34 rfl rfl rfl rfl rfl rfl .here <| .nil <| .go ?_
            refine .seq <| .region <| .e (.move rfl) rfl rfl <| .e (.move rfl) rfl rfl ?_
            refine .split 92 rfl (fun h92 => ?_) (fun h92 => ?_)
            · skip
              refine .e (.loadW ag34 sz34 rfl (.there <| .here) rfl) rfl rfl <| .e (.loadW ag34 sz34 rfl .here rfl) rfl rfl <| .on rfl <| .callP cal88 rfl rfl rfl (Bear_ok htK ht89) <| .e (.pickT rfl rfl) rfl rfl <| .e (.assign rfl) rfl rfl <| .nil ?_
              refine .go <| .seq <| .region <| .e (.move rfl) rfl rfl <| .e (.not rfl) rfl rfl <| .nil ?_
              refine .go ?_
              refine .split 98 rfl (fun h98 => ?_) (fun h98 => ?_)
              · skip
                refine .cond_true rfl <| .exit <| .blk_other rfl <| .exit <| .exit <| .blk_exit ?_
                refine .go <| .seq <| .seq <| .region <| .e (.move rfl) rfl rfl <| .e (.not rfl) rfl rfl ?_
                refine .nil <| .go ?_
                refine .split 101 rfl (fun h101 => ?_) (fun h101 => ?_)
                · skip
                  refine .cond_true rfl <| .seq <| .region <| .e (.assign rfl) rfl rfl <| .nil <| .go ?_
                  refine .ret <| .ret <| .sc_ret ?_
                  refine .tail <| .tail <| .tail ?_
                  refine .back hI47 ?_
                  refine Post.retE rfl rfl ?_
                  refine congrArg (Value.int .i64) ?_
                  rw [canR_some hrt hrn hT34 hN37]
                  rw [if_neg (show ¬hasB b task = true by simpa [hasB] using h44), hL]
                  simp only [ht, hn]
                  unfold canT
                  rw [hL, if_neg (Bool.eq_false_iff.1 (can_no2 (show k < L.length by omega) h98))]
                · skip
                  refine .cond_false rfl <| .skip <| .go <| .seq <| .region <| .e (.assign rfl) rfl rfl ?_
                  refine .nil <| .go <| .ret <| .sc_ret ?_
                  refine .tail <| .tail <| .tail ?_
                  refine .back hI47 ?_
                  refine Post.retE rfl rfl ?_
                  simp_all
              · skip
                refine .cond_false rfl <| .skip <| .blk_normal <| .go <| .region <| .e (.add rfl rfl (by first | exact wrap_succ (by omega) | exact IntWalk.i64_in _ (by omega) | exact rfl)) rfl rfl ?_
                refine .e (.move rfl) rfl rfl <| .nil ?_
                refine .tail ?_
                exact .mid (k + 1) ⟨by omega, by omega⟩ ⟨rfl, congrArg (fun x => some (Value.bool x)) (by rw [List.take_succ_eq_append_getElem (show k < L.length by omega), List.all_append]; simp_all), trivial⟩ rfl rfl (.pre 18 rfl (.app rfl .base))
            · skip
              refine .off rfl rfl <| .off rfl rfl <| .off rfl rfl <| .e (.pickF rfl rfl) rfl rfl <| .e (.assign rfl) rfl rfl <| .nil ?_
              refine .go <| .seq <| .region <| .e (.move rfl) rfl rfl <| .e (.not rfl) rfl rfl <| .nil ?_
              refine .go <| .cond_true rfl <| .exit <| .blk_other rfl <| .exit <| .exit ?_
              refine .blk_exit <| .go <| .seq <| .seq <| .region <| .e (.move rfl) rfl rfl ?_
              refine .e (.not rfl) rfl rfl <| .nil <| .go <| .cond_true rfl <| .seq <| .region ?_
              refine .e (.assign rfl) rfl rfl <| .nil <| .go <| .ret <| .ret <| .sc_ret ?_
              refine .tail <| .tail <| .tail ?_
              refine .back hI47 ?_
              refine Post.retE rfl rfl ?_
              refine congrArg (Value.int .i64) ?_
              rw [canR_some hrt hrn hT34 hN37]
              rw [if_neg (show ¬hasB b task = true by simpa [hasB] using h44), hL]
              simp only [ht, hn]
              unfold canT
              rw [hL, if_neg (Bool.eq_false_iff.1 (can_no1 (k := k) (by simpa using h92)))]
          · skip
            replace h88 := of_decide_eq_false h88
            refine .cond_false rfl <| .exit <| .exit <| .exit <| .blk_exit <| .go ?_
            refine .seq <| .seq <| .region <| .e (.move rfl) rfl rfl <| .e (.not rfl) rfl rfl <| .nil ?_
            refine .go ?_
            refine .split 101 rfl (fun h101 => ?_) (fun h101 => ?_)
            · skip
              refine .cond_true rfl <| .seq <| .region <| .e (.assign rfl) rfl rfl <| .nil <| .go ?_
              refine .ret <| .ret <| .sc_ret ?_
              refine .tail <| .tail ?_
              refine .back hI47 ?_
              refine Post.retE rfl rfl ?_
              refine congrArg (Value.int .i64) ?_
              rw [canR_some hrt hrn hT34 hN37]
              rw [if_neg (show ¬hasB b task = true by simpa [hasB] using h44), hL]
              simp only [ht, hn]
              have eL : L.take k = L := List.take_of_length_le (by omega)
              rw [eL] at h101
              unfold canT
              rw [hL]
              rw [if_neg (Bool.eq_false_iff.1 ((Bool.not_eq_true' _).mp h101))]
            · skip
              refine .cond_false rfl <| .skip <| .go <| .seq <| .region <| .e (.assign rfl) rfl rfl ?_
              refine .nil <| .go <| .ret <| .sc_ret ?_
              refine .tail <| .tail ?_
              refine .back hI47 ?_
              refine Post.retE rfl rfl ?_
              refine congrArg (Value.int .i64) ?_
              rw [canR_some hrt hrn hT34 hN37]
              rw [if_neg (show ¬hasB b task = true by simpa [hasB] using h44), hL]
              simp only [ht, hn]
              have eL : L.take k = L := List.take_of_length_le (by omega)
              rw [eL] at h101
              unfold canT
              rw [hL]
              rw [if_pos ((Bool.not_eq_false' _).mp h101)]

end Go.Proofs.YtajpakifkinadaaGreatDoor
