/- Walks of functions over a symbolic memory, printed by a program of the session. -/
import Derived.Test.YtmmokaockpghaaaGreatDoorQe
namespace Go.Proofs.YtmmokaockpghaaaGreatDoor
open Go.Sy
set_option linter.unusedSimpArgs false
set_option linter.unusedVariables false

set_option maxHeartbeats 16000000 in
set_option maxRecDepth 20000 in
theorem QueueEach_ok {I : Imm} {O : Own} {kc : List Value} {b : Bk} (hk : BkR I kc b) :
    Pure Tryz.prog 4 [.agg ⟨kc⟩] I O (.bool true) := by
  have hk0 := hk
  obtain ⟨nv, tv, bv, rfl, hnv, htv, hbv⟩ := hk.ex
  have hnv0 := hnv
  have htv0 := htv
  have hbv0 := hbv
  obtain ⟨na, ncap, rfl, hn1, hn2, -⟩ := hnv
  obtain ⟨ta, tcap, rfl, ht1, ht2, -⟩ := htv
  obtain ⟨ba, bcap, rfl, hb1, hb2, -⟩ := hbv
  refine Go.Sy.Does.enter Tryz.func4 rfl Tryz.ntmps4 rfl ?_
  refine .seq <| .region <| .on rfl <| .box rfl rfl rfl fun c1 _ _ => .e (.assign rfl) rfl rfl <| .nil <| .go ?_
  refine .seq <| .seq <| .region <| .on rfl <| .callP cal20 rfl rfl rfl (qlives_ok) <| .e (.not rfl) rfl rfl <| .nil ?_
  refine .go <| .cond_false rfl <| .skip <| .go <| .seq <| .region ?_
  refine .e (.loadW ag27 sz27 rfl .here rfl) rfl rfl <| .on rfl <| .call cal14 rfl rfl rfl (waitF hk0) fun v17 I17 O17 hI17 hK17 => ?_
  obtain ⟨W, e, hW⟩ : ∃ W e, waitQ b = (W, e) := ⟨_, _, rfl⟩
  rw [hW] at hK17
  dsimp only at hK17
  obtain ⟨rfl, u17, rfl, hl17⟩ := hK17
  have hl170 := hl17
  obtain ⟨la17, lc17, rfl, hl171, hl172, -⟩ := hl17
  refine .e (.move rfl) rfl rfl <| .e (.extract rfl rfl) rfl rfl <| .e (.extract rfl rfl) rfl rfl <| .e (.assign rfl) rfl rfl <| .e (.assign rfl) rfl rfl <| .nil ?_
  refine .go <| .seq <| .seq <| .region <| .e (.move rfl) rfl rfl <| .e (.neq rfl rfl) rfl rfl ?_
  refine .nil <| .go ?_
  refine .split 21 rfl (fun h21 => ?_) (fun h21 => ?_)
  · skip
    first | replace h21 := of_decide_eq_false ((Bool.not_eq_true' _).mp h21) | replace h21 := of_decide_eq_false (by simpa using h21)
    have hW0 := waitQ_out hW h21
    refine .cond_true rfl <| .seq <| .region <| .e (.move rfl) rfl rfl <| .e (.len sl23 rfl rfl) rfl rfl <| .e ((EV.cast (u := .bool true) (.eql rfl rfl) (congrArg Value.bool (decide_eq_true (by rw [hW0.1]; rfl))))) rfl rfl ?_
    refine .e (.move rfl) rfl rfl <| .e (.loadW ag27 sz27 rfl .here rfl) rfl rfl <| .on rfl <| .callP cal23 rfl rfl rfl (bCheck_ok (hk0.mono hI17)) <| .e (.move rfl) rfl rfl <| .e ((EV.cast (u := .bool true) (.eql rfl rfl) (congrArg Value.bool (decide_eq_true (hW0.2.symm))))) rfl rfl <| .e (.pickT rfl rfl) rfl rfl ?_
    refine .e (.assign rfl) rfl rfl <| .nil <| .go <| .ret <| .ret ?_
    refine .tail ?_
    refine .back hI17 ?_
    refine Post.retE rfl rfl ?_
    rfl
  · skip
    first | replace h21 := of_decide_eq_true ((Bool.not_eq_false' _).mp h21) | replace h21 := of_decide_eq_true (by simpa using h21)
    obtain ⟨hok, rfl⟩ := waitQ_in hW h21
    have hWl := wait_few hok
    have hbt := hok.tasks
    have hbb := hok.binds
    refine .cond_false rfl <| .skip <| .go <| .seq <| .seq <| .region ?_
    refine .e (.assign rfl) rfl rfl <| .nil <| .go <| .block ?_
    refine .loopM [2, 5, 31, 32, 33, 34, 35, 36, 37, 38, 39, 40, 41, 42, 43, 44, 45, 46, 47, 48, 49, 50, 51, 52, 53, 54, 55, 56, 57, 58, 59, 60, 61, 62, 63, 64, 65, 66, 67, 68, 69, 70, 71, 72, 73, 74, 75, 76] (fun i => (waitR b).length + 1 - i) (fun i => 1 ≤ i) (fun i => [(5, .int .i64 i)]) (fun _ => _) (fun _ => _) (1) (Nat.le_refl 1) ⟨rfl, trivial⟩ rfl rfl ?_
    intro i hi1
    refine .seq <| .seq <| .region <| .e (.move rfl) rfl rfl <| .e (.move rfl) rfl rfl <| .e (.len sl23 rfl rfl) rfl rfl ?_
    refine .e (.lss rfl rfl) rfl rfl <| .nil <| .go ?_
    refine .split 34 rfl (fun h34 => ?_) (fun h34 => ?_)
    · skip
      replace h34 := of_decide_eq_true h34
      refine .cond_true rfl <| .skip <| .go <| .seq <| .block <| .seq ?_
      refine .draw [] mixed .nil ?_
      refine .t 0 rfl (.move rfl) rfl rfl (by kernel_rfl) <| .t 1 rfl (.move rfl) rfl rfl (by kernel_rfl) <| .t 2 rfl (.sub rfl rfl rfl) rfl rfl (by kernel_rfl) ?_
      have hm39 : IntKind.i64.wrap ((i : Int) - 1) = ((i - 1 : Nat) : Int) := wrap_pred (by omega) (by omega)
      have hA := wait_adj hok hi1 (show i < (waitR b).length by omega)
      rw [ahead_iff] at hA
      obtain ⟨eb40, eo40, cs40, hd40, hat40, hr40⟩ := SlR.at_ hl170 (k := i - 1) (by omega)
      cases hd40
      have ht40 := hr40
      obtain ⟨xw40, xb40, rfl, hxw40, hxb40⟩ := hr40.ex
      obtain ⟨xa40, xc40, rfl, -⟩ := hxw40
      obtain ⟨xd40, xe40, rfl, -⟩ := hxb40
      refine .t 3 rfl (.indexAddrL sl23 rfl rfl hm39 (by omega)) rfl rfl (by kernel_rfl) <| .t 4 rfl (.fieldAddr fo42_6 rfl) rfl rfl (by kernel_rfl) <| .t 5 rfl (.loadI ag3 rfl (hat40.cell (j := 8) rfl)) rfl rfl (by kernel_rfl) <| .t 6 rfl (.move rfl) rfl rfl (by kernel_rfl) <| .t 7 rfl (.move rfl) rfl rfl (by kernel_rfl) ?_
      obtain ⟨eb45, eo45, cs45, hd45, hat45, hr45⟩ := SlR.at_ hl170 (k := i) (by omega)
      cases hd45
      have ht45 := hr45
      obtain ⟨xw45, xb45, rfl, hxw45, hxb45⟩ := hr45.ex
      obtain ⟨xa45, xc45, rfl, -⟩ := hxw45
      obtain ⟨xd45, xe45, rfl, -⟩ := hxb45
      refine .t 8 rfl (.indexAddrL sl23 rfl rfl rfl (by omega)) rfl rfl (by kernel_rfl) <| .t 9 rfl (.fieldAddr fo42_6 rfl) rfl rfl (by kernel_rfl) <| .t 10 rfl (.loadI ag3 rfl (hat45.cell (j := 8) rfl)) rfl rfl (by kernel_rfl) <| .t 11 rfl ((EV.cast (u := .bool false) (.lss rfl rfl) (congrArg Value.bool (decide_eq_false (by omega))))) rfl rfl (by kernel_rfl) <| .t 12 rfl (.move rfl) rfl rfl (by kernel_rfl) <| .t 13 rfl (.move rfl) rfl rfl (by kernel_rfl) ?_
      refine .t 14 rfl (.move rfl) rfl rfl (by kernel_rfl) <| .t 15 rfl (.sub rfl rfl rfl) rfl rfl (by kernel_rfl) ?_
      have hm52 : IntKind.i64.wrap ((i : Int) - 1) = ((i - 1 : Nat) : Int) := wrap_pred (by omega) (by omega)
      obtain ⟨eb53, eo53, cs53, hd53, hat53, hr53⟩ := SlR.at_ hl170 (k := i - 1) (by omega)
      cases hd53
      have ht53 := hr53
      obtain ⟨xw53, xb53, rfl, hxw53, hxb53⟩ := hr53.ex
      obtain ⟨xa53, xc53, rfl, -⟩ := hxw53
      obtain ⟨xd53, xe53, rfl, -⟩ := hxb53
      refine .t 16 rfl (.indexAddrL sl23 rfl rfl hm52 (by omega)) rfl rfl (by kernel_rfl) <| .t 17 rfl (.fieldAddr fo42_6 rfl) rfl rfl (by kernel_rfl) <| .t 18 rfl (.loadI ag3 rfl (hat53.cell (j := 8) rfl)) rfl rfl (by kernel_rfl) <| .t 19 rfl (.move rfl) rfl rfl (by kernel_rfl) <| .t 20 rfl (.move rfl) rfl rfl (by kernel_rfl) ?_
      obtain ⟨eb58, eo58, cs58, hd58, hat58, hr58⟩ := SlR.at_ hl170 (k := i) (by omega)
      cases hd58
      have ht58 := hr58
      obtain ⟨xw58, xb58, rfl, hxw58, hxb58⟩ := hr58.ex
      obtain ⟨xa58, xc58, rfl, -⟩ := hxw58
      obtain ⟨xd58, xe58, rfl, -⟩ := hxb58
      refine .t 21 rfl (.indexAddrL sl23 rfl rfl rfl (by omega)) rfl rfl (by kernel_rfl) <| .t 22 rfl (.fieldAddr fo42_6 rfl) rfl rfl (by kernel_rfl) <| .t 23 rfl (.loadI ag3 rfl (hat58.cell (j := 8) rfl)) rfl rfl (by kernel_rfl) <| .t 24 rfl (.eql rfl rfl) rfl rfl (by kernel_rfl) <| .t 25 rfl (.move rfl) rfl rfl (by kernel_rfl) ?_
      refine .split 62 rfl (fun h62 => ?_) (fun h62 => ?_)
      · skip
        replace h62 := of_decide_eq_true h62
        refine .t 26 rfl (.move rfl) rfl rfl (by kernel_rfl) <| .t 27 rfl (.move rfl) rfl rfl (by kernel_rfl) <| .t 28 rfl (.sub rfl rfl rfl) rfl rfl (by kernel_rfl) ?_
        have hm65 : IntKind.i64.wrap ((i : Int) - 1) = ((i - 1 : Nat) : Int) := wrap_pred (by omega) (by omega)
        obtain ⟨eb66, eo66, cs66, hd66, hat66, hr66⟩ := SlR.at_ hl170 (k := i - 1) (by omega)
        cases hd66
        have ht66 := hr66
        obtain ⟨xw66, xb66, rfl, hxw66, hxb66⟩ := hr66.ex
        obtain ⟨xa66, xc66, rfl, -⟩ := hxw66
        obtain ⟨xd66, xe66, rfl, -⟩ := hxb66
        refine .t 29 rfl (.indexAddrL sl23 rfl rfl hm65 (by omega)) rfl rfl (by kernel_rfl) <| .t 30 rfl (.fieldAddr fo42_0 rfl) rfl rfl (by kernel_rfl) <| .t 31 rfl (.loadI ag9 rfl (hat66.cell (j := 0) rfl)) rfl rfl (by kernel_rfl) <| .t 32 rfl (.move rfl) rfl rfl (by kernel_rfl) <| .t 33 rfl (.move rfl) rfl rfl (by kernel_rfl) ?_
        obtain ⟨eb71, eo71, cs71, hd71, hat71, hr71⟩ := SlR.at_ hl170 (k := i) (by omega)
        cases hd71
        have ht71 := hr71
        obtain ⟨xw71, xb71, rfl, hxw71, hxb71⟩ := hr71.ex
        obtain ⟨xa71, xc71, rfl, -⟩ := hxw71
        obtain ⟨xd71, xe71, rfl, -⟩ := hxb71
        refine .t 34 rfl (.indexAddrL sl23 rfl rfl rfl (by omega)) rfl rfl (by kernel_rfl) <| .t 35 rfl (.fieldAddr fo42_0 rfl) rfl rfl (by kernel_rfl) <| .t 36 rfl (.loadI ag9 rfl (hat71.cell (j := 0) rfl)) rfl rfl (by kernel_rfl) <| .t 37 rfl ((EV.cast (u := .bool false) (.strge rfl rfl) (congrArg Value.bool (by rw [show slt (waitR b)[i - 1].name (waitR b)[i].name = true by rcases hA with h | h; omega; exact h.2]; rfl)))) rfl rfl (by kernel_rfl) <| .t 38 rfl (.pickT rfl rfl) rfl rfl (by kernel_rfl) <| .t 39 rfl (.pickF rfl rfl) rfl rfl (by kernel_rfl) ?_
        refine .done (by kernel_rfl) <| .go <| .cond_false rfl <| .skip <| .blk_normal <| .go ?_
        refine .region <| .e (.move rfl) rfl rfl <| .e (.add rfl rfl (by first | exact wrap_succ (by omega) | exact IntWalk.i64_in _ (by omega) | exact rfl)) rfl rfl <| .e (.assign rfl) rfl rfl <| .nil ?_
        exact .mid (i + 1) ⟨by omega, by omega⟩ ⟨rfl, trivial⟩ rfl rfl (.pre 49 rfl (.app rfl .base))
      · skip
        replace h62 := of_decide_eq_false h62
        refine .s 26 rfl rfl rfl (by kernel_rfl) <| .s 27 rfl rfl rfl (by kernel_rfl) <| .s 28 rfl rfl rfl (by kernel_rfl) <| .s 29 rfl rfl rfl (by kernel_rfl) <| .s 30 rfl rfl rfl (by kernel_rfl) <| .s 31 rfl rfl rfl (by kernel_rfl) ?_
        refine .s 32 rfl rfl rfl (by kernel_rfl) <| .s 33 rfl rfl rfl (by kernel_rfl) <| .s 34 rfl rfl rfl (by kernel_rfl) <| .s 35 rfl rfl rfl (by kernel_rfl) <| .s 36 rfl rfl rfl (by kernel_rfl) <| .s 37 rfl rfl rfl (by kernel_rfl) ?_
        refine .t 38 rfl (.pickF rfl rfl) rfl rfl (by kernel_rfl) <| .t 39 rfl (.pickF rfl rfl) rfl rfl (by kernel_rfl) <| .done (by kernel_rfl) <| .go <| .cond_false rfl <| .skip ?_
        refine .blk_normal <| .go <| .region <| .e (.move rfl) rfl rfl <| .e (.add rfl rfl (by first | exact wrap_succ (by omega) | exact IntWalk.i64_in _ (by omega) | exact rfl)) rfl rfl <| .e (.assign rfl) rfl rfl ?_
        refine .nil ?_
        exact .mid (i + 1) ⟨by omega, by omega⟩ ⟨rfl, trivial⟩ rfl rfl (.pre 49 rfl (.app rfl .base))
    · skip
      replace h34 := of_decide_eq_false h34
      refine .cond_false rfl <| .exit <| .exit <| .exit <| .blk_exit <| .go ?_
      refine .seq <| .seq <| .region <| .e (.fieldAddr fo27_1 rfl) rfl rfl <| .e (.load ag23 rfl .here rfl) rfl rfl <| .e (.len sl23 rfl rfl) rfl rfl ?_
      refine .e (.move rfl) rfl rfl <| .nil <| .go <| .block ?_
      refine .loopM [2, 7, 8, 10, 12, 80, 81, 82, 83, 84, 85, 86, 87, 88, 89, 90, 91, 92, 93, 94, 95, 96, 97, 98, 99, 100, 101, 102, 103, 104, 105, 106, 107, 108, 109, 110, 111, 112, 113, 114, 115] (fun k => b.tasks.length - k) (fun k => k ≤ b.tasks.length) (fun k => [(80, .int .i64 k)]) (fun _ => _) (fun _ => _) (0) (Nat.zero_le _) ⟨rfl, trivial⟩ rfl rfl ?_
      intro k hkk
      refine .seq <| .region <| .e (.lss rfl rfl) rfl rfl <| .nil <| .go <| .seq ?_
      refine .split 81 rfl (fun h81 => ?_) (fun h81 => ?_)
      · skip
        replace h81 := of_decide_eq_true h81
        refine .cond_true rfl <| .skip <| .go <| .seq <| .block <| .seq ?_
        refine .region ?_
        obtain ⟨eb82, eo82, cs82, hd82, hat82, hr82⟩ := SlR.at_ (htv0.mono hI17) (k := k) (by omega)
        cases hd82
        have ht82 := hr82
        obtain ⟨xw82, xb82, rfl, hxw82, hxb82⟩ := hr82.ex
        obtain ⟨xa82, xc82, rfl, -⟩ := hxw82
        obtain ⟨xd82, xe82, rfl, -⟩ := hxb82
        refine .e (.indexAddrL sl23 rfl rfl rfl (by omega)) rfl rfl <| .e (.loadIA ag42 sz42 rfl hat82 rfl) rfl rfl <| .on rfl <| .alloc zr42 rfl fun c2 _ _ => .on rfl <| .storeW sz42 rfl rfl rfl rfl rfl rfl .here <| .nil <| .go ?_
        refine .seq <| .region <| .e (.assign rfl) rfl rfl <| .nil <| .go <| .seq ?_
        refine .seq <| .region <| .e (.move rfl) rfl rfl <| .e (.len sl23 rfl rfl) rfl rfl <| .e (.move rfl) rfl rfl <| .nil ?_
        refine .go <| .block ?_
        refine .loopM [8, 10, 86, 87, 88, 89, 90, 91, 92, 93, 94, 95, 96, 97] (fun j => (waitR b).length - j) (fun j => j ≤ (waitR b).length) (fun j => [(86, .int .i64 j), (8, .int .i64 (((waitR b).take j).countP (fun x : Tsk => decide (x.name = b.tasks[k].name)) : Nat))]) (fun _ => _) (fun _ => _) (0) (Nat.zero_le _) ⟨rfl, rfl, trivial⟩ rfl rfl ?_
        intro j hj
        have hcl := cnt_le (p := (fun x : Tsk => decide (x.name = b.tasks[k].name))) (l := waitR b) (k := j)
        refine .seq <| .region <| .e (.lss rfl rfl) rfl rfl <| .nil <| .go <| .seq ?_
        refine .split 87 rfl (fun h87 => ?_) (fun h87 => ?_)
        · skip
          replace h87 := of_decide_eq_true h87
          refine .cond_true rfl <| .skip <| .go <| .seq <| .block <| .seq ?_
          refine .region ?_
          obtain ⟨eb88, eo88, cs88, hd88, hat88, hr88⟩ := SlR.at_ hl170 (k := j) (by omega)
          cases hd88
          have ht88 := hr88
          obtain ⟨xw88, xb88, rfl, hxw88, hxb88⟩ := hr88.ex
          obtain ⟨xa88, xc88, rfl, -⟩ := hxw88
          obtain ⟨xd88, xe88, rfl, -⟩ := hxb88
          refine .e (.indexAddrL sl23 rfl rfl rfl (by omega)) rfl rfl <| .e (.loadIA ag42 sz42 rfl hat88 rfl) rfl rfl <| .on rfl <| .alloc zr42 rfl fun c3 _ _ => .on rfl <| .storeW sz42 rfl rfl rfl rfl rfl rfl .here <| .nil <| .go ?_
          refine .seq <| .region <| .e (.fieldAddr fo42_0 rfl) rfl rfl <| .e (.load ag9 rfl .here rfl) rfl rfl <| .e (.fieldAddr fo42_0 rfl) rfl rfl <| .e (.load ag9 rfl (.there <| .here) rfl) rfl rfl ?_
          refine .e (.streq rfl rfl) rfl rfl <| .nil <| .go ?_
          refine .split 94 rfl (fun h94 => ?_) (fun h94 => ?_)
          · skip
            replace h94 := of_decide_eq_true h94
            refine .cond_true rfl <| .region <| .e (.move rfl) rfl rfl <| .e (.add rfl rfl (by first | exact wrap_succ (by omega) | exact IntWalk.i64_in _ (by omega) | exact rfl)) rfl rfl <| .e (.assign rfl) rfl rfl <| .nil ?_
            refine .blk_normal <| .go <| .region <| .e (.add rfl rfl (by first | exact wrap_succ (by omega) | exact IntWalk.i64_in _ (by omega) | exact rfl)) rfl rfl <| .e (.move rfl) rfl rfl <| .nil ?_
            refine .tail ?_
            have e7 := cnt_step (p := (fun x : Tsk => decide (x.name = b.tasks[k].name))) (show j < (waitR b).length by omega)
            rw [if_pos (decide_eq_true h94)] at e7
            exact .mid (j + 1) ⟨by omega, by omega⟩ ⟨rfl, (by show some _ = some _; rw [e7]; first | done | rfl), trivial⟩ rfl rfl (.pre 16 rfl (.app rfl .base))
          · skip
            replace h94 := of_decide_eq_false h94
            refine .cond_false rfl <| .skip <| .blk_normal <| .go <| .region <| .e (.add rfl rfl (by first | exact wrap_succ (by omega) | exact IntWalk.i64_in _ (by omega) | exact rfl)) rfl rfl ?_
            refine .e (.move rfl) rfl rfl <| .nil ?_
            refine .tail ?_
            have e7 := cnt_step (p := (fun x : Tsk => decide (x.name = b.tasks[k].name))) (show j < (waitR b).length by omega)
            rw [if_neg (by rw [decide_eq_false h94]; simp)] at e7
            exact .mid (j + 1) ⟨by omega, by omega⟩ ⟨rfl, (by show some _ = some _; rw [e7]; first | done | rfl), trivial⟩ rfl rfl (.pre 13 rfl (.app rfl .base))
        · skip
          replace h87 := of_decide_eq_false h87
          refine .cond_false rfl <| .exit <| .exit <| .exit <| .blk_exit <| .go ?_
          refine .seq <| .seq <| .region <| .e (.fieldAddr fo27_2 rfl) rfl rfl <| .e (.load ag24 rfl (.there <| .here) rfl) rfl rfl <| .e (.len sl24 rfl rfl) rfl rfl ?_
          refine .e (.move rfl) rfl rfl <| .nil <| .go <| .block ?_
          refine .loopM [8, 12, 101, 102, 103, 104, 105, 106, 107, 108, 109, 110, 111, 112] (fun q => b.binds.length - q) (fun q => q ≤ b.binds.length) (fun q => [(101, .int .i64 q), (8, .int .i64 (((waitR b).countP (fun x : Tsk => decide (x.name = b.tasks[k].name)) + (b.binds.take q).countP (fun x : Bnd => decide (x.task = b.tasks[k].name)) : Nat) : Int))]) (fun _ => _) (fun _ => _) (0) (Nat.zero_le _) ⟨rfl, (by show some _ = some _; rw [List.take_of_length_le (show (waitR b).length ≤ j by omega)]; rfl), trivial⟩ rfl rfl ?_
          intro q hq
          have hcq := cnt_le (p := (fun x : Bnd => decide (x.task = b.tasks[k].name))) (l := b.binds) (k := q)
          have hcw : (waitR b).countP (fun x : Tsk => decide (x.name = b.tasks[k].name)) ≤ 32 := Nat.le_trans List.countP_le_length hWl
          refine .seq <| .region <| .e (.lss rfl rfl) rfl rfl <| .nil <| .go <| .seq ?_
          refine .split 102 rfl (fun h102 => ?_) (fun h102 => ?_)
          · skip
            replace h102 := of_decide_eq_true h102
            refine .cond_true rfl <| .skip <| .go <| .seq <| .block <| .seq ?_
            refine .region ?_
            obtain ⟨eb103, eo103, cs103, hd103, hat103, hr103⟩ := SlR.at_ (hbv0.mono hI17) (k := q) (by omega)
            cases hd103
            have hx103 := hr103
            obtain ⟨rfl, hx103a, hx103b⟩ := hr103
            refine .e (.indexAddrL sl24 rfl rfl rfl (by omega)) rfl rfl <| .e (.loadIA ag51 sz51 rfl hat103 rfl) rfl rfl <| .on rfl <| .alloc zr51 rfl fun c4 _ _ => .on rfl <| .storeW sz51 rfl rfl rfl rfl rfl rfl .here <| .nil <| .go ?_
            refine .seq <| .region <| .e (.fieldAddr fo51_0 rfl) rfl rfl <| .e (.load ag9 rfl .here rfl) rfl rfl <| .e (.fieldAddr fo42_0 rfl) rfl rfl <| .e (.load ag9 rfl (.there <| .here) rfl) rfl rfl ?_
            refine .e (.streq rfl rfl) rfl rfl <| .nil <| .go ?_
            refine .split 109 rfl (fun h109 => ?_) (fun h109 => ?_)
            · skip
              replace h109 := of_decide_eq_true h109
              refine .cond_true rfl <| .region <| .e (.move rfl) rfl rfl <| .e (.add rfl rfl (by first | exact wrap_succ (by omega) | exact IntWalk.i64_in _ (by omega) | exact rfl)) rfl rfl <| .e (.assign rfl) rfl rfl <| .nil ?_
              refine .blk_normal <| .go <| .region <| .e (.add rfl rfl (by first | exact wrap_succ (by omega) | exact IntWalk.i64_in _ (by omega) | exact rfl)) rfl rfl <| .e (.move rfl) rfl rfl <| .nil ?_
              refine .tail ?_
              have e7 := cnt_step (p := (fun x : Bnd => decide (x.task = b.tasks[k].name))) (show q < b.binds.length by omega)
              rw [if_pos (decide_eq_true h109)] at e7
              exact .mid (q + 1) ⟨by omega, by omega⟩ ⟨rfl, (by show some _ = some _; rw [e7]; first | done | rfl), trivial⟩ rfl rfl (.pre 16 rfl (.app rfl .base))
            · skip
              replace h109 := of_decide_eq_false h109
              refine .cond_false rfl <| .skip <| .blk_normal <| .go <| .region <| .e (.add rfl rfl (by first | exact wrap_succ (by omega) | exact IntWalk.i64_in _ (by omega) | exact rfl)) rfl rfl ?_
              refine .e (.move rfl) rfl rfl <| .nil ?_
              refine .tail ?_
              have e7 := cnt_step (p := (fun x : Bnd => decide (x.task = b.tasks[k].name))) (show q < b.binds.length by omega)
              rw [if_neg (by rw [decide_eq_false h109]; simp)] at e7
              exact .mid (q + 1) ⟨by omega, by omega⟩ ⟨rfl, (by show some _ = some _; rw [e7]; first | done | rfl), trivial⟩ rfl rfl (.pre 13 rfl (.app rfl .base))
          · skip
            replace h102 := of_decide_eq_false h102
            refine .cond_false rfl <| .exit <| .exit <| .exit <| .blk_exit <| .go ?_
            refine .seq <| .region <| .e (.move rfl) rfl rfl <| .e ((EV.cast (u := .bool false) (.neq rfl rfl) (congrArg Value.bool (by rw [decide_eq_true (by have := wait_cnt hok (List.getElem_mem (show k < b.tasks.length by omega)); rw [List.take_of_length_le (show b.binds.length ≤ q by omega)]; omega)]; rfl)))) rfl rfl <| .nil <| .go ?_
            refine .cond_false rfl <| .skip <| .blk_normal <| .go <| .region <| .e (.add rfl rfl (by first | exact wrap_succ (by omega) | exact IntWalk.i64_in _ (by omega) | exact rfl)) rfl rfl ?_
            refine .e (.move rfl) rfl rfl <| .nil ?_
            refine .tail ?_
            exact .mid (k + 1) ⟨by omega, by omega⟩ ⟨rfl, trivial⟩ rfl rfl (.pre 6 rfl (.app rfl (.del rfl (.pre 6 rfl (.app rfl (.del rfl (.pre 9 rfl (.app rfl .base))))))))
      · skip
        replace h81 := of_decide_eq_false h81
        refine .cond_false rfl <| .exit <| .exit <| .exit <| .blk_exit <| .go ?_
        refine .seq <| .region <| .e (.move rfl) rfl rfl <| .e (.len sl23 rfl rfl) rfl rfl <| .e (.fieldAddr fo27_2 rfl) rfl rfl <| .e (.load ag24 rfl .here rfl) rfl rfl ?_
        refine .e (.len sl24 rfl rfl) rfl rfl <| .e (.add rfl rfl (IntWalk.i64_in _ (by omega))) rfl rfl <| .e (.fieldAddr fo27_1 rfl) rfl rfl <| .e (.load ag23 rfl .here rfl) rfl rfl <| .e (.len sl23 rfl rfl) rfl rfl <| .e ((EV.cast (u := .bool true) (.eql rfl rfl) (congrArg Value.bool (decide_eq_true (by have := wait_len hok; omega))))) rfl rfl ?_
        refine .e (.assign rfl) rfl rfl <| .nil <| .go <| .ret ?_
        refine .tail ?_
        refine .back hI17 ?_
        refine Post.retE rfl rfl ?_
        rfl

end Go.Proofs.YtmmokaockpghaaaGreatDoor
