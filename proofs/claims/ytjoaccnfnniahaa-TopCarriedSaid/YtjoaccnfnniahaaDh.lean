/- Walks of functions over a symbolic memory, printed by a program of the session. -/
import Derived.Test.YtjoaccnfnniahaaDg
namespace Go.Proofs.Ytjoaccnfnniahaa
open Go.Sy
set_option linter.unusedSimpArgs false
set_option linter.unusedVariables false

set_option maxHeartbeats 16000000 in
set_option maxRecDepth 20000 in
theorem dCrash_ok {I : Imm} {O : Own} {dc : List Value} {d : Dsk} (hd : DskR I dc d) (hsm : d.files.length ≤ 1000) {kv : Value} {ks : List Int} (hks : IntsR I kv ks) :
    Go.Sy.Does Try.prog 9 [.agg ⟨dc⟩, kv] I O (fun u I' O' => ∃ v ws ob, u = .tuple ⟨[.agg ⟨(crashR d ks).1.cells v⟩, .int .i64 (crashR d ks).2]⟩ ∧ OwnS 3 v (crashR d ks).1.files.length ws ob ∧ DR FilR 3 I' ws (crashR d ks).1.files ∧ O' = ob ++ O) := by
  have hd0 := hd
  obtain ⟨fv, rfl, hfv⟩ := hd.ex
  have hfv0 := hfv
  obtain ⟨fa, fcap, rfl, hf1, hf2, -⟩ := hfv
  have hfz := hd0.fuse
  have hks0 := hks
  obtain ⟨ka, kcap, rfl, hks1, hks2, -⟩ := hks
  refine Go.Sy.Does.enter Try.func9 rfl Try.ntmps9 rfl ?_
  refine .seq <| .region <| .on rfl <| .box rfl rfl rfl fun c1 _ _ => .on rfl <| .alloc zr28 rfl fun c2 _ _ => .e (.assign rfl) rfl rfl <| .nil ?_
  refine .go <| .scope <| .seq <| .seq <| .region <| .e (.loadW ag28 sz28 rfl (.there <| .here) rfl) rfl rfl ?_
  refine .on rfl <| .callP cal21 rfl rfl rfl (dCheck_ok hd0) <| .e (.assign rfl) rfl rfl <| .nil <| .go <| .seq <| .region ?_
  refine .e (.move rfl) rfl rfl <| .e (.neq rfl rfl) rfl rfl <| .nil <| .go ?_
  refine .split 14 rfl (fun h14 => ?_) (fun h14 => ?_)
  · skip
    first | replace h14 := of_decide_eq_false ((Bool.not_eq_true' _).mp h14) | replace h14 := of_decide_eq_false (by simpa using h14)
    refine .cond_true rfl <| .seq <| .region <| .e (.build bs28 zv28 rfl rfl) rfl rfl <| .e (.move rfl) rfl rfl <| .on rfl <| .storeW sz28 rfl rfl rfl rfl rfl rfl .here ?_
    refine .e (.assign rfl) rfl rfl <| .nil <| .go <| .ret <| .ret <| .sc_ret ?_
    refine Post.rets rfl (.agg rfl ag28 sz28 .here rfl (.tmp rfl .nil)) rfl (Imm.le_refl _) (fun w h => (Sat.tail (Sat.tail h))) ?_
    rw [show crashR d ks = (⟨[], false, 0⟩, diskWhy d) by unfold crashR; rw [if_neg h14]]
    exact ⟨_, _, _, rfl, OwnS.nil, DR.nil, rfl⟩
  · skip
    first | replace h14 := of_decide_eq_true ((Bool.not_eq_false' _).mp h14) | replace h14 := of_decide_eq_true (by simpa using h14)
    have hok := diskWhy_ok h14
    have hle := (disk_ok hok).2
    refine .cond_false rfl <| .skip <| .go <| .seq <| .region <| .e (.fieldAddr fo28_0 rfl) rfl rfl ?_
    refine .e (.load ag26 rfl (.there <| .here) rfl) rfl rfl <| .on rfl <| .call cal22 rfl rfl rfl (cloneFil_ok hfv0 (by omega)) fun v19 I19 O19 hI19 hK19 => ?_
    obtain ⟨hq19, ws19, ob19, ho19, hd19, rfl⟩ := hK19
    replace hq19 := hq19.symm
    subst hq19
    obtain ⟨ad19, cap19, rfl⟩ := ho19.form
    refine .e (.build bs28 zv28 rfl rfl) rfl rfl <| .on rfl <| .alloc zr28 rfl fun c3 _ _ => .on rfl <| .storeW sz28 rfl rfl rfl rfl rfl rfl .here <| .nil <| .go <| .seq ?_
    refine .label <| .go <| .seq <| .seq <| .region <| .e (.fieldAddr fo28_0 rfl) rfl rfl ?_
    refine .e (.load ag26 rfl .here rfl) rfl rfl <| .e (.len sl26 rfl rfl) rfl rfl <| .e (.move rfl) rfl rfl <| .nil <| .go <| .block ?_
    refine .front (.there <| .front) ?_
    refine .loopM [8, 9, 10, 24, 25, 26, 27, 28, 29, 30, 31, 32, 33, 34, 35, 36, 37, 38, 39, 40, 41, 42, 43, 44, 45, 46, 47, 48, 49, 50, 51, 52, 53, 54, 55, 56, 57, 58, 59, 60, 61, 62, 63, 64, 65, 66, 67, 68, 69, 70, 71, 72, 73, 74, 75, 76, 77, 78, 79, 80, 81, 82, 83, 84, 85, 86, 87, 88, 89, 90, 91] (fun s => d.files.length - s.1) (fun s => s.1 ≤ d.files.length ∧ OwnS 3 (.slice ad19 d.files.length cap19) d.files.length s.2.1 s.2.2 ∧ DR FilR 3 I s.2.1 (crashTo d.files ks s.1)) (fun s => [(24, .int .i64 s.1)]) (fun _ => _) (fun s => s.2.2 ++ _) (((0, ws19, ob19) : Nat × List Value × Own)) ⟨Nat.zero_le _, ho19, hd19⟩ ⟨rfl, trivial⟩ rfl rfl ?_
    intro ⟨k, wsL, obL⟩ hk
    dsimp only at hk ⊢
    obtain ⟨hk, hoL, hdL⟩ := hk
    refine .seq <| .region <| .e (.lss rfl rfl) rfl rfl <| .nil <| .go <| .seq ?_
    refine .split 25 rfl (fun h25 => ?_) (fun h25 => ?_)
    · skip
      replace h25 := of_decide_eq_true h25
      refine .cond_true rfl <| .skip <| .go <| .seq <| .block <| .seq ?_
      refine .region <| .e (.move rfl) rfl rfl <| .e (.assign rfl) rfl rfl <| .nil <| .go <| .seq ?_
      refine .region ?_
      have hkn : k < d.files.length := by omega
      have hge := crash_get d.files ks k k (Nat.le_refl _)
      rw [List.getElem?_eq_getElem hkn] at hge
      obtain ⟨hc8, hc9, -⟩ := fil_at hdL hge
      obtain ⟨hfe, hnm, hzz, -⟩ := hdL.2 _ _ hge
      have hzz0 := hzz
      unfold StrOk at hzz
      obtain ⟨hy0, hy1⟩ := disk_file hok hkn
      obtain ⟨_, h0, _, _⟩ | ⟨bL, cpL, csL, TL, hv5, rfl, hc1, hc2, hc3, hc4, hc5⟩ := hoL
      · omega
      cases hv5
      simp only [@List.singleton_append (Nat × Obj)]
      have hclL : k * 3 + 3 ≤ csL.length := by have := Nat.mul_le_mul_right 3 hc1; omega
      have hm8 := cellY hc3 hc8
      have hm9 := cellY hc3 hc9
      refine .e (.fieldAddr fo28_0 rfl) rfl rfl <| .e (.load ag26 rfl (.there <| .here) rfl) rfl rfl <| .e (.move rfl) rfl rfl <| .e (.indexAddrL sl26 rfl rfl rfl (by omega)) rfl rfl <| .e (.assign rfl) rfl rfl <| .nil ?_
      refine .go <| .seq ?_
      refine .draw [] mixed .nil ?_
      refine .t 0 rfl (.move rfl) rfl rfl (by kernel_rfl) <| .t 1 rfl (.nilCheck rfl) rfl rfl (by kernel_rfl) <| .t 2 rfl (.fieldAddr fo70_1 rfl) rfl rfl (by kernel_rfl) <| .t 5 rfl (.move rfl) rfl rfl (by kernel_rfl) <| .t 6 rfl (.nilCheck rfl) rfl rfl (by kernel_rfl) <| .t 7 rfl (.fieldAddr fo70_2 rfl) rfl rfl (by kernel_rfl) ?_
      refine .all (rs := [3, 8]) (by kernel_rfl) (by simp) ⟨⟨_, rfl, .inl ⟨rfl, ?_⟩⟩, ⟨⟨_, rfl, .inl ⟨rfl, ?_⟩⟩, trivial⟩⟩
      · skip
        refine .ev (.load (v := .string d.files[k].data) ag9 rfl .here ((List.getElem?_toArray).trans hm8)) rfl ⟨.nil, Imm.le_refl _, ?_⟩
        refine .t 4 rfl (.lenS Try.underlying9 rfl rfl) rfl rfl (by kernel_rfl) <| .one (i := 8) (by kernel_rfl) rfl rfl ?_
        refine .ev (.load (v := .int .i64 d.files[k].sync) ag3 rfl .here ((List.getElem?_toArray).trans hm9)) rfl ⟨.nil, Imm.le_refl _, ?_⟩
        refine .t 9 rfl (.sub rfl rfl (IntWalk.i64_in _ (by omega))) rfl rfl (by kernel_rfl) <| .t 10 rfl (.assign rfl) rfl rfl (by kernel_rfl) <| .done (by kernel_rfl) <| .go <| .seq ?_
        refine .draw [] mixed .nil ?_
        refine .t 0 rfl (.move rfl) rfl rfl (by kernel_rfl) <| .t 1 rfl (.move rfl) rfl rfl (by kernel_rfl) <| .t 2 rfl (.nilCheck rfl) rfl rfl (by kernel_rfl) <| .t 3 rfl (.fieldAddr fo70_1 rfl) rfl rfl (by kernel_rfl) <| .t 5 rfl (.move rfl) rfl rfl (by kernel_rfl) <| .t 6 rfl (.nilCheck rfl) rfl rfl (by kernel_rfl) ?_
        refine .t 7 rfl (.fieldAddr fo70_2 rfl) rfl rfl (by kernel_rfl) ?_
        refine .all (rs := [4, 8]) (by kernel_rfl) (by simp) ⟨⟨_, rfl, .inl ⟨rfl, ?_⟩⟩, ⟨⟨_, rfl, .inl ⟨rfl, ?_⟩⟩, trivial⟩⟩
        · skip
          refine .ev (.load (v := .string d.files[k].data) ag9 rfl .here ((List.getElem?_toArray).trans hm8)) rfl ⟨.nil, Imm.le_refl _, ?_⟩
          refine .one (i := 8) (by kernel_rfl) rfl rfl ?_
          refine .ev (.load (v := .int .i64 d.files[k].sync) ag3 rfl .here ((List.getElem?_toArray).trans hm9)) rfl ⟨.nil, Imm.le_refl _, ?_⟩
          refine .t 9 rfl ((.strH (h := d.files[k].sync.toNat) Try.underlying9 rfl rfl (by omega) (by omega))) rfl rfl (by kernel_rfl) <| .t 10 rfl (.nilCheck rfl) rfl rfl (by kernel_rfl) <| .t 11 rfl (.fieldAddr fo70_1 rfl) rfl rfl (by kernel_rfl) <| .one (i := 12) (by kernel_rfl) rfl rfl <| .store sz9 rfl rfl rfl rfl rfl (Nat.ble_eq_true_of_le (by first | (simp; omega) | omega)) .here ?_
          refine ⟨.nil, Imm.le_refl _, ?_⟩
          refine .done (by kernel_rfl) <| .go <| .seq <| .seq <| .region ?_
          have hw1 := own_setY (T := TL) (b := bL) (q := 1) (.string (d.files[k].data.extract 0 d.files[k].sync.toNat)) hc3 hkn (by decide) hc1 hc2 hc4 hc5
          have hdw1 := fil_put hdL hge (ext_str (n := d.files[k].sync.toNat) hzz0)
          have hcw1 : (setL csL (0 + k * 3 + 1) [.string (d.files[k].data.extract 0 d.files[k].sync.toNat)]).length = csL.length := setL_length (by simp; omega)
          have hm9w := cell_setY (v := .string (d.files[k].data.extract 0 d.files[k].sync.toNat)) (m := 3) (p := 2) (q := 1) (by decide) (by decide) (by decide) (show k * 3 + 1 < csL.length by omega) hm9
          refine .e (.move rfl) rfl rfl <| .e (.move rfl) rfl rfl <| .e (.len sl24 rfl rfl) rfl rfl <| .e (.geq rfl rfl) rfl rfl <| .e (.move rfl) rfl rfl ?_
          refine .split 57 rfl (fun h57 => ?_) (fun h57 => ?_)
          · skip
            replace h57 := of_decide_eq_true h57
            refine .off rfl rfl <| .off rfl rfl <| .off rfl rfl <| .off rfl rfl <| .off rfl rfl <| .e (.pickT rfl rfl) rfl rfl ?_
            refine .nil <| .go <| .cond_true rfl <| .exit <| .exit <| .blk_exit ?_
            refine .go <| .region <| .e (.add rfl rfl (by first | exact wrap_succ (by omega) | exact IntWalk.i64_in _ (by omega) | exact rfl)) rfl rfl <| .e (.move rfl) rfl rfl <| .nil ?_
            have hzl : ks.getD k 0 ≤ 0 := by rw [List.getD_eq_getElem?_getD, List.getElem?_eq_none (by omega)]; exact Int.le_refl _
            have hcr := crash_lo (ks := ks) hkn hzl
            have hoN := hw1
            have hdN := hdw1
            rw [← hcr] at hdN
            exact .mid ((k + 1, _, _)) ⟨by dsimp only; omega, by dsimp only; omega, hoN, hdN⟩ ⟨rfl, trivial⟩ rfl rfl (.pre 46 rfl (.app rfl .base))
          · skip
            replace h57 := of_decide_eq_false h57
            refine .e (.move rfl) rfl rfl <| .e (.move rfl) rfl rfl ?_
            obtain ⟨eb60, eo60, cs60, hd60, hat60, hr60⟩ := SlR.at_ hks0 (k := k) (by omega)
            cases hd60
            obtain ⟨rfl, hz60⟩ := hr60
            unfold I64 at hz60
            refine .e (.indexAddrL sl24 rfl rfl rfl (by omega)) rfl rfl <| .e (.loadI ag3 rfl (hat60.cell (j := 0) rfl)) rfl rfl <| .e (.leq rfl rfl) rfl rfl <| .e (.pickF rfl rfl) rfl rfl <| .nil <| .go ?_
            refine .split 63 rfl (fun h63 => ?_) (fun h63 => ?_)
            · skip
              replace h63 := of_decide_eq_true h63
              refine .cond_true rfl <| .exit <| .exit <| .blk_exit <| .go <| .region ?_
              refine .e (.add rfl rfl (by first | exact wrap_succ (by omega) | exact IntWalk.i64_in _ (by omega) | exact rfl)) rfl rfl <| .e (.move rfl) rfl rfl <| .nil ?_
              have hzl : ks.getD k 0 ≤ 0 := by rw [intD (by omega)]; exact h63
              have hcr := crash_lo (ks := ks) hkn hzl
              have hoN := hw1
              have hdN := hdw1
              rw [← hcr] at hdN
              exact .mid ((k + 1, _, _)) ⟨by dsimp only; omega, by dsimp only; omega, hoN, hdN⟩ ⟨rfl, trivial⟩ rfl rfl (.pre 47 rfl (.app rfl .base))
            · skip
              replace h63 := of_decide_eq_false h63
              refine .cond_false rfl <| .skip <| .go <| .seq ?_
              refine .draw [] mixed .nil ?_
              have hcut := cut_hi (f := d.files[k]) (z := ks[k]) h63
              have hcl := cut_le (f := d.files[k]) (z := ks[k]) hy0 hy1
              obtain ⟨y, hye⟩ : ∃ y, cutY d.files[k] ks[k] = y := ⟨_, rfl⟩
              rw [hye] at hcut hcl
              refine .t 0 rfl (.move rfl) rfl rfl (by kernel_rfl) <| .t 1 rfl (.nilCheck rfl) rfl rfl (by kernel_rfl) <| .t 2 rfl (.fieldAddr fo70_2 rfl) rfl rfl (by kernel_rfl) <| .t 4 rfl (.move rfl) rfl rfl (by kernel_rfl) <| .t 5 rfl (.move rfl) rfl rfl (by kernel_rfl) ?_
              obtain ⟨eb70, eo70, cs70, hd70, hat70, hr70⟩ := SlR.at_ hks0 (k := k) (by omega)
              cases hd70
              obtain ⟨rfl, hz70⟩ := hr70
              refine .t 6 rfl (.indexAddrL sl24 rfl rfl rfl (by omega)) rfl rfl (by kernel_rfl) <| .t 7 rfl (.loadI ag3 rfl (hat70.cell (j := 0) rfl)) rfl rfl (by kernel_rfl) <| .t 8 rfl (.move rfl) rfl rfl (by kernel_rfl) <| .t 9 rfl (.min2 rfl rfl rfl) rfl rfl (by kernel_rfl) <| .one (i := 3) (by kernel_rfl) rfl rfl ?_
              refine .ev (.load (v := .int .i64 d.files[k].sync) ag3 rfl .here ((List.getElem?_toArray).trans hm9w)) rfl ⟨.nil, Imm.le_refl _, ?_⟩
              refine .t 10 rfl (.add rfl rfl ((IntWalk.i64_in _ (by rw [← hcut]; omega)).trans hcut.symm)) rfl rfl (by kernel_rfl) <| .t 11 rfl (.nilCheck rfl) rfl rfl (by kernel_rfl) <| .t 12 rfl (.fieldAddr fo70_2 rfl) rfl rfl (by kernel_rfl) <| .one (i := 13) (by kernel_rfl) rfl rfl <| .store sz3 rfl rfl rfl rfl rfl (Nat.ble_eq_true_of_le (by rw [hcw1]; simp; omega)) .here ?_
              refine ⟨.nil, Imm.le_refl _, ?_⟩
              refine .done (by kernel_rfl) <| .go ?_
              refine .draw [(c1, _)] mixed (.cons (.there <| .there <| .there <| .here) .nil) ?_
              have hw2 := own_setQ hw1 (k := k) (q := 2) (.int .i64 y) hkn (by decide)
              have hgw1 : ((crashTo d.files ks k).set k { d.files[k] with data := d.files[k].data.extract 0 d.files[k].sync.toNat })[k]? = some { d.files[k] with data := d.files[k].data.extract 0 d.files[k].sync.toNat } := List.getElem?_set_self (by rw [crash_len]; exact hkn)
              have hdw2 := fil_sync hdw1 hgw1 (z := y) (by unfold I64; omega)
              have hgw2 : (((crashTo d.files ks k).set k { d.files[k] with data := d.files[k].data.extract 0 d.files[k].sync.toNat }).set k { d.files[k] with data := d.files[k].data.extract 0 d.files[k].sync.toNat, sync := y })[k]? = some { d.files[k] with data := d.files[k].data.extract 0 d.files[k].sync.toNat, sync := y } := List.getElem?_set_self (by rw [List.length_set, crash_len]; exact hkn)
              have hm9y := cell_self (cs := (setL csL (0 + k * 3 + 1) [.string (d.files[k].data.extract 0 d.files[k].sync.toNat)])) (p := 0 + k * 3 + 2) (v := .int .i64 y) (by rw [hcw1]; omega)
              have hcw2 : (setL (setL csL (0 + k * 3 + 1) [.string (d.files[k].data.extract 0 d.files[k].sync.toNat)]) (0 + k * 3 + 2) [.int .i64 y]).length = csL.length := (setL_length (by rw [hcw1]; simp; omega)).trans hcw1
              refine .t 0 rfl (.move rfl) rfl rfl (by kernel_rfl) <| .t 1 rfl (.fieldAddr fo28_0 rfl) rfl rfl (by kernel_rfl) <| .t 2 rfl (.load ag26 rfl .here rfl) rfl rfl (by kernel_rfl) <| .t 3 rfl (.move rfl) rfl rfl (by kernel_rfl) ?_
              obtain ⟨eb81, eo81, cs81, hd81, hat81, hr81⟩ := SlR.at_ hfv0 (k := k) (by omega)
              cases hd81
              obtain ⟨rfl, hn81, hz81, hs81⟩ := hr81
              unfold StrOk at hn81 hz81
              unfold I64 at hs81
              refine .t 4 rfl (.indexAddrL sl26 rfl rfl rfl (by omega)) rfl rfl (by kernel_rfl) <| .t 5 rfl (.fieldAddr fo70_1 rfl) rfl rfl (by kernel_rfl) <| .t 6 rfl (.loadI ag9 rfl (hat81.cell (j := 1) rfl)) rfl rfl (by kernel_rfl) <| .t 7 rfl (.move rfl) rfl rfl (by kernel_rfl) <| .t 8 rfl (.nilCheck rfl) rfl rfl (by kernel_rfl) <| .t 9 rfl (.fieldAddr fo70_2 rfl) rfl rfl (by kernel_rfl) ?_
              refine .one (i := 10) (by kernel_rfl) rfl rfl ?_
              refine .ev (.load (v := .int .i64 y) ag3 rfl .here ((List.getElem?_toArray).trans hm9y)) rfl ⟨(.cons (.there <| .there <| .there <| .here) .nil), Imm.le_refl _, ?_⟩
              refine .t 11 rfl ((.strH (h := y.toNat) Try.underlying9 rfl rfl (by omega) (by omega))) rfl rfl (by kernel_rfl) <| .t 12 rfl (.nilCheck rfl) rfl rfl (by kernel_rfl) <| .t 13 rfl (.fieldAddr fo70_1 rfl) rfl rfl (by kernel_rfl) <| .one (i := 14) (by kernel_rfl) rfl rfl <| .store sz9 rfl rfl rfl rfl rfl (Nat.ble_eq_true_of_le (by rw [hcw2]; simp; omega)) .here ?_
              refine ⟨(.cons (.there <| .there <| .there <| .here) .nil), Imm.le_refl _, ?_⟩
              refine .done (by kernel_rfl) <| .blk_normal <| .go <| .region <| .e (.add rfl rfl (by first | exact wrap_succ (by omega) | exact IntWalk.i64_in _ (by omega) | exact rfl)) rfl rfl <| .e (.move rfl) rfl rfl ?_
              refine .nil ?_
              have hcr := crash_hi (ks := ks) (y := y) hkn (by rw [intD (by omega)]; exact hye)
              have hoN := own_setQ hw2 (k := k) (q := 1) (.string (d.files[k].data.extract 0 y.toNat)) hkn (by decide)
              have hdN := fil_put hdw2 hgw2 (ext_str (n := y.toNat) hzz0)
              rw [← hcr] at hdN
              exact .mid ((k + 1, _, _)) ⟨by dsimp only; omega, by dsimp only; omega, hoN, hdN⟩ ⟨rfl, trivial⟩ rfl rfl (.pre 74 rfl (.app rfl .base))
        · skip
          refine .ev (.load (v := .int .i64 d.files[k].sync) ag3 rfl .here ((List.getElem?_toArray).trans hm9)) rfl ⟨.nil, Imm.le_refl _, ?_⟩
          refine .one (i := 4) (by kernel_rfl) rfl rfl ?_
          refine .ev (.load (v := .string d.files[k].data) ag9 rfl .here ((List.getElem?_toArray).trans hm8)) rfl ⟨.nil, Imm.le_refl _, ?_⟩
          refine .t 9 rfl ((.strH (h := d.files[k].sync.toNat) Try.underlying9 rfl rfl (by omega) (by omega))) rfl rfl (by kernel_rfl) <| .t 10 rfl (.nilCheck rfl) rfl rfl (by kernel_rfl) <| .t 11 rfl (.fieldAddr fo70_1 rfl) rfl rfl (by kernel_rfl) <| .one (i := 12) (by kernel_rfl) rfl rfl <| .store sz9 rfl rfl rfl rfl rfl (Nat.ble_eq_true_of_le (by first | (simp; omega) | omega)) .here ?_
          refine ⟨.nil, Imm.le_refl _, ?_⟩
          refine .done (by kernel_rfl) <| .go <| .seq <| .seq <| .region ?_
          have hw1 := own_setY (T := TL) (b := bL) (q := 1) (.string (d.files[k].data.extract 0 d.files[k].sync.toNat)) hc3 hkn (by decide) hc1 hc2 hc4 hc5
          have hdw1 := fil_put hdL hge (ext_str (n := d.files[k].sync.toNat) hzz0)
          have hcw1 : (setL csL (0 + k * 3 + 1) [.string (d.files[k].data.extract 0 d.files[k].sync.toNat)]).length = csL.length := setL_length (by simp; omega)
          have hm9w := cell_setY (v := .string (d.files[k].data.extract 0 d.files[k].sync.toNat)) (m := 3) (p := 2) (q := 1) (by decide) (by decide) (by decide) (show k * 3 + 1 < csL.length by omega) hm9
          refine .e (.move rfl) rfl rfl <| .e (.move rfl) rfl rfl <| .e (.len sl24 rfl rfl) rfl rfl <| .e (.geq rfl rfl) rfl rfl <| .e (.move rfl) rfl rfl ?_
          refine .split 57 rfl (fun h57 => ?_) (fun h57 => ?_)
          · skip
            replace h57 := of_decide_eq_true h57
            refine .off rfl rfl <| .off rfl rfl <| .off rfl rfl <| .off rfl rfl <| .off rfl rfl <| .e (.pickT rfl rfl) rfl rfl ?_
            refine .nil <| .go <| .cond_true rfl <| .exit <| .exit <| .blk_exit ?_
            refine .go <| .region <| .e (.add rfl rfl (by first | exact wrap_succ (by omega) | exact IntWalk.i64_in _ (by omega) | exact rfl)) rfl rfl <| .e (.move rfl) rfl rfl <| .nil ?_
            have hzl : ks.getD k 0 ≤ 0 := by rw [List.getD_eq_getElem?_getD, List.getElem?_eq_none (by omega)]; exact Int.le_refl _
            have hcr := crash_lo (ks := ks) hkn hzl
            have hoN := hw1
            have hdN := hdw1
            rw [← hcr] at hdN
            exact .mid ((k + 1, _, _)) ⟨by dsimp only; omega, by dsimp only; omega, hoN, hdN⟩ ⟨rfl, trivial⟩ rfl rfl (.pre 46 rfl (.app rfl .base))
          · skip
            replace h57 := of_decide_eq_false h57
            refine .e (.move rfl) rfl rfl <| .e (.move rfl) rfl rfl ?_
            obtain ⟨eb60, eo60, cs60, hd60, hat60, hr60⟩ := SlR.at_ hks0 (k := k) (by omega)
            cases hd60
            obtain ⟨rfl, hz60⟩ := hr60
            unfold I64 at hz60
            refine .e (.indexAddrL sl24 rfl rfl rfl (by omega)) rfl rfl <| .e (.loadI ag3 rfl (hat60.cell (j := 0) rfl)) rfl rfl <| .e (.leq rfl rfl) rfl rfl <| .e (.pickF rfl rfl) rfl rfl <| .nil <| .go ?_
            refine .split 63 rfl (fun h63 => ?_) (fun h63 => ?_)
            · skip
              replace h63 := of_decide_eq_true h63
              refine .cond_true rfl <| .exit <| .exit <| .blk_exit <| .go <| .region ?_
              refine .e (.add rfl rfl (by first | exact wrap_succ (by omega) | exact IntWalk.i64_in _ (by omega) | exact rfl)) rfl rfl <| .e (.move rfl) rfl rfl <| .nil ?_
              have hzl : ks.getD k 0 ≤ 0 := by rw [intD (by omega)]; exact h63
              have hcr := crash_lo (ks := ks) hkn hzl
              have hoN := hw1
              have hdN := hdw1
              rw [← hcr] at hdN
              exact .mid ((k + 1, _, _)) ⟨by dsimp only; omega, by dsimp only; omega, hoN, hdN⟩ ⟨rfl, trivial⟩ rfl rfl (.pre 47 rfl (.app rfl .base))
            · skip
              replace h63 := of_decide_eq_false h63
              refine .cond_false rfl <| .skip <| .go <| .seq ?_
              refine .draw [] mixed .nil ?_
              have hcut := cut_hi (f := d.files[k]) (z := ks[k]) h63
              have hcl := cut_le (f := d.files[k]) (z := ks[k]) hy0 hy1
              obtain ⟨y, hye⟩ : ∃ y, cutY d.files[k] ks[k] = y := ⟨_, rfl⟩
              rw [hye] at hcut hcl
              refine .t 0 rfl (.move rfl) rfl rfl (by kernel_rfl) <| .t 1 rfl (.nilCheck rfl) rfl rfl (by kernel_rfl) <| .t 2 rfl (.fieldAddr fo70_2 rfl) rfl rfl (by kernel_rfl) <| .t 4 rfl (.move rfl) rfl rfl (by kernel_rfl) <| .t 5 rfl (.move rfl) rfl rfl (by kernel_rfl) ?_
              obtain ⟨eb70, eo70, cs70, hd70, hat70, hr70⟩ := SlR.at_ hks0 (k := k) (by omega)
              cases hd70
              obtain ⟨rfl, hz70⟩ := hr70
              refine .t 6 rfl (.indexAddrL sl24 rfl rfl rfl (by omega)) rfl rfl (by kernel_rfl) <| .t 7 rfl (.loadI ag3 rfl (hat70.cell (j := 0) rfl)) rfl rfl (by kernel_rfl) <| .t 8 rfl (.move rfl) rfl rfl (by kernel_rfl) <| .t 9 rfl (.min2 rfl rfl rfl) rfl rfl (by kernel_rfl) <| .one (i := 3) (by kernel_rfl) rfl rfl ?_
              refine .ev (.load (v := .int .i64 d.files[k].sync) ag3 rfl .here ((List.getElem?_toArray).trans hm9w)) rfl ⟨.nil, Imm.le_refl _, ?_⟩
              refine .t 10 rfl (.add rfl rfl ((IntWalk.i64_in _ (by rw [← hcut]; omega)).trans hcut.symm)) rfl rfl (by kernel_rfl) <| .t 11 rfl (.nilCheck rfl) rfl rfl (by kernel_rfl) <| .t 12 rfl (.fieldAddr fo70_2 rfl) rfl rfl (by kernel_rfl) <| .one (i := 13) (by kernel_rfl) rfl rfl <| .store sz3 rfl rfl rfl rfl rfl (Nat.ble_eq_true_of_le (by rw [hcw1]; simp; omega)) .here ?_
              refine ⟨.nil, Imm.le_refl _, ?_⟩
              refine .done (by kernel_rfl) <| .go ?_
              refine .draw [(c1, _)] mixed (.cons (.there <| .there <| .there <| .here) .nil) ?_
              have hw2 := own_setQ hw1 (k := k) (q := 2) (.int .i64 y) hkn (by decide)
              have hgw1 : ((crashTo d.files ks k).set k { d.files[k] with data := d.files[k].data.extract 0 d.files[k].sync.toNat })[k]? = some { d.files[k] with data := d.files[k].data.extract 0 d.files[k].sync.toNat } := List.getElem?_set_self (by rw [crash_len]; exact hkn)
              have hdw2 := fil_sync hdw1 hgw1 (z := y) (by unfold I64; omega)
              have hgw2 : (((crashTo d.files ks k).set k { d.files[k] with data := d.files[k].data.extract 0 d.files[k].sync.toNat }).set k { d.files[k] with data := d.files[k].data.extract 0 d.files[k].sync.toNat, sync := y })[k]? = some { d.files[k] with data := d.files[k].data.extract 0 d.files[k].sync.toNat, sync := y } := List.getElem?_set_self (by rw [List.length_set, crash_len]; exact hkn)
              have hm9y := cell_self (cs := (setL csL (0 + k * 3 + 1) [.string (d.files[k].data.extract 0 d.files[k].sync.toNat)])) (p := 0 + k * 3 + 2) (v := .int .i64 y) (by rw [hcw1]; omega)
              have hcw2 : (setL (setL csL (0 + k * 3 + 1) [.string (d.files[k].data.extract 0 d.files[k].sync.toNat)]) (0 + k * 3 + 2) [.int .i64 y]).length = csL.length := (setL_length (by rw [hcw1]; simp; omega)).trans hcw1
              refine .t 0 rfl (.move rfl) rfl rfl (by kernel_rfl) <| .t 1 rfl (.fieldAddr fo28_0 rfl) rfl rfl (by kernel_rfl) <| .t 2 rfl (.load ag26 rfl .here rfl) rfl rfl (by kernel_rfl) <| .t 3 rfl (.move rfl) rfl rfl (by kernel_rfl) ?_
              obtain ⟨eb81, eo81, cs81, hd81, hat81, hr81⟩ := SlR.at_ hfv0 (k := k) (by omega)
              cases hd81
              obtain ⟨rfl, hn81, hz81, hs81⟩ := hr81
              unfold StrOk at hn81 hz81
              unfold I64 at hs81
              refine .t 4 rfl (.indexAddrL sl26 rfl rfl rfl (by omega)) rfl rfl (by kernel_rfl) <| .t 5 rfl (.fieldAddr fo70_1 rfl) rfl rfl (by kernel_rfl) <| .t 6 rfl (.loadI ag9 rfl (hat81.cell (j := 1) rfl)) rfl rfl (by kernel_rfl) <| .t 7 rfl (.move rfl) rfl rfl (by kernel_rfl) <| .t 8 rfl (.nilCheck rfl) rfl rfl (by kernel_rfl) <| .t 9 rfl (.fieldAddr fo70_2 rfl) rfl rfl (by kernel_rfl) ?_
              refine .one (i := 10) (by kernel_rfl) rfl rfl ?_
              refine .ev (.load (v := .int .i64 y) ag3 rfl .here ((List.getElem?_toArray).trans hm9y)) rfl ⟨(.cons (.there <| .there <| .there <| .here) .nil), Imm.le_refl _, ?_⟩
              refine .t 11 rfl ((.strH (h := y.toNat) Try.underlying9 rfl rfl (by omega) (by omega))) rfl rfl (by kernel_rfl) <| .t 12 rfl (.nilCheck rfl) rfl rfl (by kernel_rfl) <| .t 13 rfl (.fieldAddr fo70_1 rfl) rfl rfl (by kernel_rfl) <| .one (i := 14) (by kernel_rfl) rfl rfl <| .store sz9 rfl rfl rfl rfl rfl (Nat.ble_eq_true_of_le (by rw [hcw2]; simp; omega)) .here ?_
              refine ⟨(.cons (.there <| .there <| .there <| .here) .nil), Imm.le_refl _, ?_⟩
              refine .done (by kernel_rfl) <| .blk_normal <| .go <| .region <| .e (.add rfl rfl (by first | exact wrap_succ (by omega) | exact IntWalk.i64_in _ (by omega) | exact rfl)) rfl rfl <| .e (.move rfl) rfl rfl ?_
              refine .nil ?_
              have hcr := crash_hi (ks := ks) (y := y) hkn (by rw [intD (by omega)]; exact hye)
              have hoN := own_setQ hw2 (k := k) (q := 1) (.string (d.files[k].data.extract 0 y.toNat)) hkn (by decide)
              have hdN := fil_put hdw2 hgw2 (ext_str (n := y.toNat) hzz0)
              rw [← hcr] at hdN
              exact .mid ((k + 1, _, _)) ⟨by dsimp only; omega, by dsimp only; omega, hoN, hdN⟩ ⟨rfl, trivial⟩ rfl rfl (.pre 74 rfl (.app rfl .base))
      · skip
        refine .ev (.load (v := .int .i64 d.files[k].sync) ag3 rfl .here ((List.getElem?_toArray).trans hm9)) rfl ⟨.nil, Imm.le_refl _, ?_⟩
        refine .one (i := 3) (by kernel_rfl) rfl rfl ?_
        refine .ev (.load (v := .string d.files[k].data) ag9 rfl .here ((List.getElem?_toArray).trans hm8)) rfl ⟨.nil, Imm.le_refl _, ?_⟩
        refine .t 4 rfl (.lenS Try.underlying9 rfl rfl) rfl rfl (by kernel_rfl) <| .t 9 rfl (.sub rfl rfl (IntWalk.i64_in _ (by omega))) rfl rfl (by kernel_rfl) <| .t 10 rfl (.assign rfl) rfl rfl (by kernel_rfl) <| .done (by kernel_rfl) <| .go <| .seq ?_
        refine .draw [] mixed .nil ?_
        refine .t 0 rfl (.move rfl) rfl rfl (by kernel_rfl) <| .t 1 rfl (.move rfl) rfl rfl (by kernel_rfl) <| .t 2 rfl (.nilCheck rfl) rfl rfl (by kernel_rfl) <| .t 3 rfl (.fieldAddr fo70_1 rfl) rfl rfl (by kernel_rfl) <| .t 5 rfl (.move rfl) rfl rfl (by kernel_rfl) <| .t 6 rfl (.nilCheck rfl) rfl rfl (by kernel_rfl) ?_
        refine .t 7 rfl (.fieldAddr fo70_2 rfl) rfl rfl (by kernel_rfl) ?_
        refine .all (rs := [4, 8]) (by kernel_rfl) (by simp) ⟨⟨_, rfl, .inl ⟨rfl, ?_⟩⟩, ⟨⟨_, rfl, .inl ⟨rfl, ?_⟩⟩, trivial⟩⟩
        · skip
          refine .ev (.load (v := .string d.files[k].data) ag9 rfl .here ((List.getElem?_toArray).trans hm8)) rfl ⟨.nil, Imm.le_refl _, ?_⟩
          refine .one (i := 8) (by kernel_rfl) rfl rfl ?_
          refine .ev (.load (v := .int .i64 d.files[k].sync) ag3 rfl .here ((List.getElem?_toArray).trans hm9)) rfl ⟨.nil, Imm.le_refl _, ?_⟩
          refine .t 9 rfl ((.strH (h := d.files[k].sync.toNat) Try.underlying9 rfl rfl (by omega) (by omega))) rfl rfl (by kernel_rfl) <| .t 10 rfl (.nilCheck rfl) rfl rfl (by kernel_rfl) <| .t 11 rfl (.fieldAddr fo70_1 rfl) rfl rfl (by kernel_rfl) <| .one (i := 12) (by kernel_rfl) rfl rfl <| .store sz9 rfl rfl rfl rfl rfl (Nat.ble_eq_true_of_le (by first | (simp; omega) | omega)) .here ?_
          refine ⟨.nil, Imm.le_refl _, ?_⟩
          refine .done (by kernel_rfl) <| .go <| .seq <| .seq <| .region ?_
          have hw1 := own_setY (T := TL) (b := bL) (q := 1) (.string (d.files[k].data.extract 0 d.files[k].sync.toNat)) hc3 hkn (by decide) hc1 hc2 hc4 hc5
          have hdw1 := fil_put hdL hge (ext_str (n := d.files[k].sync.toNat) hzz0)
          have hcw1 : (setL csL (0 + k * 3 + 1) [.string (d.files[k].data.extract 0 d.files[k].sync.toNat)]).length = csL.length := setL_length (by simp; omega)
          have hm9w := cell_setY (v := .string (d.files[k].data.extract 0 d.files[k].sync.toNat)) (m := 3) (p := 2) (q := 1) (by decide) (by decide) (by decide) (show k * 3 + 1 < csL.length by omega) hm9
          refine .e (.move rfl) rfl rfl <| .e (.move rfl) rfl rfl <| .e (.len sl24 rfl rfl) rfl rfl <| .e (.geq rfl rfl) rfl rfl <| .e (.move rfl) rfl rfl ?_
          refine .split 57 rfl (fun h57 => ?_) (fun h57 => ?_)
          · skip
            replace h57 := of_decide_eq_true h57
            refine .off rfl rfl <| .off rfl rfl <| .off rfl rfl <| .off rfl rfl <| .off rfl rfl <| .e (.pickT rfl rfl) rfl rfl ?_
            refine .nil <| .go <| .cond_true rfl <| .exit <| .exit <| .blk_exit ?_
            refine .go <| .region <| .e (.add rfl rfl (by first | exact wrap_succ (by omega) | exact IntWalk.i64_in _ (by omega) | exact rfl)) rfl rfl <| .e (.move rfl) rfl rfl <| .nil ?_
            have hzl : ks.getD k 0 ≤ 0 := by rw [List.getD_eq_getElem?_getD, List.getElem?_eq_none (by omega)]; exact Int.le_refl _
            have hcr := crash_lo (ks := ks) hkn hzl
            have hoN := hw1
            have hdN := hdw1
            rw [← hcr] at hdN
            exact .mid ((k + 1, _, _)) ⟨by dsimp only; omega, by dsimp only; omega, hoN, hdN⟩ ⟨rfl, trivial⟩ rfl rfl (.pre 46 rfl (.app rfl .base))
          · skip
            replace h57 := of_decide_eq_false h57
            refine .e (.move rfl) rfl rfl <| .e (.move rfl) rfl rfl ?_
            obtain ⟨eb60, eo60, cs60, hd60, hat60, hr60⟩ := SlR.at_ hks0 (k := k) (by omega)
            cases hd60
            obtain ⟨rfl, hz60⟩ := hr60
            unfold I64 at hz60
            refine .e (.indexAddrL sl24 rfl rfl rfl (by omega)) rfl rfl <| .e (.loadI ag3 rfl (hat60.cell (j := 0) rfl)) rfl rfl <| .e (.leq rfl rfl) rfl rfl <| .e (.pickF rfl rfl) rfl rfl <| .nil <| .go ?_
            refine .split 63 rfl (fun h63 => ?_) (fun h63 => ?_)
            · skip
              replace h63 := of_decide_eq_true h63
              refine .cond_true rfl <| .exit <| .exit <| .blk_exit <| .go <| .region ?_
              refine .e (.add rfl rfl (by first | exact wrap_succ (by omega) | exact IntWalk.i64_in _ (by omega) | exact rfl)) rfl rfl <| .e (.move rfl) rfl rfl <| .nil ?_
              have hzl : ks.getD k 0 ≤ 0 := by rw [intD (by omega)]; exact h63
              have hcr := crash_lo (ks := ks) hkn hzl
              have hoN := hw1
              have hdN := hdw1
              rw [← hcr] at hdN
              exact .mid ((k + 1, _, _)) ⟨by dsimp only; omega, by dsimp only; omega, hoN, hdN⟩ ⟨rfl, trivial⟩ rfl rfl (.pre 47 rfl (.app rfl .base))
            · skip
              replace h63 := of_decide_eq_false h63
              refine .cond_false rfl <| .skip <| .go <| .seq ?_
              refine .draw [] mixed .nil ?_
              have hcut := cut_hi (f := d.files[k]) (z := ks[k]) h63
              have hcl := cut_le (f := d.files[k]) (z := ks[k]) hy0 hy1
              obtain ⟨y, hye⟩ : ∃ y, cutY d.files[k] ks[k] = y := ⟨_, rfl⟩
              rw [hye] at hcut hcl
              refine .t 0 rfl (.move rfl) rfl rfl (by kernel_rfl) <| .t 1 rfl (.nilCheck rfl) rfl rfl (by kernel_rfl) <| .t 2 rfl (.fieldAddr fo70_2 rfl) rfl rfl (by kernel_rfl) <| .t 4 rfl (.move rfl) rfl rfl (by kernel_rfl) <| .t 5 rfl (.move rfl) rfl rfl (by kernel_rfl) ?_
              obtain ⟨eb70, eo70, cs70, hd70, hat70, hr70⟩ := SlR.at_ hks0 (k := k) (by omega)
              cases hd70
              obtain ⟨rfl, hz70⟩ := hr70
              refine .t 6 rfl (.indexAddrL sl24 rfl rfl rfl (by omega)) rfl rfl (by kernel_rfl) <| .t 7 rfl (.loadI ag3 rfl (hat70.cell (j := 0) rfl)) rfl rfl (by kernel_rfl) <| .t 8 rfl (.move rfl) rfl rfl (by kernel_rfl) <| .t 9 rfl (.min2 rfl rfl rfl) rfl rfl (by kernel_rfl) <| .one (i := 3) (by kernel_rfl) rfl rfl ?_
              refine .ev (.load (v := .int .i64 d.files[k].sync) ag3 rfl .here ((List.getElem?_toArray).trans hm9w)) rfl ⟨.nil, Imm.le_refl _, ?_⟩
              refine .t 10 rfl (.add rfl rfl ((IntWalk.i64_in _ (by rw [← hcut]; omega)).trans hcut.symm)) rfl rfl (by kernel_rfl) <| .t 11 rfl (.nilCheck rfl) rfl rfl (by kernel_rfl) <| .t 12 rfl (.fieldAddr fo70_2 rfl) rfl rfl (by kernel_rfl) <| .one (i := 13) (by kernel_rfl) rfl rfl <| .store sz3 rfl rfl rfl rfl rfl (Nat.ble_eq_true_of_le (by rw [hcw1]; simp; omega)) .here ?_
              refine ⟨.nil, Imm.le_refl _, ?_⟩
              refine .done (by kernel_rfl) <| .go ?_
              refine .draw [(c1, _)] mixed (.cons (.there <| .there <| .there <| .here) .nil) ?_
              have hw2 := own_setQ hw1 (k := k) (q := 2) (.int .i64 y) hkn (by decide)
              have hgw1 : ((crashTo d.files ks k).set k { d.files[k] with data := d.files[k].data.extract 0 d.files[k].sync.toNat })[k]? = some { d.files[k] with data := d.files[k].data.extract 0 d.files[k].sync.toNat } := List.getElem?_set_self (by rw [crash_len]; exact hkn)
              have hdw2 := fil_sync hdw1 hgw1 (z := y) (by unfold I64; omega)
              have hgw2 : (((crashTo d.files ks k).set k { d.files[k] with data := d.files[k].data.extract 0 d.files[k].sync.toNat }).set k { d.files[k] with data := d.files[k].data.extract 0 d.files[k].sync.toNat, sync := y })[k]? = some { d.files[k] with data := d.files[k].data.extract 0 d.files[k].sync.toNat, sync := y } := List.getElem?_set_self (by rw [List.length_set, crash_len]; exact hkn)
              have hm9y := cell_self (cs := (setL csL (0 + k * 3 + 1) [.string (d.files[k].data.extract 0 d.files[k].sync.toNat)])) (p := 0 + k * 3 + 2) (v := .int .i64 y) (by rw [hcw1]; omega)
              have hcw2 : (setL (setL csL (0 + k * 3 + 1) [.string (d.files[k].data.extract 0 d.files[k].sync.toNat)]) (0 + k * 3 + 2) [.int .i64 y]).length = csL.length := (setL_length (by rw [hcw1]; simp; omega)).trans hcw1
              refine .t 0 rfl (.move rfl) rfl rfl (by kernel_rfl) <| .t 1 rfl (.fieldAddr fo28_0 rfl) rfl rfl (by kernel_rfl) <| .t 2 rfl (.load ag26 rfl .here rfl) rfl rfl (by kernel_rfl) <| .t 3 rfl (.move rfl) rfl rfl (by kernel_rfl) ?_
              obtain ⟨eb81, eo81, cs81, hd81, hat81, hr81⟩ := SlR.at_ hfv0 (k := k) (by omega)
              cases hd81
              obtain ⟨rfl, hn81, hz81, hs81⟩ := hr81
              unfold StrOk at hn81 hz81
              unfold I64 at hs81
              refine .t 4 rfl (.indexAddrL sl26 rfl rfl rfl (by omega)) rfl rfl (by kernel_rfl) <| .t 5 rfl (.fieldAddr fo70_1 rfl) rfl rfl (by kernel_rfl) <| .t 6 rfl (.loadI ag9 rfl (hat81.cell (j := 1) rfl)) rfl rfl (by kernel_rfl) <| .t 7 rfl (.move rfl) rfl rfl (by kernel_rfl) <| .t 8 rfl (.nilCheck rfl) rfl rfl (by kernel_rfl) <| .t 9 rfl (.fieldAddr fo70_2 rfl) rfl rfl (by kernel_rfl) ?_
              refine .one (i := 10) (by kernel_rfl) rfl rfl ?_
              refine .ev (.load (v := .int .i64 y) ag3 rfl .here ((List.getElem?_toArray).trans hm9y)) rfl ⟨(.cons (.there <| .there <| .there <| .here) .nil), Imm.le_refl _, ?_⟩
              refine .t 11 rfl ((.strH (h := y.toNat) Try.underlying9 rfl rfl (by omega) (by omega))) rfl rfl (by kernel_rfl) <| .t 12 rfl (.nilCheck rfl) rfl rfl (by kernel_rfl) <| .t 13 rfl (.fieldAddr fo70_1 rfl) rfl rfl (by kernel_rfl) <| .one (i := 14) (by kernel_rfl) rfl rfl <| .store sz9 rfl rfl rfl rfl rfl (Nat.ble_eq_true_of_le (by rw [hcw2]; simp; omega)) .here ?_
              refine ⟨(.cons (.there <| .there <| .there <| .here) .nil), Imm.le_refl _, ?_⟩
              refine .done (by kernel_rfl) <| .blk_normal <| .go <| .region <| .e (.add rfl rfl (by first | exact wrap_succ (by omega) | exact IntWalk.i64_in _ (by omega) | exact rfl)) rfl rfl <| .e (.move rfl) rfl rfl ?_
              refine .nil ?_
              have hcr := crash_hi (ks := ks) (y := y) hkn (by rw [intD (by omega)]; exact hye)
              have hoN := own_setQ hw2 (k := k) (q := 1) (.string (d.files[k].data.extract 0 y.toNat)) hkn (by decide)
              have hdN := fil_put hdw2 hgw2 (ext_str (n := y.toNat) hzz0)
              rw [← hcr] at hdN
              exact .mid ((k + 1, _, _)) ⟨by dsimp only; omega, by dsimp only; omega, hoN, hdN⟩ ⟨rfl, trivial⟩ rfl rfl (.pre 74 rfl (.app rfl .base))
        · skip
          refine .ev (.load (v := .int .i64 d.files[k].sync) ag3 rfl .here ((List.getElem?_toArray).trans hm9)) rfl ⟨.nil, Imm.le_refl _, ?_⟩
          refine .one (i := 4) (by kernel_rfl) rfl rfl ?_
          refine .ev (.load (v := .string d.files[k].data) ag9 rfl .here ((List.getElem?_toArray).trans hm8)) rfl ⟨.nil, Imm.le_refl _, ?_⟩
          refine .t 9 rfl ((.strH (h := d.files[k].sync.toNat) Try.underlying9 rfl rfl (by omega) (by omega))) rfl rfl (by kernel_rfl) <| .t 10 rfl (.nilCheck rfl) rfl rfl (by kernel_rfl) <| .t 11 rfl (.fieldAddr fo70_1 rfl) rfl rfl (by kernel_rfl) <| .one (i := 12) (by kernel_rfl) rfl rfl <| .store sz9 rfl rfl rfl rfl rfl (Nat.ble_eq_true_of_le (by first | (simp; omega) | omega)) .here ?_
          refine ⟨.nil, Imm.le_refl _, ?_⟩
          refine .done (by kernel_rfl) <| .go <| .seq <| .seq <| .region ?_
          have hw1 := own_setY (T := TL) (b := bL) (q := 1) (.string (d.files[k].data.extract 0 d.files[k].sync.toNat)) hc3 hkn (by decide) hc1 hc2 hc4 hc5
          have hdw1 := fil_put hdL hge (ext_str (n := d.files[k].sync.toNat) hzz0)
          have hcw1 : (setL csL (0 + k * 3 + 1) [.string (d.files[k].data.extract 0 d.files[k].sync.toNat)]).length = csL.length := setL_length (by simp; omega)
          have hm9w := cell_setY (v := .string (d.files[k].data.extract 0 d.files[k].sync.toNat)) (m := 3) (p := 2) (q := 1) (by decide) (by decide) (by decide) (show k * 3 + 1 < csL.length by omega) hm9
          refine .e (.move rfl) rfl rfl <| .e (.move rfl) rfl rfl <| .e (.len sl24 rfl rfl) rfl rfl <| .e (.geq rfl rfl) rfl rfl <| .e (.move rfl) rfl rfl ?_
          refine .split 57 rfl (fun h57 => ?_) (fun h57 => ?_)
          · skip
            replace h57 := of_decide_eq_true h57
            refine .off rfl rfl <| .off rfl rfl <| .off rfl rfl <| .off rfl rfl <| .off rfl rfl <| .e (.pickT rfl rfl) rfl rfl ?_
            refine .nil <| .go <| .cond_true rfl <| .exit <| .exit <| .blk_exit ?_
            refine .go <| .region <| .e (.add rfl rfl (by first | exact wrap_succ (by omega) | exact IntWalk.i64_in _ (by omega) | exact rfl)) rfl rfl <| .e (.move rfl) rfl rfl <| .nil ?_
            have hzl : ks.getD k 0 ≤ 0 := by rw [List.getD_eq_getElem?_getD, List.getElem?_eq_none (by omega)]; exact Int.le_refl _
            have hcr := crash_lo (ks := ks) hkn hzl
            have hoN := hw1
            have hdN := hdw1
            rw [← hcr] at hdN
            exact .mid ((k + 1, _, _)) ⟨by dsimp only; omega, by dsimp only; omega, hoN, hdN⟩ ⟨rfl, trivial⟩ rfl rfl (.pre 46 rfl (.app rfl .base))
          · skip
            replace h57 := of_decide_eq_false h57
            refine .e (.move rfl) rfl rfl <| .e (.move rfl) rfl rfl ?_
            obtain ⟨eb60, eo60, cs60, hd60, hat60, hr60⟩ := SlR.at_ hks0 (k := k) (by omega)
            cases hd60
            obtain ⟨rfl, hz60⟩ := hr60
            unfold I64 at hz60
            refine .e (.indexAddrL sl24 rfl rfl rfl (by omega)) rfl rfl <| .e (.loadI ag3 rfl (hat60.cell (j := 0) rfl)) rfl rfl <| .e (.leq rfl rfl) rfl rfl <| .e (.pickF rfl rfl) rfl rfl <| .nil <| .go ?_
            refine .split 63 rfl (fun h63 => ?_) (fun h63 => ?_)
            · skip
              replace h63 := of_decide_eq_true h63
              refine .cond_true rfl <| .exit <| .exit <| .blk_exit <| .go <| .region ?_
              refine .e (.add rfl rfl (by first | exact wrap_succ (by omega) | exact IntWalk.i64_in _ (by omega) | exact rfl)) rfl rfl <| .e (.move rfl) rfl rfl <| .nil ?_
              have hzl : ks.getD k 0 ≤ 0 := by rw [intD (by omega)]; exact h63
              have hcr := crash_lo (ks := ks) hkn hzl
              have hoN := hw1
              have hdN := hdw1
              rw [← hcr] at hdN
              exact .mid ((k + 1, _, _)) ⟨by dsimp only; omega, by dsimp only; omega, hoN, hdN⟩ ⟨rfl, trivial⟩ rfl rfl (.pre 47 rfl (.app rfl .base))
            · skip
              replace h63 := of_decide_eq_false h63
              refine .cond_false rfl <| .skip <| .go <| .seq ?_
              refine .draw [] mixed .nil ?_
              have hcut := cut_hi (f := d.files[k]) (z := ks[k]) h63
              have hcl := cut_le (f := d.files[k]) (z := ks[k]) hy0 hy1
              obtain ⟨y, hye⟩ : ∃ y, cutY d.files[k] ks[k] = y := ⟨_, rfl⟩
              rw [hye] at hcut hcl
              refine .t 0 rfl (.move rfl) rfl rfl (by kernel_rfl) <| .t 1 rfl (.nilCheck rfl) rfl rfl (by kernel_rfl) <| .t 2 rfl (.fieldAddr fo70_2 rfl) rfl rfl (by kernel_rfl) <| .t 4 rfl (.move rfl) rfl rfl (by kernel_rfl) <| .t 5 rfl (.move rfl) rfl rfl (by kernel_rfl) ?_
              obtain ⟨eb70, eo70, cs70, hd70, hat70, hr70⟩ := SlR.at_ hks0 (k := k) (by omega)
              cases hd70
              obtain ⟨rfl, hz70⟩ := hr70
              refine .t 6 rfl (.indexAddrL sl24 rfl rfl rfl (by omega)) rfl rfl (by kernel_rfl) <| .t 7 rfl (.loadI ag3 rfl (hat70.cell (j := 0) rfl)) rfl rfl (by kernel_rfl) <| .t 8 rfl (.move rfl) rfl rfl (by kernel_rfl) <| .t 9 rfl (.min2 rfl rfl rfl) rfl rfl (by kernel_rfl) <| .one (i := 3) (by kernel_rfl) rfl rfl ?_
              refine .ev (.load (v := .int .i64 d.files[k].sync) ag3 rfl .here ((List.getElem?_toArray).trans hm9w)) rfl ⟨.nil, Imm.le_refl _, ?_⟩
              refine .t 10 rfl (.add rfl rfl ((IntWalk.i64_in _ (by rw [← hcut]; omega)).trans hcut.symm)) rfl rfl (by kernel_rfl) <| .t 11 rfl (.nilCheck rfl) rfl rfl (by kernel_rfl) <| .t 12 rfl (.fieldAddr fo70_2 rfl) rfl rfl (by kernel_rfl) <| .one (i := 13) (by kernel_rfl) rfl rfl <| .store sz3 rfl rfl rfl rfl rfl (Nat.ble_eq_true_of_le (by rw [hcw1]; simp; omega)) .here ?_
              refine ⟨.nil, Imm.le_refl _, ?_⟩
              refine .done (by kernel_rfl) <| .go ?_
              refine .draw [(c1, _)] mixed (.cons (.there <| .there <| .there <| .here) .nil) ?_
              have hw2 := own_setQ hw1 (k := k) (q := 2) (.int .i64 y) hkn (by decide)
              have hgw1 : ((crashTo d.files ks k).set k { d.files[k] with data := d.files[k].data.extract 0 d.files[k].sync.toNat })[k]? = some { d.files[k] with data := d.files[k].data.extract 0 d.files[k].sync.toNat } := List.getElem?_set_self (by rw [crash_len]; exact hkn)
              have hdw2 := fil_sync hdw1 hgw1 (z := y) (by unfold I64; omega)
              have hgw2 : (((crashTo d.files ks k).set k { d.files[k] with data := d.files[k].data.extract 0 d.files[k].sync.toNat }).set k { d.files[k] with data := d.files[k].data.extract 0 d.files[k].sync.toNat, sync := y })[k]? = some { d.files[k] with data := d.files[k].data.extract 0 d.files[k].sync.toNat, sync := y } := List.getElem?_set_self (by rw [List.length_set, crash_len]; exact hkn)
              have hm9y := cell_self (cs := (setL csL (0 + k * 3 + 1) [.string (d.files[k].data.extract 0 d.files[k].sync.toNat)])) (p := 0 + k * 3 + 2) (v := .int .i64 y) (by rw [hcw1]; omega)
              have hcw2 : (setL (setL csL (0 + k * 3 + 1) [.string (d.files[k].data.extract 0 d.files[k].sync.toNat)]) (0 + k * 3 + 2) [.int .i64 y]).length = csL.length := (setL_length (by rw [hcw1]; simp; omega)).trans hcw1
              refine .t 0 rfl (.move rfl) rfl rfl (by kernel_rfl) <| .t 1 rfl (.fieldAddr fo28_0 rfl) rfl rfl (by kernel_rfl) <| .t 2 rfl (.load ag26 rfl .here rfl) rfl rfl (by kernel_rfl) <| .t 3 rfl (.move rfl) rfl rfl (by kernel_rfl) ?_
              obtain ⟨eb81, eo81, cs81, hd81, hat81, hr81⟩ := SlR.at_ hfv0 (k := k) (by omega)
              cases hd81
              obtain ⟨rfl, hn81, hz81, hs81⟩ := hr81
              unfold StrOk at hn81 hz81
              unfold I64 at hs81
              refine .t 4 rfl (.indexAddrL sl26 rfl rfl rfl (by omega)) rfl rfl (by kernel_rfl) <| .t 5 rfl (.fieldAddr fo70_1 rfl) rfl rfl (by kernel_rfl) <| .t 6 rfl (.loadI ag9 rfl (hat81.cell (j := 1) rfl)) rfl rfl (by kernel_rfl) <| .t 7 rfl (.move rfl) rfl rfl (by kernel_rfl) <| .t 8 rfl (.nilCheck rfl) rfl rfl (by kernel_rfl) <| .t 9 rfl (.fieldAddr fo70_2 rfl) rfl rfl (by kernel_rfl) ?_
              refine .one (i := 10) (by kernel_rfl) rfl rfl ?_
              refine .ev (.load (v := .int .i64 y) ag3 rfl .here ((List.getElem?_toArray).trans hm9y)) rfl ⟨(.cons (.there <| .there <| .there <| .here) .nil), Imm.le_refl _, ?_⟩
              refine .t 11 rfl ((.strH (h := y.toNat) Try.underlying9 rfl rfl (by omega) (by omega))) rfl rfl (by kernel_rfl) <| .t 12 rfl (.nilCheck rfl) rfl rfl (by kernel_rfl) <| .t 13 rfl (.fieldAddr fo70_1 rfl) rfl rfl (by kernel_rfl) <| .one (i := 14) (by kernel_rfl) rfl rfl <| .store sz9 rfl rfl rfl rfl rfl (Nat.ble_eq_true_of_le (by rw [hcw2]; simp; omega)) .here ?_
              refine ⟨(.cons (.there <| .there <| .there <| .here) .nil), Imm.le_refl _, ?_⟩
              refine .done (by kernel_rfl) <| .blk_normal <| .go <| .region <| .e (.add rfl rfl (by first | exact wrap_succ (by omega) | exact IntWalk.i64_in _ (by omega) | exact rfl)) rfl rfl <| .e (.move rfl) rfl rfl ?_
              refine .nil ?_
              have hcr := crash_hi (ks := ks) (y := y) hkn (by rw [intD (by omega)]; exact hye)
              have hoN := own_setQ hw2 (k := k) (q := 1) (.string (d.files[k].data.extract 0 y.toNat)) hkn (by decide)
              have hdN := fil_put hdw2 hgw2 (ext_str (n := y.toNat) hzz0)
              rw [← hcr] at hdN
              exact .mid ((k + 1, _, _)) ⟨by dsimp only; omega, by dsimp only; omega, hoN, hdN⟩ ⟨rfl, trivial⟩ rfl rfl (.pre 74 rfl (.app rfl .base))
    · skip
      replace h25 := of_decide_eq_false h25
      refine .cond_false rfl <| .exit <| .exit <| .exit <| .blk_exit <| .go ?_
      refine .seq <| .region <| .e (.loadW ag28 sz28 rfl (.app <| .here) rfl) rfl rfl <| .on rfl <| .storeW sz28 rfl rfl rfl rfl rfl rfl (.app <| .there <| .here) <| .e (.assign rfl) rfl rfl <| .nil ?_
      refine .go <| .ret <| .sc_ret ?_
      refine Post.rets rfl (.agg rfl ag28 sz28 (.app <| .there <| .here) rfl (.tmp rfl .nil)) rfl (Imm.le_refl _) (fun w h => (Sat.tail (Sat.rem (Sat.tail (Sat.rem (Sat.tail (Sat.rem h (Rem.app <| Rem.here))) (Rem.app <| Rem.here))) (Rem.app <| Rem.here)))) ?_
      have ek : k = d.files.length := by omega
      subst ek
      rw [show crashR d ks = (⟨crashTo d.files ks d.files.length, false, -1⟩, 0) by unfold crashR; rw [if_pos h14]]
      exact ⟨_, _, obL, rfl, (show OwnS 3 _ (List.length _) _ _ by rw [crash_len]; exact hoL), hdL, rfl⟩

end Go.Proofs.Ytjoaccnfnniahaa
