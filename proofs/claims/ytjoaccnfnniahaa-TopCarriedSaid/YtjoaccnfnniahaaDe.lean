/- Walks of functions over a symbolic memory, printed by a program of the session. -/
import Derived.Test.YtjoaccnfnniahaaDd
namespace Go.Proofs.Ytjoaccnfnniahaa
open Go.Sy
set_option linter.unusedSimpArgs false
set_option linter.unusedVariables false

set_option maxHeartbeats 8000000 in
set_option maxRecDepth 20000 in
theorem ddone0_ok {I : Imm} {O : Own} {dc : List Value} {d : Dsk} (hd : DskR I dc d) (hsm : d.files.length ≤ 1000) {s x : ByteArray} (hsS : StrOk s) (hx : StrOk x) (hsz : ∀ f ∈ d.files, StrOk (f.data ++ x)) :
    Go.Sy.Does Try.prog 20 [.agg ⟨dc⟩, .agg ⟨[.int .u8 0, .string s, .string ⟨#[]⟩, .string x, .int .i64 0]⟩] I O (fun u I' O' => ∃ v ws ob, u = .tuple ⟨[.agg ⟨(addR d s x).1.cells v⟩, .int .i64 (addR d s x).2]⟩ ∧ OwnS 3 v (addR d s x).1.files.length ws ob ∧ DR FilR 3 I' ws (addR d s x).1.files ∧ O' = ob ++ O) := by
  have hd0 := hd
  obtain ⟨fv, rfl, hfv⟩ := hd.ex
  have hfv0 := hfv
  obtain ⟨fa, fcap, rfl, hf1, hf2, -⟩ := hfv
  have hfz := hd0.fuse
  unfold I64 at hfz
  have hx0 := hx
  refine Go.Sy.Does.enter Try.func20 rfl Try.ntmps20 rfl ?_
  refine .seq <| .region <| .on rfl <| .box rfl rfl rfl fun c1 _ _ => .on rfl <| .box rfl rfl rfl fun c2 _ _ => .on rfl <| .alloc zr28 rfl fun c3 _ _ => .e (.assign rfl) rfl rfl ?_
  refine .nil <| .go <| .seq <| .seq <| .region <| .e (.loadW ag28 sz28 rfl (.there <| .there <| .here) rfl) rfl rfl ?_
  refine .on rfl <| .callP cal21 rfl rfl rfl (dCheck_ok hd0) <| .e (.assign rfl) rfl rfl <| .nil <| .go <| .seq <| .region ?_
  refine .e (.move rfl) rfl rfl <| .e (.neq rfl rfl) rfl rfl <| .nil <| .go ?_
  refine .split 17 rfl (fun h17 => ?_) (fun h17 => ?_)
  · skip
    first | replace h17 := of_decide_eq_false ((Bool.not_eq_true' _).mp h17) | replace h17 := of_decide_eq_false (by simpa using h17)
    refine .cond_true rfl <| .seq <| .region <| .e (.build bs28 zv28 rfl rfl) rfl rfl <| .e (.move rfl) rfl rfl <| .on rfl <| .storeW sz28 rfl rfl rfl rfl rfl rfl .here ?_
    refine .e (.assign rfl) rfl rfl <| .nil <| .go <| .ret <| .ret ?_
    refine Post.rets rfl (.agg rfl ag28 sz28 .here rfl (.tmp rfl .nil)) rfl (Imm.le_refl _) (fun w h => (Sat.tail (Sat.tail (Sat.tail h)))) ?_
    rw [show addR d s x = (⟨[], false, 0⟩, diskWhy d) by unfold addR; rw [if_neg h17]]
    exact ⟨_, _, _, rfl, OwnS.nil, DR.nil, rfl⟩
  · skip
    first | replace h17 := of_decide_eq_true ((Bool.not_eq_false' _).mp h17) | replace h17 := of_decide_eq_true (by simpa using h17)
    have hok := diskWhy_ok h17
    have hle := (disk_ok hok).2
    have hris := disk_rising (disk_ok hok).1
    refine .cond_false rfl <| .skip <| .go <| .seq <| .region <| .e (.fieldAddr fo28_0 rfl) rfl rfl ?_
    refine .e (.load ag26 rfl (.there <| .there <| .here) rfl) rfl rfl <| .on rfl <| .call cal22 rfl rfl rfl (cloneFil_ok hfv0 (by omega)) fun v22 I22 O22 hI22 hK22 => ?_
    obtain ⟨hq22, ws22, ob22, ho22, hd22, rfl⟩ := hK22
    replace hq22 := hq22.symm
    subst hq22
    obtain ⟨ad22, cap22, rfl⟩ := ho22.form
    refine .e (.fieldAddr fo28_0 rfl) rfl rfl <| .on rfl <| .store sz26 rfl rfl rfl rfl rfl rfl (.app <| .there <| .there <| .here) <| .nil <| .go <| .seq <| .seq ?_
    refine .region <| .e (.fieldAddr fo28_1 rfl) rfl rfl <| .e (.load ag4 rfl (.app <| .there <| .there <| .here) rfl) rfl rfl <| .nil <| .go ?_
    refine .split 25 rfl (fun h25 => ?_) (fun h25 => ?_)
    · skip
      refine .cond_true rfl <| .seq <| .region <| .e (.loadW ag28 sz28 rfl (.app <| .there <| .there <| .here) rfl) rfl rfl <| .on rfl <| .storeW sz28 rfl rfl rfl rfl rfl rfl (.app <| .here) <| .e (.assign rfl) rfl rfl ?_
      refine .nil <| .go <| .ret <| .ret ?_
      refine Post.rets rfl (.agg rfl ag28 sz28 (.app <| .here) rfl (.tmp rfl .nil)) rfl (Imm.le_refl _) (fun w h => (Sat.tail (Sat.rem (Sat.tail (Sat.rem (Sat.tail (Sat.rem h (Rem.app <| Rem.here))) (Rem.app <| Rem.here))) (Rem.app <| Rem.here)))) ?_
      rw [show addR d s x = (d, 8) by unfold addR; rw [if_pos h17, if_pos h25]]
      exact ⟨_, _, ob22, rfl, ho22, hd22, rfl⟩
    · skip
      refine .cond_false rfl <| .skip <| .go <| .seq <| .seq <| .region ?_
      refine .e (.loadW ag66 sz66 rfl (.app <| .there <| .here) rfl) rfl rfl <| .e (.loadW ag28 sz28 rfl (.app <| .there <| .there <| .here) rfl) rfl rfl ?_
      refine .lend ho22 fun K hK hKs hKt => ?_
      have hdK1 : DskR K (d.cells (.slice ad22 d.files.length cap22)) d := ⟨⟨_, rfl, hKs (R := FilR) (hd22.mono fun _ _ h => h) rfl⟩, hfz⟩
      refine .on rfl <| .callP cal37 rfl rfl rfl (drefA_ok hdK1 hris hsm) ?_
      refine .thaw hKt ?_
      refine .e (.assign rfl) rfl rfl <| .nil <| .go <| .seq <| .region <| .e (.move rfl) rfl rfl ?_
      refine .e (.neq rfl rfl) rfl rfl <| .nil <| .go ?_
      refine .split 31 rfl (fun h31 => ?_) (fun h31 => ?_)
      · skip
        first | replace h31 := of_decide_eq_false ((Bool.not_eq_true' _).mp h31) | replace h31 := of_decide_eq_false (by simpa using h31)
        refine .cond_true rfl <| .seq <| .region <| .e (.loadW ag28 sz28 rfl (.app <| .there <| .there <| .here) rfl) rfl rfl <| .e (.move rfl) rfl rfl <| .on rfl <| .storeW sz28 rfl rfl rfl rfl rfl rfl (.app <| .here) ?_
        refine .e (.assign rfl) rfl rfl <| .nil <| .go <| .ret <| .ret ?_
        refine Post.rets rfl (.agg rfl ag28 sz28 (.app <| .here) rfl (.tmp rfl .nil)) rfl (Imm.le_refl _) (fun w h => (Sat.tail (Sat.rem (Sat.tail (Sat.rem (Sat.tail (Sat.rem h (Rem.app <| Rem.here))) (Rem.app <| Rem.here))) (Rem.app <| Rem.here)))) ?_
        rw [show addR d s x = (d, refA d s) by unfold addR; rw [if_pos h17, if_neg (by rw [h25]; simp), if_neg h31]]
        exact ⟨_, _, ob22, rfl, ho22, hd22, rfl⟩
      · skip
        first | replace h31 := of_decide_eq_true ((Bool.not_eq_false' _).mp h31) | replace h31 := of_decide_eq_true (by simpa using h31)
        refine .cond_false rfl <| .skip <| .go <| .seq <| .region <| .e (.loadW ag28 sz28 rfl (.app <| .there <| .there <| .here) rfl) rfl rfl ?_
        refine .e (.fieldAddr fo66_1 rfl) rfl rfl <| .e (.load ag9 rfl (.app <| .there <| .here) rfl) rfl rfl ?_
        refine .lend ho22 fun L hL hLs hLt => ?_
        have hdL1 : DskR L (d.cells (.slice ad22 d.files.length cap22)) d := ⟨⟨_, rfl, hLs (R := FilR) (hd22.mono fun _ _ h => h) rfl⟩, hfz⟩
        refine .on rfl <| .callP cal24 rfl rfl rfl (dplace_ok hdL1 hris (disk_small hsm)) <| .e (.move rfl) rfl rfl ?_
        refine .thaw hLt ?_
        refine .e (.extract rfl rfl) rfl rfl <| .e (.extract rfl rfl) rfl rfl <| .e (.assign rfl) rfl rfl <| .e (.assign rfl) rfl rfl <| .nil <| .go ?_
        refine .seq <| .seq <| .region <| .e (.fieldAddr fo66_0 rfl) rfl rfl <| .e (.load ag64 rfl (.app <| .there <| .here) rfl) rfl rfl <| .e (.eql rfl rfl) rfl rfl ?_
        refine .nil <| .go <| .cond_true rfl <| .seq <| .seq <| .region ?_
        refine .e (.move rfl) rfl rfl <| .e (.not rfl) rfl rfl <| .nil <| .go ?_
        refine .split 45 rfl (fun h45 => ?_) (fun h45 => ?_)
        · skip
          refine .cond_true rfl <| .region <| .e (.fieldAddr fo28_0 rfl) rfl rfl <| .e (.load ag26 rfl (.app <| .there <| .there <| .here) rfl) rfl rfl <| .e (.move rfl) rfl rfl <| .e (.fieldAddr fo66_1 rfl) rfl rfl ?_
          refine .e (.load ag9 rfl (.app <| .there <| .here) rfl) rfl rfl <| .e (.build bs70 zv70 rfl rfl) rfl rfl <| .on rfl <| .buildSlice Try.underlying26 sz70 (by decide) (by decide) zv70 rfl rfl rfl rfl rfl fun c4 _ _ => ?_
          refine .front (.there <| .front) ?_
          refine .on rfl <| .call cal38 rfl rfl rfl (insFil_ok ho22 hd22 (x := ⟨s, ⟨#[]⟩, 0⟩) ⟨rfl, hsS, (show (0 : Nat) ≤ _ by decide), (show -9223372036854775808 ≤ (0 : Int) ∧ (0 : Int) ≤ 9223372036854775807 by decide)⟩ posF_le (by omega)) fun v53 I53 O53 hI53 hK53 => ?_
          obtain ⟨hq53, ws53, ob53, ho53, hd53, rfl⟩ := hK53
          replace hq53 := hq53.symm
          subst hq53
          obtain ⟨ad53, cap53, rfl⟩ := ho53.form
          refine .e (.fieldAddr fo28_0 rfl) rfl rfl <| .on rfl <| .store sz26 rfl rfl rfl rfl rfl rfl (.app <| .there <| .there <| .here) <| .nil <| .go ?_
          refine .draw [(c1, _), (c2, _)] mixed (.cons (.app <| .there <| .there <| .here) (.cons (.app <| .there <| .here) .nil)) ?_
          have hhas : hasF d s = false := by simpa using h45
          have hB := base_no hhas
          have hBl := base_len (d := d) (s := s)
          simp only [hhas, if_true, Bool.false_eq_true, if_false] at hBl
          have hBa := base_at (s := s) (disk_ok hok).1
          have hf := at_get hBa
          have hdB : DR FilR 3 I ws53 (baseF d s) := by rw [hB]; exact hd53
          have hst := at_str (s := s) hx hsz hBa
          rw [hBl] at hBa
          obtain ⟨hc8, hc9, -⟩ := fil_at hdB hf
          obtain ⟨_, h0, _, _⟩ | ⟨bL, cpL, csL, TL, hv5, rfl, hc1, hc2, hc3, hc4, hc5⟩ := ho53
          · omega
          cases hv5
          simp only [@List.singleton_append (Nat × Obj)]
          have hclL : posF d s * 3 + 3 ≤ csL.length := by have := Nat.mul_le_mul_right 3 hc1; omega
          have hm8 := cellY hc3 hc8
          have hm9 := cellY hc3 hc9
          refine .t 0 rfl (.fieldAddr fo28_0 rfl) rfl rfl (by kernel_rfl) <| .t 1 rfl (.load ag26 rfl .here rfl) rfl rfl (by kernel_rfl) <| .t 2 rfl (.move rfl) rfl rfl (by kernel_rfl) <| .t 3 rfl (.indexAddrL sl26 rfl rfl rfl hBa) rfl rfl (by kernel_rfl) <| .t 4 rfl (.fieldAddr fo70_1 rfl) rfl rfl (by kernel_rfl) <| .t 6 rfl (.fieldAddr fo66_3 rfl) rfl rfl (by kernel_rfl) ?_
          refine .t 7 rfl (.load ag9 rfl (.there <| .here) rfl) rfl rfl (by kernel_rfl) <| .one (i := 5) (by kernel_rfl) rfl rfl ?_
          refine .ev (.load (v := .string (atF d s).data) ag9 rfl .here ((List.getElem?_toArray).trans hm8)) rfl ⟨(.cons (.there <| .there <| .there <| .here) (.cons (.there <| .there <| .here) .nil)), Imm.le_refl _, ?_⟩
          refine .t 8 rfl (.strcat rfl rfl (by unfold StrOk at hst; rw [ByteArray.size_append] at hst; exact hst)) rfl rfl (by kernel_rfl) <| .t 9 rfl (.indexAddrL sl26 rfl rfl rfl hBa) rfl rfl (by kernel_rfl) <| .t 10 rfl (.fieldAddr fo70_1 rfl) rfl rfl (by kernel_rfl) <| .one (i := 11) (by kernel_rfl) rfl rfl <| .store sz9 rfl rfl rfl rfl rfl (Nat.ble_eq_true_of_le (by first | (simp; omega) | omega)) .here ?_
          refine ⟨(.cons (.there <| .there <| .there <| .here) (.cons (.there <| .there <| .here) .nil)), Imm.le_refl _, ?_⟩
          refine .done (by kernel_rfl) <| .go <| .seq <| .seq <| .region <| .e (.fieldAddr fo28_2 rfl) rfl rfl ?_
          refine .e (.load ag3 rfl (.there <| .there <| .there <| .here) rfl) rfl rfl <| .e (.eql rfl rfl) rfl rfl <| .nil <| .go ?_
          refine .split 68 rfl (fun h68 => ?_) (fun h68 => ?_)
          · skip
            replace h68 := of_decide_eq_true h68
            refine .cond_true rfl <| .seq <| .region <| .e (.fieldAddr fo28_1 rfl) rfl rfl <| .on rfl <| .store sz4 rfl rfl rfl rfl rfl rfl (.there <| .there <| .there <| .here) <| .nil ?_
            refine .go <| .seq <| .region <| .e (.loadW ag28 sz28 rfl (.there <| .there <| .there <| .here) rfl) rfl rfl <| .on rfl <| .storeW sz28 rfl rfl rfl rfl rfl rfl (.there <| .here) <| .e (.assign rfl) rfl rfl ?_
            refine .nil <| .go <| .ret <| .ret ?_
            refine Post.rets rfl (.agg rfl ag28 sz28 (.there <| .here) rfl (.tmp rfl .nil)) rfl (Imm.le_refl _) (fun w h => (Sat.tail (Sat.rem (Sat.tail (Sat.rem (Sat.tail (Sat.rem h (Rem.there <| Rem.here))) (Rem.there <| Rem.here))) (Rem.there <| Rem.here)))) ?_
            rw [show addR d s x = (⟨putF d s x, true, d.fuse⟩, 8) by unfold addR; rw [if_pos h17, if_neg (by rw [h25]; simp), if_pos h31, if_pos h68]]
            exact ⟨_, _, _, rfl, (show OwnS 3 _ (List.length _) _ _ by rw [show (putF d s x).length = (d.files.length + 1) from (List.length_set).trans hBl]; exact own_setY (T := TL) (b := bL) (.string ((atF d s).data ++ x)) hc3 hBa (by decide) hc1 hc2 hc4 hc5), fil_put hdB hf hst, rfl⟩
          · skip
            replace h68 := of_decide_eq_false h68
            refine .cond_false rfl <| .skip <| .go <| .seq <| .seq <| .region ?_
            refine .e (.fieldAddr fo28_2 rfl) rfl rfl <| .e (.load ag3 rfl (.there <| .there <| .there <| .here) rfl) rfl rfl <| .e (.gtr rfl rfl) rfl rfl <| .nil <| .go ?_
            refine .split 73 rfl (fun h73 => ?_) (fun h73 => ?_)
            · skip
              replace h73 := of_decide_eq_true h73
              refine .cond_true rfl <| .region <| .e (.fieldAddr fo28_2 rfl) rfl rfl <| .e (.load ag3 rfl (.there <| .there <| .there <| .here) rfl) rfl rfl <| .e (.sub rfl rfl (IntWalk.i64_in _ (by omega))) rfl rfl <| .e (.fieldAddr fo28_2 rfl) rfl rfl ?_
              refine .on rfl <| .store sz3 rfl rfl rfl rfl rfl rfl (.there <| .there <| .there <| .here) <| .nil <| .go <| .seq <| .region <| .e (.fieldAddr fo28_0 rfl) rfl rfl ?_
              refine .e (.load ag26 rfl (.there <| .there <| .there <| .here) rfl) rfl rfl <| .e (.move rfl) rfl rfl <| .e (.indexAddrL sl26 rfl rfl rfl hBa) rfl rfl <| .e (.assign rfl) rfl rfl <| .nil <| .go ?_
              refine .seq <| .seq <| .region <| .e (.fieldAddr fo66_0 rfl) rfl rfl <| .e (.load ag64 rfl (.there <| .there <| .here) rfl) rfl rfl <| .nil ?_
              refine .go <| .block <| .seq <| .region <| .e (.eql rfl rfl) rfl rfl <| .e (.assign rfl) rfl rfl ?_
              refine .nil <| .go <| .cond_false rfl <| .seq <| .region <| .e (.eql rfl rfl) rfl rfl ?_
              refine .e (.assign rfl) rfl rfl <| .nil <| .go <| .cond_false rfl <| .seq <| .region ?_
              refine .e (.eql rfl rfl) rfl rfl <| .e (.assign rfl) rfl rfl <| .nil <| .go <| .cond_false rfl <| .seq ?_
              refine .region <| .e (.eql rfl rfl) rfl rfl <| .e (.assign rfl) rfl rfl <| .nil <| .go <| .cond_false rfl ?_
              refine .skip <| .blk_normal <| .go <| .seq <| .region <| .e (.loadW ag28 sz28 rfl (.there <| .there <| .there <| .here) rfl) rfl rfl ?_
              refine .on rfl <| .storeW sz28 rfl rfl rfl rfl rfl rfl (.there <| .here) <| .e (.assign rfl) rfl rfl <| .nil <| .go <| .ret ?_
              refine Post.rets rfl (.agg rfl ag28 sz28 (.there <| .here) rfl (.tmp rfl .nil)) rfl (Imm.le_refl _) (fun w h => (Sat.tail (Sat.rem (Sat.tail (Sat.rem (Sat.tail (Sat.rem h (Rem.there <| Rem.here))) (Rem.there <| Rem.here))) (Rem.there <| Rem.here)))) ?_
              rw [show addR d s x = (⟨putF d s x, d.down, d.fuse - 1⟩, 0) by unfold addR; rw [if_pos h17, if_neg (by rw [h25]; simp), if_pos h31, if_neg h68, if_pos (by omega)]]
              exact ⟨_, _, _, rfl, (show OwnS 3 _ (List.length _) _ _ by rw [show (putF d s x).length = (d.files.length + 1) from (List.length_set).trans hBl]; exact own_setY (T := TL) (b := bL) (.string ((atF d s).data ++ x)) hc3 hBa (by decide) hc1 hc2 hc4 hc5), fil_put hdB hf hst, rfl⟩
            · skip
              replace h73 := of_decide_eq_false h73
              refine .cond_false rfl <| .skip <| .go <| .seq <| .region <| .e (.fieldAddr fo28_0 rfl) rfl rfl ?_
              refine .e (.load ag26 rfl (.there <| .there <| .there <| .here) rfl) rfl rfl <| .e (.move rfl) rfl rfl <| .e (.indexAddrL sl26 rfl rfl rfl hBa) rfl rfl <| .e (.assign rfl) rfl rfl <| .nil <| .go ?_
              refine .seq <| .seq <| .region <| .e (.fieldAddr fo66_0 rfl) rfl rfl <| .e (.load ag64 rfl (.there <| .there <| .here) rfl) rfl rfl <| .nil ?_
              refine .go <| .block <| .seq <| .region <| .e (.eql rfl rfl) rfl rfl <| .e (.assign rfl) rfl rfl ?_
              refine .nil <| .go <| .cond_false rfl <| .seq <| .region <| .e (.eql rfl rfl) rfl rfl ?_
              refine .e (.assign rfl) rfl rfl <| .nil <| .go <| .cond_false rfl <| .seq <| .region ?_
              refine .e (.eql rfl rfl) rfl rfl <| .e (.assign rfl) rfl rfl <| .nil <| .go <| .cond_false rfl <| .seq ?_
              refine .region <| .e (.eql rfl rfl) rfl rfl <| .e (.assign rfl) rfl rfl <| .nil <| .go <| .cond_false rfl ?_
              refine .skip <| .blk_normal <| .go <| .seq <| .region <| .e (.loadW ag28 sz28 rfl (.there <| .there <| .there <| .here) rfl) rfl rfl ?_
              refine .on rfl <| .storeW sz28 rfl rfl rfl rfl rfl rfl (.there <| .here) <| .e (.assign rfl) rfl rfl <| .nil <| .go <| .ret ?_
              refine Post.rets rfl (.agg rfl ag28 sz28 (.there <| .here) rfl (.tmp rfl .nil)) rfl (Imm.le_refl _) (fun w h => (Sat.tail (Sat.rem (Sat.tail (Sat.rem (Sat.tail (Sat.rem h (Rem.there <| Rem.here))) (Rem.there <| Rem.here))) (Rem.there <| Rem.here)))) ?_
              rw [show addR d s x = (⟨putF d s x, d.down, d.fuse⟩, 0) by unfold addR; rw [if_pos h17, if_neg (by rw [h25]; simp), if_pos h31, if_neg h68, if_neg (by omega)]]
              exact ⟨_, _, _, rfl, (show OwnS 3 _ (List.length _) _ _ by rw [show (putF d s x).length = (d.files.length + 1) from (List.length_set).trans hBl]; exact own_setY (T := TL) (b := bL) (.string ((atF d s).data ++ x)) hc3 hBa (by decide) hc1 hc2 hc4 hc5), fil_put hdB hf hst, rfl⟩
        · skip
          refine .cond_false rfl <| .skip <| .go ?_
          refine .draw [(c1, _), (c2, _)] mixed (.cons (.app <| .there <| .there <| .here) (.cons (.app <| .there <| .here) .nil)) ?_
          have hhas : hasF d s = true := by simpa using h45
          have hB := base_yes hhas
          have hBl := base_len (d := d) (s := s)
          simp only [hhas, if_true, Bool.false_eq_true, if_false] at hBl
          have hBa := base_at (s := s) (disk_ok hok).1
          have hf := at_get hBa
          have hdB : DR FilR 3 I ws22 (baseF d s) := by rw [hB]; exact hd22
          have hst := at_str (s := s) hx hsz hBa
          rw [hBl] at hBa
          obtain ⟨hc8, hc9, -⟩ := fil_at hdB hf
          obtain ⟨_, h0, _, _⟩ | ⟨bL, cpL, csL, TL, hv5, rfl, hc1, hc2, hc3, hc4, hc5⟩ := ho22
          · omega
          cases hv5
          simp only [@List.singleton_append (Nat × Obj)]
          have hclL : posF d s * 3 + 3 ≤ csL.length := by have := Nat.mul_le_mul_right 3 hc1; omega
          have hm8 := cellY hc3 hc8
          have hm9 := cellY hc3 hc9
          refine .t 0 rfl (.fieldAddr fo28_0 rfl) rfl rfl (by kernel_rfl) <| .t 1 rfl (.load ag26 rfl .here rfl) rfl rfl (by kernel_rfl) <| .t 2 rfl (.move rfl) rfl rfl (by kernel_rfl) <| .t 3 rfl (.indexAddrL sl26 rfl rfl rfl hBa) rfl rfl (by kernel_rfl) <| .t 4 rfl (.fieldAddr fo70_1 rfl) rfl rfl (by kernel_rfl) <| .t 6 rfl (.fieldAddr fo66_3 rfl) rfl rfl (by kernel_rfl) ?_
          refine .t 7 rfl (.load ag9 rfl (.there <| .here) rfl) rfl rfl (by kernel_rfl) <| .one (i := 5) (by kernel_rfl) rfl rfl ?_
          refine .ev (.load (v := .string (atF d s).data) ag9 rfl .here ((List.getElem?_toArray).trans hm8)) rfl ⟨(.cons (.there <| .there <| .there <| .here) (.cons (.there <| .there <| .here) .nil)), Imm.le_refl _, ?_⟩
          refine .t 8 rfl (.strcat rfl rfl (by unfold StrOk at hst; rw [ByteArray.size_append] at hst; exact hst)) rfl rfl (by kernel_rfl) <| .t 9 rfl (.indexAddrL sl26 rfl rfl rfl hBa) rfl rfl (by kernel_rfl) <| .t 10 rfl (.fieldAddr fo70_1 rfl) rfl rfl (by kernel_rfl) <| .one (i := 11) (by kernel_rfl) rfl rfl <| .store sz9 rfl rfl rfl rfl rfl (Nat.ble_eq_true_of_le (by first | (simp; omega) | omega)) .here ?_
          refine ⟨(.cons (.there <| .there <| .there <| .here) (.cons (.there <| .there <| .here) .nil)), Imm.le_refl _, ?_⟩
          refine .done (by kernel_rfl) <| .go <| .seq <| .seq <| .region <| .e (.fieldAddr fo28_2 rfl) rfl rfl ?_
          refine .e (.load ag3 rfl (.there <| .there <| .there <| .here) rfl) rfl rfl <| .e (.eql rfl rfl) rfl rfl <| .nil <| .go ?_
          refine .split 68 rfl (fun h68 => ?_) (fun h68 => ?_)
          · skip
            replace h68 := of_decide_eq_true h68
            refine .cond_true rfl <| .seq <| .region <| .e (.fieldAddr fo28_1 rfl) rfl rfl <| .on rfl <| .store sz4 rfl rfl rfl rfl rfl rfl (.there <| .there <| .there <| .here) <| .nil ?_
            refine .go <| .seq <| .region <| .e (.loadW ag28 sz28 rfl (.there <| .there <| .there <| .here) rfl) rfl rfl <| .on rfl <| .storeW sz28 rfl rfl rfl rfl rfl rfl (.there <| .here) <| .e (.assign rfl) rfl rfl ?_
            refine .nil <| .go <| .ret <| .ret ?_
            refine Post.rets rfl (.agg rfl ag28 sz28 (.there <| .here) rfl (.tmp rfl .nil)) rfl (Imm.le_refl _) (fun w h => (Sat.tail (Sat.rem (Sat.tail (Sat.rem (Sat.tail (Sat.rem h (Rem.there <| Rem.here))) (Rem.there <| Rem.here))) (Rem.there <| Rem.here)))) ?_
            rw [show addR d s x = (⟨putF d s x, true, d.fuse⟩, 8) by unfold addR; rw [if_pos h17, if_neg (by rw [h25]; simp), if_pos h31, if_pos h68]]
            exact ⟨_, _, _, rfl, (show OwnS 3 _ (List.length _) _ _ by rw [show (putF d s x).length = d.files.length from (List.length_set).trans hBl]; exact own_setY (T := TL) (b := bL) (.string ((atF d s).data ++ x)) hc3 hBa (by decide) hc1 hc2 hc4 hc5), fil_put hdB hf hst, rfl⟩
          · skip
            replace h68 := of_decide_eq_false h68
            refine .cond_false rfl <| .skip <| .go <| .seq <| .seq <| .region ?_
            refine .e (.fieldAddr fo28_2 rfl) rfl rfl <| .e (.load ag3 rfl (.there <| .there <| .there <| .here) rfl) rfl rfl <| .e (.gtr rfl rfl) rfl rfl <| .nil <| .go ?_
            refine .split 73 rfl (fun h73 => ?_) (fun h73 => ?_)
            · skip
              replace h73 := of_decide_eq_true h73
              refine .cond_true rfl <| .region <| .e (.fieldAddr fo28_2 rfl) rfl rfl <| .e (.load ag3 rfl (.there <| .there <| .there <| .here) rfl) rfl rfl <| .e (.sub rfl rfl (IntWalk.i64_in _ (by omega))) rfl rfl <| .e (.fieldAddr fo28_2 rfl) rfl rfl ?_
              refine .on rfl <| .store sz3 rfl rfl rfl rfl rfl rfl (.there <| .there <| .there <| .here) <| .nil <| .go <| .seq <| .region <| .e (.fieldAddr fo28_0 rfl) rfl rfl ?_
              refine .e (.load ag26 rfl (.there <| .there <| .there <| .here) rfl) rfl rfl <| .e (.move rfl) rfl rfl <| .e (.indexAddrL sl26 rfl rfl rfl hBa) rfl rfl <| .e (.assign rfl) rfl rfl <| .nil <| .go ?_
              refine .seq <| .seq <| .region <| .e (.fieldAddr fo66_0 rfl) rfl rfl <| .e (.load ag64 rfl (.there <| .there <| .here) rfl) rfl rfl <| .nil ?_
              refine .go <| .block <| .seq <| .region <| .e (.eql rfl rfl) rfl rfl <| .e (.assign rfl) rfl rfl ?_
              refine .nil <| .go <| .cond_false rfl <| .seq <| .region <| .e (.eql rfl rfl) rfl rfl ?_
              refine .e (.assign rfl) rfl rfl <| .nil <| .go <| .cond_false rfl <| .seq <| .region ?_
              refine .e (.eql rfl rfl) rfl rfl <| .e (.assign rfl) rfl rfl <| .nil <| .go <| .cond_false rfl <| .seq ?_
              refine .region <| .e (.eql rfl rfl) rfl rfl <| .e (.assign rfl) rfl rfl <| .nil <| .go <| .cond_false rfl ?_
              refine .skip <| .blk_normal <| .go <| .seq <| .region <| .e (.loadW ag28 sz28 rfl (.there <| .there <| .there <| .here) rfl) rfl rfl ?_
              refine .on rfl <| .storeW sz28 rfl rfl rfl rfl rfl rfl (.there <| .here) <| .e (.assign rfl) rfl rfl <| .nil <| .go <| .ret ?_
              refine Post.rets rfl (.agg rfl ag28 sz28 (.there <| .here) rfl (.tmp rfl .nil)) rfl (Imm.le_refl _) (fun w h => (Sat.tail (Sat.rem (Sat.tail (Sat.rem (Sat.tail (Sat.rem h (Rem.there <| Rem.here))) (Rem.there <| Rem.here))) (Rem.there <| Rem.here)))) ?_
              rw [show addR d s x = (⟨putF d s x, d.down, d.fuse - 1⟩, 0) by unfold addR; rw [if_pos h17, if_neg (by rw [h25]; simp), if_pos h31, if_neg h68, if_pos (by omega)]]
              exact ⟨_, _, _, rfl, (show OwnS 3 _ (List.length _) _ _ by rw [show (putF d s x).length = d.files.length from (List.length_set).trans hBl]; exact own_setY (T := TL) (b := bL) (.string ((atF d s).data ++ x)) hc3 hBa (by decide) hc1 hc2 hc4 hc5), fil_put hdB hf hst, rfl⟩
            · skip
              replace h73 := of_decide_eq_false h73
              refine .cond_false rfl <| .skip <| .go <| .seq <| .region <| .e (.fieldAddr fo28_0 rfl) rfl rfl ?_
              refine .e (.load ag26 rfl (.there <| .there <| .there <| .here) rfl) rfl rfl <| .e (.move rfl) rfl rfl <| .e (.indexAddrL sl26 rfl rfl rfl hBa) rfl rfl <| .e (.assign rfl) rfl rfl <| .nil <| .go ?_
              refine .seq <| .seq <| .region <| .e (.fieldAddr fo66_0 rfl) rfl rfl <| .e (.load ag64 rfl (.there <| .there <| .here) rfl) rfl rfl <| .nil ?_
              refine .go <| .block <| .seq <| .region <| .e (.eql rfl rfl) rfl rfl <| .e (.assign rfl) rfl rfl ?_
              refine .nil <| .go <| .cond_false rfl <| .seq <| .region <| .e (.eql rfl rfl) rfl rfl ?_
              refine .e (.assign rfl) rfl rfl <| .nil <| .go <| .cond_false rfl <| .seq <| .region ?_
              refine .e (.eql rfl rfl) rfl rfl <| .e (.assign rfl) rfl rfl <| .nil <| .go <| .cond_false rfl <| .seq ?_
              refine .region <| .e (.eql rfl rfl) rfl rfl <| .e (.assign rfl) rfl rfl <| .nil <| .go <| .cond_false rfl ?_
              refine .skip <| .blk_normal <| .go <| .seq <| .region <| .e (.loadW ag28 sz28 rfl (.there <| .there <| .there <| .here) rfl) rfl rfl ?_
              refine .on rfl <| .storeW sz28 rfl rfl rfl rfl rfl rfl (.there <| .here) <| .e (.assign rfl) rfl rfl <| .nil <| .go <| .ret ?_
              refine Post.rets rfl (.agg rfl ag28 sz28 (.there <| .here) rfl (.tmp rfl .nil)) rfl (Imm.le_refl _) (fun w h => (Sat.tail (Sat.rem (Sat.tail (Sat.rem (Sat.tail (Sat.rem h (Rem.there <| Rem.here))) (Rem.there <| Rem.here))) (Rem.there <| Rem.here)))) ?_
              rw [show addR d s x = (⟨putF d s x, d.down, d.fuse⟩, 0) by unfold addR; rw [if_pos h17, if_neg (by rw [h25]; simp), if_pos h31, if_neg h68, if_neg (by omega)]]
              exact ⟨_, _, _, rfl, (show OwnS 3 _ (List.length _) _ _ by rw [show (putF d s x).length = d.files.length from (List.length_set).trans hBl]; exact own_setY (T := TL) (b := bL) (.string ((atF d s).data ++ x)) hc3 hBa (by decide) hc1 hc2 hc4 hc5), fil_put hdB hf hst, rfl⟩

end Go.Proofs.Ytjoaccnfnniahaa
