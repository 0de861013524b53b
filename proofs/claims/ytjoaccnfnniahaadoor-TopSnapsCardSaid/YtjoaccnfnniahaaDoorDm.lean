/- Walks of functions over a symbolic memory, printed by a program of the session. -/
import Derived.Test.YtjoaccnfnniahaaDoorDk
namespace Go.Proofs.YtjoaccnfnniahaaDoor
open Go.Sy
set_option linter.unusedSimpArgs false
set_option linter.unusedVariables false

set_option maxHeartbeats 1000000 in
set_option maxRecDepth 20000 in
theorem ddone3_ok {I : Imm} {O : Own} {dc : List Value} {d : Dsk} (hd : DskR I dc d) (hsm : d.files.length ≤ 1000) {s t : ByteArray} (hsS : StrOk s) (ht : StrOk t) :
    Go.Sy.Does Tryd.prog 21 [.agg ⟨dc⟩, .agg ⟨[.int .u8 3, .string s, .string t, .string ⟨#[]⟩, .int .i64 0]⟩] I O (fun u I' O' => ∃ v ws ob, u = .tuple ⟨[.agg ⟨(swapR d s t).1.cells v⟩, .int .i64 (swapR d s t).2]⟩ ∧ OwnS 3 v (swapR d s t).1.files.length ws ob ∧ DR FilR 3 I' ws (swapR d s t).1.files ∧ O' = ob ++ O) := by
  have hd0 := hd
  obtain ⟨fv, rfl, hfv⟩ := hd.ex
  have hfv0 := hfv
  obtain ⟨fa, fcap, rfl, hf1, hf2, -⟩ := hfv
  have hfz := hd0.fuse
  unfold I64 at hfz
  refine Go.Sy.Does.enter Tryd.func21 rfl Tryd.ntmps21 rfl ?_
  refine .seq <| .region <| .on rfl <| .box rfl rfl rfl fun c1 _ _ => .on rfl <| .box rfl rfl rfl fun c2 _ _ => .on rfl <| .alloc zr27 rfl fun c3 _ _ => .e (.assign rfl) rfl rfl ?_
  refine .nil <| .go <| .seq <| .seq <| .region <| .e (.loadW ag27 sz27 rfl (.there <| .there <| .here) rfl) rfl rfl ?_
  refine .on rfl <| .callP cal17 rfl rfl rfl (dCheck_ok hd0) <| .e (.assign rfl) rfl rfl <| .nil <| .go <| .seq <| .region ?_
  refine .e (.move rfl) rfl rfl <| .e (.neq rfl rfl) rfl rfl <| .nil <| .go ?_
  refine .split 17 rfl (fun h17 => ?_) (fun h17 => ?_)
  · skip
    first | replace h17 := of_decide_eq_false ((Bool.not_eq_true' _).mp h17) | replace h17 := of_decide_eq_false (by simpa using h17)
    refine .cond_true rfl <| .seq <| .region <| .e (.build bs27 zv27 rfl rfl) rfl rfl <| .e (.move rfl) rfl rfl <| .on rfl <| .storeW sz27 rfl rfl rfl rfl rfl rfl .here ?_
    refine .e (.assign rfl) rfl rfl <| .nil <| .go <| .ret <| .ret ?_
    refine Post.rets rfl (.agg rfl ag27 sz27 .here rfl (.tmp rfl .nil)) rfl (Imm.le_refl _) (fun w h => (Sat.tail (Sat.tail (Sat.tail h)))) ?_
    rw [show swapR d s t = (⟨[], false, 0⟩, diskWhy d) by unfold swapR; rw [if_neg h17]]
    exact ⟨_, _, _, rfl, OwnS.nil, DR.nil, rfl⟩
  · skip
    first | replace h17 := of_decide_eq_true ((Bool.not_eq_false' _).mp h17) | replace h17 := of_decide_eq_true (by simpa using h17)
    have hok := diskWhy_ok h17
    have hle := (disk_ok hok).2
    have hris := disk_rising (disk_ok hok).1
    refine .cond_false rfl <| .skip <| .go <| .seq <| .region <| .e (.fieldAddr fo27_0 rfl) rfl rfl ?_
    refine .e (.load ag25 rfl (.there <| .there <| .here) rfl) rfl rfl <| .on rfl <| .call cal18 rfl rfl rfl (cloneFil_ok hfv0 (by omega)) fun v22 I22 O22 hI22 hK22 => ?_
    obtain ⟨hq22, ws22, ob22, ho22, hd22, rfl⟩ := hK22
    replace hq22 := hq22.symm
    subst hq22
    obtain ⟨ad22, cap22, rfl⟩ := ho22.form
    refine .e (.fieldAddr fo27_0 rfl) rfl rfl <| .on rfl <| .store sz25 rfl rfl rfl rfl rfl rfl (.app <| .there <| .there <| .here) <| .nil <| .go <| .seq <| .seq ?_
    refine .region <| .e (.fieldAddr fo27_1 rfl) rfl rfl <| .e (.load ag4 rfl (.app <| .there <| .there <| .here) rfl) rfl rfl <| .nil <| .go ?_
    refine .split 25 rfl (fun h25 => ?_) (fun h25 => ?_)
    · skip
      refine .cond_true rfl <| .seq <| .region <| .e (.loadW ag27 sz27 rfl (.app <| .there <| .there <| .here) rfl) rfl rfl <| .on rfl <| .storeW sz27 rfl rfl rfl rfl rfl rfl (.app <| .here) <| .e (.assign rfl) rfl rfl ?_
      refine .nil <| .go <| .ret <| .ret ?_
      refine Post.rets rfl (.agg rfl ag27 sz27 (.app <| .here) rfl (.tmp rfl .nil)) rfl (Imm.le_refl _) (fun w h => (Sat.tail (Sat.rem (Sat.tail (Sat.rem (Sat.tail (Sat.rem h (Rem.app <| Rem.here))) (Rem.app <| Rem.here))) (Rem.app <| Rem.here)))) ?_
      rw [show swapR d s t = (d, 8) by unfold swapR; rw [if_pos h17, if_pos h25]]
      exact ⟨_, _, ob22, rfl, ho22, hd22, rfl⟩
    · skip
      refine .cond_false rfl <| .skip <| .go <| .seq <| .seq <| .region ?_
      refine .e (.loadW ag59 sz59 rfl (.app <| .there <| .here) rfl) rfl rfl <| .e (.loadW ag27 sz27 rfl (.app <| .there <| .there <| .here) rfl) rfl rfl ?_
      refine .lend ho22 fun K hK hKs hKt => ?_
      have hdK1 : DskR K (d.cells (.slice ad22 d.files.length cap22)) d := ⟨⟨_, rfl, hKs (R := FilR) (hd22.mono fun _ _ h => h) rfl⟩, hfz⟩
      refine .on rfl <| .callP cal45 rfl rfl rfl (drefW_ok hdK1 hris hsm) ?_
      refine .thaw hKt ?_
      refine .e (.assign rfl) rfl rfl <| .nil <| .go <| .seq <| .region <| .e (.move rfl) rfl rfl ?_
      refine .e (.neq rfl rfl) rfl rfl <| .nil <| .go ?_
      refine .split 31 rfl (fun h31 => ?_) (fun h31 => ?_)
      · skip
        first | replace h31 := of_decide_eq_false ((Bool.not_eq_true' _).mp h31) | replace h31 := of_decide_eq_false (by simpa using h31)
        refine .cond_true rfl <| .seq <| .region <| .e (.loadW ag27 sz27 rfl (.app <| .there <| .there <| .here) rfl) rfl rfl <| .e (.move rfl) rfl rfl <| .on rfl <| .storeW sz27 rfl rfl rfl rfl rfl rfl (.app <| .here) ?_
        refine .e (.assign rfl) rfl rfl <| .nil <| .go <| .ret <| .ret ?_
        refine Post.rets rfl (.agg rfl ag27 sz27 (.app <| .here) rfl (.tmp rfl .nil)) rfl (Imm.le_refl _) (fun w h => (Sat.tail (Sat.rem (Sat.tail (Sat.rem (Sat.tail (Sat.rem h (Rem.app <| Rem.here))) (Rem.app <| Rem.here))) (Rem.app <| Rem.here)))) ?_
        rw [show swapR d s t = (d, refW d s t) by unfold swapR; rw [if_pos h17, if_neg (by rw [h25]; simp), if_neg h31]]
        exact ⟨_, _, ob22, rfl, ho22, hd22, rfl⟩
      · skip
        first | replace h31 := of_decide_eq_true ((Bool.not_eq_false' _).mp h31) | replace h31 := of_decide_eq_true (by simpa using h31)
        refine .cond_false rfl <| .skip <| .go <| .seq <| .region <| .e (.loadW ag27 sz27 rfl (.app <| .there <| .there <| .here) rfl) rfl rfl ?_
        refine .e (.fieldAddr fo59_1 rfl) rfl rfl <| .e (.load ag9 rfl (.app <| .there <| .here) rfl) rfl rfl ?_
        refine .lend ho22 fun L hL hLs hLt => ?_
        have hdL1 : DskR L (d.cells (.slice ad22 d.files.length cap22)) d := ⟨⟨_, rfl, hLs (R := FilR) (hd22.mono fun _ _ h => h) rfl⟩, hfz⟩
        refine .on rfl <| .callP cal23 rfl rfl rfl (dplace_ok hdL1 hris (disk_small hsm)) <| .e (.move rfl) rfl rfl ?_
        refine .thaw hLt ?_
        refine .e (.extract rfl rfl) rfl rfl <| .e (.extract rfl rfl) rfl rfl <| .e (.assign rfl) rfl rfl <| .e (.assign rfl) rfl rfl <| .nil <| .go ?_
        refine .seq <| .seq <| .region <| .e (.fieldAddr fo59_0 rfl) rfl rfl <| .e (.load ag57 rfl (.app <| .there <| .here) rfl) rfl rfl <| .e (.eql rfl rfl) rfl rfl ?_
        refine .nil <| .go <| .cond_false rfl <| .skip <| .go <| .seq ?_
        refine .seq <| .region <| .e (.fieldAddr fo27_2 rfl) rfl rfl <| .e (.load ag3 rfl (.app <| .there <| .there <| .here) rfl) rfl rfl <| .e (.eql rfl rfl) rfl rfl <| .nil ?_
        refine .go ?_
        refine .split 68 rfl (fun h68 => ?_) (fun h68 => ?_)
        · skip
          replace h68 := of_decide_eq_true h68
          refine .cond_true rfl <| .seq <| .region <| .e (.fieldAddr fo27_1 rfl) rfl rfl <| .on rfl <| .store sz4 rfl rfl rfl rfl rfl rfl (.app <| .there <| .there <| .here) <| .nil ?_
          refine .go <| .seq <| .region <| .e (.loadW ag27 sz27 rfl (.app <| .there <| .there <| .here) rfl) rfl rfl <| .on rfl <| .storeW sz27 rfl rfl rfl rfl rfl rfl (.app <| .here) <| .e (.assign rfl) rfl rfl ?_
          refine .nil <| .go <| .ret <| .ret ?_
          refine Post.rets rfl (.agg rfl ag27 sz27 (.app <| .here) rfl (.tmp rfl .nil)) rfl (Imm.le_refl _) (fun w h => (Sat.tail (Sat.rem (Sat.tail (Sat.rem (Sat.tail (Sat.rem h (Rem.app <| Rem.here))) (Rem.app <| Rem.here))) (Rem.app <| Rem.here)))) ?_
          rw [show swapR d s t = (⟨d.files, true, d.fuse⟩, 8) by unfold swapR; rw [if_pos h17, if_neg (by rw [h25]; simp), if_pos h31, if_pos h68]]
          exact ⟨_, _, ob22, rfl, ho22, hd22, rfl⟩
        · skip
          replace h68 := of_decide_eq_false h68
          refine .cond_false rfl <| .skip <| .go <| .seq <| .seq <| .region ?_
          refine .e (.fieldAddr fo27_2 rfl) rfl rfl <| .e (.load ag3 rfl (.app <| .there <| .there <| .here) rfl) rfl rfl <| .e (.gtr rfl rfl) rfl rfl <| .nil <| .go ?_
          refine .split 73 rfl (fun h73 => ?_) (fun h73 => ?_)
          · skip
            replace h73 := of_decide_eq_true h73
            refine .cond_true rfl <| .region <| .e (.fieldAddr fo27_2 rfl) rfl rfl <| .e (.load ag3 rfl (.app <| .there <| .there <| .here) rfl) rfl rfl <| .e (.sub rfl rfl (IntWalk.i64_in _ (by omega))) rfl rfl <| .e (.fieldAddr fo27_2 rfl) rfl rfl ?_
            refine .on rfl <| .store sz3 rfl rfl rfl rfl rfl rfl (.app <| .there <| .there <| .here) <| .nil <| .go <| .seq <| .region ?_
            have hhas := refW_in h31
            have hB := base_yes hhas
            have hBa := base_at (s := s) (disk_ok hok).1
            have hf := at_get hBa
            rw [hB] at hBa hf
            obtain ⟨hfe, hfn, hfd, hfs⟩ := hd22.2 _ _ hf
            obtain ⟨_, h0, _, _⟩ | ⟨bL, cpL, csL, TL, hv5, rfl, hc1, hc2, hc3, hc4, hc5⟩ := ho22
            · omega
            cases hv5
            simp only [@List.singleton_append (Nat × Obj)]
            have hclL : posF d s * 3 + 3 ≤ csL.length := by have := Nat.mul_le_mul_right 3 hc1; omega
            have hoL : OwnS 3 (.slice (some ⟨bL, 0, none⟩) d.files.length cap22) d.files.length ws22 [(bL, .cells ⟨csL⟩ TL (0, 0))] := .inr ⟨bL, cap22, csL, TL, rfl, rfl, hc1, hc2, hc3, hc4, hc5⟩
            refine .e (.fieldAddr fo27_0 rfl) rfl rfl <| .e (.load ag25 rfl (.there <| .there <| .there <| .here) rfl) rfl rfl <| .e (.move rfl) rfl rfl <| .e (.indexAddrL sl25 rfl rfl rfl hBa) rfl rfl <| .e (.assign rfl) rfl rfl <| .nil ?_
            refine .go <| .seq <| .seq <| .region <| .e (.fieldAddr fo59_0 rfl) rfl rfl <| .e (.load ag57 rfl (.there <| .there <| .here) rfl) rfl rfl ?_
            refine .nil <| .go <| .block <| .seq <| .region <| .e (.eql rfl rfl) rfl rfl ?_
            refine .e (.assign rfl) rfl rfl <| .nil <| .go <| .cond_false rfl <| .seq <| .region ?_
            refine .e (.eql rfl rfl) rfl rfl <| .e (.assign rfl) rfl rfl <| .nil <| .go <| .cond_false rfl <| .seq ?_
            refine .region <| .e (.eql rfl rfl) rfl rfl <| .e (.assign rfl) rfl rfl <| .nil <| .go <| .cond_false rfl ?_
            refine .seq <| .region <| .e (.eql rfl rfl) rfl rfl <| .e (.assign rfl) rfl rfl <| .nil <| .go ?_
            refine .cond_true rfl <| .seq <| .region <| .e (.move rfl) rfl rfl <| .e (.nilCheck rfl) rfl rfl <| .e ((EV.cast (.loadP ag51 sz51 rfl .here (Nat.ble_eq_true_of_le (show 0 + posF d s * 3 + 3 ≤ csL.length by omega))) (congrArg (fun x => Value.agg ⟨x⟩) (part_of hc3 hBa hfe)))) rfl rfl ?_
            refine .on rfl <| .alloc zr51 rfl fun c4 _ _ => .on rfl <| .storeW sz51 rfl rfl rfl rfl rfl rfl .here <| .nil <| .go <| .seq <| .region ?_
            refine .e (.fieldAddr fo59_2 rfl) rfl rfl <| .e (.load ag9 rfl (.there <| .there <| .there <| .here) rfl) rfl rfl <| .e (.fieldAddr fo51_0 rfl) rfl rfl <| .on rfl <| .store sz9 rfl rfl rfl rfl rfl rfl .here <| .nil <| .go ?_
            refine .seq <| .region <| .e (.fieldAddr fo27_0 rfl) rfl rfl <| .e (.load ag25 rfl (.there <| .there <| .there <| .there <| .here) rfl) rfl rfl <| .e (.move rfl) rfl rfl <| .e (.move rfl) rfl rfl ?_
            refine .e (.add rfl rfl (wrap_succ (by omega))) rfl rfl ?_
            refine .front1 (.there <| .here) ?_
            refine .on rfl <| .call cal47 rfl rfl rfl (delFil_ok hoL hd22 (i := posF d s) (j := posF d s + 1) (Nat.lt_succ_self _) hBa rfl rfl) fun v138 I138 O138 hI138 hK138 => ?_
            obtain ⟨hq138, ws138, ob138, ho138, hd138, rfl⟩ := hK138
            replace hq138 := hq138.symm
            subst hq138
            obtain ⟨ad138, cap138, rfl⟩ := ho138.form
            have hdl := del_len hBa
            refine .e (.fieldAddr fo27_0 rfl) rfl rfl <| .on rfl <| .store sz25 rfl rfl rfl rfl rfl rfl (.app <| .there <| .there <| .there <| .here) <| .nil <| .go <| .seq <| .region ?_
            refine .e (.loadW ag27 sz27 rfl (.app <| .there <| .there <| .there <| .here) rfl) rfl rfl <| .e (.fieldAddr fo59_2 rfl) rfl rfl <| .e (.load ag9 rfl (.app <| .there <| .there <| .here) rfl) rfl rfl ?_
            refine .lend ho138 fun M hM hMs hMt => ?_
            have hdM1 : DskR M (Dsk.cells ⟨delF d s, d.down, (d.fuse - 1)⟩ (.slice ad138 (d.files.take (posF d s) ++ d.files.drop (posF d s + 1)).length cap138)) ⟨delF d s, d.down, (d.fuse - 1)⟩ := ⟨⟨_, rfl, hMs (R := FilR) (hd138.mono fun _ _ h => h) rfl⟩, (show I64 (d.fuse - 1) by unfold I64; omega)⟩
            have hrd : Rising (fun x : Fil => x.name) (delF d s) := del_rising hris
            obtain ⟨D, hD⟩ : ∃ D : Dsk, D = ⟨delF d s, d.down, (d.fuse - 1)⟩ := ⟨_, rfl⟩
            have hDf : D.files = d.files.take (posF d s) ++ d.files.drop (posF d s + 1) := by rw [hD]; rfl
            have hpD := posF_le (d := D) (s := t)
            refine .on rfl <| .callP cal23 rfl rfl rfl ((dplace_ok hdM1 hrd (by show (delF d s).length ≤ _; unfold delF; omega) (s := t)).cast (congrArg (fun D : Dsk => Value.tuple ⟨[.int .i64 (posF D t : Nat), .bool (hasF D t)]⟩) hD.symm)) <| .e (.move rfl) rfl rfl ?_
            refine .thaw hMt ?_
            refine .e (.extract rfl rfl) rfl rfl <| .e (.extract rfl rfl) rfl rfl <| .e (.assign rfl) rfl rfl <| .e (.assign rfl) rfl rfl <| .nil <| .go ?_
            refine .seq <| .region <| .e (.move rfl) rfl rfl <| .nil <| .go ?_
            refine .split 147 rfl (fun h147 => ?_) (fun h147 => ?_)
            · skip
              refine .cond_true rfl <| .region <| .e (.fieldAddr fo27_0 rfl) rfl rfl ?_
              have hposD : posF D t < D.files.length := (has_get (hDf ▸ del_rising hris) (show hasBy (fun x : Fil => x.name) D.files t = true from h147)).1
              have hpo2 := hposD
              rw [hDf] at hpo2
              obtain ⟨_, h0, _, _⟩ | ⟨bM, cpM, csM, TM, hv5, rfl, hm1, hm2, hm3, hm4, hm5⟩ := ho138
              · omega
              cases hv5
              simp only [@List.singleton_append (Nat × Obj)]
              have hclM : posF D t * 3 + 3 ≤ csM.length := by have := Nat.mul_le_mul_right 3 hm1; omega
              refine .e (.load ag25 rfl (.there <| .there <| .there <| .there <| .here) rfl) rfl rfl <| .e (.move rfl) rfl rfl <| .e (.loadW ag51 sz51 rfl (.there <| .here) rfl) rfl rfl <| .e (.indexAddrL sl25 rfl rfl rfl hpo2) rfl rfl <| .on rfl <| .store sz51 rfl rfl rfl rfl rfl (Nat.ble_eq_true_of_le (show 0 + posF D t * 3 + 3 ≤ csM.length by omega)) .here <| .nil ?_
              refine .blk_normal <| .go <| .seq <| .region <| .e (.loadW ag27 sz27 rfl (.there <| .there <| .there <| .there <| .here) rfl) rfl rfl <| .on rfl <| .storeW sz27 rfl rfl rfl rfl rfl rfl (.there <| .there <| .here) ?_
              refine .e (.assign rfl) rfl rfl <| .nil <| .go <| .ret ?_
              refine Post.rets rfl (.agg rfl ag27 sz27 (.there <| .there <| .here) rfl (.tmp rfl .nil)) rfl (Imm.le_refl _) (fun w h => (Sat.tail (Sat.rem (Sat.tail (Sat.rem (Sat.tail (Sat.rem (Sat.tail (Sat.rem h (Rem.there <| Rem.here))) (Rem.there <| Rem.here))) (Rem.there <| Rem.here))) (Rem.there <| Rem.here)))) ?_
              have hmv : movF D t { atF d s with name := t } = (d.files.take (posF d s) ++ d.files.drop (posF d s + 1)).set (posF D t) { atF d s with name := t } := by unfold movF; rw [if_pos h147, hDf]
              have hoM := own_setE (T := TM) (b := bM) (vs := Fil.cells { atF d s with name := t }) hm3 hpo2 hm1 hm2 hm4 rfl hm5
              have hdM := dr_setF hd138 hpo2 (x := { atF d s with name := t }) ⟨rfl, ht, hfd, hfs⟩
              rw [show swapR d s t = (⟨movF D t { atF d s with name := t }, d.down, (d.fuse - 1)⟩, 0) by unfold swapR; rw [if_pos h17, if_neg (by rw [h25]; simp), if_pos h31, if_neg h68, fuse_up (by omega), hD]]
              rw [hmv]
              exact ⟨_, _, _, rfl, (show OwnS 3 _ (List.length _) _ _ by rw [List.length_set]; exact hoM), hdM, rfl⟩
            · skip
              refine .cond_false rfl <| .region <| .e (.fieldAddr fo27_0 rfl) rfl rfl <| .e (.load ag25 rfl (.app <| .there <| .there <| .there <| .here) rfl) rfl rfl <| .e (.move rfl) rfl rfl <| .e (.loadW ag51 sz51 rfl (.app <| .here) rfl) rfl rfl ?_
              refine .on rfl <| .buildSlice Tryd.underlying25 sz51 (by decide) (by decide) zv51 rfl rfl rfl rfl rfl fun c5 _ _ => ?_
              refine .front (.there <| .front) ?_
              refine .on rfl <| .call cal46 rfl rfl rfl (insFil_ok ho138 hd138 (x := { atF d s with name := t }) ⟨rfl, ht, hfd, hfs⟩ (hDf ▸ hpD) (by omega)) fun v158 I158 O158 hI158 hK158 => ?_
              obtain ⟨hq158, ws158, ob158, ho158, hd158, rfl⟩ := hK158
              replace hq158 := hq158.symm
              subst hq158
              obtain ⟨ad158, cap158, rfl⟩ := ho158.form
              refine .e (.fieldAddr fo27_0 rfl) rfl rfl <| .on rfl <| .store sz25 rfl rfl rfl rfl rfl rfl (.app <| .there <| .there <| .there <| .here) <| .nil <| .blk_normal <| .go <| .seq ?_
              refine .region <| .e (.loadW ag27 sz27 rfl (.app <| .there <| .there <| .there <| .here) rfl) rfl rfl <| .on rfl <| .storeW sz27 rfl rfl rfl rfl rfl rfl (.app <| .there <| .here) <| .e (.assign rfl) rfl rfl <| .nil <| .go ?_
              refine .ret ?_
              refine Post.rets rfl (.agg rfl ag27 sz27 (.app <| .there <| .here) rfl (.tmp rfl .nil)) rfl (Imm.le_refl _) (fun w h => (Sat.tail (Sat.rem (Sat.tail (Sat.rem (Sat.tail (Sat.rem (Sat.tail (Sat.rem h (Rem.app <| Rem.here))) (Rem.app <| Rem.here))) (Rem.app <| Rem.here))) (Rem.app <| Rem.here)))) ?_
              have hmv : movF D t { atF d s with name := t } = (d.files.take (posF d s) ++ d.files.drop (posF d s + 1)).take (posF D t) ++ ({ atF d s with name := t } :: (d.files.take (posF d s) ++ d.files.drop (posF d s + 1)).drop (posF D t)) := by unfold movF; rw [if_neg (by rw [h147]; simp), hDf]
              rw [show swapR d s t = (⟨movF D t { atF d s with name := t }, d.down, (d.fuse - 1)⟩, 0) by unfold swapR; rw [if_pos h17, if_neg (by rw [h25]; simp), if_pos h31, if_neg h68, fuse_up (by omega), hD]]
              rw [hmv]
              exact ⟨_, _, ob158, rfl, (show OwnS 3 _ (List.length _) _ _ by rw [show (List.length (List.take (posF D t) (d.files.take (posF d s) ++ d.files.drop (posF d s + 1)) ++ ({ atF d s with name := t } :: (d.files.take (posF d s) ++ d.files.drop (posF d s + 1)).drop (posF D t)))) = (d.files.take (posF d s) ++ d.files.drop (posF d s + 1)).length + 1 by rw [hDf] at hpD; rw [List.length_append, List.length_take, List.length_cons, List.length_drop]; omega]; exact ho158), hd158, rfl⟩
          · skip
            replace h73 := of_decide_eq_false h73
            refine .cond_false rfl <| .skip <| .go <| .seq <| .region ?_
            have hhas := refW_in h31
            have hB := base_yes hhas
            have hBa := base_at (s := s) (disk_ok hok).1
            have hf := at_get hBa
            rw [hB] at hBa hf
            obtain ⟨hfe, hfn, hfd, hfs⟩ := hd22.2 _ _ hf
            obtain ⟨_, h0, _, _⟩ | ⟨bL, cpL, csL, TL, hv5, rfl, hc1, hc2, hc3, hc4, hc5⟩ := ho22
            · omega
            cases hv5
            simp only [@List.singleton_append (Nat × Obj)]
            have hclL : posF d s * 3 + 3 ≤ csL.length := by have := Nat.mul_le_mul_right 3 hc1; omega
            have hoL : OwnS 3 (.slice (some ⟨bL, 0, none⟩) d.files.length cap22) d.files.length ws22 [(bL, .cells ⟨csL⟩ TL (0, 0))] := .inr ⟨bL, cap22, csL, TL, rfl, rfl, hc1, hc2, hc3, hc4, hc5⟩
            refine .e (.fieldAddr fo27_0 rfl) rfl rfl <| .e (.load ag25 rfl (.there <| .there <| .there <| .here) rfl) rfl rfl <| .e (.move rfl) rfl rfl <| .e (.indexAddrL sl25 rfl rfl rfl hBa) rfl rfl <| .e (.assign rfl) rfl rfl <| .nil ?_
            refine .go <| .seq <| .seq <| .region <| .e (.fieldAddr fo59_0 rfl) rfl rfl <| .e (.load ag57 rfl (.there <| .there <| .here) rfl) rfl rfl ?_
            refine .nil <| .go <| .block <| .seq <| .region <| .e (.eql rfl rfl) rfl rfl ?_
            refine .e (.assign rfl) rfl rfl <| .nil <| .go <| .cond_false rfl <| .seq <| .region ?_
            refine .e (.eql rfl rfl) rfl rfl <| .e (.assign rfl) rfl rfl <| .nil <| .go <| .cond_false rfl <| .seq ?_
            refine .region <| .e (.eql rfl rfl) rfl rfl <| .e (.assign rfl) rfl rfl <| .nil <| .go <| .cond_false rfl ?_
            refine .seq <| .region <| .e (.eql rfl rfl) rfl rfl <| .e (.assign rfl) rfl rfl <| .nil <| .go ?_
            refine .cond_true rfl <| .seq <| .region <| .e (.move rfl) rfl rfl <| .e (.nilCheck rfl) rfl rfl <| .e ((EV.cast (.loadP ag51 sz51 rfl .here (Nat.ble_eq_true_of_le (show 0 + posF d s * 3 + 3 ≤ csL.length by omega))) (congrArg (fun x => Value.agg ⟨x⟩) (part_of hc3 hBa hfe)))) rfl rfl ?_
            refine .on rfl <| .alloc zr51 rfl fun c6 _ _ => .on rfl <| .storeW sz51 rfl rfl rfl rfl rfl rfl .here <| .nil <| .go <| .seq <| .region ?_
            refine .e (.fieldAddr fo59_2 rfl) rfl rfl <| .e (.load ag9 rfl (.there <| .there <| .there <| .here) rfl) rfl rfl <| .e (.fieldAddr fo51_0 rfl) rfl rfl <| .on rfl <| .store sz9 rfl rfl rfl rfl rfl rfl .here <| .nil <| .go ?_
            refine .seq <| .region <| .e (.fieldAddr fo27_0 rfl) rfl rfl <| .e (.load ag25 rfl (.there <| .there <| .there <| .there <| .here) rfl) rfl rfl <| .e (.move rfl) rfl rfl <| .e (.move rfl) rfl rfl ?_
            refine .e (.add rfl rfl (wrap_succ (by omega))) rfl rfl ?_
            refine .front1 (.there <| .here) ?_
            refine .on rfl <| .call cal47 rfl rfl rfl (delFil_ok hoL hd22 (i := posF d s) (j := posF d s + 1) (Nat.lt_succ_self _) hBa rfl rfl) fun v138 I138 O138 hI138 hK138 => ?_
            obtain ⟨hq138, ws138, ob138, ho138, hd138, rfl⟩ := hK138
            replace hq138 := hq138.symm
            subst hq138
            obtain ⟨ad138, cap138, rfl⟩ := ho138.form
            have hdl := del_len hBa
            refine .e (.fieldAddr fo27_0 rfl) rfl rfl <| .on rfl <| .store sz25 rfl rfl rfl rfl rfl rfl (.app <| .there <| .there <| .there <| .here) <| .nil <| .go <| .seq <| .region ?_
            refine .e (.loadW ag27 sz27 rfl (.app <| .there <| .there <| .there <| .here) rfl) rfl rfl <| .e (.fieldAddr fo59_2 rfl) rfl rfl <| .e (.load ag9 rfl (.app <| .there <| .there <| .here) rfl) rfl rfl ?_
            refine .lend ho138 fun M hM hMs hMt => ?_
            have hdM1 : DskR M (Dsk.cells ⟨delF d s, d.down, d.fuse⟩ (.slice ad138 (d.files.take (posF d s) ++ d.files.drop (posF d s + 1)).length cap138)) ⟨delF d s, d.down, d.fuse⟩ := ⟨⟨_, rfl, hMs (R := FilR) (hd138.mono fun _ _ h => h) rfl⟩, (show I64 d.fuse by unfold I64; omega)⟩
            have hrd : Rising (fun x : Fil => x.name) (delF d s) := del_rising hris
            obtain ⟨D, hD⟩ : ∃ D : Dsk, D = ⟨delF d s, d.down, d.fuse⟩ := ⟨_, rfl⟩
            have hDf : D.files = d.files.take (posF d s) ++ d.files.drop (posF d s + 1) := by rw [hD]; rfl
            have hpD := posF_le (d := D) (s := t)
            refine .on rfl <| .callP cal23 rfl rfl rfl ((dplace_ok hdM1 hrd (by show (delF d s).length ≤ _; unfold delF; omega) (s := t)).cast (congrArg (fun D : Dsk => Value.tuple ⟨[.int .i64 (posF D t : Nat), .bool (hasF D t)]⟩) hD.symm)) <| .e (.move rfl) rfl rfl ?_
            refine .thaw hMt ?_
            refine .e (.extract rfl rfl) rfl rfl <| .e (.extract rfl rfl) rfl rfl <| .e (.assign rfl) rfl rfl <| .e (.assign rfl) rfl rfl <| .nil <| .go ?_
            refine .seq <| .region <| .e (.move rfl) rfl rfl <| .nil <| .go ?_
            refine .split 147 rfl (fun h147 => ?_) (fun h147 => ?_)
            · skip
              refine .cond_true rfl <| .region <| .e (.fieldAddr fo27_0 rfl) rfl rfl ?_
              have hposD : posF D t < D.files.length := (has_get (hDf ▸ del_rising hris) (show hasBy (fun x : Fil => x.name) D.files t = true from h147)).1
              have hpo2 := hposD
              rw [hDf] at hpo2
              obtain ⟨_, h0, _, _⟩ | ⟨bM, cpM, csM, TM, hv5, rfl, hm1, hm2, hm3, hm4, hm5⟩ := ho138
              · omega
              cases hv5
              simp only [@List.singleton_append (Nat × Obj)]
              have hclM : posF D t * 3 + 3 ≤ csM.length := by have := Nat.mul_le_mul_right 3 hm1; omega
              refine .e (.load ag25 rfl (.there <| .there <| .there <| .there <| .here) rfl) rfl rfl <| .e (.move rfl) rfl rfl <| .e (.loadW ag51 sz51 rfl (.there <| .here) rfl) rfl rfl <| .e (.indexAddrL sl25 rfl rfl rfl hpo2) rfl rfl <| .on rfl <| .store sz51 rfl rfl rfl rfl rfl (Nat.ble_eq_true_of_le (show 0 + posF D t * 3 + 3 ≤ csM.length by omega)) .here <| .nil ?_
              refine .blk_normal <| .go <| .seq <| .region <| .e (.loadW ag27 sz27 rfl (.there <| .there <| .there <| .there <| .here) rfl) rfl rfl <| .on rfl <| .storeW sz27 rfl rfl rfl rfl rfl rfl (.there <| .there <| .here) ?_
              refine .e (.assign rfl) rfl rfl <| .nil <| .go <| .ret ?_
              refine Post.rets rfl (.agg rfl ag27 sz27 (.there <| .there <| .here) rfl (.tmp rfl .nil)) rfl (Imm.le_refl _) (fun w h => (Sat.tail (Sat.rem (Sat.tail (Sat.rem (Sat.tail (Sat.rem (Sat.tail (Sat.rem h (Rem.there <| Rem.here))) (Rem.there <| Rem.here))) (Rem.there <| Rem.here))) (Rem.there <| Rem.here)))) ?_
              have hmv : movF D t { atF d s with name := t } = (d.files.take (posF d s) ++ d.files.drop (posF d s + 1)).set (posF D t) { atF d s with name := t } := by unfold movF; rw [if_pos h147, hDf]
              have hoM := own_setE (T := TM) (b := bM) (vs := Fil.cells { atF d s with name := t }) hm3 hpo2 hm1 hm2 hm4 rfl hm5
              have hdM := dr_setF hd138 hpo2 (x := { atF d s with name := t }) ⟨rfl, ht, hfd, hfs⟩
              rw [show swapR d s t = (⟨movF D t { atF d s with name := t }, d.down, d.fuse⟩, 0) by unfold swapR; rw [if_pos h17, if_neg (by rw [h25]; simp), if_pos h31, if_neg h68, fuse_no (by omega), hD]]
              rw [hmv]
              exact ⟨_, _, _, rfl, (show OwnS 3 _ (List.length _) _ _ by rw [List.length_set]; exact hoM), hdM, rfl⟩
            · skip
              refine .cond_false rfl <| .region <| .e (.fieldAddr fo27_0 rfl) rfl rfl <| .e (.load ag25 rfl (.app <| .there <| .there <| .there <| .here) rfl) rfl rfl <| .e (.move rfl) rfl rfl <| .e (.loadW ag51 sz51 rfl (.app <| .here) rfl) rfl rfl ?_
              refine .on rfl <| .buildSlice Tryd.underlying25 sz51 (by decide) (by decide) zv51 rfl rfl rfl rfl rfl fun c7 _ _ => ?_
              refine .front (.there <| .front) ?_
              refine .on rfl <| .call cal46 rfl rfl rfl (insFil_ok ho138 hd138 (x := { atF d s with name := t }) ⟨rfl, ht, hfd, hfs⟩ (hDf ▸ hpD) (by omega)) fun v158 I158 O158 hI158 hK158 => ?_
              obtain ⟨hq158, ws158, ob158, ho158, hd158, rfl⟩ := hK158
              replace hq158 := hq158.symm
              subst hq158
              obtain ⟨ad158, cap158, rfl⟩ := ho158.form
              refine .e (.fieldAddr fo27_0 rfl) rfl rfl <| .on rfl <| .store sz25 rfl rfl rfl rfl rfl rfl (.app <| .there <| .there <| .there <| .here) <| .nil <| .blk_normal <| .go <| .seq ?_
              refine .region <| .e (.loadW ag27 sz27 rfl (.app <| .there <| .there <| .there <| .here) rfl) rfl rfl <| .on rfl <| .storeW sz27 rfl rfl rfl rfl rfl rfl (.app <| .there <| .here) <| .e (.assign rfl) rfl rfl <| .nil <| .go ?_
              refine .ret ?_
              refine Post.rets rfl (.agg rfl ag27 sz27 (.app <| .there <| .here) rfl (.tmp rfl .nil)) rfl (Imm.le_refl _) (fun w h => (Sat.tail (Sat.rem (Sat.tail (Sat.rem (Sat.tail (Sat.rem (Sat.tail (Sat.rem h (Rem.app <| Rem.here))) (Rem.app <| Rem.here))) (Rem.app <| Rem.here))) (Rem.app <| Rem.here)))) ?_
              have hmv : movF D t { atF d s with name := t } = (d.files.take (posF d s) ++ d.files.drop (posF d s + 1)).take (posF D t) ++ ({ atF d s with name := t } :: (d.files.take (posF d s) ++ d.files.drop (posF d s + 1)).drop (posF D t)) := by unfold movF; rw [if_neg (by rw [h147]; simp), hDf]
              rw [show swapR d s t = (⟨movF D t { atF d s with name := t }, d.down, d.fuse⟩, 0) by unfold swapR; rw [if_pos h17, if_neg (by rw [h25]; simp), if_pos h31, if_neg h68, fuse_no (by omega), hD]]
              rw [hmv]
              exact ⟨_, _, ob158, rfl, (show OwnS 3 _ (List.length _) _ _ by rw [show (List.length (List.take (posF D t) (d.files.take (posF d s) ++ d.files.drop (posF d s + 1)) ++ ({ atF d s with name := t } :: (d.files.take (posF d s) ++ d.files.drop (posF d s + 1)).drop (posF D t)))) = (d.files.take (posF d s) ++ d.files.drop (posF d s + 1)).length + 1 by rw [hDf] at hpD; rw [List.length_append, List.length_take, List.length_cons, List.length_drop]; omega]; exact ho158), hd158, rfl⟩

end Go.Proofs.YtjoaccnfnniahaaDoor
