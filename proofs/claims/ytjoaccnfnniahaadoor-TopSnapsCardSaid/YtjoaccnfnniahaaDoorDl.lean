/- Walks of functions over a symbolic memory, printed by a program of the session. -/
import Derived.Test.YtjoaccnfnniahaaDoorDk
namespace Go.Proofs.YtjoaccnfnniahaaDoor
open Go.Sy
set_option linter.unusedSimpArgs false
set_option linter.unusedVariables false

set_option maxHeartbeats 1000000 in
set_option maxRecDepth 20000 in
theorem ddone4_ok {I : Imm} {O : Own} {dc : List Value} {d : Dsk} (hd : DskR I dc d) (hsm : d.files.length ≤ 1000) {s : ByteArray} (hsS : StrOk s)  :
    Go.Sy.Does Tryd.prog 21 [.agg ⟨dc⟩, .agg ⟨[.int .u8 4, .string s, .string ⟨#[]⟩, .string ⟨#[]⟩, .int .i64 0]⟩] I O (fun u I' O' => ∃ v ws ob, u = .tuple ⟨[.agg ⟨(dropR d s).1.cells v⟩, .int .i64 (dropR d s).2]⟩ ∧ OwnS 3 v (dropR d s).1.files.length ws ob ∧ DR FilR 3 I' ws (dropR d s).1.files ∧ O' = ob ++ O) := by
  have hd0 := hd
  obtain ⟨fv, rfl, hfv⟩ := hd.ex
  have hfv0 := hfv
  obtain ⟨fa, fcap, rfl, hf1, hf2, -⟩ := hfv
  have hfz := hd0.fuse
  unfold I64 at hfz
  refine Go.Sy.Does.enter Tryd.func21 rfl Tryd.ntmps21 rfl ?_
  refine .seq <| .region <| .on rfl <| .box rfl rfl rfl fun c1 _ _ => .on rfl <| .box rfl rfl rfl fun c2 _ _ => .on rfl <| .alloc zr27 rfl fun c3 _ _ => .e (.assign rfl) rfl rfl ?_
  refine .nil <| .go <| .seq <| .seq <| .region <| .e (.loadW ag27 sz27 rfl (.there <| .there <| .here) rfl) rfl rfl ?_
  refine .on rfl <| .callP cal17 rfl rfl rfl (dCheck_ok hd0) <| .e (.assign rfl) rfl rfl <| .nil <| .go <| .seq <| .region ?_
  refine .e (.move rfl) rfl rfl <| .e (.neq rfl rfl) rfl rfl <| .nil <| .go ?_
  refine .split 17 rfl (fun h17 => ?_) (fun h17 => ?_)
  · skip
    first | replace h17 := of_decide_eq_false ((Bool.not_eq_true' _).mp h17) | replace h17 := of_decide_eq_false (by simpa using h17)
    refine .cond_true rfl <| .seq <| .region <| .e (.build bs27 zv27 rfl rfl) rfl rfl <| .e (.move rfl) rfl rfl <| .on rfl <| .storeW sz27 rfl rfl rfl rfl rfl rfl .here ?_
    refine .e (.assign rfl) rfl rfl <| .nil <| .go <| .ret <| .ret ?_
    refine Post.rets rfl (.agg rfl ag27 sz27 .here rfl (.tmp rfl .nil)) rfl (Imm.le_refl _) (fun w h => (Sat.tail (Sat.tail (Sat.tail h)))) ?_
    rw [show dropR d s = (⟨[], false, 0⟩, diskWhy d) by unfold dropR; rw [if_neg h17]]
    exact ⟨_, _, _, rfl, OwnS.nil, DR.nil, rfl⟩
  · skip
    first | replace h17 := of_decide_eq_true ((Bool.not_eq_false' _).mp h17) | replace h17 := of_decide_eq_true (by simpa using h17)
    have hok := diskWhy_ok h17
    have hle := (disk_ok hok).2
    have hris := disk_rising (disk_ok hok).1
    refine .cond_false rfl <| .skip <| .go <| .seq <| .region <| .e (.fieldAddr fo27_0 rfl) rfl rfl ?_
    refine .e (.load ag25 rfl (.there <| .there <| .here) rfl) rfl rfl <| .on rfl <| .call cal18 rfl rfl rfl (cloneFil_ok hfv0 (by omega)) fun v22 I22 O22 hI22 hK22 => ?_
    obtain ⟨hq22, ws22, ob22, ho22, hd22, rfl⟩ := hK22
    replace hq22 := hq22.symm
    subst hq22
    obtain ⟨ad22, cap22, rfl⟩ := ho22.form
    refine .e (.fieldAddr fo27_0 rfl) rfl rfl <| .on rfl <| .store sz25 rfl rfl rfl rfl rfl rfl (.app <| .there <| .there <| .here) <| .nil <| .go <| .seq <| .seq ?_
    refine .region <| .e (.fieldAddr fo27_1 rfl) rfl rfl <| .e (.load ag4 rfl (.app <| .there <| .there <| .here) rfl) rfl rfl <| .nil <| .go ?_
    refine .split 25 rfl (fun h25 => ?_) (fun h25 => ?_)
    · skip
      refine .cond_true rfl <| .seq <| .region <| .e (.loadW ag27 sz27 rfl (.app <| .there <| .there <| .here) rfl) rfl rfl <| .on rfl <| .storeW sz27 rfl rfl rfl rfl rfl rfl (.app <| .here) <| .e (.assign rfl) rfl rfl ?_
      refine .nil <| .go <| .ret <| .ret ?_
      refine Post.rets rfl (.agg rfl ag27 sz27 (.app <| .here) rfl (.tmp rfl .nil)) rfl (Imm.le_refl _) (fun w h => (Sat.tail (Sat.rem (Sat.tail (Sat.rem (Sat.tail (Sat.rem h (Rem.app <| Rem.here))) (Rem.app <| Rem.here))) (Rem.app <| Rem.here)))) ?_
      rw [show dropR d s = (d, 8) by unfold dropR; rw [if_pos h17, if_pos h25]]
      exact ⟨_, _, ob22, rfl, ho22, hd22, rfl⟩
    · skip
      refine .cond_false rfl <| .skip <| .go <| .seq <| .seq <| .region ?_
      refine .e (.loadW ag59 sz59 rfl (.app <| .there <| .here) rfl) rfl rfl <| .e (.loadW ag27 sz27 rfl (.app <| .there <| .there <| .here) rfl) rfl rfl ?_
      refine .lend ho22 fun K hK hKs hKt => ?_
      have hdK1 : DskR K (d.cells (.slice ad22 d.files.length cap22)) d := ⟨⟨_, rfl, hKs (R := FilR) (hd22.mono fun _ _ h => h) rfl⟩, hfz⟩
      refine .on rfl <| .callP cal45 rfl rfl rfl (drefD_ok hdK1 hris hsm) ?_
      refine .thaw hKt ?_
      refine .e (.assign rfl) rfl rfl <| .nil <| .go <| .seq <| .region <| .e (.move rfl) rfl rfl ?_
      refine .e (.neq rfl rfl) rfl rfl <| .nil <| .go ?_
      refine .split 31 rfl (fun h31 => ?_) (fun h31 => ?_)
      · skip
        first | replace h31 := of_decide_eq_false ((Bool.not_eq_true' _).mp h31) | replace h31 := of_decide_eq_false (by simpa using h31)
        refine .cond_true rfl <| .seq <| .region <| .e (.loadW ag27 sz27 rfl (.app <| .there <| .there <| .here) rfl) rfl rfl <| .e (.move rfl) rfl rfl <| .on rfl <| .storeW sz27 rfl rfl rfl rfl rfl rfl (.app <| .here) ?_
        refine .e (.assign rfl) rfl rfl <| .nil <| .go <| .ret <| .ret ?_
        refine Post.rets rfl (.agg rfl ag27 sz27 (.app <| .here) rfl (.tmp rfl .nil)) rfl (Imm.le_refl _) (fun w h => (Sat.tail (Sat.rem (Sat.tail (Sat.rem (Sat.tail (Sat.rem h (Rem.app <| Rem.here))) (Rem.app <| Rem.here))) (Rem.app <| Rem.here)))) ?_
        rw [show dropR d s = (d, refS d s) by unfold dropR; rw [if_pos h17, if_neg (by rw [h25]; simp), if_neg h31]]
        exact ⟨_, _, ob22, rfl, ho22, hd22, rfl⟩
      · skip
        first | replace h31 := of_decide_eq_true ((Bool.not_eq_false' _).mp h31) | replace h31 := of_decide_eq_true (by simpa using h31)
        refine .cond_false rfl <| .skip <| .go <| .seq <| .region <| .e (.loadW ag27 sz27 rfl (.app <| .there <| .there <| .here) rfl) rfl rfl ?_
        refine .e (.fieldAddr fo59_1 rfl) rfl rfl <| .e (.load ag9 rfl (.app <| .there <| .here) rfl) rfl rfl ?_
        refine .lend ho22 fun L hL hLs hLt => ?_
        have hdL1 : DskR L (d.cells (.slice ad22 d.files.length cap22)) d := ⟨⟨_, rfl, hLs (R := FilR) (hd22.mono fun _ _ h => h) rfl⟩, hfz⟩
        refine .on rfl <| .callP cal23 rfl rfl rfl (dplace_ok hdL1 hris (disk_small hsm)) <| .e (.move rfl) rfl rfl ?_
        refine .thaw hLt ?_
        refine .e (.extract rfl rfl) rfl rfl <| .e (.extract rfl rfl) rfl rfl <| .e (.assign rfl) rfl rfl <| .e (.assign rfl) rfl rfl <| .nil <| .go ?_
        refine .seq <| .seq <| .region <| .e (.fieldAddr fo59_0 rfl) rfl rfl <| .e (.load ag57 rfl (.app <| .there <| .here) rfl) rfl rfl <| .e (.eql rfl rfl) rfl rfl ?_
        refine .nil <| .go <| .cond_false rfl <| .skip <| .go <| .seq ?_
        refine .seq <| .region <| .e (.fieldAddr fo27_2 rfl) rfl rfl <| .e (.load ag3 rfl (.app <| .there <| .there <| .here) rfl) rfl rfl <| .e (.eql rfl rfl) rfl rfl <| .nil ?_
        refine .go ?_
        refine .split 68 rfl (fun h68 => ?_) (fun h68 => ?_)
        · skip
          replace h68 := of_decide_eq_true h68
          refine .cond_true rfl <| .seq <| .region <| .e (.fieldAddr fo27_1 rfl) rfl rfl <| .on rfl <| .store sz4 rfl rfl rfl rfl rfl rfl (.app <| .there <| .there <| .here) <| .nil ?_
          refine .go <| .seq <| .region <| .e (.loadW ag27 sz27 rfl (.app <| .there <| .there <| .here) rfl) rfl rfl <| .on rfl <| .storeW sz27 rfl rfl rfl rfl rfl rfl (.app <| .here) <| .e (.assign rfl) rfl rfl ?_
          refine .nil <| .go <| .ret <| .ret ?_
          refine Post.rets rfl (.agg rfl ag27 sz27 (.app <| .here) rfl (.tmp rfl .nil)) rfl (Imm.le_refl _) (fun w h => (Sat.tail (Sat.rem (Sat.tail (Sat.rem (Sat.tail (Sat.rem h (Rem.app <| Rem.here))) (Rem.app <| Rem.here))) (Rem.app <| Rem.here)))) ?_
          rw [show dropR d s = (⟨d.files, true, d.fuse⟩, 8) by unfold dropR; rw [if_pos h17, if_neg (by rw [h25]; simp), if_pos h31, if_pos h68]]
          exact ⟨_, _, ob22, rfl, ho22, hd22, rfl⟩
        · skip
          replace h68 := of_decide_eq_false h68
          refine .cond_false rfl <| .skip <| .go <| .seq <| .seq <| .region ?_
          refine .e (.fieldAddr fo27_2 rfl) rfl rfl <| .e (.load ag3 rfl (.app <| .there <| .there <| .here) rfl) rfl rfl <| .e (.gtr rfl rfl) rfl rfl <| .nil <| .go ?_
          refine .split 73 rfl (fun h73 => ?_) (fun h73 => ?_)
          · skip
            replace h73 := of_decide_eq_true h73
            refine .cond_true rfl <| .region <| .e (.fieldAddr fo27_2 rfl) rfl rfl <| .e (.load ag3 rfl (.app <| .there <| .there <| .here) rfl) rfl rfl <| .e (.sub rfl rfl (IntWalk.i64_in _ (by omega))) rfl rfl <| .e (.fieldAddr fo27_2 rfl) rfl rfl ?_
            refine .on rfl <| .store sz3 rfl rfl rfl rfl rfl rfl (.app <| .there <| .there <| .here) <| .nil <| .go <| .seq <| .region ?_
            have hhas := refS_in h31
            have hB := base_yes hhas
            have hBa := base_at (s := s) (disk_ok hok).1
            have hf := at_get hBa
            rw [hB] at hBa hf
            obtain ⟨hfe, hfn, hfd, hfs⟩ := hd22.2 _ _ hf
            obtain ⟨_, h0, _, _⟩ | ⟨bL, cpL, csL, TL, hv5, rfl, hc1, hc2, hc3, hc4, hc5⟩ := ho22
            · omega
            cases hv5
            simp only [@List.singleton_append (Nat × Obj)]
            have hclL : posF d s * 3 + 3 ≤ csL.length := by have := Nat.mul_le_mul_right 3 hc1; omega
            have hoL : OwnS 3 (.slice (some ⟨bL, 0, none⟩) d.files.length cap22) d.files.length ws22 [(bL, .cells ⟨csL⟩ TL (0, 0))] := .inr ⟨bL, cap22, csL, TL, rfl, rfl, hc1, hc2, hc3, hc4, hc5⟩
            refine .e (.fieldAddr fo27_0 rfl) rfl rfl <| .e (.load ag25 rfl (.there <| .there <| .there <| .here) rfl) rfl rfl <| .e (.move rfl) rfl rfl <| .e (.indexAddrL sl25 rfl rfl rfl hBa) rfl rfl <| .e (.assign rfl) rfl rfl <| .nil ?_
            refine .go <| .seq <| .seq <| .region <| .e (.fieldAddr fo59_0 rfl) rfl rfl <| .e (.load ag57 rfl (.there <| .there <| .here) rfl) rfl rfl ?_
            refine .nil <| .go <| .block <| .seq <| .region <| .e (.eql rfl rfl) rfl rfl ?_
            refine .e (.assign rfl) rfl rfl <| .nil <| .go <| .cond_false rfl <| .seq <| .region ?_
            refine .e (.eql rfl rfl) rfl rfl <| .e (.assign rfl) rfl rfl <| .nil <| .go <| .cond_false rfl <| .seq ?_
            refine .region <| .e (.eql rfl rfl) rfl rfl <| .e (.assign rfl) rfl rfl <| .nil <| .go <| .cond_true rfl ?_
            refine .region <| .e (.fieldAddr fo27_0 rfl) rfl rfl <| .e (.load ag25 rfl (.there <| .there <| .there <| .here) rfl) rfl rfl <| .e (.move rfl) rfl rfl <| .e (.move rfl) rfl rfl <| .e (.add rfl rfl (wrap_succ (by omega))) rfl rfl ?_
            refine .on rfl <| .call cal47 rfl rfl rfl (delFil_ok hoL hd22 (i := posF d s) (j := posF d s + 1) (Nat.lt_succ_self _) hBa rfl rfl) fun v123 I123 O123 hI123 hK123 => ?_
            obtain ⟨hq123, ws123, ob123, ho123, hd123, rfl⟩ := hK123
            replace hq123 := hq123.symm
            subst hq123
            obtain ⟨ad123, cap123, rfl⟩ := ho123.form
            have hdl := del_len hBa
            refine .e (.fieldAddr fo27_0 rfl) rfl rfl <| .on rfl <| .store sz25 rfl rfl rfl rfl rfl rfl (.app <| .there <| .there <| .here) <| .nil <| .blk_normal <| .go <| .seq ?_
            refine .region <| .e (.loadW ag27 sz27 rfl (.app <| .there <| .there <| .here) rfl) rfl rfl <| .on rfl <| .storeW sz27 rfl rfl rfl rfl rfl rfl (.app <| .here) <| .e (.assign rfl) rfl rfl <| .nil <| .go ?_
            refine .ret ?_
            refine Post.rets rfl (.agg rfl ag27 sz27 (.app <| .here) rfl (.tmp rfl .nil)) rfl (Imm.le_refl _) (fun w h => (Sat.tail (Sat.rem (Sat.tail (Sat.rem (Sat.tail (Sat.rem h (Rem.app <| Rem.here))) (Rem.app <| Rem.here))) (Rem.app <| Rem.here)))) ?_
            rw [show dropR d s = (⟨delF d s, d.down, (d.fuse - 1)⟩, 0) by unfold dropR; rw [if_pos h17, if_neg (by rw [h25]; simp), if_pos h31, if_neg h68, fuse_up (by omega)]]
            exact ⟨_, _, ob123, rfl, ho123, hd123, rfl⟩
          · skip
            replace h73 := of_decide_eq_false h73
            refine .cond_false rfl <| .skip <| .go <| .seq <| .region ?_
            have hhas := refS_in h31
            have hB := base_yes hhas
            have hBa := base_at (s := s) (disk_ok hok).1
            have hf := at_get hBa
            rw [hB] at hBa hf
            obtain ⟨hfe, hfn, hfd, hfs⟩ := hd22.2 _ _ hf
            obtain ⟨_, h0, _, _⟩ | ⟨bL, cpL, csL, TL, hv5, rfl, hc1, hc2, hc3, hc4, hc5⟩ := ho22
            · omega
            cases hv5
            simp only [@List.singleton_append (Nat × Obj)]
            have hclL : posF d s * 3 + 3 ≤ csL.length := by have := Nat.mul_le_mul_right 3 hc1; omega
            have hoL : OwnS 3 (.slice (some ⟨bL, 0, none⟩) d.files.length cap22) d.files.length ws22 [(bL, .cells ⟨csL⟩ TL (0, 0))] := .inr ⟨bL, cap22, csL, TL, rfl, rfl, hc1, hc2, hc3, hc4, hc5⟩
            refine .e (.fieldAddr fo27_0 rfl) rfl rfl <| .e (.load ag25 rfl (.there <| .there <| .there <| .here) rfl) rfl rfl <| .e (.move rfl) rfl rfl <| .e (.indexAddrL sl25 rfl rfl rfl hBa) rfl rfl <| .e (.assign rfl) rfl rfl <| .nil ?_
            refine .go <| .seq <| .seq <| .region <| .e (.fieldAddr fo59_0 rfl) rfl rfl <| .e (.load ag57 rfl (.there <| .there <| .here) rfl) rfl rfl ?_
            refine .nil <| .go <| .block <| .seq <| .region <| .e (.eql rfl rfl) rfl rfl ?_
            refine .e (.assign rfl) rfl rfl <| .nil <| .go <| .cond_false rfl <| .seq <| .region ?_
            refine .e (.eql rfl rfl) rfl rfl <| .e (.assign rfl) rfl rfl <| .nil <| .go <| .cond_false rfl <| .seq ?_
            refine .region <| .e (.eql rfl rfl) rfl rfl <| .e (.assign rfl) rfl rfl <| .nil <| .go <| .cond_true rfl ?_
            refine .region <| .e (.fieldAddr fo27_0 rfl) rfl rfl <| .e (.load ag25 rfl (.there <| .there <| .there <| .here) rfl) rfl rfl <| .e (.move rfl) rfl rfl <| .e (.move rfl) rfl rfl <| .e (.add rfl rfl (wrap_succ (by omega))) rfl rfl ?_
            refine .on rfl <| .call cal47 rfl rfl rfl (delFil_ok hoL hd22 (i := posF d s) (j := posF d s + 1) (Nat.lt_succ_self _) hBa rfl rfl) fun v123 I123 O123 hI123 hK123 => ?_
            obtain ⟨hq123, ws123, ob123, ho123, hd123, rfl⟩ := hK123
            replace hq123 := hq123.symm
            subst hq123
            obtain ⟨ad123, cap123, rfl⟩ := ho123.form
            have hdl := del_len hBa
            refine .e (.fieldAddr fo27_0 rfl) rfl rfl <| .on rfl <| .store sz25 rfl rfl rfl rfl rfl rfl (.app <| .there <| .there <| .here) <| .nil <| .blk_normal <| .go <| .seq ?_
            refine .region <| .e (.loadW ag27 sz27 rfl (.app <| .there <| .there <| .here) rfl) rfl rfl <| .on rfl <| .storeW sz27 rfl rfl rfl rfl rfl rfl (.app <| .here) <| .e (.assign rfl) rfl rfl <| .nil <| .go ?_
            refine .ret ?_
            refine Post.rets rfl (.agg rfl ag27 sz27 (.app <| .here) rfl (.tmp rfl .nil)) rfl (Imm.le_refl _) (fun w h => (Sat.tail (Sat.rem (Sat.tail (Sat.rem (Sat.tail (Sat.rem h (Rem.app <| Rem.here))) (Rem.app <| Rem.here))) (Rem.app <| Rem.here)))) ?_
            rw [show dropR d s = (⟨delF d s, d.down, d.fuse⟩, 0) by unfold dropR; rw [if_pos h17, if_neg (by rw [h25]; simp), if_pos h31, if_neg h68, fuse_no (by omega)]]
            exact ⟨_, _, ob123, rfl, ho123, hd123, rfl⟩

end Go.Proofs.YtjoaccnfnniahaaDoor
