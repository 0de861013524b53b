/- Walks of functions over a symbolic memory, printed by a program of the session. -/
import Derived.Test.YtmmokaockpghaaaGreatDoorQb
namespace Go.Proofs.YtmmokaockpghaaaGreatDoor
open Go.Sy
set_option linter.unusedSimpArgs false
set_option linter.unusedVariables false

theorem lodMk {I : Imm} {nc : List Value} {n : Nod} {u : A3} (h : NodR I nc n) (hu : u.ok) : LodR I (nc ++ [.int .i64 u.a, .int .i64 u.b, .int .i64 u.c]) ⟨n, u⟩ := by
  obtain ⟨lv, tv, rfl, h1, h2⟩ := h.ex
  exact ⟨⟨_, _, rfl, h1, h2⟩, h.name, h.has, hu⟩
theorem used_i64 {b : Bk} (h : BookOk b) {n : Nod} (hn : n ∈ b.nodes) : (usedR b n.name).1.ok := by
  have := used_bd h hn
  unfold A3.ok I64; omega
theorem loads_at {b : Bk} {k : Nat} (hk : k < b.nodes.length) : (loadsR b).take (k + 1) = (loadsR b).take k ++ [loadOf b b.nodes[k]] := by
  rw [List.take_succ_eq_append_getElem (by rw [loads_len]; exact hk)]
  congr 2
  unfold loadsR; rw [List.getElem_map]
theorem loads_to {b : Bk} {k : Nat} (hk : k ≤ b.nodes.length) : ((loadsR b).take k).length = k := by rw [List.length_take, loads_len]; omega

set_option maxHeartbeats 16000000 in
set_option maxRecDepth 20000 in
theorem loads_ok {I : Imm} {O : Own} {kc : List Value} {b : Bk} (hk : BkR I kc b) :
    Go.Sy.Does Tryz.prog 16 [.agg ⟨kc⟩] I O (fun u I' O' => ∃ v ws ob, u = .tuple ⟨[v, .int .i64 (loadsQ b).2]⟩ ∧ OwnS 9 v (loadsQ b).1.length ws ob ∧ DR LodR 9 I' ws (loadsQ b).1 ∧ O' = ob ++ O) := by
  have hk0 := hk
  obtain ⟨nv, tv, bv, rfl, hnv, htv, hbv⟩ := hk.ex
  have hnv0 := hnv
  have htv0 := htv
  have hbv0 := hbv
  obtain ⟨na, ncap, rfl, hn1, hn2, -⟩ := hnv
  obtain ⟨ta, tcap, rfl, ht1, ht2, -⟩ := htv
  obtain ⟨ba, bcap, rfl, hb1, hb2, -⟩ := hbv
  refine Go.Sy.Does.enter Tryz.func16 rfl Tryz.ntmps16 rfl ?_
  refine .seq <| .region <| .on rfl <| .box rfl rfl rfl fun c1 _ _ => .e (.assign rfl) rfl rfl <| .e (.assign rfl) rfl rfl <| .nil ?_
  refine .go <| .seq <| .seq <| .region <| .e (.loadW ag27 sz27 rfl .here rfl) rfl rfl <| .on rfl <| .callP cal23 rfl rfl rfl (bCheck_ok hk0) ?_
  refine .e (.assign rfl) rfl rfl <| .nil <| .go <| .seq <| .region <| .e (.move rfl) rfl rfl ?_
  refine .e (.neq rfl rfl) rfl rfl <| .nil <| .go ?_
  refine .split 13 rfl (fun h13 => ?_) (fun h13 => ?_)
  · skip
    first | replace h13 := of_decide_eq_false ((Bool.not_eq_true' _).mp h13) | replace h13 := of_decide_eq_false (by simpa using h13)
    refine .cond_true rfl <| .seq <| .region <| .e (.move rfl) rfl rfl <| .e (.assign rfl) rfl rfl <| .e (.assign rfl) rfl rfl ?_
    refine .nil <| .go <| .ret <| .ret ?_
    refine Post.rets rfl (.tmp rfl (.tmp rfl .nil)) rfl (Imm.le_refl _) (fun w h => (Sat.tail h)) ?_
    rw [show loadsQ b = ([], 10) by unfold loadsQ; rw [if_neg (by rw [(bookWhy_no h13).1]; simp)], (bookWhy_no h13).2]
    exact ⟨_, [], [], rfl, OwnS.nil, DR.nil, rfl⟩
  · skip
    first | replace h13 := of_decide_eq_true ((Bool.not_eq_false' _).mp h13) | replace h13 := of_decide_eq_true (by simpa using h13)
    have hok := BookOk.of (bookWhy_ok h13)
    have hbn := hok.nodes
    refine .cond_false rfl <| .skip <| .go <| .seq <| .region <| .e (.assign rfl) rfl rfl ?_
    refine .nil <| .go <| .seq <| .seq <| .region <| .e (.loadW ag27 sz27 rfl .here rfl) rfl rfl ?_
    refine .on rfl <| .call cal38 rfl rfl rfl (ownF hk0 (BkM.of hok)) fun v16 I16 O16 hI16 hK16 => ?_
    obtain ⟨rfl, cs16, rfl, hb16⟩ := hK16
    have hb160 := hb16
    obtain ⟨nv16, tv16, bv16, rfl, hn16, ht16, hx16⟩ := hb16.ex
    obtain ⟨_, _, rfl, -⟩ := hn16
    obtain ⟨_, _, rfl, htl16, -⟩ := ht16
    obtain ⟨_, _, rfl, -⟩ := hx16
    obtain ⟨nvQ, tvQ, bvQ, eQ, hn160, ht160, hx160⟩ := hb160.ex
    cases eQ
    refine .e (.field ft27_0 ag22 rfl rfl) rfl rfl <| .e (.len sl22 rfl rfl) rfl rfl <| .e (.move rfl) rfl rfl <| .nil <| .go <| .block ?_
    refine .loopM [5, 7, 8, 9, 19, 20, 21, 22, 23, 24, 25, 26, 27, 28, 29, 30, 31, 32, 33, 34, 35, 36] (fun s => b.nodes.length - s.1) (fun s => s.1 ≤ b.nodes.length ∧ OwnS 9 s.2.1 s.1 s.2.2.1 s.2.2.2 ∧ DR LodR 9 I16 s.2.2.1 ((loadsR b).take s.1)) (fun s => [(19, .int .i64 s.1), (5, s.2.1)]) (fun _ => _) (fun s => s.2.2.2 ++ _) (((0, .slice none 0 0, [], []) : Nat × Value × List Value × Own)) ⟨Nat.zero_le _, OwnS.nil, by rw [List.take_zero]; exact DR.nil⟩ ⟨rfl, rfl, trivial⟩ rfl rfl ?_
    intro ⟨k, vL, wsL, obL⟩ hk
    dsimp only at hk ⊢
    obtain ⟨hkk, hoL, hdL⟩ := hk
    obtain ⟨adL, capL, rfl⟩ := hoL.form
    refine .seq <| .region <| .e (.lss rfl rfl) rfl rfl <| .nil <| .go <| .seq ?_
    refine .split 20 rfl (fun h20 => ?_) (fun h20 => ?_)
    · skip
      replace h20 := of_decide_eq_true h20
      refine .cond_true rfl <| .skip <| .go <| .seq <| .block <| .seq ?_
      refine .region ?_
      obtain ⟨eb21, eo21, cs21, hd21, hat21, hr21⟩ := SlR.at_ hn160 (k := k) (by omega)
      cases hd21
      have hn21 := hr21
      obtain ⟨xf21, xg21, rfl, hxf21, hxg21⟩ := hr21.ex
      obtain ⟨xh21, xi21, rfl, -⟩ := hxf21
      obtain ⟨xj21, xk21, rfl, -⟩ := hxg21
      refine .e (.indexAddrL sl22 rfl rfl rfl (by omega)) rfl rfl <| .e (.loadIA ag45 sz45 rfl hat21 rfl) rfl rfl <| .on rfl <| .alloc zr45 rfl fun c2 _ _ => .on rfl <| .storeW sz45 rfl rfl rfl rfl rfl rfl .here <| .nil <| .go ?_
      refine .seq <| .region <| .e (.loadW ag27 sz27 rfl (.there <| .app <| .here) rfl) rfl rfl <| .e (.fieldAddr fo45_0 rfl) rfl rfl <| .e (.load ag9 rfl .here rfl) rfl rfl <| .on rfl <| .callP cal36 rfl rfl rfl (bUsed_ok (hk0.mono hI16)) ?_
      refine .e (.move rfl) rfl rfl <| .e (.extract rfl rfl) rfl rfl <| .e (.extract rfl rfl) rfl rfl <| .on rfl <| .alloc zr39 rfl fun c3 _ _ => .on rfl <| .storeW sz39 rfl rfl rfl rfl rfl rfl .here <| .e (.assign rfl) rfl rfl ?_
      refine .nil <| .go <| .region <| .e (.move rfl) rfl rfl <| .e (.loadW ag45 sz45 rfl (.there <| .here) rfl) rfl rfl <| .e (.loadW ag39 sz39 rfl .here rfl) rfl rfl ?_
      refine .e (.build bs47 zv47 rfl rfl) rfl rfl <| .on rfl <| .buildSlice Tryz.underlying31 sz47 (by decide) (by decide) zv47 rfl rfl rfl rfl rfl fun c4 _ _ => .on rfl <| .append Tryz.underlying31 Tryz.underlying31 sz47 by47 zv47 rfl rfl rfl (.there <| .there <| .there <| .front) hoL ((OwnS.made (k := 9) rfl (by decide)).src (I := _) .here) rfl rfl (by omega) (by omega) rfl fun v35 ob35 ho35 => .e (.assign rfl) rfl rfl <| .nil <| .blk_normal ?_
      refine .go <| .region <| .e (.add rfl rfl (by first | exact wrap_succ (by omega) | exact IntWalk.i64_in _ (by omega) | exact rfl)) rfl rfl <| .e (.move rfl) rfl rfl <| .nil ?_
      refine .front1 (.app <| .here) ?_
      refine .tail ?_
      refine .front1 (.app <| .here) ?_
      refine .tail ?_
      refine .front1 (.app <| .here) ?_
      refine .tail ?_
      exact .mid ((k + 1, _, _, _)) ⟨by dsimp only; omega, by dsimp only; omega, ho35, (by dsimp only; rw [loads_at (show k < b.nodes.length by omega)]; exact hdL.append (DR.single rfl (lodMk hn21 (used_i64 hok (List.getElem_mem (show k < b.nodes.length by omega))))))⟩ ⟨rfl, rfl, trivial⟩ rfl rfl (.pre 23 rfl (.app rfl .base))
    · skip
      replace h20 := of_decide_eq_false h20
      refine .cond_false rfl <| .exit <| .exit <| .exit <| .blk_exit <| .go ?_
      refine .seq <| .region <| .e (.move rfl) rfl rfl <| .e (.assign rfl) rfl rfl <| .e (.assign rfl) rfl rfl <| .nil ?_
      refine .go <| .ret ?_
      refine Post.rets rfl (.tmp rfl (.tmp rfl .nil)) rfl hI16 (fun w h => (Sat.tail (Sat.rem h (Rem.app <| Rem.here)))) ?_
      have ek : k = b.nodes.length := by omega
      subst ek
      rw [List.take_of_length_le (by rw [loads_len]; exact Nat.le_refl _)] at hdL
      rw [show loadsQ b = (loadsR b, 0) by unfold loadsQ; rw [if_pos (bookWhy_ok h13)]]
      exact ⟨_, _, obL, rfl, by dsimp only; rw [loads_len]; exact hoL, hdL, rfl⟩

end Go.Proofs.YtmmokaockpghaaaGreatDoor
