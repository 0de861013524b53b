/- Walks of functions over a symbolic memory, printed by a program of the session. -/
import Derived.Test.YtmmokaockpghaaaGreatDoorQc
namespace Go.Proofs.YtmmokaockpghaaaGreatDoor
open Go.Sy
set_option linter.unusedSimpArgs false
set_option linter.unusedVariables false

def StrR (_ : Imm) (cs : List Value) (s : ByteArray) : Prop := cs = [.string s] ∧ StrOk s
abbrev StrsR (I : Imm) (v : Value) (l : List ByteArray) : Prop := SlR StrR 1 I v l
theorem idx_lt {α : Type} {p : α → Bool} {l : List α} : decide (idxOf p l < 0) = !l.any p := by
  rw [← idxOf_ge (p := p) (l := l), ← decide_not]
  exact decide_eq_decide.2 (by omega)

set_option maxHeartbeats 1000000 in
set_option maxRecDepth 20000 in
theorem free1_ok {I : Imm} {O : Own} {cs : List Value} {x : Tsk} {s : ByteArray} {cb : Nat} (hc : Has O cb (.cells ⟨[.string s]⟩ 9 (0, 0))) (hx : TskR I cs x) :
    Pure Tryz.prog 50 [.agg ⟨cs⟩, .pointer (some ⟨cb, 0, none⟩)] I O (.bool (decide (x.name = s))) := by
  obtain ⟨xw, xb, rfl, -, -⟩ := hx.ex
  refine Go.Sy.Does.enter Tryz.func50 rfl Tryz.ntmps50 rfl ?_
  refine .seq <| .region <| .on rfl <| .box rfl rfl rfl fun c1 _ _ => .e (.assign rfl) rfl rfl <| .nil <| .go ?_
  refine .seq <| .region <| .e (.fieldAddr fo42_0 rfl) rfl rfl <| .e (.load ag9 rfl .here rfl) rfl rfl <| .e (.load ag9 rfl (.there <| hc) rfl) rfl rfl <| .e (.streq rfl rfl) rfl rfl ?_
  refine .e (.assign rfl) rfl rfl <| .nil <| .go <| .ret ?_
  refine .tail ?_
  refine Post.retE rfl rfl ?_
  rfl

set_option maxHeartbeats 1000000 in
set_option maxRecDepth 20000 in
theorem free2_ok {I : Imm} {O : Own} {cs : List Value} {x : Bnd} {s : ByteArray} {cb : Nat} (hc : Has O cb (.cells ⟨[.string s]⟩ 9 (0, 0))) (hx : BndR I cs x) :
    Pure Tryz.prog 51 [.agg ⟨cs⟩, .pointer (some ⟨cb, 0, none⟩)] I O (.bool (decide (x.task = s))) := by
  obtain ⟨rfl, hx1, hx2⟩ := hx
  refine Go.Sy.Does.enter Tryz.func51 rfl Tryz.ntmps51 rfl ?_
  refine .seq <| .region <| .on rfl <| .box rfl rfl rfl fun c1 _ _ => .e (.assign rfl) rfl rfl <| .nil <| .go ?_
  refine .seq <| .region <| .e (.fieldAddr fo51_0 rfl) rfl rfl <| .e (.load ag9 rfl .here rfl) rfl rfl <| .e (.load ag9 rfl (.there <| hc) rfl) rfl rfl <| .e (.streq rfl rfl) rfl rfl ?_
  refine .e (.assign rfl) rfl rfl <| .nil <| .go <| .ret ?_
  refine .tail ?_
  refine Post.retE rfl rfl ?_
  rfl

set_option maxHeartbeats 16000000 in
set_option maxRecDepth 20000 in
theorem free_ok {I : Imm} {O : Own} {kc : List Value} {b : Bk} (hk : BkR I kc b) {task : ByteArray} :
    Go.Sy.Does Tryz.prog 18 [.agg ⟨kc⟩, .string task] I O (fun u I' O' => ∃ v ws ob, u = .tuple ⟨[v, .int .i64 (freeQ b task).2]⟩ ∧ OwnS 1 v (freeQ b task).1.length ws ob ∧ DR StrR 1 I' ws (freeQ b task).1 ∧ O' = ob ++ O) := by
  have hk0 := hk
  obtain ⟨nv, tv, bv, rfl, hnv, htv, hbv⟩ := hk.ex
  have hnv0 := hnv
  have htv0 := htv
  have hbv0 := hbv
  obtain ⟨na, ncap, rfl, hn1, hn2, -⟩ := hnv
  obtain ⟨ta, tcap, rfl, ht1, ht2, -⟩ := htv
  obtain ⟨ba, bcap, rfl, hb1, hb2, -⟩ := hbv
  refine Go.Sy.Does.enter Tryz.func18 rfl Tryz.ntmps18 rfl ?_
  refine .seq <| .region <| .on rfl <| .box rfl rfl rfl fun c1 _ _ => .on rfl <| .box rfl rfl rfl fun c2 _ _ => .e (.assign rfl) rfl rfl <| .e (.assign rfl) rfl rfl ?_
  refine .nil <| .go <| .seq <| .seq <| .region <| .e (.loadW ag27 sz27 rfl (.there <| .here) rfl) rfl rfl ?_
  refine .on rfl <| .callP cal23 rfl rfl rfl (bCheck_ok hk0) <| .e (.assign rfl) rfl rfl <| .nil <| .go <| .seq <| .region ?_
  refine .e (.move rfl) rfl rfl <| .e (.neq rfl rfl) rfl rfl <| .nil <| .go ?_
  refine .split 14 rfl (fun h14 => ?_) (fun h14 => ?_)
  · skip
    first | replace h14 := of_decide_eq_false ((Bool.not_eq_true' _).mp h14) | replace h14 := of_decide_eq_false (by simpa using h14)
    refine .cond_true rfl <| .seq <| .region <| .e (.move rfl) rfl rfl <| .e (.assign rfl) rfl rfl <| .e (.assign rfl) rfl rfl ?_
    refine .nil <| .go <| .ret <| .ret ?_
    refine Post.rets rfl (.tmp rfl (.tmp rfl .nil)) rfl (Imm.le_refl _) (fun w h => (Sat.tail (Sat.tail h))) ?_
    rw [show freeQ b task = ([], 10) by unfold freeQ; rw [if_neg (by rw [(bookWhy_no h14).1]; simp)], (bookWhy_no h14).2]
    exact ⟨_, [], [], rfl, OwnS.nil, DR.nil, rfl⟩
  · skip
    first | replace h14 := of_decide_eq_true ((Bool.not_eq_false' _).mp h14) | replace h14 := of_decide_eq_true (by simpa using h14)
    have hok := BookOk.of (bookWhy_ok h14)
    have hbn := hok.nodes
    refine .cond_false rfl <| .skip <| .go <| .seq <| .region <| .e (.fieldAddr fo27_1 rfl) rfl rfl ?_
    refine .e (.load ag23 rfl (.there <| .here) rfl) rfl rfl <| .e (.makeFunc rfl rfl) rfl rfl <| .on rfl <| .callP cal49 rfl rfl rfl (idxTsk_ok (p := fun x : Tsk => decide (x.name = task)) (us := [.pointer (some ⟨c2, 0, none⟩)]) htv0 cal50 (fun cs x _ hx => free1_ok .here hx)) <| .e (.assign rfl) rfl rfl <| .nil <| .go ?_
    refine .seq <| .block <| .seq <| .region <| .e (.move rfl) rfl rfl <| .e ((EV.cast (.lss rfl rfl) (congrArg Value.bool idx_lt))) rfl rfl ?_
    refine .e (.assign rfl) rfl rfl <| .nil <| .go ?_
    refine .split 20 rfl (fun h20 => ?_) (fun h20 => ?_)
    · skip
      refine .cond_true rfl <| .seq <| .region <| .e (.assign rfl) rfl rfl <| .e (.assign rfl) rfl rfl <| .nil ?_
      refine .go <| .ret <| .blk_ret <| .ret ?_
      refine Post.rets rfl (.tmp rfl (.tmp rfl .nil)) rfl (Imm.le_refl _) (fun w h => (Sat.tail (Sat.tail h))) ?_
      rw [show freeQ b task = ([], 6) by unfold freeQ; rw [if_pos (bookWhy_ok h14), if_neg (show ¬hasT b task = true from Bool.eq_false_iff.1 ((Bool.not_eq_true' _).mp h20))]]
      exact ⟨_, [], [], rfl, OwnS.nil, DR.nil, rfl⟩
    · skip
      refine .cond_false rfl <| .seq <| .region <| .e (.fieldAddr fo27_2 rfl) rfl rfl <| .e (.load ag24 rfl (.there <| .here) rfl) rfl rfl <| .e (.makeFunc rfl rfl) rfl rfl ?_
      refine .on rfl <| .callP cal39 rfl rfl rfl (hasBnd_ok (p := fun x : Bnd => decide (x.task = task)) (us := [.pointer (some ⟨c2, 0, none⟩)]) hbv0 cal51 (fun cs x _ hx => free2_ok .here hx)) <| .e (.assign rfl) rfl rfl <| .nil <| .go ?_
      refine .split 23 rfl (fun h23 => ?_) (fun h23 => ?_)
      · skip
        refine .cond_true rfl <| .seq <| .region <| .e (.assign rfl) rfl rfl <| .e (.assign rfl) rfl rfl <| .nil ?_
        refine .go <| .ret <| .blk_ret <| .ret ?_
        refine Post.rets rfl (.tmp rfl (.tmp rfl .nil)) rfl (Imm.le_refl _) (fun w h => (Sat.tail (Sat.tail h))) ?_
        rw [show freeQ b task = ([], 7) by unfold freeQ; rw [if_pos (bookWhy_ok h14), if_pos (show hasT b task = true from (Bool.not_eq_false' _).mp h20), if_pos (show hasB b task = true from h23)]]
        exact ⟨_, [], [], rfl, OwnS.nil, DR.nil, rfl⟩
      · skip
        refine .cond_false rfl <| .skip <| .blk_normal <| .go <| .seq <| .region ?_
        refine .e (.assign rfl) rfl rfl <| .nil <| .go <| .seq <| .seq <| .region ?_
        refine .e (.fieldAddr fo27_0 rfl) rfl rfl <| .e (.load ag22 rfl (.there <| .here) rfl) rfl rfl <| .e (.len sl22 rfl rfl) rfl rfl <| .e (.move rfl) rfl rfl <| .nil <| .go ?_
        refine .block ?_
        refine .loopM [8, 10, 31, 32, 33, 34, 35, 36, 37, 38, 39, 40, 41, 42, 43, 44, 45, 46] (fun s => b.nodes.length - s.1) (fun s => s.1 ≤ b.nodes.length ∧ OwnS 1 s.2.1 (freeTo b task s.1).length s.2.2.1 s.2.2.2 ∧ DR StrR 1 I s.2.2.1 (freeTo b task s.1)) (fun s => [(31, .int .i64 s.1), (8, s.2.1)]) (fun _ => _) (fun s => s.2.2.2 ++ _) (((0, .slice none 0 0, [], []) : Nat × Value × List Value × Own)) ⟨Nat.zero_le _, OwnS.nil, DR.nil⟩ ⟨rfl, rfl, trivial⟩ rfl rfl ?_
        intro ⟨k, vL, wsL, obL⟩ hk
        dsimp only at hk ⊢
        obtain ⟨hkk, hoL, hdL⟩ := hk
        obtain ⟨adL, capL, rfl⟩ := hoL.form
        have hfl := freeTo_len (b := b) (task := task) (k := k)
        refine .seq <| .region <| .e (.lss rfl rfl) rfl rfl <| .nil <| .go <| .seq ?_
        refine .split 32 rfl (fun h32 => ?_) (fun h32 => ?_)
        · skip
          replace h32 := of_decide_eq_true h32
          refine .cond_true rfl <| .skip <| .go <| .seq <| .block <| .seq ?_
          refine .region ?_
          obtain ⟨eb33, eo33, cs33, hd33, hat33, hr33⟩ := SlR.at_ hnv0 (k := k) (by omega)
          cases hd33
          have hn33 := hr33
          obtain ⟨xf33, xg33, rfl, hxf33, hxg33⟩ := hr33.ex
          obtain ⟨xh33, xi33, rfl, -⟩ := hxf33
          obtain ⟨xj33, xk33, rfl, -⟩ := hxg33
          refine .e (.indexAddrL sl22 rfl rfl rfl (by omega)) rfl rfl <| .e (.loadIA ag45 sz45 rfl hat33 rfl) rfl rfl <| .on rfl <| .alloc zr45 rfl fun c3 _ _ => .on rfl <| .storeW sz45 rfl rfl rfl rfl rfl rfl .here <| .nil <| .go ?_
          refine .seq <| .region <| .e (.loadW ag27 sz27 rfl (.there <| .app <| .there <| .here) rfl) rfl rfl <| .e (.load ag9 rfl (.there <| .app <| .here) rfl) rfl rfl <| .e (.fieldAddr fo45_0 rfl) rfl rfl <| .e (.load ag9 rfl .here rfl) rfl rfl ?_
          refine .on rfl <| .callP cal35 rfl rfl rfl (bCan_ok hk0) <| .e (.eql rfl rfl) rfl rfl <| .nil <| .go ?_
          refine .split 40 rfl (fun h40 => ?_) (fun h40 => ?_)
          · skip
            replace h40 := of_decide_eq_true h40
            refine .cond_true rfl <| .region <| .e (.move rfl) rfl rfl <| .e (.fieldAddr fo45_0 rfl) rfl rfl <| .e (.load ag9 rfl .here rfl) rfl rfl <| .on rfl <| .buildSlice Tryz.underlying34 sz9 (by decide) (by decide) zv9 rfl rfl rfl rfl rfl fun c4 _ _ => ?_
            refine .on rfl <| .append Tryz.underlying34 Tryz.underlying34 sz9 by9 zv9 rfl rfl rfl (.there <| .there <| .front) hoL ((OwnS.made (k := 1) rfl (by decide)).src (I := _) .here) rfl rfl (by omega) (by omega) rfl fun v45 ob45 ho45 => .e (.assign rfl) rfl rfl <| .nil <| .blk_normal <| .go <| .region ?_
            refine .e (.add rfl rfl (by first | exact wrap_succ (by omega) | exact IntWalk.i64_in _ (by omega) | exact rfl)) rfl rfl <| .e (.move rfl) rfl rfl <| .nil ?_
            refine .front1 (.app <| .here) ?_
            refine .tail ?_
            refine .front1 (.app <| .here) ?_
            refine .tail ?_
            have e5 := freeTo_step (b := b) (task := task) (k := k) (by omega)
            rw [if_pos h40] at e5
            have e6 : (freeTo b task (k + 1)).length = (freeTo b task k).length + 1 := by rw [e5, List.length_append]; rfl
            exact .mid ((k + 1, _, _, _)) ⟨by dsimp only; omega, by dsimp only; omega, by dsimp only; rw [e6]; exact ho45, (by dsimp only; rw [e5]; exact hdL.append (DR.single rfl ⟨rfl, hn33.name⟩))⟩ ⟨rfl, rfl, trivial⟩ rfl rfl (.pre 20 rfl (.app rfl .base))
          · skip
            replace h40 := of_decide_eq_false h40
            refine .cond_false rfl <| .skip <| .blk_normal <| .go <| .region <| .e (.add rfl rfl (by first | exact wrap_succ (by omega) | exact IntWalk.i64_in _ (by omega) | exact rfl)) rfl rfl ?_
            refine .e (.move rfl) rfl rfl <| .nil ?_
            refine .tail ?_
            have e5 := freeTo_step (b := b) (task := task) (k := k) (by omega)
            rw [if_neg h40] at e5
            exact .mid ((k + 1, _, wsL, obL)) ⟨by dsimp only; omega, by dsimp only; omega, by dsimp only; rw [e5]; exact hoL, by dsimp only; rw [e5]; exact hdL⟩ ⟨rfl, rfl, trivial⟩ rfl rfl (.pre 14 rfl (.app rfl .base))
        · skip
          replace h32 := of_decide_eq_false h32
          refine .cond_false rfl <| .exit <| .exit <| .exit <| .blk_exit <| .go ?_
          refine .seq <| .region <| .e (.move rfl) rfl rfl <| .e (.assign rfl) rfl rfl <| .e (.assign rfl) rfl rfl <| .nil ?_
          refine .go <| .ret ?_
          refine Post.rets rfl (.tmp rfl (.tmp rfl .nil)) rfl (Imm.le_refl _) (fun w h => (Sat.tail (Sat.rem (Sat.tail (Sat.rem h (Rem.app <| Rem.here))) (Rem.app <| Rem.here)))) ?_
          have ek : k = b.nodes.length := by omega
          subst ek
          rw [freeTo_end (b := b) (task := task) (Nat.le_refl b.nodes.length)] at hdL hoL ⊢
          rw [show freeQ b task = (freeL b task, 0) by unfold freeQ; rw [if_pos (bookWhy_ok h14), if_pos (show hasT b task = true from (Bool.not_eq_false' _).mp h20), if_neg (show ¬hasB b task = true from Bool.eq_false_iff.1 h23)]]
          exact ⟨_, _, obL, rfl, hoL, hdL, rfl⟩

theorem frzL {α : Type} {R : Imm → List Value → α → Prop} {k : Nat} {l : List α} {e : Int} {P : Program} {f : FuncId} {vs : List Value} {I : Imm} {O : Own} (hR : ∀ {I J : Imm} {cs : List Value} {x : α}, I.le J → R I cs x → R J cs x) (h : Go.Sy.Does P f vs I O fun u I' O' => ∃ v ws ob, u = .tuple ⟨[v, .int .i64 e]⟩ ∧ OwnS k v l.length ws ob ∧ DR R k I' ws l ∧ O' = ob ++ O) :
    Go.Sy.Does P f vs I O fun u I' O' => O' = O ∧ ∃ v, u = .tuple ⟨[v, .int .i64 e]⟩ ∧ SlR R k I' v l := fun w hw => (h w hw).mono fun en w' ⟨u, I', O', he, hI, hs, v, ws, ob, hu, ho, hd, hO⟩ => by
  subst hO
  obtain ⟨J, hJ, r, s1⟩ := frzS ho hs
  exact ⟨u, J, O, he, Imm.le_trans hI hJ, s1, rfl, v, hu, r (R := R) (hd.mono fun _ _ h => hR hJ h) rfl⟩
section
variable {I : Imm} {O : Own} {kc : List Value} {b : Bk} (hk : BkR I kc b)
include hk
theorem waitF : Go.Sy.Does Tryz.prog 14 [.agg ⟨kc⟩] I O fun u I' O' => O' = O ∧ ∃ v, u = .tuple ⟨[v, .int .i64 (waitQ b).2]⟩ ∧ TsksR I' v (waitQ b).1 := frzL (R := TskR) (fun h x => x.mono h) (wait_ok hk)
theorem loadsF : Go.Sy.Does Tryz.prog 16 [.agg ⟨kc⟩] I O fun u I' O' => O' = O ∧ ∃ v, u = .tuple ⟨[v, .int .i64 (loadsQ b).2]⟩ ∧ LodsR I' v (loadsQ b).1 := frzL (R := LodR) (fun h x => x.mono h) (loads_ok hk)
theorem freeF {task : ByteArray} : Go.Sy.Does Tryz.prog 18 [.agg ⟨kc⟩, .string task] I O fun u I' O' => O' = O ∧ ∃ v, u = .tuple ⟨[v, .int .i64 (freeQ b task).2]⟩ ∧ StrsR I' v (freeQ b task).1 := frzL (R := StrR) (fun _ x => x) (free_ok hk)
end

end Go.Proofs.YtmmokaockpghaaaGreatDoor
